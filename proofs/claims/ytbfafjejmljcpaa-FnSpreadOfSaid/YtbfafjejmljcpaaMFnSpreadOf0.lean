/- The law FnSpreadOf of the given program: for every input the call returns true, and each argument reads afterwards as it read before. No conditions. (Part 1 of 4; the last part holds the theorem.) -/
import Derived.Test.YtbfafjejmljcpaaProg
import Derived.Below
import Derived.Deep.Draws
import Derived.Deep.AppendLies
import Derived.Maps.AppendAt
import Derived.OwnWalk
import Derived.Laws.BytesArg
import Derived.Laws.MakeOwn
import Derived.Laws.OwnMore
import Derived.Deep.OwnRows
import Derived.Tactics
import Derived.Lib.ConvBytes
import Derived.Laws.Slices
import Derived.WalkKit
import Derived.KernelRfl
import Derived.RowKit3
import Derived.Deep.LoopGhost
import Derived.Deep.QuietTactic
import Derived.BigQuiet
import Derived.WideLaws
import Derived.Deep.DeepCutAuto
import Derived.Deep.CutBlock
import Derived.Deep.RegionHeld3
import Derived.Laws.Rows
import Derived.Lib.AppendStr
import Derived.ArgAppend
import Derived.Laws.IdiomCopy
import Derived.OrdersHeld
import Derived.Laws.BitsLemmas
import Derived.RowKit
import Derived.Test.YtbfafjejmljcpaaWWords
import Derived.Test.YtbfafjejmljcpaaWLast
import Derived.Test.YtbfafjejmljcpaaWTab
import Derived.Shelf.Abstract
import Derived.Outline
import Derived.Deep.WholeRow
import Derived.Test.YtbfafjejmljcpaaWKept
namespace Go.Proofs.Ytbfafjejmljcpaa.P
open Go.RowKit Go.Proofs.YtbfafjejmljcpaaW.PrintWords Go.Proofs.YtbfafjejmljcpaaW.PrintLast
set_option linter.unusedVariables false
set_option linter.unusedSimpArgs false

def errW : Option Int → Value
  | none => .nilIface
  | some c => .iface 0 (.int .i64 c)
theorem errW_none : errW none = .nilIface := rfl
theorem errW_some (c : Int) : errW (some c) = .iface 0 (.int .i64 c) := rfl
theorem info3 : (Try.prog.info? 3).map (fun i => (i.zero, i.size, i.bytes)) = some (some (.int .i64 0), 1, 8) := by kernel_rfl
theorem info4 : (Try.prog.info? 4).map (fun i => (i.zero, i.size, i.bytes)) = some (some (.bool false), 1, 1) := by kernel_rfl
theorem info5 : (Try.prog.info? 5).map (fun i => (i.zero, i.size, i.bytes)) = some (some (.int .u8 0), 1, 1) := by kernel_rfl
theorem info23 : (Try.prog.info? 23).map (fun i => (i.zero, i.size, i.bytes)) = some (some (.slice none 0 0), 1, 24) := by kernel_rfl
def rd_LI (xs : List (List Int)) (i : Int) : (List Int) := xs.getD i.toNat ([] : List Int)
theorem at_LI {w : World} {A : Option Addr} {n : Nat} {xs : List (List Int)} (h : Kd.C (Kd.slice 3 (Kd.int .i64)) w A n xs) (i : Int) (h0 : 0 ≤ i) (h1 : i < n) : ∃ ad A0 c0, A = some ad ∧ w.cell? (ad.add i.toNat) = some (.slice A0 (rd_LI xs i).length c0) ∧ (rd_LI xs i).length ≤ c0 ∧ (Kd.int .i64).C w A0 (rd_LI xs i).length (rd_LI xs i) := by
  obtain ⟨ad, c, e, _, hK, hc0⟩ := Kd.C_get h ([] : List Int) i h0 h1
  have hc : ∀ j u, c[j]? = some u → w.cell? (ad.add (i.toNat * 1 + j)) = some u := hc0
  obtain ⟨A0, c0, rfl, l0, g0⟩ := hK
  exact ⟨ad, A0, c0, e, by have hq := hc 0 _ rfl; rwa [Nat.mul_one, Nat.add_zero] at hq, l0, g0⟩
end Go.Proofs.Ytbfafjejmljcpaa.P

set_option linter.unusedVariables false
set_option linter.unusedSimpArgs false
namespace Go.Proofs.Ytbfafjejmljcpaa.P
open Go.RowKit Go.Proofs.YtbfafjejmljcpaaW.PrintWords Go.Proofs.YtbfafjejmljcpaaW.PrintLast

theorem dself_ (w : World) (n : Nat) : w.drewN n = w.drewN n := rfl
theorem rr_ {p q : Prop} (h : Aside0 p) (f : p → q := by (intro h_; (with_reducible repeat (first | apply Kd.R_alloc | apply Kd.R_drewN | apply Kd.R_drew)); exact h_)) : q := f h.out
theorem bb_ {p q : Prop} (h : Aside0 p) (f : p → q := by (intro h_; repeat (first | (with_reducible first | exact h_ | apply below_alloc | apply pw_below_drewN | apply below_drew1) | exact h_))) : q := f h.out
theorem cc_ {p q : Prop} (h : Aside0 p) (f : p → q := by (intro h_; repeat (first | exact (Kd.R_reads' h_).2.2 | (with_reducible refine Kd.C_alloc ?_ _) | (with_reducible refine Kd.C_drewN ?_ _) | (with_reducible refine Kd.C_drew ?_)))) : q := f h.out
theorem ss_ {p q : Prop} (h : Aside0 p) (f : p → q := by (intro h_; repeat (first | exact h_ | (with_reducible refine Kd.C_alloc ?_ _) | (with_reducible refine Kd.C_drewN ?_ _) | (with_reducible refine Kd.C_drew ?_)))) : q := f h.out
theorem dd_ {p : Prop} [Decidable p] (h : decide p = true := by first | (with_reducible assumption) | assumption) : p := of_decide_eq_true h
theorem ll_ {p : Prop} (h : p := by ((try simp only [List.map_toArray, List.map_cons, List.map_nil]); first | done | rfl | (simp only [List.length_drop, List.length_take]; rfl))) : p := h
theorem ee_ {p : Prop} (h : p := by first | rfl | (simp [errW_none, errW_some] <;> rfl) | (simp [*, errW_none, errW_some] <;> rfl)) : p := h
theorem sb_ {p q : Prop} {w W : World} {n : Nat} (h : Aside0 p) (h2 : Aside0 (Below n w W)) (f : p → Below n w W → q := by (intro h_ hb_; repeat (first | exact (Kd.C_below h_ hb_) | (with_reducible refine Kd.C_alloc ?_ _) | (with_reducible refine Kd.C_drewN ?_ _) | (with_reducible refine Kd.C_drew ?_)))) : q := f h.out h2.out
theorem hc_ {w W : World} {p : Addr} {v : Value} {q : Prop} (h : Aside0 (Below w.heap.size w W)) (hx : w.cell? p = some v) (f : W.cell? p = some v → q := by exact fun h_ => h_) : q := f ((h.out.cell (World.block_lt_of_cell? w _ hx)).trans hx)
def m_ (n b : Nat) : Array Bool := ((List.range n).map fun i => b.testBit i).toArray
abbrev T_ := true
abbrev F_ := false
section
variable {P : Program} {md : Region.Mode} {ops : Array Oper} {Q : Exit → Act → World → Prop} {S : World → Prop} {ds : List Nat} {T : Bool × List (List Nat × List Nat)} {B : List Nat} {oi : Oper} {v : Value} {fuel : Nat} {l : Array Bool} {a a' : Act} {w : World}
theorem p_ (i : Nat) (N : Tmp) (l' : Array Bool) (hT : rtab md ops = T) (h : wpAnyLast P md ops Q S ds fuel l' a' w)
    (hi : ops[i]? = some oi := by rfl) (hN : oi.dst = some N := by rfl) (hc : anyT T l.toList l'.toList i = true := by kernel_rfl) (hQ : ∀ c a w, Q (.panic c) (a.put oi.dst v) w → Q (.panic c) a w := by exact fun _ _ _ h => h)
    (hy : Yields P ops oi v a := by exact Or.inl ⟨by rfl, by intro w'; go_simp; with_reducible rfl⟩) (ha : a.put (some N) v = a' := by simp only [Act.put, List.setIfInBounds_toArray, List.set_cons_zero, List.set_cons_succ, i64_w, i32_w]; rfl) : wpAnyLast P md ops Q S ds (fuel + 1) l a w :=
  pure_ (i := i) (N := some N) l' hi hN (any_of hT hc) hQ hy ha h
theorem u_ (i : Nat) (N : Tmp) (l' : Array Bool) (hT : rtab md ops = T) (h : wpAnyLast P md ops Q S ds fuel l' a' w)
    (hi : ops[i]? = some oi := by rfl) (hN : oi.dst = some N := by rfl) (hc : anyT T l.toList l'.toList i = true := by kernel_rfl) (hQ : ∀ c a w, Q (.panic c) (a.put oi.dst undef) w → Q (.panic c) a w := by exact fun _ _ _ h => h)
    (hy : Yields P ops oi undef a := by exact Or.inr ⟨by rfl, rfl⟩) (ha : a.put (some N) undef = a' := by simp only [Act.put, List.setIfInBounds_toArray, List.set_cons_zero, List.set_cons_succ, i64_w, i32_w]; rfl) : wpAnyLast P md ops Q S ds (fuel + 1) l a w :=
  pure_ (i := i) (N := some N) l' hi hN (any_of hT hc) hQ hy ha h
theorem t2_ (i : Nat) (N : Tmp) (l' : Array Bool) (hT : rtab md ops = T) (hB : waitsOk T.2 B = true) (hS : S w) (h : wpAnyLast P md ops Q S ds fuel l' a' w)
    (hi : ops[i]? = some oi := by rfl) (hN : oi.dst = some N := by rfl) (hc : takeW T B ds l.toList l'.toList i = true := by kernel_rfl) (hQ : ∀ c a w, Q (.panic c) (a.put oi.dst v) w → Q (.panic c) a w := by exact fun _ _ _ h => h)
    (hy : YieldsIf P ops S oi v a := by exact Or.inl ⟨by rfl, by rintro w' ⟨s0, s1⟩; go_simp; with_reducible rfl⟩) (ha : a.put (some N) v = a' := by simp only [Act.put, List.setIfInBounds_toArray, List.set_cons_zero, List.set_cons_succ, i64_w, i32_w]; rfl) : wpAnyLast P md ops Q S ds (fuel + 1) l a w :=
  take_ (i := i) (N := some N) l' hi hN (take_ofW hT hB hc) hQ hy hS ha h
end
end Go.Proofs.Ytbfafjejmljcpaa.P

namespace Go.Proofs.Ytbfafjejmljcpaa.P
open Go.RowKit Go.Proofs.YtbfafjejmljcpaaW.PrintWords Go.Proofs.YtbfafjejmljcpaaW.PrintLast
set_option linter.unusedVariables false
set_option linter.unusedSimpArgs false

def impl_isPoint.f (a0 : Int) : Option (Bool) := if a0 ≥ 0 then (some (decide (a0 < 91))) else (some false)
set_option maxHeartbeats 8000000 in
set_option maxRecDepth 100000 in
theorem impl_isPoint.calls (a0 : Int) (r : Bool) (w : World) (h : impl_isPoint.f a0 = some r) :
  Calls Try.prog 70 #[.int .i64 a0] w fun e w' => e = .returned (.bool r) ∧ Drawn0 w w' := by
 have H : (if a0 ≥ 0 then (some (decide (a0 < 91))) else (some false)) = some r := h
 clear h
 by_cases c2 : a0 ≥ 0
 ·rw [if_pos c2] at H
  have c2b0 : decide (0 ≤ a0) = true := decide_eq_true c2
  clear c2
  obtain rfl := Option.some.inj H
  go_enter Try.func70, Try.ntmps70
  go_wp2
  go_ret
  exact ⟨by first | rfl | (simp; done) | (simp [*]; done), by repeat (first | exact Drawn0.refl _ | apply Drawn0.step)⟩
 ·rw [if_neg c2] at H
  have c2b0 : decide (0 ≤ a0) = false := decide_eq_false c2
  clear c2
  obtain rfl := Option.some.inj H
  go_enter Try.func70, Try.ntmps70
  go_wp2
  go_ret
  exact ⟨by first | rfl | (simp; done) | (simp [*]; done), by repeat (first | exact Drawn0.refl _ | apply Drawn0.step)⟩
end Go.Proofs.Ytbfafjejmljcpaa.P

namespace Go.Proofs.Ytbfafjejmljcpaa.P
open Go.RowKit Go.Proofs.YtbfafjejmljcpaaW.PrintWords Go.Proofs.YtbfafjejmljcpaaW.PrintLast
set_option linter.unusedVariables false
set_option linter.unusedSimpArgs false

def impl_element.f (a0 : Int) (a1 : Int) : Option (Int) := some (wrap64 ((Int.tmod (wrap64 ((Int.tmod a0 3) + 3)) 3) + (wrap64 (3 * (Int.tmod (wrap64 ((Int.tmod a1 3) + 3)) 3)))))
set_option maxHeartbeats 8000000 in
set_option maxRecDepth 100000 in
theorem impl_element.calls (a0 : Int) (a1 : Int) (r : Int) (w : World) (h : impl_element.f a0 a1 = some r) :
  Calls Try.prog 114 #[.int .i64 a0, .int .i64 a1] w fun e w' => e = .returned (.int .i64 r) ∧ Drawn0 w w' := by
 have H : (some (wrap64 ((Int.tmod (wrap64 ((Int.tmod a0 3) + 3)) 3) + (wrap64 (3 * (Int.tmod (wrap64 ((Int.tmod a1 3) + 3)) 3)))))) = some r := h
 clear h
 obtain rfl := Option.some.inj H
 go_enter Try.func114, Try.ntmps114
 go_wp2
 go_ret
 exact ⟨by first | rfl | (simp; done) | (simp [*]; done), by repeat (first | exact Drawn0.refl _ | apply Drawn0.step)⟩
end Go.Proofs.Ytbfafjejmljcpaa.P

namespace Go.Proofs.Ytbfafjejmljcpaa.P
open Go.RowKit Go.Proofs.YtbfafjejmljcpaaW.PrintWords Go.Proofs.YtbfafjejmljcpaaW.PrintLast
set_option linter.unusedVariables false
set_option linter.unusedSimpArgs false

def impl_add.f (a0 : Int) (a1 : Int) : Option (Int) := (impl_element.f (wrap64 ((Int.tmod a0 3) + (Int.tmod a1 3))) (wrap64 ((wrap64 (Int.tdiv a0 3)) + (wrap64 (Int.tdiv a1 3))))).bind fun t296 => (some t296)
set_option maxHeartbeats 8000000 in
set_option maxRecDepth 100000 in
theorem impl_add.calls (a0 : Int) (a1 : Int) (r : Int) (w : World) (h : impl_add.f a0 a1 = some r) :
  Calls Try.prog 97 #[.int .i64 a0, .int .i64 a1] w fun e w' => e = .returned (.int .i64 r) ∧ Drawn0 w w' := by
 have H : ((impl_element.f (wrap64 ((Int.tmod a0 3) + (Int.tmod a1 3))) (wrap64 ((wrap64 (Int.tdiv a0 3)) + (wrap64 (Int.tdiv a1 3))))).bind fun t296 => (some t296)) = some r := h
 clear h
 replace H := Option.bind_eq_some_iff.mp H
 obtain ⟨t296, A30, H⟩ := H
 replace H : (some t296) = some r := H
 have A3 := Aside0.mk A30
 clear A30
 obtain rfl := Option.some.inj H
 go_enter Try.func97, Try.ntmps97
 go_wp2_with (first | (refine goesL_ (some 15) rfl rfl Try.func114 (by kernel_rfl) rfl #[.int .i64 (wrap64 ((Int.tmod a0 3) + (Int.tmod a1 3))), .int .i64 (wrap64 ((wrap64 (Int.tdiv a0 3)) + (wrap64 (Int.tdiv a1 3))))] rfl ll_ ?_; (with_reducible refine (impl_element.calls (wrap64 ((Int.tmod a0 3) + (Int.tmod a1 3))) (wrap64 ((wrap64 (Int.tdiv a0 3)) + (wrap64 (Int.tdiv a1 3)))) t296 _ A3.out).mono ?_); rintro e w' ⟨rfl, ⟨nd, rfl⟩⟩; refine ⟨_, rfl, ?_⟩))
 go_ret
 exact ⟨by first | rfl | (simp; done) | (simp [*]; done), by repeat (first | exact Drawn0.refl _ | apply Drawn0.step)⟩
end Go.Proofs.Ytbfafjejmljcpaa.P

namespace Go.Proofs.Ytbfafjejmljcpaa.P
open Go.RowKit Go.Proofs.YtbfafjejmljcpaaW.PrintWords Go.Proofs.YtbfafjejmljcpaaW.PrintLast
set_option linter.unusedVariables false
set_option linter.unusedSimpArgs false

def impl_plane_on.f (l0 : List Int) (a1 : Int) (a2 : Int) : Option (Bool) := if a2 = 90 then (some (decide (a1 ≥ 81))) else (if a2 ≥ 81 then (if a1 = 90 then (some true) else (if a1 < 81 then (some ((wrap64 (Int.tdiv a1 9)) == (wrap64 (a2 - 81)))) else (some false))) else (if a1 ≥ 81 then (some (a1 == (wrap64 (81 + (wrap64 (Int.tdiv a2 9)))))) else (if 0 ≤ (wrap64 ((wrap64 (9 * (wrap64 (Int.tdiv a1 9)))) + (wrap64 (Int.tdiv a2 9)))) then (if (wrap64 ((wrap64 (9 * (wrap64 (Int.tdiv a1 9)))) + (wrap64 (Int.tdiv a2 9)))) < (l0.length : Int) then ((impl_add.f (rd l0 (wrap64 ((wrap64 (9 * (wrap64 (Int.tdiv a1 9)))) + (wrap64 (Int.tdiv a2 9))))) (Int.tmod a2 9)).bind fun t298 => (some ((Int.tmod a1 9) == t298))) else (none)) else (none))))
set_option maxHeartbeats 8000000 in
set_option maxRecDepth 100000 in
theorem impl_plane_on.calls (A0 : Option Addr) (c0 : Nat) (l0 : List Int) (a1 : Int) (a2 : Int) (r : Bool) (w : World) (hr0 : Kd.C (Kd.int .i64) w A0 l0.length l0) (hc0 : l0.length ≤ c0) (h : impl_plane_on.f l0 a1 a2 = some r) :
  Calls Try.prog 72 #[.slice A0 l0.length c0, .int .i64 a1, .int .i64 a2] w fun e w' => e = .returned (.bool r) ∧ Drawn0 w w' := by
 have HR0 := Aside0.mk hr0
 have HC0 := Aside0.mk hc0
 clear hr0 hc0
 have H : (if a2 = 90 then (some (decide (a1 ≥ 81))) else (if a2 ≥ 81 then (if a1 = 90 then (some true) else (if a1 < 81 then (some ((wrap64 (Int.tdiv a1 9)) == (wrap64 (a2 - 81)))) else (some false))) else (if a1 ≥ 81 then (some (a1 == (wrap64 (81 + (wrap64 (Int.tdiv a2 9)))))) else (if 0 ≤ (wrap64 ((wrap64 (9 * (wrap64 (Int.tdiv a1 9)))) + (wrap64 (Int.tdiv a2 9)))) then (if (wrap64 ((wrap64 (9 * (wrap64 (Int.tdiv a1 9)))) + (wrap64 (Int.tdiv a2 9)))) < (l0.length : Int) then ((impl_add.f (rd l0 (wrap64 ((wrap64 (9 * (wrap64 (Int.tdiv a1 9)))) + (wrap64 (Int.tdiv a2 9))))) (Int.tmod a2 9)).bind fun t298 => (some ((Int.tmod a1 9) == t298))) else (none)) else (none))))) = some r := h
 clear h
 by_cases c4 : a2 = 90
 ·rw [if_pos c4] at H
  have c4b0 : (a2 == 90) = true := beq_iff_eq.mpr c4
  have c4b1 : (a2 != 90) = false := bne_eq_false_iff_eq.mpr c4
  clear c4
  obtain rfl := Option.some.inj H
  go_enter Try.func72, Try.ntmps72
  go_wp2
  go_ret
  exact ⟨by first | rfl | (simp; done) | (simp [*]; done), by repeat (first | exact Drawn0.refl _ | apply Drawn0.step)⟩
 ·rw [if_neg c4] at H
  have c4b0 : (a2 == 90) = false := beq_eq_false_iff_ne.mpr c4
  have c4b1 : (a2 != 90) = true := bne_iff_ne.mpr c4
  by_cases c5 : a2 ≥ 81
  ·rw [if_pos c5] at H
   have c5b0 : decide (81 ≤ a2) = true := decide_eq_true c5
   clear c5
   by_cases c6 : a1 = 90
   ·rw [if_pos c6] at H
    have c6b0 : (a1 == 90) = true := beq_iff_eq.mpr c6
    have c6b1 : (a1 != 90) = false := bne_eq_false_iff_eq.mpr c6
    clear c6
    obtain rfl := Option.some.inj H
    go_enter Try.func72, Try.ntmps72
    go_wp2
    go_ret
    exact ⟨by first | rfl | (simp; done) | (simp [*]; done), by repeat (first | exact Drawn0.refl _ | apply Drawn0.step)⟩
   ·rw [if_neg c6] at H
    have c6b0 : (a1 == 90) = false := beq_eq_false_iff_ne.mpr c6
    have c6b1 : (a1 != 90) = true := bne_iff_ne.mpr c6
    by_cases c7 : a1 < 81
    ·rw [if_pos c7] at H
     have c7b0 : decide (a1 < 81) = true := decide_eq_true c7
     clear c7
     obtain rfl := Option.some.inj H
     go_enter Try.func72, Try.ntmps72
     go_wp2
     go_ret
     exact ⟨by first | rfl | (simp; done) | (simp [*]; done), by repeat (first | exact Drawn0.refl _ | apply Drawn0.step)⟩
    ·rw [if_neg c7] at H
     have c7b0 : decide (a1 < 81) = false := decide_eq_false c7
     clear c7
     obtain rfl := Option.some.inj H
     go_enter Try.func72, Try.ntmps72
     go_wp2
     go_ret
     exact ⟨by first | rfl | (simp; done) | (simp [*]; done), by repeat (first | exact Drawn0.refl _ | apply Drawn0.step)⟩
  ·rw [if_neg c5] at H
   have c5b0 : decide (81 ≤ a2) = false := decide_eq_false c5
   clear c5
   by_cases c8 : a1 ≥ 81
   ·rw [if_pos c8] at H
    have c8b0 : decide (81 ≤ a1) = true := decide_eq_true c8
    clear c8
    obtain rfl := Option.some.inj H
    go_enter Try.func72, Try.ntmps72
    go_wp2
    go_ret
    exact ⟨by first | rfl | (simp; done) | (simp [*]; done), by repeat (first | exact Drawn0.refl _ | apply Drawn0.step)⟩
   ·rw [if_neg c8] at H
    have c8b0 : decide (81 ≤ a1) = false := decide_eq_false c8
    clear c8
    obtain ⟨ji9, hji9⟩ : ∃ j_ : Int, (wrap64 ((wrap64 (9 * (wrap64 (Int.tdiv a1 9)))) + (wrap64 (Int.tdiv a2 9)))) = j_ := ⟨_, rfl⟩
    replace H : (if 0 ≤ (ji9) then (if (ji9) < (l0.length : Int) then ((impl_add.f (rd l0 (ji9)) (Int.tmod a2 9)).bind fun t298 => (some ((Int.tmod a1 9) == t298))) else (none)) else (none)) = some r := by first | (rw [hji9] at H; exact H) | (simp only [hji9] at H ⊢; exact H)
    have hji9w : (IntKind.i64.wrap ((wrap64 (9 * (wrap64 (Int.tdiv a1 9)))) + (wrap64 (Int.tdiv a2 9)))) = ji9 := (i64_w _).trans hji9
    by_cases c10 : 0 ≤ (ji9)
    ·rw [if_pos c10] at H
     have c10b0 : decide (0 ≤ (ji9)) = true := decide_eq_true c10
     clear c10
     by_cases c11 : (ji9) < (l0.length : Int)
     ·rw [if_pos c11] at H
      have c11b0 : decide ((ji9) < (l0.length : Int)) = true := decide_eq_true c11
      clear c11
      replace H := Option.bind_eq_some_iff.mp H
      obtain ⟨t298, A120, H⟩ := H
      replace H : (some ((Int.tmod a1 9) == t298)) = some r := H
      have A12 := Aside0.mk A120
      clear A120
      obtain rfl := Option.some.inj H
      have p297 : 0 ≤ ((ji9) : Int) := dd_
      have q297 : (ji9) < (l0.length : Int) := dd_
      obtain ⟨ad297, e297, hx297_0⟩ := Kd.at_int HR0.out (ji9) p297 q297
      cases e297
      replace p297 := eq_true p297
      replace q297 := eq_true q297
      go_enter Try.func72, Try.ntmps72
      go_wp2_with (first | (refine goesL_ (some 49) rfl rfl Try.func97 (by kernel_rfl) rfl #[.int .i64 (rd l0 (ji9)), .int .i64 (Int.tmod a2 9)] rfl (by (try simp only [List.map_toArray, List.map_cons, List.map_nil]); first | done | (simp only [hji9]; rfl) | rfl | (simp only [List.length_drop, List.length_take]; rfl)) ?_; (with_reducible refine (impl_add.calls (rd l0 (ji9)) (Int.tmod a2 9) t298 _ A12.out).mono ?_); rintro e w' ⟨rfl, ⟨nd, rfl⟩⟩; refine ⟨_, rfl, ?_⟩))
      go_ret
      exact ⟨by first | rfl | (simp; done) | (simp only [← hji9] <;> (first | rfl | simp)) | (simp [*]; done), by repeat (first | exact Drawn0.refl _ | apply Drawn0.step)⟩
     ·rw [if_neg c11] at H
      exact absurd H (by simp)
    ·rw [if_neg c10] at H
     exact absurd H (by simp)
end Go.Proofs.Ytbfafjejmljcpaa.P

namespace Go.Proofs.Ytbfafjejmljcpaa.P
open Go.RowKit Go.Proofs.YtbfafjejmljcpaaW.PrintWords Go.Proofs.YtbfafjejmljcpaaW.PrintLast
set_option linter.unusedVariables false
set_option linter.unusedSimpArgs false

def impl_plane_join.l0 : Nat → List Int → Int → Int → Int → Option (Int)
 | 0, _, _, _, _ => none
 | k + 1, x0, x1, x2, x8 => if x8 < 91 then ((impl_plane_on.f x0 x1 x8).bind fun t299 => (if t299 = true then ((impl_plane_on.f x0 x2 x8).bind fun t300 => (if t300 = true then (some x8) else (impl_plane_join.l0 k x0 x1 x2 (wrap64 (x8 + 1))))) else (impl_plane_join.l0 k x0 x1 x2 (wrap64 (x8 + 1))))) else (some (-1))
def impl_plane_join.f (k : Nat) (l0 : List Int) (a1 : Int) (a2 : Int) : Option (Int) := impl_plane_join.l0 k l0 a1 a2 0
set_option maxHeartbeats 8000000 in
set_option maxRecDepth 100000 in
theorem impl_plane_join.calls (k : Nat) (A0 : Option Addr) (c0 : Nat) (l0 : List Int) (a1 : Int) (a2 : Int) (r : Int) (w : World) (hr0 : Kd.C (Kd.int .i64) w A0 l0.length l0) (hc0 : l0.length ≤ c0) (h : impl_plane_join.f k l0 a1 a2 = some r) :
  Calls Try.prog 71 #[.slice A0 l0.length c0, .int .i64 a1, .int .i64 a2] w fun e w' => e = .returned (.int .i64 r) ∧ Drawn0 w w' := by
 have HR0 := Aside0.mk hr0
 have HC0 := Aside0.mk hc0
 clear hr0 hc0
 have H : (impl_plane_join.l0 k l0 a1 a2 0) = some r := h
 clear h
 have H' := Aside0.mk H
 clear H
 go_enter Try.func71, Try.ntmps71
 go_wp2
 go_loopg [8] k (fun kq v8 w' => ∃ (x8_1 : Int), v8 = .int .i64 x8_1 ∧ Aside0 (impl_plane_join.l0 kq l0 a1 a2 x8_1 = some r) ∧ Aside0 (kq ≤ k) ∧ Drawn0 w w')
 case atStart => exact ⟨(0), (by first | rfl | (simp; done) | (simp [*]; done)), H', ⟨Nat.le_refl _⟩, by repeat (first | exact Drawn0.refl _ | apply Drawn0.step)⟩
 case round =>
  clear H'
  try clear p2
  obtain ⟨x8_1, rfl, HA, HK1, ⟨m1, rfl⟩⟩ := hrel
  cases gk with
  | zero => exact absurd HA.out (by simp [impl_plane_join.l0])
  | succ k1 =>
   have H := HA.out
   clear HA
   simp only [impl_plane_join.l0] at H
   by_cases c4 : x8_1 < 91
   ·rw [if_pos c4] at H
    have c4b0 : decide (x8_1 < 91) = true := decide_eq_true c4
    clear c4
    replace H := Option.bind_eq_some_iff.mp H
    obtain ⟨t299, A50, H⟩ := H
    replace H : (if t299 = true then ((impl_plane_on.f l0 a2 x8_1).bind fun t300 => (if t300 = true then (some x8_1) else (impl_plane_join.l0 k1 l0 a1 a2 (wrap64 (x8_1 + 1))))) else (impl_plane_join.l0 k1 l0 a1 a2 (wrap64 (x8_1 + 1)))) = some r := H
    have A5 := Aside0.mk A50
    clear A50
    by_cases c6 : t299 = true
    ·subst c6
     have H1 : ((impl_plane_on.f l0 a2 x8_1).bind fun t300 => (if t300 = true then (some x8_1) else (impl_plane_join.l0 k1 l0 a1 a2 (wrap64 (x8_1 + 1))))) = some r := by rw [if_pos rfl] at H; exact H
     clear H
     have H := H1
     clear H1
     replace H := Option.bind_eq_some_iff.mp H
     obtain ⟨t300, A70, H⟩ := H
     replace H : (if t300 = true then (some x8_1) else (impl_plane_join.l0 k1 l0 a1 a2 (wrap64 (x8_1 + 1)))) = some r := H
     have A7 := Aside0.mk A70
     clear A70
     by_cases c8 : t300 = true
     ·subst c8
      have H1 : (some x8_1) = some r := by rw [if_pos rfl] at H; exact H
      clear H
      have H := H1
      clear H1
      obtain rfl := Option.some.inj H
      go_wp2_with (first | (refine goesL_ (some 14) rfl rfl Try.func72 (by kernel_rfl) rfl #[.slice A0 l0.length c0, .int .i64 a1, .int .i64 x8_1] rfl ll_ ?_; (with_reducible refine (impl_plane_on.calls _ _ l0 a1 x8_1 true _ ?side1 ?side2 A5.out).mono ?_); (case side1 => exact ss_ HR0); (case side2 => exact HC0.out); rintro e w' ⟨rfl, ⟨nd, rfl⟩⟩; refine ⟨_, rfl, ?_⟩) | (go_at_call 72; (with_reducible refine (impl_plane_on.calls _ _ l0 a2 x8_1 true _ ?side1 ?side2 A7.out).mono ?_); (case side1 => exact ss_ HR0); (case side2 => exact HC0.out); rintro e w' ⟨rfl, ⟨nd, rfl⟩⟩))
      go_ret
      exact ⟨by first | rfl | (simp; done) | (simp [*]; done), by repeat (first | exact Drawn0.refl _ | apply Drawn0.step)⟩
     ·replace c8 := Bool.eq_false_iff.mpr c8
      subst c8
      have H1 : (impl_plane_join.l0 k1 l0 a1 a2 (wrap64 (x8_1 + 1))) = some r := by rw [if_neg (show ¬ (false = true) by decide)] at H; exact H
      clear H
      have H := H1
      clear H1
      have H' := Aside0.mk H
      clear H
      go_wp2_with (first | (refine goesL_ (some 14) rfl rfl Try.func72 (by kernel_rfl) rfl #[.slice A0 l0.length c0, .int .i64 a1, .int .i64 x8_1] rfl ll_ ?_; (with_reducible refine (impl_plane_on.calls _ _ l0 a1 x8_1 true _ ?side1 ?side2 A5.out).mono ?_); (case side1 => exact ss_ HR0); (case side2 => exact HC0.out); rintro e w' ⟨rfl, ⟨nd, rfl⟩⟩; refine ⟨_, rfl, ?_⟩) | (go_at_call 72; (with_reducible refine (impl_plane_on.calls _ _ l0 a2 x8_1 false _ ?side1 ?side2 A7.out).mono ?_); (case side1 => exact ss_ HR0); (case side2 => exact HC0.out); rintro e w' ⟨rfl, ⟨nd, rfl⟩⟩))
      go_roundg k1
      case measure => have := HK1.out; omega
      case rel => exact ⟨(wrap64 (x8_1 + 1)), (by first | rfl | (simp; done) | (simp [*]; done)), H', ⟨by have := HK1.out; omega⟩, by repeat (first | exact Drawn0.refl _ | apply Drawn0.step)⟩
    ·replace c6 := Bool.eq_false_iff.mpr c6
     subst c6
     have H1 : (impl_plane_join.l0 k1 l0 a1 a2 (wrap64 (x8_1 + 1))) = some r := by rw [if_neg (show ¬ (false = true) by decide)] at H; exact H
     clear H
     have H := H1
     clear H1
     have H' := Aside0.mk H
     clear H
     go_wp2_with (first | (refine goesL_ (some 14) rfl rfl Try.func72 (by kernel_rfl) rfl #[.slice A0 l0.length c0, .int .i64 a1, .int .i64 x8_1] rfl ll_ ?_; (with_reducible refine (impl_plane_on.calls _ _ l0 a1 x8_1 false _ ?side1 ?side2 A5.out).mono ?_); (case side1 => exact ss_ HR0); (case side2 => exact HC0.out); rintro e w' ⟨rfl, ⟨nd, rfl⟩⟩; refine ⟨_, rfl, ?_⟩))
     go_roundg k1
     case measure => have := HK1.out; omega
     case rel => exact ⟨(wrap64 (x8_1 + 1)), (by first | rfl | (simp; done) | (simp [*]; done)), H', ⟨by have := HK1.out; omega⟩, by repeat (first | exact Drawn0.refl _ | apply Drawn0.step)⟩
   ·rw [if_neg c4] at H
    have c4b0 : decide (x8_1 < 91) = false := decide_eq_false c4
    clear c4
    obtain rfl := Option.some.inj H
    go_wp2
    go_ret
    exact ⟨by first | rfl | (simp; done) | (simp [*]; done), by repeat (first | exact Drawn0.refl _ | apply Drawn0.step)⟩
end Go.Proofs.Ytbfafjejmljcpaa.P

set_option linter.unusedVariables false
set_option linter.unusedSimpArgs false
namespace Go.Proofs.Ytbfafjejmljcpaa.X
open Go.RowKit Go.Proofs.YtbfafjejmljcpaaW.PrintWords

def allI (n : Nat) (p : Int → Bool) : Bool := (List.range n).all fun (i : Nat) => p (i : Int)
theorem allI_iff {n : Nat} {p : Int → Bool} : allI n p = true ↔ ∀ i : Nat, i < n → p (i : Int) = true := by
  simp [allI, List.all_eq_true]
theorem allI_int {n : Nat} {p : Int → Bool} (h : allI n p = true) (i : Int) (h0 : 0 ≤ i) (h1 : i < n) : p i = true := by
  have := allI_iff.1 h i.toNat (by omega)
  rwa [Int.toNat_of_nonneg h0] at this
theorem allI_int_iff {n : Nat} {p : Int → Bool} : allI n p = true ↔ ∀ i : Int, 0 ≤ i → i < n → p i = true :=
  ⟨fun h i h0 h1 => allI_int h i h0 h1, fun h => allI_iff.2 fun i hi => h i (by omega) (by omega)⟩
def filI (n : Nat) (p : Int → Bool) : List Int := ((List.range n).filter fun (i : Nat) => p (i : Int)).map fun (i : Nat) => (i : Int)
theorem filI_succ (n : Nat) (p : Int → Bool) : filI (n + 1) p = filI n p ++ (if p (n : Int) = true then [(n : Int)] else []) := by
  unfold filI
  rw [List.range_succ, List.filter_append, List.map_append]
  by_cases h : p (n : Int) = true <;> simp [h]
theorem filI_length_le (n : Nat) (p : Int → Bool) : (filI n p).length ≤ n := by
  unfold filI; rw [List.length_map]; exact Nat.le_trans (List.length_filter_le _ _) (by simp)
theorem mem_filI {n : Nat} {p : Int → Bool} {x : Int} : x ∈ filI n p ↔ 0 ≤ x ∧ x < n ∧ p x = true := by
  unfold filI
  simp only [List.mem_map, List.mem_filter, List.mem_range]
  constructor
  · rintro ⟨i, ⟨h1, h2⟩, rfl⟩; exact ⟨by omega, by omega, h2⟩
  · rintro ⟨h0, h1, h2⟩; exact ⟨x.toNat, ⟨by omega, by rwa [Int.toNat_of_nonneg h0]⟩, by omega⟩
def mapI (n : Nat) (f : Int → Int) : List Int := (List.range n).map fun (i : Nat) => f (i : Int)
theorem mapI_succ (n : Nat) (f : Int → Int) : mapI (n + 1) f = mapI n f ++ [f (n : Int)] := by unfold mapI; rw [List.range_succ]; simp
theorem mapI_length (n : Nat) (f : Int → Int) : (mapI n f).length = n := by simp [mapI]
theorem rd_mapI {n : Nat} {f : Int → Int} {i : Int} (h0 : 0 ≤ i) (h1 : i < n) : rd (mapI n f) i = f i := by
  unfold rd mapI
  rw [List.getD_eq_getElem?_getD, List.getElem?_map, List.getElem?_range (by omega)]
  simp [Int.toNat_of_nonneg h0]
def isN (a : Int) : Bool := decide (0 ≤ a) && decide (a < 9)
theorem isN_iff {a : Int} : isN a = true ↔ 0 ≤ a ∧ a < 9 := by simp [isN]
def addN (a b : Int) : Int := (a % 3 + b % 3) % 3 + 3 * ((a / 3 + b / 3) % 3)
def minusN (a : Int) : Int := (3 - a % 3) % 3 + 3 * ((3 - a / 3) % 3)
theorem addN_range (a b : Int) : 0 ≤ addN a b ∧ addN a b < 9 := by unfold addN; omega
theorem minusN_range (a : Int) : 0 ≤ minusN a ∧ minusN a < 9 := by unfold minusN; omega
theorem nine1 {P : Int → Prop} (h : ∀ i : Fin 9, P (i.val : Int)) (a : Int) (h0 : 0 ≤ a) (h1 : a < 9) : P a := by
  have := h ⟨a.toNat, by omega⟩
  simpa [Int.toNat_of_nonneg h0] using this
theorem nine2 {P : Int → Int → Prop} (h : ∀ i j : Fin 9, P (i.val : Int) (j.val : Int)) (a b : Int) (h0 : 0 ≤ a) (h1 : a < 9) (h2 : 0 ≤ b) (h3 : b < 9) : P a b :=
  nine1 (P := fun a => P a b) (fun i => nine1 (P := fun b => P i.val b) (fun j => h i j) b h2 h3) a h0 h1
def onceB (p : Int → Int) : Bool := allI 9 fun i => allI 9 fun j => !decide (i < j) || !decide (p i = p j)
theorem onceB_iff {p : Int → Int} : onceB p = true ↔ ∀ i j : Nat, i < j → j < 9 → p (i : Int) ≠ p (j : Int) := by
  unfold onceB
  simp only [allI_iff, Bool.or_eq_true, Bool.not_eq_true', decide_eq_false_iff_not]
  constructor
  · intro h i j hij hj
    rcases h i (by omega) j hj with h | h
    · omega
    · exact h
  · intro h i _ j hj
    by_cases e : (i : Int) < j
    · exact .inr (h i j (by omega) hj)
    · exact .inl e
def ninesB (t : List Int) (n : Nat) : Bool := decide (t.length = n) && t.all isN
theorem ninesB_iff {t : List Int} {n : Nat} : ninesB t n = true ↔ t.length = n ∧ ∀ x ∈ t, 0 ≤ x ∧ x < 9 := by
  simp [ninesB, isN_iff]
theorem rd_mem {t : List Int} {i : Int} (h1 : i < t.length) (h0 : 0 ≤ i) : rd t i ∈ t := by
  unfold rd
  rw [List.getD_eq_getElem?_getD, List.getElem?_eq_getElem (by omega)]
  exact List.getElem_mem _
theorem rd_cast (l : List Int) (i : Nat) (h : i < l.length) : rd l (i : Int) = l[i] := by
  unfold rd
  rw [List.getD_eq_getElem?_getD]
  simp [h]
theorem nines_rd {t : List Int} {n : Nat} (h : ninesB t n = true) {i : Int} (h0 : 0 ≤ i) (h1 : i < n) : 0 ≤ rd t i ∧ rd t i < 9 := by
  obtain ⟨hl, ha⟩ := ninesB_iff.1 h
  exact ha _ (rd_mem (by omega) h0)
def unitsB (t : List Int) : Bool := allI 9 fun a => decide (rd t a = 0) && decide (rd t (9 * a) = 0) && decide (rd t (9 + a) = a) && decide (rd t (9 * a + 1) = a)
def sharesB (t : List Int) : Bool := allI 9 fun a => allI 9 fun b => allI 9 fun c => decide (rd t (9 * addN a b + c) = addN (rd t (9 * a + c)) (rd t (9 * b + c)))
def gapsB (t : List Int) (c d : Int) : Bool := onceB fun x => addN (rd t (9 * x + c)) (minusN (rd t (9 * x + d)))
def solvesB (t : List Int) : Bool := allI 9 fun c => allI 9 fun d => !decide (d < c) || gapsB t c d
def sysB (t : List Int) : Bool := ninesB t 81 && (unitsB t && (sharesB t && solvesB t))
def In9 (x : Int) : Prop := 0 ≤ x ∧ x < 9
def all3 (p : Int → Int → Int → Bool) : Bool := allI 9 fun a => allI 9 fun b => allI 9 fun c => p a b c
theorem all3_hit {p : Int → Int → Int → Bool} {a b c : Int} (ha : In9 a) (hb : In9 b) (hc : In9 c) (h : p a b c = false) : all3 p = false := by
  cases e : all3 p with
  | false => rfl
  | true =>
    have := allI_int (allI_int (allI_int e a ha.1 ha.2) b hb.1 hb.2) c hc.1 hc.2
    rw [h] at this; exact absurd this (by decide)
end Go.Proofs.Ytbfafjejmljcpaa.X

set_option linter.unusedVariables false
set_option linter.unusedSimpArgs false
namespace Go.Proofs.Ytbfafjejmljcpaa.X
open Go.RowKit Go.Proofs.YtbfafjejmljcpaaW.PrintWords Go.Proofs.YtbfafjejmljcpaaW.PrintLast

def Eg (g : Nat) : Prop := ∀ args w, (callFunc g args).run Try.prog w = .ok (.enter g args) w
def Fn1 (g : Nat) (lb : Array Value) (w : World) (D : Int → Prop) (p : Int → Value) : Prop :=
  ∀ (W : World) (x : Int), Below w.heap.size w W → D x → Calls Try.prog g (#[.int .i64 x] ++ lb) W fun e W' => e = .returned (p x) ∧ Below W.heap.size W W'
def Fn2 (g : Nat) (lb : Array Value) (w : World) (D : Int → Int → Prop) (p : Int → Int → Value) : Prop :=
  ∀ (W : World) (x y : Int), Below w.heap.size w W → D x y → Calls Try.prog g (#[.int .i64 x, .int .i64 y] ++ lb) W fun e W' => e = .returned (p x y) ∧ Below W.heap.size W W'
def Fn3 (g : Nat) (lb : Array Value) (w : World) (D : Int → Int → Int → Prop) (p : Int → Int → Int → Value) : Prop :=
  ∀ (W : World) (x y z : Int), Below w.heap.size w W → D x y z → Calls Try.prog g (#[.int .i64 x, .int .i64 y, .int .i64 z] ++ lb) W fun e W' => e = .returned (p x y z) ∧ Below W.heap.size W W'
theorem bstep {w W W' : World} (h : Below w.heap.size w W) (h' : Below W.heap.size W W') : Below w.heap.size w W' := h.trans (h'.mono h.size)
def idxI (p : Int → Bool) (l : List Int) : Int := match l.findIdx? p with | some i => i | none => -1
theorem idxI_none {p : Int → Bool} {l : List Int} (h : ∀ j : Nat, (j : Int) < l.length → p (rd l j) = false) : idxI p l = -1 := by
  have : l.findIdx? p = none := by
    rw [List.findIdx?_eq_none_iff]
    intro x hx
    obtain ⟨j, hj, rfl⟩ := List.mem_iff_getElem.1 hx
    have := h j (by omega)
    unfold rd at this
    rw [List.getD_eq_getElem?_getD] at this
    simpa [hj] using this
  unfold idxI; rw [this]
theorem idxI_some {p : Int → Bool} {l : List Int} (i : Int) (h0 : 0 ≤ i) (h1 : i < l.length) (hp : p (rd l i) = true) (h : ∀ j : Nat, (j : Int) < i → p (rd l j) = false) : idxI p l = i := by
  have : l.findIdx? p = some i.toNat := by
    rw [List.findIdx?_eq_some_iff_getElem]
    refine ⟨by omega, ?_, ?_⟩
    · unfold rd at hp
      rw [List.getD_eq_getElem?_getD] at hp
      simpa [show i.toNat < l.length by omega] using hp
    · intro j hj
      have := h j (by omega)
      unfold rd at this
      rw [List.getD_eq_getElem?_getD] at this
      simpa [show j < l.length by omega] using this
  unfold idxI; rw [this]; show ((i.toNat : Nat) : Int) = i; omega
theorem idxI_any (p : Int → Bool) (l : List Int) : decide (0 ≤ idxI p l) = l.any p := by
  unfold idxI
  cases h : l.findIdx? p with
  | none =>
    rw [List.findIdx?_eq_none_iff] at h
    have : l.any p = false := by rw [List.any_eq_false]; intro x hx; simp [h x hx]
    rw [this]; rfl
  | some i =>
    obtain ⟨hi, hp, _⟩ := List.findIdx?_eq_some_iff_getElem.1 h
    have : l.any p = true := List.any_eq_true.2 ⟨_, List.getElem_mem hi, hp⟩
    rw [this]; simp
set_option maxHeartbeats 2000000 in
theorem indexFunc_calls (g : Nat) (lb : Array Value) (eg : Eg g) (p : Int → Bool) (A0 : Option Addr) (c0 : Nat) (l : List Int) (w : World) (hr : Kd.C (Kd.int .i64) w A0 l.length l) (hp : Fn1 g lb w (fun x => x ∈ l) (fun x => .bool (p x))) :
    Calls Try.prog 125 #[.slice A0 l.length c0, .func (.func g) #[] lb] w fun e w' => e = .returned (.int .i64 (idxI p l)) ∧ Below w.heap.size w w' := by
  have HR0 := Aside0.mk hr
  have HP := Aside0.mk hp
  have hm : l.length ≤ 9223372036854775807 := hr.2.1
  clear hr hp
  unfold Eg at eg
  go_enter Try.func125, Try.ntmps125
  go_wp2
  go_loopg [8] l.length (fun kq v8 w' => ∃ i : Int, v8 = .int .i64 i ∧ Aside0 (0 ≤ i ∧ i ≤ l.length) ∧ Aside0 ((l.length : Int) - i ≤ kq) ∧ Aside0 (∀ j : Nat, (j : Int) < i → p (rd l j) = false) ∧ Aside0 (Below w.heap.size w w'))
  case atStart => exact ⟨0, rfl, ⟨by omega⟩, ⟨by omega⟩, ⟨fun j hj => by omega⟩, ⟨Below.refl _ _⟩⟩
  case round =>
    obtain ⟨i, rfl, HI, HK, HA, HB⟩ := hrel
    have h0 : 0 ≤ i := HI.out.1
    by_cases c6 : i < (l.length : Int)
    · obtain ⟨ad, e1, hx⟩ := Kd.at_int HR0.out i h0 c6
      cases e1
      replace hx := (HB.out.cell (World.block_lt_of_cell? w _ hx)).trans hx
      have hcall := HP.out wr (rd l i) HB.out (rd_mem c6 h0)
      dsimp only at hcall
      by_cases hv : p (rd l i) = true
      · rw [hv] at hcall
        have HV := Aside0.mk hv
        have HC := Aside0.mk hcall
        clear hcall hv
        go_wp2_with (go_at_fn g; refine HC.out.mono ?_; rintro e w' ⟨rfl, hb'⟩)
        go_ret
        exact ⟨by rw [idxI_some i h0 c6 HV.out HA.out]; rfl, bstep HB.out hb'⟩
      · have hv := Bool.eq_false_iff.2 hv
        rw [hv] at hcall
        have HV := Aside0.mk hv
        have HC := Aside0.mk hcall
        clear hcall hv
        go_wp2_with (go_at_fn g; refine HC.out.mono ?_; rintro e w' ⟨rfl, hb'⟩)
        go_roundg (l.length - (i.toNat + 1))
        case measure => have := HK.out; omega
        case rel =>
          refine ⟨i + 1, rfl, ⟨by omega⟩, ⟨by omega⟩, ⟨fun j hj => ?_⟩, ⟨bstep HB.out hb'⟩⟩
          by_cases e : (j : Int) = i
          · rw [e]; exact HV.out
          · exact HA.out j (by omega)
    · go_wp2
      go_ret
      have hi : i = l.length := by have := HI.out; omega
      exact ⟨by rw [idxI_none (fun j hj => HA.out j (by omega))]; rfl, HB.out⟩
set_option maxHeartbeats 1000000 in
theorem containsFunc_calls (g : Nat) (lb : Array Value) (eg : Eg g) (p : Int → Bool) (A0 : Option Addr) (c0 : Nat) (l : List Int) (w : World) (hr : Kd.C (Kd.int .i64) w A0 l.length l) (hp : Fn1 g lb w (fun x => x ∈ l) (fun x => .bool (p x))) :
    Calls Try.prog 88 #[.slice A0 l.length c0, .func (.func g) #[] lb] w fun e w' => e = .returned (.bool (l.any p)) ∧ Below w.heap.size w w' := by
  have HC := Aside0.mk (indexFunc_calls g lb eg p A0 c0 l w hr hp)
  rw [← idxI_any]
  clear hr hp
  go_enter Try.func88, Try.ntmps88
  go_wp2_with (go_at_call 125; refine HC.out.mono ?_; rintro e w' ⟨rfl, hb'⟩)
  go_ret
  exact ⟨rfl, hb'⟩
theorem onceB_hit {p : Int → Int} (i j : Int) (h0 : 0 ≤ i) (h1 : i < j) (h2 : j < 9) (h : p i = p j) : onceB p = false := by
  cases e : onceB p with
  | false => rfl
  | true =>
    have := onceB_iff.1 e i.toNat j.toNat (by omega) (by omega)
    rw [Int.toNat_of_nonneg h0, Int.toNat_of_nonneg (by omega)] at this
    exact absurd h this
set_option maxHeartbeats 2000000 in
theorem forAll_calls (g : Nat) (lb : Array Value) (eg : Eg g) (p : Int → Int → Int → Bool) (w : World) (hp : Fn3 g lb w (fun a b c => In9 a ∧ In9 b ∧ In9 c) (fun a b c => .bool (p a b c))) :
    Calls Try.prog 105 #[.func (.func g) #[] lb] w fun e w' => e = .returned (.bool (all3 p)) ∧ Below w.heap.size w w' := by
  have HP := Aside0.mk hp
  clear hp
  unfold Eg at eg
  go_enter Try.func105, Try.ntmps105
  go_wp2
  go_loopg [6] 9 (fun kq v6 w' => ∃ a : Int, v6 = .int .i64 a ∧ Aside0 (0 ≤ a ∧ a ≤ 9) ∧ Aside0 ((9 : Int) - a ≤ kq) ∧ Aside0 (∀ x y z : Int, 0 ≤ x → x < a → In9 y → In9 z → p x y z = true) ∧ Aside0 (Below w.heap.size w w'))
  case atStart => exact ⟨0, rfl, ⟨by omega⟩, ⟨by omega⟩, ⟨fun x y z h0 h1 => by omega⟩, ⟨Below.refl _ _⟩⟩
  case round =>
    obtain ⟨a, rfl, HI, HK, HA, HB⟩ := hrel
    have h0 : 0 ≤ a := HI.out.1
    by_cases c6 : a < 9
    · go_wp2
      go_loopg [9] 9 (fun kq v9 w' => ∃ b : Int, v9 = .int .i64 b ∧ Aside0 (0 ≤ b ∧ b ≤ 9) ∧ Aside0 ((9 : Int) - b ≤ kq) ∧ Aside0 (∀ y z : Int, 0 ≤ y → y < b → In9 z → p a y z = true) ∧ Aside0 (Below w.heap.size w w'))
      case atStart => exact ⟨0, rfl, ⟨by omega⟩, ⟨by omega⟩, ⟨fun y z h0 h1 => by omega⟩, HB⟩
      case round =>
        obtain ⟨b, rfl, HI2, HK2, HA2, HB2⟩ := hrel
        have h02 : 0 ≤ b := HI2.out.1
        by_cases c7 : b < 9
        · go_wp2
          go_loopg [12] 9 (fun kq v12 w' => ∃ c : Int, v12 = .int .i64 c ∧ Aside0 (0 ≤ c ∧ c ≤ 9) ∧ Aside0 ((9 : Int) - c ≤ kq) ∧ Aside0 (∀ z : Int, 0 ≤ z → z < c → p a b z = true) ∧ Aside0 (Below w.heap.size w w'))
          case atStart => exact ⟨0, rfl, ⟨by omega⟩, ⟨by omega⟩, ⟨fun z h0 h1 => by omega⟩, HB2⟩
          case round =>
            obtain ⟨c, rfl, HI3, HK3, HA3, HB3⟩ := hrel
            have h03 : 0 ≤ c := HI3.out.1
            by_cases c8 : c < 9
            · have hcall := HP.out wr a b c HB3.out ⟨⟨h0, c6⟩, ⟨h02, c7⟩, ⟨h03, c8⟩⟩
              dsimp only at hcall
              by_cases hv : p a b c = true
              · rw [hv] at hcall
                have HV := Aside0.mk hv
                have HC := Aside0.mk hcall
                clear hcall hv
                go_wp2_with (go_at_fn g; refine HC.out.mono ?_; rintro e w' ⟨rfl, hb'⟩)
                go_roundg (9 - (c.toNat + 1))
                case measure => have := HK3.out; omega
                case rel =>
                  refine ⟨c + 1, rfl, ⟨by omega⟩, ⟨by omega⟩, ⟨fun z hz0 hz1 => ?_⟩, ⟨bstep HB3.out hb'⟩⟩
                  by_cases e : z = c
                  · rw [e]; exact HV.out
                  · exact HA3.out z hz0 (by omega)
              · have hv := Bool.eq_false_iff.2 hv
                rw [hv] at hcall
                have HV := Aside0.mk hv
                have HC := Aside0.mk hcall
                clear hcall hv
                go_wp2_with (go_at_fn g; refine HC.out.mono ?_; rintro e w' ⟨rfl, hb'⟩)
                go_ret
                exact ⟨by rw [all3_hit ⟨h0, c6⟩ ⟨h02, c7⟩ ⟨h03, c8⟩ HV.out]; rfl, bstep HB3.out hb'⟩
            · go_wp2
              go_roundg (9 - (b.toNat + 1))
              case measure => have := HK2.out; omega
              case rel =>
                refine ⟨b + 1, rfl, ⟨by omega⟩, ⟨by omega⟩, ⟨fun y z hy0 hy1 hz => ?_⟩, HB3⟩
                by_cases e : y = b
                · rw [e]; exact HA3.out z hz.1 (by have := hz.2; omega)
                · exact HA2.out y z hy0 (by omega) hz
        · go_wp2
          go_roundg (9 - (a.toNat + 1))
          case measure => have := HK.out; omega
          case rel =>
            refine ⟨a + 1, rfl, ⟨by omega⟩, ⟨by omega⟩, ⟨fun x y z hx0 hx1 hy hz => ?_⟩, HB2⟩
            by_cases e : x = a
            · rw [e]; exact HA2.out y z hy.1 (by have := hy.2; omega) hz
            · exact HA.out x y z hx0 (by omega) hy hz
    · go_wp2
      go_ret
      have hall : all3 p = true := by
        have ha : a = 9 := by have := HI.out; omega
        refine allI_int_iff.2 fun x x0 x1 => allI_int_iff.2 fun y y0 y1 => allI_int_iff.2 fun z z0 z1 => HA.out x y z x0 (by omega) ⟨y0, y1⟩ ⟨z0, z1⟩
      exact ⟨by rw [hall]; rfl, HB.out⟩
end Go.Proofs.Ytbfafjejmljcpaa.X

set_option linter.unusedVariables false
set_option linter.unusedSimpArgs false
namespace Go.Proofs.Ytbfafjejmljcpaa.X
open Go.RowKit Go.Proofs.YtbfafjejmljcpaaW.PrintWords Go.Proofs.YtbfafjejmljcpaaW.PrintLast

def bA (n : Nat) (s : Nat → Bool) : Array Value := ((List.range n).map fun j => Value.bool (s j)).toArray
theorem bA_get {n : Nat} {s : Nat → Bool} (j : Nat) (h : j < n) : (bA n s)[j]? = some (.bool (s j)) := by simp [bA, h]
theorem bA_set {n : Nat} {s : Nat → Bool} (j : Nat) (v : Bool) : (bA n s).setIfInBounds j (.bool v) = bA n (fun x => if x = j then v else s x) := by
  apply Array.ext_getElem?
  intro i
  rw [Array.getElem?_setIfInBounds]
  by_cases hi : i < n
  · by_cases hj : j = i
    · subst hj; simp [bA, hi]
    · simp [bA, hi, hj, Ne.symm hj]
  · by_cases hj : j = i
    · subst hj; simp [bA, hi]
    · simp [bA, hi, hj]
structure Arr (w : World) (b t n : Nat) (s : Nat → Bool) : Prop where mk :: (out : w.heap[b]? = some (.cells (bA n s) t (0, 0)))
theorem Arr.lt {w : World} {b t n : Nat} {s : Nat → Bool} (h : Arr w b t n s) : b < w.heap.size := (Array.getElem?_eq_some_iff.1 h.out).1
theorem Arr.below {w W : World} {b t n : Nat} {s : Nat → Bool} (h : Arr w b t n s) (hb : Below w.heap.size w W) : Arr W b t n s := ⟨(hb.block b h.lt).trans h.out⟩
theorem Arr.cell {w : World} {b t n : Nat} {s : Nat → Bool} (h : Arr w b t n s) (j : Nat) (hj : j < n) : w.cell? ⟨b, j, none⟩ = some (.bool (s j)) := by
  simp [World.cell?, h.out, bA_get j hj]
theorem Arr.frozen {w : World} {b t n : Nat} {s : Nat → Bool} (h : Arr w b t n s) (j : Nat) : w.frozen? ⟨b, j, none⟩ = false := by
  simp [World.frozen?, h.out]
theorem Arr.set {w : World} {b t n : Nat} {s : Nat → Bool} (h : Arr w b t n s) (j : Nat) (v : Bool) : Arr (w.setCell ⟨b, j, none⟩ (.bool v)) b t n (fun x => if x = j then v else s x) := by
  constructor
  simp only [World.setCell, Array.getElem?_modify, if_true, h.out, Option.map_some, Option.isSome_none, Bool.false_eq_true, if_false, bA_set]
theorem Arr.congr {w : World} {b t n : Nat} {s s' : Nat → Bool} (h : Arr w b t n s) (e : ∀ j, j < n → s j = s' j) : Arr w b t n s' := by
  constructor
  rw [h.out]
  have : bA n s = bA n s' := by
    unfold bA
    congr 1
    apply List.map_congr_left
    intro j hj
    rw [e j (List.mem_range.1 hj)]
  rw [this]
theorem Arr.alloc (w : World) (t n : Nat) (s : Nat → Bool) : Arr (w.alloc (.cells (bA n s) t)) w.heap.size t n s := ⟨heap_alloc_new w _⟩
theorem bA_size (n : Nat) (s : Nat → Bool) : (bA n s).size = n := by simp [bA]
theorem bA_one (n : Nat) (s : Nat → Bool) : (bA n s).all (·.oneCell') = true := by
  rw [Array.all_eq_true]
  intro i hi
  simp [bA, Value.oneCell']
theorem arr_store {P : Program} (t n : Nat) (s : Nat → Bool) (hi : (P.info? t).map (·.size) = some n) (w : World) :
    Sem.run P (storeCells ⟨w.heap.size, 0, none⟩ (bA n s).toList) (w.alloc (.cells (bA n s) t)) = .ok () (w.alloc (.cells (bA n s) t)) :=
  run_storeCells_new w t _ _ (by rw [bA_size]; exact hi) rfl (bA_one n s)
def seenO (p : Int → Int) (i : Int) (j : Nat) : Bool := (List.range i.toNat).any fun (x : Nat) => decide (p x = (j : Int))
theorem seenO_succ (p : Int → Int) (i : Int) (h0 : 0 ≤ i) (j : Nat) : seenO p (i + 1) j = (seenO p i j || decide (p i = (j : Int))) := by
  unfold seenO
  rw [show (i + 1).toNat = i.toNat + 1 by omega, List.range_succ, List.any_append]
  simp [Int.toNat_of_nonneg h0]
set_option maxHeartbeats 2000000 in
theorem isOnce_calls (g : Nat) (lb : Array Value) (eg : Eg g) (p : Int → Int) (w : World) (hp : Fn1 g lb w In9 (fun x => .int .i64 (p x))) (hrange : ∀ x, In9 x → In9 (p x)) :
    Calls Try.prog 107 #[.func (.func g) #[] lb] w fun e w' => e = .returned (.bool (onceB p)) ∧ Below w.heap.size w w' := by
  have HP := Aside0.mk hp
  have HR := Aside0.mk hrange
  clear hp hrange
  have HS := Aside0.mk (Arr.alloc w 102 9 (fun _ => false))
  unfold Eg at eg
  go_enter Try.func107, Try.ntmps107
  go_wp2
  go_loopg [6] 9 (fun kq v6 w' => ∃ i : Int, v6 = .int .i64 i ∧ Aside0 (0 ≤ i ∧ i ≤ 9) ∧ Aside0 ((9 : Int) - i ≤ kq) ∧ Aside0 (∀ x y : Int, 0 ≤ x → x < y → y < i → p x ≠ p y) ∧ Aside0 (Arr w' w.heap.size 102 9 (seenO p i)) ∧ Aside0 (Below w.heap.size w w'))
  case atStart => exact ⟨0, rfl, ⟨by omega⟩, ⟨by omega⟩, ⟨fun x y h0 h1 => by omega⟩, ⟨HS.out.congr (fun j hj => rfl)⟩, ⟨(Below.refl _ _).alloc (Nat.le_refl _) _⟩⟩
  case round =>
    obtain ⟨i, rfl, HI, HK, HA, HS2, HB⟩ := hrel
    have h0 : 0 ≤ i := HI.out.1
    by_cases c6 : i < 9
    · have hcall := HP.out wr i HB.out ⟨h0, c6⟩
      obtain ⟨q0, q1⟩ := HR.out i ⟨h0, c6⟩
      dsimp only at hcall
      obtain ⟨v, hv⟩ : ∃ v : Int, p i = v := ⟨_, rfl⟩
      rw [hv] at hcall q0 q1
      have HV := Aside0.mk hv
      have HC := Aside0.mk hcall
      clear hcall hv
      go_wp2_with fail
      refine HC.out.mono ?_
      rintro e w1 ⟨rfl, hb1⟩
      have HS3 := HS2.out.below hb1
      have hc := HS3.cell v.toNat (by omega)
      have HB1 := Aside0.mk (bstep HB.out hb1)
      clear hb1
      by_cases hs : seenO p i v.toNat = true
      · rw [hs] at hc
        have HF := Aside0.mk hs
        clear hs
        go_wp2
        go_ret
        have : onceB p = false := by
          have h := HF.out
          unfold seenO at h
          obtain ⟨x, hx, hpx⟩ := List.any_eq_true.1 h
          have hx := List.mem_range.1 hx
          have hpx := of_decide_eq_true hpx
          exact onceB_hit x i (by omega) (by omega) c6 (by rw [hpx, HV.out]; omega)
        exact ⟨by rw [this]; rfl, HB1.out⟩
      · have hs := Bool.eq_false_iff.2 hs
        rw [hs] at hc
        have HF := Aside0.mk hs
        have HS4 := Aside0.mk HS3
        clear hs HS3
        have hcall2 := HP.out w1 i HB1.out ⟨h0, c6⟩
        dsimp only at hcall2
        rw [HV.out] at hcall2
        have HC2 := Aside0.mk hcall2
        clear hcall2
        go_wp2_with fail
        refine HC2.out.mono ?_
        rintro e w2 ⟨rfl, hb2⟩
        have HS5 := HS4.out.below hb2
        have hc2 := HS5.cell v.toNat (by omega)
        have hf2 := HS5.frozen v.toNat
        have HS6 := Aside0.mk (HS5.set v.toNat true)
        have HB2 := Aside0.mk ((bstep HB1.out hb2).setCell (p := ⟨w.heap.size, v.toNat, none⟩) (Nat.le_refl _) (.bool true))
        clear hb2 HS5
        go_wp2
        go_roundg (9 - (i.toNat + 1))
        case measure => have := HK.out; omega
        case rel =>
          refine ⟨i + 1, rfl, ⟨by omega⟩, ⟨by omega⟩, ⟨fun x y hx hxy hy => ?_⟩, ⟨HS6.out.congr (fun j hj => ?_)⟩, HB2⟩
          · by_cases e : y = i
            · subst e
              intro hxe
              have h := HF.out
              unfold seenO at h
              have := List.any_eq_false.1 h x.toNat (List.mem_range.2 (by omega))
              rw [Int.toNat_of_nonneg hx, hxe, HV.out] at this
              exact this (decide_eq_true (by omega))
            · exact HA.out x y hx hxy (by omega)
          · rw [seenO_succ p i h0 j, HV.out]
            by_cases e : j = v.toNat
            · subst e; rw [if_pos rfl, decide_eq_true (by omega), Bool.or_true]
            · rw [if_neg e, decide_eq_false (by omega), Bool.or_false]
    · go_wp2
      go_ret
      have hall : onceB p = true := by
        have hi : i = 9 := by have := HI.out; omega
        exact onceB_iff.2 fun x y hxy hy => HA.out x y (by omega) (by omega) (by omega)
      exact ⟨by rw [hall]; rfl, HB.out⟩
end Go.Proofs.Ytbfafjejmljcpaa.X

namespace Go.Proofs.Ytbfafjejmljcpaa.P
open Go.RowKit Go.Proofs.YtbfafjejmljcpaaW.PrintWords Go.Proofs.YtbfafjejmljcpaaW.PrintLast
set_option linter.unusedVariables false
set_option linter.unusedSimpArgs false

def impl_minus.f (a0 : Int) : Option (Int) := (impl_element.f (wrap64 (-(Int.tmod a0 3))) (wrap64 (-(wrap64 (Int.tdiv a0 3))))).bind fun t972 => (some t972)
set_option maxHeartbeats 8000000 in
set_option maxRecDepth 100000 in
theorem impl_minus.calls (a0 : Int) (r : Int) (w : World) (h : impl_minus.f a0 = some r) :
  Calls Try.prog 109 #[.int .i64 a0] w fun e w' => e = .returned (.int .i64 r) ∧ Drawn0 w w' := by
 have H : ((impl_element.f (wrap64 (-(Int.tmod a0 3))) (wrap64 (-(wrap64 (Int.tdiv a0 3))))).bind fun t972 => (some t972)) = some r := h
 clear h
 replace H := Option.bind_eq_some_iff.mp H
 obtain ⟨t972, A20, H⟩ := H
 replace H : (some t972) = some r := H
 have A2 := Aside0.mk A20
 clear A20
 obtain rfl := Option.some.inj H
 go_enter Try.func109, Try.ntmps109
 go_wp2_with (first | (refine goesL_ (some 9) rfl rfl Try.func114 (by kernel_rfl) rfl #[.int .i64 (wrap64 (-(Int.tmod a0 3))), .int .i64 (wrap64 (-(wrap64 (Int.tdiv a0 3))))] rfl ll_ ?_; (with_reducible refine (impl_element.calls (wrap64 (-(Int.tmod a0 3))) (wrap64 (-(wrap64 (Int.tdiv a0 3)))) t972 _ A2.out).mono ?_); rintro e w' ⟨rfl, ⟨nd, rfl⟩⟩; refine ⟨_, rfl, ?_⟩))
 go_ret
 exact ⟨by first | rfl | (simp; done) | (simp [*]; done), by repeat (first | exact Drawn0.refl _ | apply Drawn0.step)⟩
end Go.Proofs.Ytbfafjejmljcpaa.P

namespace Go.Proofs.Ytbfafjejmljcpaa.P
open Go.RowKit Go.Proofs.YtbfafjejmljcpaaW.PrintWords Go.Proofs.YtbfafjejmljcpaaW.PrintLast
set_option linter.unusedVariables false
set_option linter.unusedSimpArgs false

def impl_isNine.f (a0 : Int) : Option (Bool) := if a0 ≥ 0 then (some (decide (a0 < 9))) else (some false)
set_option maxHeartbeats 8000000 in
set_option maxRecDepth 100000 in
theorem impl_isNine.calls (a0 : Int) (r : Bool) (w : World) (h : impl_isNine.f a0 = some r) :
  Calls Try.prog 142 #[.int .i64 a0] w fun e w' => e = .returned (.bool r) ∧ Drawn0 w w' := by
 have H : (if a0 ≥ 0 then (some (decide (a0 < 9))) else (some false)) = some r := h
 clear h
 by_cases c2 : a0 ≥ 0
 ·rw [if_pos c2] at H
  have c2b0 : decide (0 ≤ a0) = true := decide_eq_true c2
  clear c2
  obtain rfl := Option.some.inj H
  go_enter Try.func142, Try.ntmps142
  go_wp2
  go_ret
  exact ⟨by first | rfl | (simp; done) | (simp [*]; done), by repeat (first | exact Drawn0.refl _ | apply Drawn0.step)⟩
 ·rw [if_neg c2] at H
  have c2b0 : decide (0 ≤ a0) = false := decide_eq_false c2
  clear c2
  obtain rfl := Option.some.inj H
  go_enter Try.func142, Try.ntmps142
  go_wp2
  go_ret
  exact ⟨by first | rfl | (simp; done) | (simp [*]; done), by repeat (first | exact Drawn0.refl _ | apply Drawn0.step)⟩
end Go.Proofs.Ytbfafjejmljcpaa.P

set_option linter.unusedVariables false
set_option linter.unusedSimpArgs false
namespace Go.Proofs.Ytbfafjejmljcpaa.X
open Go.RowKit Go.Proofs.YtbfafjejmljcpaaW.PrintWords Go.Proofs.YtbfafjejmljcpaaW.PrintLast Go.Proofs.Ytbfafjejmljcpaa.P

theorem impl_add_eq (a b : Int) (ha : In9 a) (hb : In9 b) : impl_add.f a b = some (addN a b) :=
  nine2 (P := fun a b => impl_add.f a b = some (addN a b)) (by decide +kernel) a b ha.1 ha.2 hb.1 hb.2
theorem impl_minus_eq (a : Int) (ha : In9 a) : impl_minus.f a = some (minusN a) :=
  nine1 (P := fun a => impl_minus.f a = some (minusN a)) (by decide +kernel) a ha.1 ha.2
theorem add_calls (a b : Int) (ha : In9 a) (hb : In9 b) (w : World) : Calls Try.prog 97 #[.int .i64 a, .int .i64 b] w fun e w' => e = .returned (.int .i64 (addN a b)) ∧ Drawn0 w w' := impl_add.calls a b _ w (impl_add_eq a b ha hb)
theorem minus_calls (a : Int) (ha : In9 a) (w : World) : Calls Try.prog 109 #[.int .i64 a] w fun e w' => e = .returned (.int .i64 (minusN a)) ∧ Drawn0 w w' := impl_minus.calls a _ w (impl_minus_eq a ha)
theorem qd {P : Program} {f : FuncId} {args : Array Value} {w : World} {n : Nat} {v : Value} (h : Calls P f args (w.drewN n) fun e w' => e = .returned v ∧ Drawn0 (w.drewN n) w') :
    Calls P f args (w.drewN n) fun e w'' => e = .returned v ∧ ∃ m, w'' = w.drewN m :=
  h.mono fun _ _ ⟨he, hd⟩ => ⟨he, by obtain ⟨m, hm⟩ := hd.out; exact ⟨n + m, by rw [hm, World.drewN_drewN]⟩⟩
structure BoxT (w : World) (b : Nat) (A0 : Option Addr) (c0 : Nat) (t : List Int) : Prop where
  cell : w.cell? ⟨b, 0, none⟩ = some (.slice A0 t.length c0)
  read : Kd.C (Kd.int .i64) w A0 t.length t
theorem BoxT.below {w W : World} {b : Nat} {A0 : Option Addr} {c0 : Nat} {t : List Int} (h : BoxT w b A0 c0 t) (hb : Below w.heap.size w W) : BoxT W b A0 c0 t :=
  ⟨(hb.cell (World.block_lt_of_cell? w _ h.cell)).trans h.cell, Kd.C_below h.read hb⟩
theorem BoxT.at {w : World} {b : Nat} {ad : Addr} {c0 : Nat} {t : List Int} (h : BoxT w b (some ad) c0 t) (i : Int) (h0 : 0 ≤ i) (h1 : i < t.length) : w.cell? (ad.add i.toNat) = some (.int .i64 (rd t i)) := by
  obtain ⟨ad', e, hc⟩ := Kd.at_int h.read i h0 h1
  cases e; exact hc
theorem BoxT.some {w : World} {b : Nat} {A0 : Option Addr} {c0 : Nat} {t : List Int} (h : BoxT w b A0 c0 t) (hl : 0 < t.length) : ∃ ad, A0 = some ad := by
  obtain ⟨ad', e, hc⟩ := Kd.at_int h.read 0 (by omega) (by omega)
  exact ⟨ad', e⟩
set_option maxHeartbeats 2000000 in
theorem isSystem1_calls (b : Nat) (A0 : Option Addr) (c0 : Nat) (t : List Int) (w : World) (hb : BoxT w b A0 c0 t) (hn : ninesB t 81 = true) (x y z : Int) (hx : In9 x) (hy : In9 y) (hz : In9 z) :
    Calls Try.prog 106 #[.int .i64 x, .int .i64 y, .int .i64 z, .pointer (some ⟨b, 0, none⟩)] w fun e w' => e = .returned (.bool (decide (rd t (9 * addN x y + z) = addN (rd t (9 * x + z)) (rd t (9 * y + z))))) ∧ Below w.heap.size w w' := by
  obtain ⟨hl, _⟩ := ninesB_iff.1 hn
  obtain ⟨ad, rfl⟩ := hb.some (by omega)
  obtain ⟨r0, r1⟩ := addN_range x y
  obtain ⟨x0, x1⟩ := hx
  obtain ⟨y0, y1⟩ := hy
  obtain ⟨z0, z1⟩ := hz
  have hc := hb.cell
  have q1 := nines_rd hn (i := 9 * x + z) (by omega) (by omega)
  have q2 := nines_rd hn (i := 9 * y + z) (by omega) (by omega)
  have C1 := Aside0.mk (add_calls x y ⟨x0, x1⟩ ⟨y0, y1⟩)
  have C2 := Aside0.mk (add_calls (rd t (9 * x + z)) (rd t (9 * y + z)) q1 q2)
  obtain ⟨s, hs⟩ : ∃ s, addN x y = s := ⟨_, rfl⟩
  rw [hs] at C1 r0 r1 ⊢
  clear hs
  have g1 := hb.at (9 * x + z) (by omega) (by omega)
  have g2 := hb.at (9 * y + z) (by omega) (by omega)
  have g3 := hb.at (9 * s + z) (by omega) (by omega)
  clear hb hn
  go_enter Try.func106, Try.ntmps106
  go_wp2
  go_quiet ((first | (go_at_call 97; with_reducible exact qd (C1.out _)) | (go_at_call 97; with_reducible exact qd (C2.out _))))
  go_wp2
  go_ret
  exact ⟨rfl, Drawn0.below ⟨⟨_, rfl⟩⟩⟩
set_option maxHeartbeats 2000000 in
theorem isSystem2_calls (b bc bd : Nat) (A0 : Option Addr) (c0 : Nat) (t : List Int) (w : World) (hb : BoxT w b A0 c0 t) (hn : ninesB t 81 = true) (c d : Int) (hC : In9 c) (hD : In9 d)
    (hc : w.cell? ⟨bc, 0, none⟩ = some (.int .i64 c)) (hd : w.cell? ⟨bd, 0, none⟩ = some (.int .i64 d)) (x : Int) (hx : In9 x) :
    Calls Try.prog 108 #[.int .i64 x, .pointer (some ⟨b, 0, none⟩), .pointer (some ⟨bc, 0, none⟩), .pointer (some ⟨bd, 0, none⟩)] w fun e w' => e = .returned (.int .i64 (addN (rd t (9 * x + c)) (minusN (rd t (9 * x + d))))) ∧ Below w.heap.size w w' := by
  obtain ⟨hl, _⟩ := ninesB_iff.1 hn
  obtain ⟨ad, rfl⟩ := hb.some (by omega)
  obtain ⟨x0, x1⟩ := hx
  obtain ⟨c1, c2⟩ := hC
  obtain ⟨d1, d2⟩ := hD
  have hcc := hb.cell
  have q1 := nines_rd hn (i := 9 * x + c) (by omega) (by omega)
  have q2 := nines_rd hn (i := 9 * x + d) (by omega) (by omega)
  have C1 := Aside0.mk (minus_calls (rd t (9 * x + d)) q2)
  have C2 := Aside0.mk (add_calls (rd t (9 * x + c)) (minusN (rd t (9 * x + d))) q1 (minusN_range _))
  have g1 := hb.at (9 * x + c) (by omega) (by omega)
  have g2 := hb.at (9 * x + d) (by omega) (by omega)
  clear hb hn q1 q2
  go_enter Try.func108, Try.ntmps108
  go_wp2
  go_quiet ((first | (go_at_call 109; with_reducible exact qd (C1.out _)) | (go_at_call 97; with_reducible exact qd (C2.out _))))
  go_wp2
  go_ret
  exact ⟨rfl, Drawn0.below ⟨⟨_, rfl⟩⟩⟩
theorem any_not (l : List Int) : (l.any fun x => !isN x) = !l.all isN := by
  induction l with
  | nil => rfl
  | cons a l ih => rw [List.any_cons, List.all_cons, ih, Bool.not_and]
theorem impl_isNine_eq (a : Int) : impl_isNine.f a = some (isN a) := by
  unfold impl_isNine.f isN
  by_cases h : a ≥ 0
  · rw [if_pos h]; simp [h]
  · rw [if_neg h]; simp [h]
theorem isNine_calls (a : Int) (w : World) : Calls Try.prog 142 #[.int .i64 a] w fun e w' => e = .returned (.bool (isN a)) ∧ Drawn0 w w' := impl_isNine.calls a _ w (impl_isNine_eq a)
set_option maxHeartbeats 1000000 in
theorem areNines1_calls (a : Int) (w : World) : Calls Try.prog 141 #[.int .i64 a] w fun e w' => e = .returned (.bool (!isN a)) ∧ Below w.heap.size w w' := by
  have C1 := Aside0.mk (isNine_calls a)
  obtain ⟨v, hv⟩ : ∃ v, isN a = v := ⟨_, rfl⟩
  rw [hv] at C1 ⊢
  clear hv
  go_enter Try.func141, Try.ntmps141
  go_wp2_with (go_at_call 142; refine (C1.out _).mono ?_; rintro e w' ⟨rfl, ⟨nd, rfl⟩⟩)
  go_ret
  exact ⟨rfl, Drawn0.below ⟨⟨_, rfl⟩⟩⟩
theorem enters1 : Eg 141 := enters_of Try.func141 (by kernel_rfl) rfl
set_option maxHeartbeats 1000000 in
theorem areNines_calls (A0 : Option Addr) (c0 : Nat) (l : List Int) (n : Int) (w : World) (hr : Kd.C (Kd.int .i64) w A0 l.length l) :
    Calls Try.prog 104 #[.slice A0 l.length c0, .int .i64 n] w fun e w' => e = .returned (.bool (decide ((l.length : Int) = n) && l.all isN)) ∧ Below w.heap.size w w' := by
  have HC := Aside0.mk (containsFunc_calls 141 #[] enters1 (fun x => !isN x) A0 c0 l w hr (fun W x _ _ => areNines1_calls x W))
  have e1 : (l.any fun x => !isN x) = !l.all isN := any_not l
  rw [e1] at HC
  clear e1 hr
  obtain ⟨v, hv⟩ : ∃ v, l.all isN = v := ⟨_, rfl⟩
  rw [hv] at HC ⊢
  clear hv
  by_cases h : (l.length : Int) = n
  · have h1 : ((l.length : Int) == n) = true := beq_iff_eq.2 h
    rw [decide_eq_true h]
    clear h
    go_enter Try.func104, Try.ntmps104
    go_wp2_with (go_at_call 88; refine HC.out.mono ?_; rintro e w' ⟨rfl, hb⟩)
    go_ret
    exact ⟨by cases v <;> rfl, hb⟩
  · have h1 : ((l.length : Int) == n) = false := beq_eq_false_iff_ne.2 h
    rw [decide_eq_false h]
    clear h
    go_enter Try.func104, Try.ntmps104
    go_wp2
    go_ret
    exact ⟨rfl, Below.refl _ _⟩
end Go.Proofs.Ytbfafjejmljcpaa.X

set_option linter.unusedVariables false
set_option linter.unusedSimpArgs false
namespace Go.Proofs.Ytbfafjejmljcpaa.X
open Go.RowKit Go.Proofs.YtbfafjejmljcpaaW.PrintWords Go.Proofs.YtbfafjejmljcpaaW.PrintLast Go.Proofs.Ytbfafjejmljcpaa.P

theorem enters2 : Eg 106 := enters_of Try.func106 (by kernel_rfl) rfl
theorem enters3 : Eg 108 := enters_of Try.func108 (by kernel_rfl) rfl
theorem BoxT.alloc {w : World} {A0 : Option Addr} {c0 : Nat} {t : List Int} (hr : Kd.C (Kd.int .i64) w A0 t.length t) : BoxT (w.alloc (.cells #[.slice A0 t.length c0] 23)) w.heap.size A0 c0 t :=
  ⟨World.cell?_alloc_at _ _ _ _ rfl, Kd.C_below hr ((Below.refl _ _).alloc (Nat.le_refl _) _)⟩
def unitB (t : List Int) (a : Int) : Bool := decide (rd t a = 0) && decide (rd t (9 * a) = 0) && decide (rd t (9 + a) = a) && decide (rd t (9 * a + 1) = a)
theorem unitsB_iff {t : List Int} : unitsB t = true ↔ ∀ x : Int, 0 ≤ x → x < 9 → unitB t x = true := allI_int_iff
theorem unitsB_hit {t : List Int} {x : Int} (h0 : 0 ≤ x) (h1 : x < 9) (h : unitB t x = false) : unitsB t = false := by
  cases e : unitsB t with
  | false => rfl
  | true => have := unitsB_iff.1 e x h0 h1; rw [h] at this; exact absurd this (by decide)
theorem solvesB_hit {t : List Int} {c d : Int} (h0 : 0 ≤ d) (h1 : d < c) (h2 : c < 9) (h : gapsB t c d = false) : solvesB t = false := by
  cases e : solvesB t with
  | false => rfl
  | true =>
    have := allI_int (allI_int e c (by omega) (by omega)) d h0 (by omega)
    rw [h, decide_eq_true h1] at this; exact absurd this (by decide)
theorem solvesB_all {t : List Int} (h : ∀ c d : Int, 0 ≤ d → d < c → c < 9 → gapsB t c d = true) : solvesB t = true :=
  allI_int_iff.2 fun c c0 c1 => allI_int_iff.2 fun d d0 d1 => by
    by_cases e : d < c
    · rw [h c d d0 e (by omega)]; simp
    · rw [decide_eq_false e]; rfl
theorem sysB_of {t : List Int} (h : ninesB t 81 = true) : sysB t = (unitsB t && (sharesB t && solvesB t)) := by unfold sysB; rw [h]; rfl
set_option maxRecDepth 100000 in
set_option maxHeartbeats 8000000 in
theorem isSystem_calls (A0 : Option Addr) (c0 : Nat) (t : List Int) (w : World) (hr : Kd.C (Kd.int .i64) w A0 t.length t) :
    Calls Try.prog 66 #[.slice A0 t.length c0] w fun e w' => e = .returned (.bool (sysB t)) ∧ Below w.heap.size w w' := by
  have hmf : ∀ (fn : Fn) (first cap : Array Value) (w : World), (Instr.makeFunc fn first cap).run Try.prog w = .ok (.func fn first cap) w := fun _ _ _ _ => rfl
  have HC0 := Aside0.mk (areNines_calls A0 c0 t 81 (w.alloc (.cells #[.slice A0 t.length c0] 23)) (BoxT.alloc (c0 := c0) hr).read)
  have HX := Aside0.mk (BoxT.alloc (c0 := c0) hr)
  have hB0 := Aside0.mk ((Below.refl w.heap.size w).alloc (Nat.le_refl _) (.cells #[.slice A0 t.length c0] 23))
  by_cases hn : ninesB t 81 = true
  case neg =>
    have hn := Bool.eq_false_iff.2 hn
    have e : sysB t = false := by unfold sysB; rw [hn]; rfl
    rw [e]
    have e2 : (decide ((t.length : Int) = 81) && t.all isN) = false := by
      unfold ninesB at hn
      rw [← hn, show decide ((t.length : Int) = 81) = decide (t.length = 81) from decide_eq_decide.2 (by omega)]
    rw [e2] at HC0
    clear hn e e2 hr HX
    go_enter Try.func66, Try.ntmps66
    go_wp2_with (go_at_call 104; refine HC0.out.mono ?_; rintro e w' ⟨rfl, hb⟩)
    go_ret
    exact ⟨rfl, hB0.out.trans (hb.mono (by simp))⟩
  case pos =>
    have e2 : (decide ((t.length : Int) = 81) && t.all isN) = true := by
      have := hn
      unfold ninesB at this
      rw [← this, show decide ((t.length : Int) = 81) = decide (t.length = 81) from decide_eq_decide.2 (by omega)]
    rw [e2] at HC0
    rw [sysB_of hn]
    have HN := Aside0.mk hn
    obtain ⟨hl, _⟩ := ninesB_iff.1 hn
    have hlen : 81 ≤ t.length := by omega
    clear e2 hr hl hn
    go_enter Try.func66, Try.ntmps66
    go_wp2_with (go_at_call 104; refine HC0.out.mono ?_; rintro e w1 ⟨rfl, hb⟩)
    have HX1 := Aside0.mk (HX.out.below hb)
    have HB1 := Aside0.mk (hB0.out.trans (hb.mono (by simp)))
    clear hb HX hB0 HC0
    go_loopg [9] 9 (fun kq v9 w' => ∃ i : Int, v9 = .int .i64 i ∧ Aside0 (0 ≤ i ∧ i ≤ 9) ∧ Aside0 ((9 : Int) - i ≤ kq) ∧ Aside0 (∀ x : Int, 0 ≤ x → x < i → unitB t x = true) ∧ Aside0 (BoxT w' w.heap.size A0 c0 t) ∧ Aside0 (Below w.heap.size w w'))
    case atStart => exact ⟨0, rfl, ⟨by omega⟩, ⟨by omega⟩, ⟨fun x h0 h1 => by omega⟩, HX1, HB1⟩
    case round =>
      clear HX1 HB1
      obtain ⟨i, rfl, HI, HK, HA, HX, HB⟩ := hrel
      have h0 : 0 ≤ i := HI.out.1
      by_cases c6 : i < 9
      · obtain ⟨ad, e1⟩ := HX.out.some (by omega)
        cases e1
        have hc := HX.out.cell
        have g1 := HX.out.at i h0 (by omega)
        have g2 := HX.out.at (9 * i) (by omega) (by omega)
        have g3 := HX.out.at (9 + i) (by omega) (by omega)
        have g4 := HX.out.at (9 * i + 1) (by omega) (by omega)
        have hu : unitB t i = (decide (rd t i = 0) && decide (rd t (9 * i) = 0) && decide (rd t (9 + i) = i) && decide (rd t (9 * i + 1) = i)) := rfl
        have HU := Aside0.mk hu
        clear hu
        obtain ⟨v1, hv1⟩ : ∃ v, rd t i = v := ⟨_, rfl⟩
        obtain ⟨v2, hv2⟩ : ∃ v, rd t (9 * i) = v := ⟨_, rfl⟩
        obtain ⟨v3, hv3⟩ : ∃ v, rd t (9 + i) = v := ⟨_, rfl⟩
        obtain ⟨v4, hv4⟩ : ∃ v, rd t (9 * i + 1) = v := ⟨_, rfl⟩
        rw [hv1] at g1 HU
        rw [hv2] at g2 HU
        rw [hv3] at g3 HU
        rw [hv4] at g4 HU
        clear hv1 hv2 hv3 hv4
        have fin : ∀ (b : Bool), unitB t i = b → b = false → (unitsB t && (sharesB t && solvesB t)) = false := fun b hb hf => by
          rw [unitsB_hit h0 c6 (hb.trans hf)]; rfl
        have FIN := Aside0.mk fin
        clear fin
        by_cases t1 : v1 = 0
        · have t1a : (v1 == 0) = true := beq_iff_eq.2 t1
          have t1b : (v1 != 0) = false := by rw [bne, t1a]; rfl
          by_cases t2 : v2 = 0
          · have t2a : (v2 == 0) = true := beq_iff_eq.2 t2
            have t2b : (v2 != 0) = false := by rw [bne, t2a]; rfl
            by_cases t3 : v3 = i
            · have t3a : (v3 == i) = true := beq_iff_eq.2 t3
              have t3b : (v3 != i) = false := by rw [bne, t3a]; rfl
              by_cases t4 : v4 = i
              · have t4a : (v4 == i) = true := beq_iff_eq.2 t4
                have t4b : (v4 != i) = false := by rw [bne, t4a]; rfl
                have HP := Aside0.mk (show unitB t i = true by rw [HU.out, decide_eq_true t1, decide_eq_true t2, decide_eq_true t3, decide_eq_true t4]; rfl)
                clear t1 t2 t3 t4
                go_wp2
                go_roundg (9 - (i.toNat + 1))
                case measure => have := HK.out; omega
                case rel =>
                  refine ⟨i + 1, rfl, ⟨by omega⟩, ⟨by omega⟩, ⟨fun x hx0 hx1 => ?_⟩, HX, HB⟩
                  by_cases e : x = i
                  · rw [e]; exact HP.out
                  · exact HA.out x hx0 (by omega)
              · have t4a : (v4 == i) = false := beq_eq_false_iff_ne.2 t4
                have t4b : (v4 != i) = true := by rw [bne, t4a]; rfl
                have HP := Aside0.mk (FIN.out _ HU.out (by rw [decide_eq_false t4, Bool.and_false]))
                clear t1 t2 t3 t4
                go_wp2
                go_ret
                exact ⟨by rw [HP.out]; rfl, HB.out⟩
            · have t3a : (v3 == i) = false := beq_eq_false_iff_ne.2 t3
              have t3b : (v3 != i) = true := by rw [bne, t3a]; rfl
              have HP := Aside0.mk (FIN.out _ HU.out (by rw [decide_eq_false t3, Bool.and_false, Bool.false_and]))
              clear t1 t2 t3
              go_wp2
              go_ret
              exact ⟨by rw [HP.out]; rfl, HB.out⟩
          · have t2a : (v2 == 0) = false := beq_eq_false_iff_ne.2 t2
            have t2b : (v2 != 0) = true := by rw [bne, t2a]; rfl
            have HP := Aside0.mk (FIN.out _ HU.out (by rw [decide_eq_false t2, Bool.and_false, Bool.false_and, Bool.false_and]))
            clear t1 t2
            go_wp2
            go_ret
            exact ⟨by rw [HP.out]; rfl, HB.out⟩
        · have t1a : (v1 == 0) = false := beq_eq_false_iff_ne.2 t1
          have t1b : (v1 != 0) = true := by rw [bne, t1a]; rfl
          have HP := Aside0.mk (FIN.out _ HU.out (by rw [decide_eq_false t1, Bool.false_and, Bool.false_and, Bool.false_and]))
          clear t1
          go_wp2
          go_ret
          exact ⟨by rw [HP.out]; rfl, HB.out⟩
      · have HU := Aside0.mk (unitsB_iff.2 fun x x0 x1 => HA.out x x0 (by have := HI.out; omega))
        clear HA HK HI
        have hp : Fn3 106 #[.pointer (some ⟨w.heap.size, 0, none⟩)] wr (fun a b c => In9 a ∧ In9 b ∧ In9 c) (fun x y z => .bool (decide (rd t (9 * addN x y + z) = addN (rd t (9 * x + z)) (rd t (9 * y + z))))) :=
          fun W x y z hW hd => isSystem1_calls w.heap.size A0 c0 t W (HX.out.below hW) HN.out x y z hd.1 hd.2.1 hd.2.2
        have hcall := forAll_calls 106 #[.pointer (some ⟨w.heap.size, 0, none⟩)] enters2 _ wr hp
        clear hp
        have es : all3 (fun x y z => decide (rd t (9 * addN x y + z) = addN (rd t (9 * x + z)) (rd t (9 * y + z)))) = sharesB t := rfl
        rw [es] at hcall
        clear es
        by_cases hs : sharesB t = true
        case neg =>
          have hs := Bool.eq_false_iff.2 hs
          rw [hs] at hcall
          have HS := Aside0.mk hs
          have HC := Aside0.mk hcall
          clear hs hcall
          go_wp2_with (go_at_call 105; refine HC.out.mono ?_; rintro e w2 ⟨rfl, hb2⟩)
          go_ret
          exact ⟨by rw [HU.out, HS.out]; rfl, bstep HB.out hb2⟩
        case pos =>
          rw [hs] at hcall
          have HS := Aside0.mk hs
          have HC := Aside0.mk hcall
          clear hs hcall
          go_wp2_with (go_at_call 105; refine HC.out.mono ?_; rintro e w2 ⟨rfl, hb2⟩)
          have HX2 := Aside0.mk (HX.out.below hb2)
          have HB2 := Aside0.mk (bstep HB.out hb2)
          clear HX HB hb2 HC
          go_loopg [48] 9 (fun kq v9 w' => ∃ c : Int, v9 = .int .i64 c ∧ Aside0 (0 ≤ c ∧ c ≤ 9) ∧ Aside0 ((9 : Int) - c ≤ kq) ∧ Aside0 (∀ x y : Int, 0 ≤ y → y < x → x < c → gapsB t x y = true) ∧ Aside0 (BoxT w' w.heap.size A0 c0 t) ∧ Aside0 (Below w.heap.size w w'))
          case atStart => exact ⟨0, rfl, ⟨by omega⟩, ⟨by omega⟩, ⟨fun x y h0 h1 => by omega⟩, HX2, HB2⟩
          case round =>
            clear HX2 HB2
            obtain ⟨c, rfl, HI, HK, HA, HX, HB⟩ := hrel
            have h0 : 0 ≤ c := HI.out.1
            by_cases c7 : c < 9
            · obtain ⟨wo, hwo⟩ : ∃ wo : World, wr = wo := ⟨_, rfl⟩
              subst hwo
              have HXc := Aside0.mk (HX.out.below ((Below.refl _ _).alloc (Nat.le_refl _) (.cells #[.int .i64 c] 3)))
              have HBc := Aside0.mk (HB.out.alloc HB.out.size (.cells #[.int .i64 c] 3))
              have HCc := Aside0.mk (show (wr.alloc (.cells #[.int .i64 c] 3)).cell? ⟨wr.heap.size, 0, none⟩ = some (.int .i64 c) from World.cell?_alloc_at _ _ _ _ rfl)
              go_wp2
              obtain ⟨cb, hcb⟩ : ∃ cb, wr.heap.size = cb := ⟨_, rfl⟩
              rw [hcb] at HCc ⊢
              clear hcb
              go_loopg [52] 9 (fun kq v9 w' => ∃ d : Int, v9 = .int .i64 d ∧ Aside0 (0 ≤ d ∧ d ≤ c) ∧ Aside0 (c - d ≤ kq) ∧ Aside0 (∀ y : Int, 0 ≤ y → y < d → gapsB t c y = true) ∧ Aside0 (w'.cell? ⟨cb, 0, none⟩ = some (.int .i64 c)) ∧ Aside0 (BoxT w' w.heap.size A0 c0 t) ∧ Aside0 (Below w.heap.size w w'))
              case atStart => exact ⟨0, rfl, ⟨by omega⟩, ⟨by omega⟩, ⟨fun y h0 h1 => by omega⟩, HCc, HXc, HBc⟩
              case round =>
                clear HXc HBc HCc HX HB
                obtain ⟨d, rfl, HI2, HK2, HA2, HC, HX, HB⟩ := hrel
                have h02 : 0 ≤ d := HI2.out.1
                by_cases c8 : d < c
                · have hbel := (Below.refl wr.heap.size wr).alloc (Nat.le_refl _) (.cells #[.int .i64 d] 3)
                  have HXd := Aside0.mk (HX.out.below hbel)
                  have HBd := Aside0.mk (HB.out.alloc HB.out.size (.cells #[.int .i64 d] 3))
                  have hcd : (wr.alloc (.cells #[.int .i64 d] 3)).cell? ⟨cb, 0, none⟩ = some (.int .i64 c) := (hbel.cell (World.block_lt_of_cell? wr _ HC.out)).trans HC.out
                  have hdd : (wr.alloc (.cells #[.int .i64 d] 3)).cell? ⟨wr.heap.size, 0, none⟩ = some (.int .i64 d) := World.cell?_alloc_at _ _ _ _ rfl
                  have hp : Fn1 108 #[.pointer (some ⟨w.heap.size, 0, none⟩), .pointer (some ⟨cb, 0, none⟩), .pointer (some ⟨wr.heap.size, 0, none⟩)] (wr.alloc (.cells #[.int .i64 d] 3)) In9 (fun x => .int .i64 (addN (rd t (9 * x + c)) (minusN (rd t (9 * x + d))))) :=
                    fun W x hW hd => isSystem2_calls w.heap.size cb wr.heap.size A0 c0 t W (HXd.out.below hW) HN.out c d ⟨h0, c7⟩ ⟨h02, by omega⟩ ((hW.cell (World.block_lt_of_cell? _ _ hcd)).trans hcd) ((hW.cell (World.block_lt_of_cell? _ _ hdd)).trans hdd) x hd
                  have hcall := isOnce_calls 108 #[.pointer (some ⟨w.heap.size, 0, none⟩), .pointer (some ⟨cb, 0, none⟩), .pointer (some ⟨wr.heap.size, 0, none⟩)] enters3 _ _ hp (fun x _ => addN_range _ _)
                  have eg : onceB (fun x => addN (rd t (9 * x + c)) (minusN (rd t (9 * x + d)))) = gapsB t c d := rfl
                  rw [eg] at hcall
                  have HCD := Aside0.mk hcd
                  clear hp eg hbel hcd hdd
                  by_cases hg : gapsB t c d = true
                  · rw [hg] at hcall
                    have HG := Aside0.mk hg
                    have HCA := Aside0.mk hcall
                    clear hg hcall
                    go_wp2_with (go_at_call 107; refine HCA.out.mono ?_; rintro e w2 ⟨rfl, hb2⟩)
                    go_roundg ((c - (d + 1)).toNat)
                    case measure => have := HK2.out; omega
                    case rel =>
                      refine ⟨d + 1, rfl, ⟨by omega⟩, ⟨by omega⟩, ⟨fun y y0 y1 => ?_⟩, ⟨(hb2.cell (World.block_lt_of_cell? _ _ HCD.out)).trans HCD.out⟩, ⟨HXd.out.below hb2⟩, ⟨bstep HBd.out hb2⟩⟩
                      by_cases e : y = d
                      · rw [e]; exact HG.out
                      · exact HA2.out y y0 (by omega)
                  · have hg := Bool.eq_false_iff.2 hg
                    rw [hg] at hcall
                    have HG := Aside0.mk hg
                    have HCA := Aside0.mk hcall
                    clear hg hcall
                    go_wp2_with (go_at_call 107; refine HCA.out.mono ?_; rintro e w2 ⟨rfl, hb2⟩)
                    go_ret
                    exact ⟨by rw [HU.out, HS.out, solvesB_hit h02 c8 c7 HG.out]; rfl, bstep HBd.out hb2⟩
                · go_wp2
                  go_roundg (9 - (c.toNat + 1))
                  case measure => have := HK.out; omega
                  case rel =>
                    refine ⟨c + 1, rfl, ⟨by omega⟩, ⟨by omega⟩, ⟨fun x y y0 yx x1 => ?_⟩, HX, HB⟩
                    by_cases e : x = c
                    · subst e; exact HA2.out y y0 (by omega)
                    · exact HA.out x y y0 yx (by omega)
            · go_wp2
              go_ret
              have hsol : solvesB t = true := solvesB_all fun x y y0 yx x9 => HA.out x y y0 yx (by have := HI.out; omega)
              exact ⟨by rw [HU.out, HS.out, hsol]; rfl, HB.out⟩
end Go.Proofs.Ytbfafjejmljcpaa.X
namespace Go.Proofs.Ytbfafjejmljcpaa.P
open Go.RowKit Go.Proofs.YtbfafjejmljcpaaW.PrintWords Go.Proofs.YtbfafjejmljcpaaW.PrintLast
def impl_isSystem.f (l0 : List Int) : Option Bool := some (X.sysB l0)
theorem impl_isSystem.calls (A0 : Option Addr) (c0 : Nat) (l0 : List Int) (r : Bool) (w : World) (hr0 : Kd.C (Kd.int .i64) w A0 l0.length l0) (hc0 : l0.length ≤ c0) (h : impl_isSystem.f l0 = some r) :
    Calls Try.prog 66 #[.slice A0 l0.length c0] w fun e w' => e = .returned (.bool r) ∧ Below w.heap.size w w' := by
  obtain rfl := Option.some.inj h
  exact X.isSystem_calls A0 c0 l0 w hr0
end Go.Proofs.Ytbfafjejmljcpaa.P

namespace Go.Proofs.Ytbfafjejmljcpaa.P
open Go.RowKit Go.Proofs.YtbfafjejmljcpaaW.PrintWords Go.Proofs.YtbfafjejmljcpaaW.PrintLast
set_option linter.unusedVariables false
set_option linter.unusedSimpArgs false

def impl_PlaneJoin.f (k : Nat) (l0 : List Int) (a1 : Int) (a2 : Int) : Option (Int × Bool) := (impl_isSystem.f l0).bind fun t882 => (if t882 = true then ((impl_isPoint.f a1).bind fun t883 => (if t883 = true then ((impl_isPoint.f a2).bind fun t884 => (if t884 = true then (if a1 = a2 then (some (0, false)) else ((impl_plane_join.f k l0 a1 a2).bind fun t885 => (some (t885, true)))) else (some (0, false)))) else (some (0, false)))) else (some (0, false)))
set_option maxHeartbeats 8000000 in
set_option maxRecDepth 100000 in
theorem impl_PlaneJoin.calls (k : Nat) (A0 : Option Addr) (c0 : Nat) (l0 : List Int) (a1 : Int) (a2 : Int) (r1 : Int) (r2 : Bool) (w : World) (hr0 : Kd.C (Kd.int .i64) w A0 l0.length l0) (hc0 : l0.length ≤ c0) (h : impl_PlaneJoin.f k l0 a1 a2 = some (r1, r2)) :
  Calls Try.prog 35 #[.slice A0 l0.length c0, .int .i64 a1, .int .i64 a2] w fun e w' => e = .returned (.tuple #[.int .i64 r1, .bool r2]) ∧ Below w.heap.size w w' := by
 have HR0 := Aside0.mk hr0
 have HC0 := Aside0.mk hc0
 clear hr0 hc0
 have HB := Aside0.mk (Below.refl w.heap.size w)
 have H : ((impl_isSystem.f l0).bind fun t882 => (if t882 = true then ((impl_isPoint.f a1).bind fun t883 => (if t883 = true then ((impl_isPoint.f a2).bind fun t884 => (if t884 = true then (if a1 = a2 then (some (0, false)) else ((impl_plane_join.f k l0 a1 a2).bind fun t885 => (some (t885, true)))) else (some (0, false)))) else (some (0, false)))) else (some (0, false)))) = some (r1, r2) := h
 clear h
 replace H := Option.bind_eq_some_iff.mp H
 obtain ⟨t882, A40, H⟩ := H
 replace H : (if t882 = true then ((impl_isPoint.f a1).bind fun t883 => (if t883 = true then ((impl_isPoint.f a2).bind fun t884 => (if t884 = true then (if a1 = a2 then (some (0, false)) else ((impl_plane_join.f k l0 a1 a2).bind fun t885 => (some (t885, true)))) else (some (0, false)))) else (some (0, false)))) else (some (0, false))) = some (r1, r2) := H
 have A4 := Aside0.mk A40
 clear A40
 by_cases c5 : t882 = true
 ·subst c5
  have H1 : ((impl_isPoint.f a1).bind fun t883 => (if t883 = true then ((impl_isPoint.f a2).bind fun t884 => (if t884 = true then (if a1 = a2 then (some (0, false)) else ((impl_plane_join.f k l0 a1 a2).bind fun t885 => (some (t885, true)))) else (some (0, false)))) else (some (0, false)))) = some (r1, r2) := by rw [if_pos rfl] at H; exact H
  clear H
  have H := H1
  clear H1
  replace H := Option.bind_eq_some_iff.mp H
  obtain ⟨t883, A60, H⟩ := H
  replace H : (if t883 = true then ((impl_isPoint.f a2).bind fun t884 => (if t884 = true then (if a1 = a2 then (some (0, false)) else ((impl_plane_join.f k l0 a1 a2).bind fun t885 => (some (t885, true)))) else (some (0, false)))) else (some (0, false))) = some (r1, r2) := H
  have A6 := Aside0.mk A60
  clear A60
  by_cases c7 : t883 = true
  ·subst c7
   have H1 : ((impl_isPoint.f a2).bind fun t884 => (if t884 = true then (if a1 = a2 then (some (0, false)) else ((impl_plane_join.f k l0 a1 a2).bind fun t885 => (some (t885, true)))) else (some (0, false)))) = some (r1, r2) := by rw [if_pos rfl] at H; exact H
   clear H
   have H := H1
   clear H1
   replace H := Option.bind_eq_some_iff.mp H
   obtain ⟨t884, A80, H⟩ := H
   replace H : (if t884 = true then (if a1 = a2 then (some (0, false)) else ((impl_plane_join.f k l0 a1 a2).bind fun t885 => (some (t885, true)))) else (some (0, false))) = some (r1, r2) := H
   have A8 := Aside0.mk A80
   clear A80
   by_cases c9 : t884 = true
   ·subst c9
    have H1 : (if a1 = a2 then (some (0, false)) else ((impl_plane_join.f k l0 a1 a2).bind fun t885 => (some (t885, true)))) = some (r1, r2) := by rw [if_pos rfl] at H; exact H
    clear H
    have H := H1
    clear H1
    by_cases c10 : a1 = a2
    ·rw [if_pos c10] at H
     have c10b0 : (a1 == a2) = true := beq_iff_eq.mpr c10
     have c10b1 : (a1 != a2) = false := bne_eq_false_iff_eq.mpr c10
     clear c10
     simp only [Option.some.injEq, Prod.mk.injEq] at H
     obtain ⟨rfl, rfl⟩ := H
     go_enter Try.func35, Try.ntmps35
     go_wp2_with (first | (refine goesL_ (some 9) rfl rfl Try.func66 (by kernel_rfl) rfl #[.slice A0 l0.length c0] rfl ll_ ?_; (with_reducible refine (impl_isSystem.calls _ _ l0 true _ ?side1 ?side2 A4.out).mono ?_); (case side1 => exact ss_ HR0); (case side2 => exact HC0.out); rintro e w11 ⟨rfl, hb⟩; refine ⟨_, rfl, ?_⟩; have n0_ := Aside0.mk (below_step (bb_ HB) hb); clear HB; have HB := n0_; clear n0_; (try clear hb); (try clear hb2); (try clear hk); (try clear hi)) | (go_at_call 70; (with_reducible refine (impl_isPoint.calls a1 true _ A6.out).mono ?_); rintro e w' ⟨rfl, ⟨nd, rfl⟩⟩) | (go_at_call 70; (with_reducible refine (impl_isPoint.calls a2 true _ A8.out).mono ?_); rintro e w' ⟨rfl, ⟨nd, rfl⟩⟩))
     go_ret2
     exact ⟨ee_, bb_ HB⟩
    ·rw [if_neg c10] at H
     have c10b0 : (a1 == a2) = false := beq_eq_false_iff_ne.mpr c10
     have c10b1 : (a1 != a2) = true := bne_iff_ne.mpr c10
     replace H := Option.bind_eq_some_iff.mp H
     obtain ⟨t885, A120, H⟩ := H
     replace H : (some (t885, true)) = some (r1, r2) := H
     have A12 := Aside0.mk A120
     clear A120
     simp only [Option.some.injEq, Prod.mk.injEq] at H
     obtain ⟨rfl, rfl⟩ := H
     go_enter Try.func35, Try.ntmps35
     go_wp2_with (first | (refine goesL_ (some 9) rfl rfl Try.func66 (by kernel_rfl) rfl #[.slice A0 l0.length c0] rfl ll_ ?_; (with_reducible refine (impl_isSystem.calls _ _ l0 true _ ?side1 ?side2 A4.out).mono ?_); (case side1 => exact ss_ HR0); (case side2 => exact HC0.out); rintro e w13 ⟨rfl, hb⟩; refine ⟨_, rfl, ?_⟩; have n0_ := Aside0.mk (below_step (bb_ HB) hb); clear HB; have HB := n0_; clear n0_; (try clear hb); (try clear hb2); (try clear hk); (try clear hi)) | (go_at_call 70; (with_reducible refine (impl_isPoint.calls a1 true _ A6.out).mono ?_); rintro e w' ⟨rfl, ⟨nd, rfl⟩⟩) | (go_at_call 70; (with_reducible refine (impl_isPoint.calls a2 true _ A8.out).mono ?_); rintro e w' ⟨rfl, ⟨nd, rfl⟩⟩) | (refine goesL_ (some 29) rfl rfl Try.func71 (by kernel_rfl) rfl #[.slice A0 l0.length c0, .int .i64 a1, .int .i64 a2] rfl ll_ ?_; (with_reducible refine (impl_plane_join.calls k _ _ l0 a1 a2 t885 _ ?side1 ?side2 A12.out).mono ?_); (case side1 => repeat (first | exact (Kd.C_below HR0.out (bb_ HB)) | (with_reducible refine Kd.C_alloc ?_ _) | (with_reducible refine Kd.C_drewN ?_ _) | (with_reducible refine Kd.C_drew ?_))); (case side2 => exact HC0.out); rintro e w' ⟨rfl, ⟨nd, rfl⟩⟩; refine ⟨_, rfl, ?_⟩))
     go_ret2
     exact ⟨ee_, bb_ HB⟩
   ·replace c9 := Bool.eq_false_iff.mpr c9
    subst c9
    have H1 : (some (0, false)) = some (r1, r2) := by rw [if_neg (show ¬ (false = true) by decide)] at H; exact H
    clear H
    have H := H1
    clear H1
    simp only [Option.some.injEq, Prod.mk.injEq] at H
    obtain ⟨rfl, rfl⟩ := H
    go_enter Try.func35, Try.ntmps35
    go_wp2_with (first | (refine goesL_ (some 9) rfl rfl Try.func66 (by kernel_rfl) rfl #[.slice A0 l0.length c0] rfl ll_ ?_; (with_reducible refine (impl_isSystem.calls _ _ l0 true _ ?side1 ?side2 A4.out).mono ?_); (case side1 => exact ss_ HR0); (case side2 => exact HC0.out); rintro e w14 ⟨rfl, hb⟩; refine ⟨_, rfl, ?_⟩; have n0_ := Aside0.mk (below_step (bb_ HB) hb); clear HB; have HB := n0_; clear n0_; (try clear hb); (try clear hb2); (try clear hk); (try clear hi)) | (go_at_call 70; (with_reducible refine (impl_isPoint.calls a1 true _ A6.out).mono ?_); rintro e w' ⟨rfl, ⟨nd, rfl⟩⟩) | (go_at_call 70; (with_reducible refine (impl_isPoint.calls a2 false _ A8.out).mono ?_); rintro e w' ⟨rfl, ⟨nd, rfl⟩⟩))
    go_ret2
    exact ⟨ee_, bb_ HB⟩
  ·replace c7 := Bool.eq_false_iff.mpr c7
   subst c7
   have H1 : (some (0, false)) = some (r1, r2) := by rw [if_neg (show ¬ (false = true) by decide)] at H; exact H
   clear H
   have H := H1
   clear H1
   simp only [Option.some.injEq, Prod.mk.injEq] at H
   obtain ⟨rfl, rfl⟩ := H
   go_enter Try.func35, Try.ntmps35
   go_wp2_with (first | (refine goesL_ (some 9) rfl rfl Try.func66 (by kernel_rfl) rfl #[.slice A0 l0.length c0] rfl ll_ ?_; (with_reducible refine (impl_isSystem.calls _ _ l0 true _ ?side1 ?side2 A4.out).mono ?_); (case side1 => exact ss_ HR0); (case side2 => exact HC0.out); rintro e w15 ⟨rfl, hb⟩; refine ⟨_, rfl, ?_⟩; have n0_ := Aside0.mk (below_step (bb_ HB) hb); clear HB; have HB := n0_; clear n0_; (try clear hb); (try clear hb2); (try clear hk); (try clear hi)) | (go_at_call 70; (with_reducible refine (impl_isPoint.calls a1 false _ A6.out).mono ?_); rintro e w' ⟨rfl, ⟨nd, rfl⟩⟩))
   go_ret2
   exact ⟨ee_, bb_ HB⟩
 ·replace c5 := Bool.eq_false_iff.mpr c5
  subst c5
  have H1 : (some (0, false)) = some (r1, r2) := by rw [if_neg (show ¬ (false = true) by decide)] at H; exact H
  clear H
  have H := H1
  clear H1
  simp only [Option.some.injEq, Prod.mk.injEq] at H
  obtain ⟨rfl, rfl⟩ := H
  go_enter Try.func35, Try.ntmps35
  go_wp2_with (first | (refine goesL_ (some 9) rfl rfl Try.func66 (by kernel_rfl) rfl #[.slice A0 l0.length c0] rfl ll_ ?_; (with_reducible refine (impl_isSystem.calls _ _ l0 false _ ?side1 ?side2 A4.out).mono ?_); (case side1 => exact ss_ HR0); (case side2 => exact HC0.out); rintro e w16 ⟨rfl, hb⟩; refine ⟨_, rfl, ?_⟩; have n0_ := Aside0.mk (below_step (bb_ HB) hb); clear HB; have HB := n0_; clear n0_; (try clear hb); (try clear hb2); (try clear hk); (try clear hi)))
  go_ret2
  exact ⟨ee_, bb_ HB⟩
end Go.Proofs.Ytbfafjejmljcpaa.P

namespace Go.Proofs.Ytbfafjejmljcpaa.P
open Go.RowKit Go.Proofs.YtbfafjejmljcpaaW.PrintWords Go.Proofs.YtbfafjejmljcpaaW.PrintLast
set_option linter.unusedVariables false
set_option linter.unusedSimpArgs false

def impl_PlaneOn.f (l0 : List Int) (a1 : Int) (a2 : Int) : Option (Bool) := (impl_isSystem.f l0).bind fun t886 => (if t886 = true then ((impl_isPoint.f a1).bind fun t887 => (if t887 = true then ((impl_isPoint.f a2).bind fun t888 => (if t888 = true then ((impl_plane_on.f l0 a1 a2).bind fun t889 => (some t889)) else (some false))) else (some false))) else (some false))
set_option maxHeartbeats 8000000 in
set_option maxRecDepth 100000 in
theorem impl_PlaneOn.calls (A0 : Option Addr) (c0 : Nat) (l0 : List Int) (a1 : Int) (a2 : Int) (r : Bool) (w : World) (hr0 : Kd.C (Kd.int .i64) w A0 l0.length l0) (hc0 : l0.length ≤ c0) (h : impl_PlaneOn.f l0 a1 a2 = some r) :
  Calls Try.prog 36 #[.slice A0 l0.length c0, .int .i64 a1, .int .i64 a2] w fun e w' => e = .returned (.bool r) ∧ Below w.heap.size w w' := by
 have HR0 := Aside0.mk hr0
 have HC0 := Aside0.mk hc0
 clear hr0 hc0
 have HB := Aside0.mk (Below.refl w.heap.size w)
 have H : ((impl_isSystem.f l0).bind fun t886 => (if t886 = true then ((impl_isPoint.f a1).bind fun t887 => (if t887 = true then ((impl_isPoint.f a2).bind fun t888 => (if t888 = true then ((impl_plane_on.f l0 a1 a2).bind fun t889 => (some t889)) else (some false))) else (some false))) else (some false))) = some r := h
 clear h
 replace H := Option.bind_eq_some_iff.mp H
 obtain ⟨t886, A40, H⟩ := H
 replace H : (if t886 = true then ((impl_isPoint.f a1).bind fun t887 => (if t887 = true then ((impl_isPoint.f a2).bind fun t888 => (if t888 = true then ((impl_plane_on.f l0 a1 a2).bind fun t889 => (some t889)) else (some false))) else (some false))) else (some false)) = some r := H
 have A4 := Aside0.mk A40
 clear A40
 by_cases c5 : t886 = true
 ·subst c5
  have H1 : ((impl_isPoint.f a1).bind fun t887 => (if t887 = true then ((impl_isPoint.f a2).bind fun t888 => (if t888 = true then ((impl_plane_on.f l0 a1 a2).bind fun t889 => (some t889)) else (some false))) else (some false))) = some r := by rw [if_pos rfl] at H; exact H
  clear H
  have H := H1
  clear H1
  replace H := Option.bind_eq_some_iff.mp H
  obtain ⟨t887, A60, H⟩ := H
  replace H : (if t887 = true then ((impl_isPoint.f a2).bind fun t888 => (if t888 = true then ((impl_plane_on.f l0 a1 a2).bind fun t889 => (some t889)) else (some false))) else (some false)) = some r := H
  have A6 := Aside0.mk A60
  clear A60
  by_cases c7 : t887 = true
  ·subst c7
   have H1 : ((impl_isPoint.f a2).bind fun t888 => (if t888 = true then ((impl_plane_on.f l0 a1 a2).bind fun t889 => (some t889)) else (some false))) = some r := by rw [if_pos rfl] at H; exact H
   clear H
   have H := H1
   clear H1
   replace H := Option.bind_eq_some_iff.mp H
   obtain ⟨t888, A80, H⟩ := H
   replace H : (if t888 = true then ((impl_plane_on.f l0 a1 a2).bind fun t889 => (some t889)) else (some false)) = some r := H
   have A8 := Aside0.mk A80
   clear A80
   by_cases c9 : t888 = true
   ·subst c9
    have H1 : ((impl_plane_on.f l0 a1 a2).bind fun t889 => (some t889)) = some r := by rw [if_pos rfl] at H; exact H
    clear H
    have H := H1
    clear H1
    replace H := Option.bind_eq_some_iff.mp H
    obtain ⟨t889, A100, H⟩ := H
    replace H : (some t889) = some r := H
    have A10 := Aside0.mk A100
    clear A100
    obtain rfl := Option.some.inj H
    go_enter Try.func36, Try.ntmps36
    go_wp2_with (first | (refine goesL_ (some 8) rfl rfl Try.func66 (by kernel_rfl) rfl #[.slice A0 l0.length c0] rfl ll_ ?_; (with_reducible refine (impl_isSystem.calls _ _ l0 true _ ?side1 ?side2 A4.out).mono ?_); (case side1 => exact ss_ HR0); (case side2 => exact HC0.out); rintro e w11 ⟨rfl, hb⟩; refine ⟨_, rfl, ?_⟩; have n0_ := Aside0.mk (below_step (bb_ HB) hb); clear HB; have HB := n0_; clear n0_; (try clear hb); (try clear hb2); (try clear hk); (try clear hi)) | (go_at_call 70; (with_reducible refine (impl_isPoint.calls a1 true _ A6.out).mono ?_); rintro e w' ⟨rfl, ⟨nd, rfl⟩⟩) | (go_at_call 70; (with_reducible refine (impl_isPoint.calls a2 true _ A8.out).mono ?_); rintro e w' ⟨rfl, ⟨nd, rfl⟩⟩) | (go_at_call 72; (with_reducible refine (impl_plane_on.calls _ _ l0 a1 a2 t889 _ ?side1 ?side2 A10.out).mono ?_); (case side1 => repeat (first | exact (Kd.C_below HR0.out (bb_ HB)) | (with_reducible refine Kd.C_alloc ?_ _) | (with_reducible refine Kd.C_drewN ?_ _) | (with_reducible refine Kd.C_drew ?_))); (case side2 => exact HC0.out); rintro e w' ⟨rfl, ⟨nd, rfl⟩⟩))
    go_ret
    exact ⟨ee_, bb_ HB⟩
   ·replace c9 := Bool.eq_false_iff.mpr c9
    subst c9
    have H1 : (some false) = some r := by rw [if_neg (show ¬ (false = true) by decide)] at H; exact H
    clear H
    have H := H1
    clear H1
    obtain rfl := Option.some.inj H
    go_enter Try.func36, Try.ntmps36
    go_wp2_with (first | (refine goesL_ (some 8) rfl rfl Try.func66 (by kernel_rfl) rfl #[.slice A0 l0.length c0] rfl ll_ ?_; (with_reducible refine (impl_isSystem.calls _ _ l0 true _ ?side1 ?side2 A4.out).mono ?_); (case side1 => exact ss_ HR0); (case side2 => exact HC0.out); rintro e w12 ⟨rfl, hb⟩; refine ⟨_, rfl, ?_⟩; have n0_ := Aside0.mk (below_step (bb_ HB) hb); clear HB; have HB := n0_; clear n0_; (try clear hb); (try clear hb2); (try clear hk); (try clear hi)) | (go_at_call 70; (with_reducible refine (impl_isPoint.calls a1 true _ A6.out).mono ?_); rintro e w' ⟨rfl, ⟨nd, rfl⟩⟩) | (go_at_call 70; (with_reducible refine (impl_isPoint.calls a2 false _ A8.out).mono ?_); rintro e w' ⟨rfl, ⟨nd, rfl⟩⟩))
    go_ret
    exact ⟨ee_, bb_ HB⟩
  ·replace c7 := Bool.eq_false_iff.mpr c7
   subst c7
   have H1 : (some false) = some r := by rw [if_neg (show ¬ (false = true) by decide)] at H; exact H
   clear H
   have H := H1
   clear H1
   obtain rfl := Option.some.inj H
   go_enter Try.func36, Try.ntmps36
   go_wp2_with (first | (refine goesL_ (some 8) rfl rfl Try.func66 (by kernel_rfl) rfl #[.slice A0 l0.length c0] rfl ll_ ?_; (with_reducible refine (impl_isSystem.calls _ _ l0 true _ ?side1 ?side2 A4.out).mono ?_); (case side1 => exact ss_ HR0); (case side2 => exact HC0.out); rintro e w13 ⟨rfl, hb⟩; refine ⟨_, rfl, ?_⟩; have n0_ := Aside0.mk (below_step (bb_ HB) hb); clear HB; have HB := n0_; clear n0_; (try clear hb); (try clear hb2); (try clear hk); (try clear hi)) | (go_at_call 70; (with_reducible refine (impl_isPoint.calls a1 false _ A6.out).mono ?_); rintro e w' ⟨rfl, ⟨nd, rfl⟩⟩))
   go_ret
   exact ⟨ee_, bb_ HB⟩
 ·replace c5 := Bool.eq_false_iff.mpr c5
  subst c5
  have H1 : (some false) = some r := by rw [if_neg (show ¬ (false = true) by decide)] at H; exact H
  clear H
  have H := H1
  clear H1
  obtain rfl := Option.some.inj H
  go_enter Try.func36, Try.ntmps36
  go_wp2_with (first | (refine goesL_ (some 8) rfl rfl Try.func66 (by kernel_rfl) rfl #[.slice A0 l0.length c0] rfl ll_ ?_; (with_reducible refine (impl_isSystem.calls _ _ l0 false _ ?side1 ?side2 A4.out).mono ?_); (case side1 => exact ss_ HR0); (case side2 => exact HC0.out); rintro e w14 ⟨rfl, hb⟩; refine ⟨_, rfl, ?_⟩; have n0_ := Aside0.mk (below_step (bb_ HB) hb); clear HB; have HB := n0_; clear n0_; (try clear hb); (try clear hb2); (try clear hk); (try clear hi)))
  go_ret
  exact ⟨ee_, bb_ HB⟩
end Go.Proofs.Ytbfafjejmljcpaa.P

namespace Go.Proofs.Ytbfafjejmljcpaa.P
open Go.RowKit Go.Proofs.YtbfafjejmljcpaaW.PrintWords Go.Proofs.YtbfafjejmljcpaaW.PrintLast
set_option linter.unusedVariables false
set_option linter.unusedSimpArgs false

def laws_toIntS.l0 : Nat → List Int → List Int → Int → Option (List Int)
 | 0, _, _, _ => none
 | k + 1, x0, x3, x4 => if x4 < (x0.length : Int) then (if 0 ≤ x4 then (if x4 < (x3.length : Int) then (laws_toIntS.l0 k x0 (x3.set (x4 : Int).toNat (rd x0 x4)) (wrap64 (x4 + 1))) else (none)) else (none)) else (some x3)
def laws_toIntS.f (k : Nat) (l0 : List Int) : Option (List Int) := if 0 ≤ (l0.length : Int) then (if ((l0.length : Int) : Int).toNat ≤ 35184372088832 then (laws_toIntS.l0 k l0 (List.replicate ((l0.length : Int) : Int).toNat 0) 0) else (none)) else (none)
set_option maxHeartbeats 8000000 in
set_option maxRecDepth 100000 in
theorem laws_toIntS.calls (k : Nat) (A0 : Option Addr) (c0 : Nat) (l0 : List Int) (r : List Int) (w : World) (hr0 : Kd.C (Kd.int .i64) w A0 l0.length l0) (hc0 : l0.length ≤ c0) (h : laws_toIntS.f k l0 = some r) :
  Calls Try.prog 27 #[.slice A0 l0.length c0] w fun e w' => ∃ v0_ : Value, e = .returned (v0_) ∧ Kd.R (Kd.int .i64) 3 w' w.heap.size (fun _ => True) v0_ r ∧ Below w.heap.size w w' := by
 have HR0 := Aside0.mk hr0
 have HC0 := Aside0.mk hc0
 clear hr0 hc0
 have HB := Aside0.mk (Below.refl w.heap.size w)
 have H : (if 0 ≤ (l0.length : Int) then (if ((l0.length : Int) : Int).toNat ≤ 35184372088832 then (laws_toIntS.l0 k l0 (List.replicate ((l0.length : Int) : Int).toNat 0) 0) else (none)) else (none)) = some r := h
 clear h
 by_cases c2 : 0 ≤ (l0.length : Int)
 ·rw [if_pos c2] at H
  have c2b0 := eq_true c2
  have c2b1 : decide (0 ≤ (l0.length : Int)) = true := decide_eq_true c2
  clear c2
  by_cases c3 : ((l0.length : Int) : Int).toNat ≤ 35184372088832
  ·rw [if_pos c3] at H
   have c3b0 := eq_true c3
   have c3b1 : decide (((l0.length : Int) : Int).toNat ≤ 35184372088832) = true := decide_eq_true c3
   clear c3
   obtain ⟨y834, hy834⟩ : ∃ y_ : List Int, y_ = (List.replicate ((l0.length : Int) : Int).toNat 0) := ⟨_, rfl⟩
   replace H : (laws_toIntS.l0 k l0 y834 0) = some r := by first | (rw [hy834]; with_reducible exact H) | (have H2_ := (Option.bind_some _ _).symm.trans H; rw [hy834]; with_reducible exact H2_) | (have H2_ := (Option.bind_some _ _).symm.trans H; with_reducible exact H2_) | with_reducible exact H | (rw [hy834]; exact H) | exact H
   have Ny834 := Aside0.mk hy834
   clear hy834
   have H' := Aside0.mk H
   clear H
   go_enter Try.func27, Try.ntmps27
   go_wp2_with (first | ((with_reducible refine gate_dst (N := 7) rfl ?_); refine Kd.R_make (Kd.int .i64) _ 3 rfl (N := 7) rfl 23 _ _ rfl (l0.length : Int) rfl rfl Try.underlying23 (.int .i64 0) 8 info3 rfl (by decide) (by omega) 0 (ok := fun _ => True) (okp := fun _ => True) rfl (fun _ hk => hk) trivial (dd_) (Nat.le_trans (Nat.mul_le_mul_right _ (dd_ : (l0.length : Int).toNat ≤ 35184372088832)) (by omega)) (Below.refl _ _) (Nat.le_refl _) ?_; intro v835 w4 ho5 hb hg_ hnew_; clear hg_ hnew_; (first | rw [← Ny834.out] at ho5 | (simp only [Int.reduceToNat] at ho5; rw [← Ny834.out] at ho5)); have n0_ := Aside0.mk (Kd.R_lower ho5 (below_size (bb_ HB))); have n1_ := Aside0.mk (below_step (bb_ HB) hb); clear HB; have HO836 := n0_; have HB := n1_; clear n0_ n1_; clear hb ho5))
   go_loopg [4] k (fun kq v4 w' => ∃ (x3_1 : List Int) (x4_1 : Int), v4 = .int .i64 x4_1 ∧ Aside0 (laws_toIntS.l0 kq l0 x3_1 x4_1 = some r) ∧ Aside0 (kq ≤ k) ∧ Aside0 (Kd.R (Kd.int .i64) 3 w' w.heap.size (fun _ => True) v835 x3_1) ∧ Aside0 (Below w.heap.size w w'))
   case atStart => exact ⟨(y834), (0), (by first | rfl | (simp; done) | (simp [*]; done)), H', ⟨Nat.le_refl _⟩, ⟨rr_ HO836⟩, ⟨by repeat (first | (with_reducible first | exact HB.out | apply below_alloc | apply pw_below_drewN | apply below_drew1) | exact HB.out)⟩⟩
   case round =>
    clear H'
    try clear c2
    try clear c2b0
    try clear c2b1
    try clear p2
    try clear c3
    try clear c3b0
    try clear c3b1
    obtain ⟨x3_1, x4_1, rfl, HA, HK1, HO_3, HB⟩ := hrel
    cases gk with
    | zero => exact absurd HA.out (by simp [laws_toIntS.l0])
    | succ k1 =>
     have H := HA.out
     clear HA
     simp only [laws_toIntS.l0] at H
     by_cases c6 : x4_1 < (l0.length : Int)
     ·rw [if_pos c6] at H
      have c6b0 : decide (x4_1 < (l0.length : Int)) = true := decide_eq_true c6
      clear c6
      by_cases c7 : 0 ≤ x4_1
      ·rw [if_pos c7] at H
       have c7b0 : decide (0 ≤ x4_1) = true := decide_eq_true c7
       clear c7
       by_cases c8 : x4_1 < (x3_1.length : Int)
       ·rw [if_pos c8] at H
        have c8b0 : decide (x4_1 < (x3_1.length : Int)) = true := decide_eq_true c8
        clear c8
        obtain ⟨y838, hy838⟩ : ∃ y_ : List Int, y_ = (x3_1.set (x4_1 : Int).toNat (rd l0 x4_1)) := ⟨_, rfl⟩
        replace H : (laws_toIntS.l0 k1 l0 y838 (wrap64 (x4_1 + 1))) = some r := by first | (rw [hy838]; with_reducible exact H) | (have H2_ := (Option.bind_some _ _).symm.trans H; rw [hy838]; with_reducible exact H2_) | (have H2_ := (Option.bind_some _ _).symm.trans H; with_reducible exact H2_) | with_reducible exact H | (rw [hy838]; exact H) | exact H
        have Ny838 := Aside0.mk hy838
        clear hy838
        have H' := Aside0.mk H
        clear H
        have p837 : 0 ≤ (x4_1 : Int) := dd_
        have q837 : x4_1 < (l0.length : Int) := dd_
        obtain ⟨ad837, e837, hx837_0⟩ := Kd.at_int HR0.out x4_1 p837 q837
        cases e837
        replace hx837_0 := hc_ HB hx837_0
        replace p837 := eq_true p837
        replace q837 := eq_true q837
        have p9 : 0 ≤ (x4_1 : Int) := dd_
        have q9 : (x4_1 : Int) < ((x3_1.length : Int) : Int) := dd_
        obtain ⟨go9, co9, eo9, gb9, gl9, cl9, HG9⟩ := Kd.R_form HO_3.out (by omega)
        (first | cases eo9 | (injection eo9 with ea_ en_ ec_; (first | subst ea_ | (injection ea_ with ea_; subst ea_)); subst ec_; clear en_))
        have GB9 := Aside0.mk gb9
        have GG9 := Aside0.mk HG9
        clear gb9 gl9 HG9
        obtain ⟨hx9_0, hf9_0⟩ := Kd.R_celln 0 HO_3.out (x4_1 : Int) p9 q9
        replace p9 := eq_true p9
        replace q9 := eq_true q9
        have HP10 := Kd.R_putg HO_3.out (x4_1 : Int) (rd l0 x4_1)
        go_wp2_with (first | ((with_reducible refine gate_store (t := 3) (p := 20) rfl ?_); refine store_event (t := 3) (p := 20) (v := ?vo_w11) (w1 := (wr.setCell ⟨go9, (x4_1 : Int).toNat, none⟩ (.int .i64 (rd l0 x4_1)))) ?hg ?ho ?hn ?hr ?_; (case ho => rfl); (case hg => rfl); (case hn => rfl); (case hr => first | (go_simp; done) | (go_simp; rfl)); intro w11 hw; have hg : wr.grownBy w11 (some go9) := (by rw [hw]; exact HP10.2); have hp_ : Kd.R (Kd.int .i64) 3 w11 w.heap.size (fun _ => True) (.slice (some ⟨go9, 0, none⟩) x3_1.length co9) y838 := (by rw [hw, Ny838.out]; exact HP10.1); clear HP10; have n0_ := Aside0.mk (hp_); have n1_ := Aside0.mk ((by rw [hw]; exact below_set (HB.out) GB9.out : Below w.heap.size w w11)); clear HO_3; clear HB; have HO_3 := n0_; have HB := n1_; clear n0_ n1_; clear hg hw hp_))
        go_roundg k1
        case measure => have := HK1.out; omega
        case rel => exact ⟨(y838), (wrap64 (x4_1 + 1)), (by first | rfl | (simp; done) | (simp [*]; done)), H', ⟨by have := HK1.out; omega⟩, ⟨rr_ HO_3⟩, ⟨by repeat (first | (with_reducible first | exact HB.out | apply below_alloc | apply pw_below_drewN | apply below_drew1) | exact HB.out)⟩⟩
       ·rw [if_neg c8] at H
        exact absurd H (by simp)
      ·rw [if_neg c7] at H
       exact absurd H (by simp)
     ·rw [if_neg c6] at H
      have c6b0 : decide (x4_1 < (l0.length : Int)) = false := decide_eq_false c6
      clear c6
      obtain rfl := Option.some.inj H
      go_wp2
      go_ret
      exact ⟨_, ee_, by (with_reducible repeat (first | apply Kd.R_alloc | apply Kd.R_drewN | apply Kd.R_drew)); exact HO_3.out, bb_ HB⟩
  ·rw [if_neg c3] at H
   exact absurd H (by simp)
 ·rw [if_neg c2] at H
  exact absurd H (by simp)
end Go.Proofs.Ytbfafjejmljcpaa.P

namespace Go.Proofs.Ytbfafjejmljcpaa.P
open Go.RowKit Go.Proofs.YtbfafjejmljcpaaW.PrintWords Go.Proofs.YtbfafjejmljcpaaW.PrintLast
set_option linter.unusedVariables false
set_option linter.unusedSimpArgs false

def laws_eqIntS.l0 : Nat → List Int → List Int → Int → Option (Bool)
 | 0, _, _, _ => none
 | k + 1, x0, x1, x5 => if x5 < (x0.length : Int) then (if 0 ≤ x5 then (if x5 < (x1.length : Int) then (if (rd x0 x5) = (rd x1 x5) then (laws_eqIntS.l0 k x0 x1 (wrap64 (x5 + 1))) else (some false)) else (none)) else (none)) else (some true)
def laws_eqIntS.f (k : Nat) (l0 : List Int) (l1 : List Int) : Option (Bool) := if (l0.length : Int) = (l1.length : Int) then (laws_eqIntS.l0 k l0 l1 0) else (some false)
set_option maxHeartbeats 8000000 in
set_option maxRecDepth 100000 in
theorem laws_eqIntS.calls (k : Nat) (A0 : Option Addr) (c0 : Nat) (l0 : List Int) (A1 : Option Addr) (c1 : Nat) (l1 : List Int) (r : Bool) (w : World) (hr0 : Kd.C (Kd.int .i64) w A0 l0.length l0) (hc0 : l0.length ≤ c0) (hr1 : Kd.C (Kd.int .i64) w A1 l1.length l1) (hc1 : l1.length ≤ c1) (h : laws_eqIntS.f k l0 l1 = some r) :
  Calls Try.prog 30 #[.slice A0 l0.length c0, .slice A1 l1.length c1] w fun e w' => e = .returned (.bool r) ∧ Drawn0 w w' := by
 have HR0 := Aside0.mk hr0
 have HC0 := Aside0.mk hc0
 clear hr0 hc0
 have HR1 := Aside0.mk hr1
 have HC1 := Aside0.mk hc1
 clear hr1 hc1
 have H : (if (l0.length : Int) = (l1.length : Int) then (laws_eqIntS.l0 k l0 l1 0) else (some false)) = some r := h
 clear h
 by_cases c3 : (l0.length : Int) = (l1.length : Int)
 ·rw [if_pos c3] at H
  have c3b0 : ((l0.length : Int) == (l1.length : Int)) = true := beq_iff_eq.mpr c3
  have c3b1 : ((l0.length : Int) != (l1.length : Int)) = false := bne_eq_false_iff_eq.mpr c3
  have c3b2 : (l0.length == l1.length) = true := by first | simpa using c3 | (simp at c3 ⊢; omega)
  clear c3
  have H' := Aside0.mk H
  clear H
  go_enter Try.func30, Try.ntmps30
  go_wp2
  repeat (go_quiet (fail); try go_wp2)
  go_loopg [5] k (fun kq v5 w' => ∃ (x5_1 : Int), v5 = .int .i64 x5_1 ∧ Aside0 (laws_eqIntS.l0 kq l0 l1 x5_1 = some r) ∧ Aside0 (kq ≤ k) ∧ Drawn0 w w')
  case atStart => exact ⟨(0), (by first | rfl | (simp; done) | (simp [*]; done)), H', ⟨Nat.le_refl _⟩, by repeat (first | exact Drawn0.refl _ | apply Drawn0.step)⟩
  case round =>
   clear H'
   try clear c1
   try clear p2
   try clear c3
   try clear c3b0
   try clear c3b1
   try clear c3b2
   obtain ⟨x5_1, rfl, HA, HK1, ⟨m1, rfl⟩⟩ := hrel
   cases gk with
   | zero => exact absurd HA.out (by simp [laws_eqIntS.l0])
   | succ k1 =>
    have H := HA.out
    clear HA
    simp only [laws_eqIntS.l0] at H
    by_cases c4 : x5_1 < (l0.length : Int)
    ·rw [if_pos c4] at H
     have c4b0 : decide (x5_1 < (l0.length : Int)) = true := decide_eq_true c4
     clear c4
     by_cases c5 : 0 ≤ x5_1
     ·rw [if_pos c5] at H
      have c5b0 : decide (0 ≤ x5_1) = true := decide_eq_true c5
      clear c5
      by_cases c6 : x5_1 < (l1.length : Int)
      ·rw [if_pos c6] at H
       have c6b0 : decide (x5_1 < (l1.length : Int)) = true := decide_eq_true c6
       clear c6
       by_cases c7 : (rd l0 x5_1) = (rd l1 x5_1)
       ·rw [if_pos c7] at H
        have c7b0 : ((rd l0 x5_1) == (rd l1 x5_1)) = true := beq_iff_eq.mpr c7
        have c7b1 : ((rd l0 x5_1) != (rd l1 x5_1)) = false := bne_eq_false_iff_eq.mpr c7
        clear c7
        have H' := Aside0.mk H
        clear H
        have p843 : 0 ≤ (x5_1 : Int) := dd_
        have q843 : x5_1 < (l0.length : Int) := dd_
        obtain ⟨ad843, e843, hx843_0⟩ := Kd.at_int HR0.out x5_1 p843 q843
        cases e843
        replace p843 := eq_true p843
        replace q843 := eq_true q843
        have p844 : 0 ≤ (x5_1 : Int) := dd_
        have q844 : x5_1 < (l1.length : Int) := dd_
        obtain ⟨ad844, e844, hx844_0⟩ := Kd.at_int HR1.out x5_1 p844 q844
        cases e844
        replace p844 := eq_true p844
        replace q844 := eq_true q844
        go_wp2
        repeat (go_quiet (fail); try go_wp2)
        go_roundg k1
        case measure => have := HK1.out; omega
        case rel => exact ⟨(wrap64 (x5_1 + 1)), (by first | rfl | (simp; done) | (simp [*]; done)), H', ⟨by have := HK1.out; omega⟩, by repeat (first | exact Drawn0.refl _ | apply Drawn0.step)⟩
       ·rw [if_neg c7] at H
        have c7b0 : ((rd l0 x5_1) == (rd l1 x5_1)) = false := beq_eq_false_iff_ne.mpr c7
        have c7b1 : ((rd l0 x5_1) != (rd l1 x5_1)) = true := bne_iff_ne.mpr c7
        obtain rfl := Option.some.inj H
        have p843 : 0 ≤ (x5_1 : Int) := dd_
        have q843 : x5_1 < (l0.length : Int) := dd_
        obtain ⟨ad843, e843, hx843_0⟩ := Kd.at_int HR0.out x5_1 p843 q843
        cases e843
        replace p843 := eq_true p843
        replace q843 := eq_true q843
        have p844 : 0 ≤ (x5_1 : Int) := dd_
        have q844 : x5_1 < (l1.length : Int) := dd_
        obtain ⟨ad844, e844, hx844_0⟩ := Kd.at_int HR1.out x5_1 p844 q844
        cases e844
        replace p844 := eq_true p844
        replace q844 := eq_true q844
        go_wp2
        repeat (go_quiet (fail); try go_wp2)
        go_ret
        exact ⟨by first | rfl | (simp; done) | (simp [*]; done), by repeat (first | exact Drawn0.refl _ | apply Drawn0.step)⟩
      ·rw [if_neg c6] at H
       exact absurd H (by simp)
     ·rw [if_neg c5] at H
      exact absurd H (by simp)
    ·rw [if_neg c4] at H
     have c4b0 : decide (x5_1 < (l0.length : Int)) = false := decide_eq_false c4
     clear c4
     obtain rfl := Option.some.inj H
     go_wp2
     repeat (go_quiet (fail); try go_wp2)
     go_ret
     exact ⟨by first | rfl | (simp; done) | (simp [*]; done), by repeat (first | exact Drawn0.refl _ | apply Drawn0.step)⟩
 ·rw [if_neg c3] at H
  have c3b0 : ((l0.length : Int) == (l1.length : Int)) = false := beq_eq_false_iff_ne.mpr c3
  have c3b1 : ((l0.length : Int) != (l1.length : Int)) = true := bne_iff_ne.mpr c3
  have c3b2 : (l0.length == l1.length) = false := by first | simpa using c3 | (simp at c3 ⊢; omega)
  obtain rfl := Option.some.inj H
  go_enter Try.func30, Try.ntmps30
  go_wp2
  repeat (go_quiet (fail); try go_wp2)
  go_ret
  exact ⟨by first | rfl | (simp; done) | (simp [*]; done), by repeat (first | exact Drawn0.refl _ | apply Drawn0.step)⟩
end Go.Proofs.Ytbfafjejmljcpaa.P

namespace Go.Proofs.Ytbfafjejmljcpaa.P
open Go.RowKit Go.Proofs.YtbfafjejmljcpaaW.PrintWords Go.Proofs.YtbfafjejmljcpaaW.PrintLast
set_option linter.unusedVariables false
set_option linter.unusedSimpArgs false

def laws_markIntS.l0 : Nat → List Int → Int → Int → Option (Int × List Int)
 | 0, _, _, _ => none
 | k + 1, x0, x1, x5 => if x5 < (x0.length : Int) then (if 0 ≤ x5 then (laws_markIntS.l0 k (x0.set (x5 : Int).toNat x1) (wrap64 (x1 + 1)) (wrap64 (x5 + 1))) else (none)) else (some (x1, x0))
def laws_markIntS.f (k : Nat) (l0 : List Int) (a1 : Int) : Option (Int × List Int) := laws_markIntS.l0 k l0 a1 0
set_option maxHeartbeats 8000000 in
set_option maxRecDepth 100000 in
theorem laws_markIntS.calls (k : Nat) (P0_ : Nat → Prop) (u9000_ : Value) (l0 : List Int) (a1 : Int) (r1 : Int) (r2 : List Int) (w0 w : World) (hB : Below w0.heap.size w0 w) (ho0 : Kd.R (Kd.int .i64) 3 w w0.heap.size P0_ u9000_ l0) (h : laws_markIntS.f k l0 a1 = some (r1, r2)) :
  Calls Try.prog 31 #[u9000_, .int .i64 a1] w fun e w' => e = .returned (.int .i64 r1) ∧ Kd.R (Kd.int .i64) 3 w' w0.heap.size (fun k_ => (P0_ k_ ∨ w.heap.size ≤ k_)) u9000_ r2 ∧ Below w0.heap.size w0 w' ∧ Kept w w' (fun k_ => P0_ k_) := by
 have HO0 := Aside0.mk (show Kd.R (Kd.int .i64) 3 w w0.heap.size (fun k_ => (P0_ k_ ∨ w.heap.size ≤ k_)) u9000_ l0 from Kd.R_mono ho0 (fun k_ hk => (.inl hk)))
 have HK := Aside0.mk (Kept.refl w (fun k_ => P0_ k_))
 have HW0 := Aside0.mk hB.size
 have HB := Aside0.mk hB
 clear hB
 have H : (laws_markIntS.l0 k l0 a1 0) = some (r1, r2) := h
 clear h
 have H' := Aside0.mk H
 clear H
 go_enter Try.func31, Try.ntmps31
 go_wp2
 go_loopg [1, 5] k (fun kq v1 v5 w' => ∃ (x0_1 : List Int) (x1_1 : Int) (x5_1 : Int), v1 = .int .i64 x1_1 ∧ v5 = .int .i64 x5_1 ∧ Aside0 (laws_markIntS.l0 kq x0_1 x1_1 x5_1 = some (r1, r2)) ∧ Aside0 (kq ≤ k) ∧ Aside0 (Kd.R (Kd.int .i64) 3 w' w0.heap.size (fun k_ => (P0_ k_ ∨ w.heap.size ≤ k_)) u9000_ x0_1) ∧ Aside0 (Kept w w' (fun k_ => P0_ k_)) ∧ Aside0 (Below w0.heap.size w0 w'))
 case atStart => exact ⟨(l0), (a1), (0), (by first | rfl | (simp; done) | (simp [*]; done)), (by first | rfl | (simp; done) | (simp [*]; done)), H', ⟨Nat.le_refl _⟩, ⟨rr_ HO0⟩, ⟨by repeat (first | (with_reducible first | exact HK.out | apply Kept.alloc | apply Kept.drewN | apply Kept.drew) | exact HK.out)⟩, ⟨by repeat (first | (with_reducible first | exact HB.out | apply below_alloc | apply pw_below_drewN | apply below_drew1) | exact HB.out)⟩⟩
 case round =>
  clear H'
  try clear p2
  obtain ⟨x0_1, x1_1, x5_1, rfl, rfl, HA, HK1, HO_0, HK, HB⟩ := hrel
  cases gk with
  | zero => exact absurd HA.out (by simp [laws_markIntS.l0])
  | succ k1 =>
   have H := HA.out
   clear HA
   simp only [laws_markIntS.l0] at H
   by_cases c3 : x5_1 < (x0_1.length : Int)
   ·rw [if_pos c3] at H
    have c3b0 : decide (x5_1 < (x0_1.length : Int)) = true := decide_eq_true c3
    clear c3
    by_cases c4 : 0 ≤ x5_1
    ·rw [if_pos c4] at H
     have c4b0 : decide (0 ≤ x5_1) = true := decide_eq_true c4
     clear c4
     obtain ⟨y848, hy848⟩ : ∃ y_ : List Int, y_ = (x0_1.set (x5_1 : Int).toNat x1_1) := ⟨_, rfl⟩
     replace H : (laws_markIntS.l0 k1 y848 (wrap64 (x1_1 + 1)) (wrap64 (x5_1 + 1))) = some (r1, r2) := by first | (rw [hy848]; with_reducible exact H) | (have H2_ := (Option.bind_some _ _).symm.trans H; rw [hy848]; with_reducible exact H2_) | (have H2_ := (Option.bind_some _ _).symm.trans H; with_reducible exact H2_) | with_reducible exact H | (rw [hy848]; exact H) | exact H
     have Ny848 := Aside0.mk hy848
     clear hy848
     have H' := Aside0.mk H
     clear H
     obtain ⟨Ao6, co6, eo6⟩ := Kd.R_slice HO_0.out
     subst eo6
     have p5 : 0 ≤ (x5_1 : Int) := dd_
     have q5 : (x5_1 : Int) < ((x0_1.length : Int) : Int) := dd_
     obtain ⟨go5, co5, eo5, gb5, gl5, cl5, HG5⟩ := Kd.R_form HO_0.out (by omega)
     (first | cases eo5 | (injection eo5 with ea_ en_ ec_; (first | subst ea_ | (injection ea_ with ea_; subst ea_)); subst ec_; clear en_))
     have GB5 := Aside0.mk gb5
     have GG5 := Aside0.mk HG5
     clear gb5 gl5 HG5
     have HMgo5 := Aside0.mk (show (P0_ go5 ∨ w.heap.size ≤ go5) from (HO_0.out.1 _ rfl))
     obtain ⟨hx5_0, hf5_0⟩ := Kd.R_celln 0 HO_0.out (x5_1 : Int) p5 q5
     replace p5 := eq_true p5
     replace q5 := eq_true q5
     have HP7 := Kd.R_putg HO_0.out (x5_1 : Int) x1_1
     go_wp2_with (first | ((with_reducible refine gate_store (t := 3) (p := 15) rfl ?_); refine store_event (t := 3) (p := 15) (v := ?vo_w8) (w1 := (wr.setCell ⟨go5, (x5_1 : Int).toNat, none⟩ (.int .i64 x1_1))) ?hg ?ho ?hn ?hr ?_; (case ho => rfl); (case hg => rfl); (case hn => rfl); (case hr => first | (go_simp; done) | (go_simp; rfl)); intro w8 hw; have hg : wr.grownBy w8 (some go5) := (by rw [hw]; exact HP7.2); have hp_ : Kd.R (Kd.int .i64) 3 w8 w0.heap.size (fun k_ => (P0_ k_ ∨ w.heap.size ≤ k_)) (.slice (some ⟨go5, 0, none⟩) x0_1.length co6) y848 := (by rw [hw, Ny848.out]; exact HP7.1); clear HP7; have n0_ := Aside0.mk (hp_); have n1_ := Aside0.mk ((by rw [hw]; exact below_set (HB.out) GB5.out : Below w0.heap.size w0 w8)); have n2_ := Aside0.mk (Kept.of_grown (S := (fun k_ => P0_ k_)) hg (by repeat (first | (with_reducible first | exact HK.out | apply Kept.alloc | apply Kept.drewN | apply Kept.drew) | exact HK.out)) (fun k_ e_ => (HO_0.out.1 k_ e_))); clear HO_0; clear HB; clear HK; have HO_0 := n0_; have HB := n1_; have HK := n2_; clear n0_ n1_ n2_; clear hg hw hp_))
     go_roundg k1
     case measure => have := HK1.out; omega
     case rel => exact ⟨(y848), (wrap64 (x1_1 + 1)), (wrap64 (x5_1 + 1)), (by first | rfl | (simp; done) | (simp [*]; done)), (by first | rfl | (simp; done) | (simp [*]; done)), H', ⟨by have := HK1.out; omega⟩, ⟨rr_ HO_0⟩, ⟨by repeat (first | (with_reducible first | exact HK.out | apply Kept.alloc | apply Kept.drewN | apply Kept.drew) | exact HK.out)⟩, ⟨by repeat (first | (with_reducible first | exact HB.out | apply below_alloc | apply pw_below_drewN | apply below_drew1) | exact HB.out)⟩⟩
    ·rw [if_neg c4] at H
     exact absurd H (by simp)
   ·rw [if_neg c3] at H
    have c3b0 : decide (x5_1 < (x0_1.length : Int)) = false := decide_eq_false c3
    clear c3
    simp only [Option.some.injEq, Prod.mk.injEq] at H
    obtain ⟨rfl, rfl⟩ := H
    obtain ⟨Ao9, co9, eo9⟩ := Kd.R_slice HO_0.out
    subst eo9
    go_wp2
    go_ret
    exact ⟨ee_, by (with_reducible repeat (first | apply Kd.R_alloc | apply Kd.R_drewN | apply Kd.R_drew)); exact HO_0.out, bb_ HB, by repeat (first | (with_reducible first | exact HK.out | apply Kept.alloc | apply Kept.drewN | apply Kept.drew) | exact HK.out)⟩
end Go.Proofs.Ytbfafjejmljcpaa.P

namespace Go.Proofs.Ytbfafjejmljcpaa.P
open Go.RowKit Go.Proofs.YtbfafjejmljcpaaW.PrintWords Go.Proofs.YtbfafjejmljcpaaW.PrintLast
set_option linter.unusedVariables false
set_option linter.unusedSimpArgs false

def laws_heldIntS.l0 : Nat → List Int → Int → Int → Option (Int)
 | 0, _, _, _ => none
 | k + 1, x0, x1, x5 => if x5 < (x0.length : Int) then (if 0 ≤ x5 then (if (rd x0 x5) = x1 then (laws_heldIntS.l0 k x0 (wrap64 (x1 + 1)) (wrap64 (x5 + 1))) else (some (-1))) else (none)) else (some x1)
def laws_heldIntS.f (k : Nat) (l0 : List Int) (a1 : Int) : Option (Int) := laws_heldIntS.l0 k l0 a1 0
set_option maxHeartbeats 8000000 in
set_option maxRecDepth 100000 in
theorem laws_heldIntS.calls (k : Nat) (A0 : Option Addr) (c0 : Nat) (l0 : List Int) (a1 : Int) (r : Int) (w : World) (hr0 : Kd.C (Kd.int .i64) w A0 l0.length l0) (hc0 : l0.length ≤ c0) (h : laws_heldIntS.f k l0 a1 = some r) :
  Calls Try.prog 68 #[.slice A0 l0.length c0, .int .i64 a1] w fun e w' => e = .returned (.int .i64 r) ∧ Drawn0 w w' := by
 have HR0 := Aside0.mk hr0
 have HC0 := Aside0.mk hc0
 clear hr0 hc0
 have H : (laws_heldIntS.l0 k l0 a1 0) = some r := h
 clear h
 have H' := Aside0.mk H
 clear H
 go_enter Try.func68, Try.ntmps68
 go_wp2
 go_loopg [1, 5] k (fun kq v1 v5 w' => ∃ (x1_1 : Int) (x5_1 : Int), v1 = .int .i64 x1_1 ∧ v5 = .int .i64 x5_1 ∧ Aside0 (laws_heldIntS.l0 kq l0 x1_1 x5_1 = some r) ∧ Aside0 (kq ≤ k) ∧ Drawn0 w w')
 case atStart => exact ⟨(a1), (0), (by first | rfl | (simp; done) | (simp [*]; done)), (by first | rfl | (simp; done) | (simp [*]; done)), H', ⟨Nat.le_refl _⟩, by repeat (first | exact Drawn0.refl _ | apply Drawn0.step)⟩
 case round =>
  clear H'
  try clear p2
  obtain ⟨x1_1, x5_1, rfl, rfl, HA, HK1, ⟨m1, rfl⟩⟩ := hrel
  cases gk with
  | zero => exact absurd HA.out (by simp [laws_heldIntS.l0])
  | succ k1 =>
   have H := HA.out
   clear HA
   simp only [laws_heldIntS.l0] at H
   by_cases c3 : x5_1 < (l0.length : Int)
   ·rw [if_pos c3] at H
    have c3b0 : decide (x5_1 < (l0.length : Int)) = true := decide_eq_true c3
    clear c3
    by_cases c4 : 0 ≤ x5_1
    ·rw [if_pos c4] at H
     have c4b0 : decide (0 ≤ x5_1) = true := decide_eq_true c4
     clear c4
     by_cases c5 : (rd l0 x5_1) = x1_1
     ·rw [if_pos c5] at H
      have c5b0 : ((rd l0 x5_1) == x1_1) = true := beq_iff_eq.mpr c5
      have c5b1 : ((rd l0 x5_1) != x1_1) = false := bne_eq_false_iff_eq.mpr c5
      clear c5
      have H' := Aside0.mk H
      clear H
      have p850 : 0 ≤ (x5_1 : Int) := dd_
      have q850 : x5_1 < (l0.length : Int) := dd_
      obtain ⟨ad850, e850, hx850_0⟩ := Kd.at_int HR0.out x5_1 p850 q850
      cases e850
      replace p850 := eq_true p850
      replace q850 := eq_true q850
      go_wp2
      go_roundg k1
      case measure => have := HK1.out; omega
      case rel => exact ⟨(wrap64 (x1_1 + 1)), (wrap64 (x5_1 + 1)), (by first | rfl | (simp; done) | (simp [*]; done)), (by first | rfl | (simp; done) | (simp [*]; done)), H', ⟨by have := HK1.out; omega⟩, by repeat (first | exact Drawn0.refl _ | apply Drawn0.step)⟩
     ·rw [if_neg c5] at H
      have c5b0 : ((rd l0 x5_1) == x1_1) = false := beq_eq_false_iff_ne.mpr c5
      have c5b1 : ((rd l0 x5_1) != x1_1) = true := bne_iff_ne.mpr c5
      obtain rfl := Option.some.inj H
      have p850 : 0 ≤ (x5_1 : Int) := dd_
      have q850 : x5_1 < (l0.length : Int) := dd_
      obtain ⟨ad850, e850, hx850_0⟩ := Kd.at_int HR0.out x5_1 p850 q850
      cases e850
      replace p850 := eq_true p850
      replace q850 := eq_true q850
      go_wp2
      go_ret
      exact ⟨by first | rfl | (simp; done) | (simp [*]; done), by repeat (first | exact Drawn0.refl _ | apply Drawn0.step)⟩
    ·rw [if_neg c4] at H
     exact absurd H (by simp)
   ·rw [if_neg c3] at H
    have c3b0 : decide (x5_1 < (l0.length : Int)) = false := decide_eq_false c3
    clear c3
    obtain rfl := Option.some.inj H
    go_wp2
    go_ret
    exact ⟨by first | rfl | (simp; done) | (simp [*]; done), by repeat (first | exact Drawn0.refl _ | apply Drawn0.step)⟩
end Go.Proofs.Ytbfafjejmljcpaa.P

set_option linter.unusedVariables false
set_option linter.unusedSimpArgs false
namespace Go.Proofs.Ytbfafjejmljcpaa.X
open Go.RowKit Go.Proofs.YtbfafjejmljcpaaW.PrintWords Go.Proofs.YtbfafjejmljcpaaW.PrintLast Go.Proofs.Ytbfafjejmljcpaa.P

theorem Ev.pos {α : Type} {c : Prop} [Decidable c] {f g : Nat → Option α} {r : α} (h : c) (k : Ev f r) : Ev (fun n => if c then f n else g n) r :=
  Ev.congr (fun _ => if_pos h) k
theorem Ev.neg {α : Type} {c : Prop} [Decidable c] {f g : Nat → Option α} {r : α} (h : ¬ c) (k : Ev g r) : Ev (fun n => if c then f n else g n) r :=
  Ev.congr (fun _ => if_neg h) k
theorem Ev.fix {α β : Type} {x : Option α} {f : Nat → α → Option β} {a : α} {r : β} (h : x = some a) (k : Ev (fun n => f n a) r) : Ev (fun n => x.bind (f n)) r :=
  Ev.congr (fun n => by rw [h]; rfl) k
theorem Ev.done {α : Type} {x : Option α} {r : α} (h : x = some r) : Ev (fun _ => x) r := ⟨0, fun _ _ => h⟩
theorem w64 {x : Int} (h0 : -9223372036854775808 ≤ x) (h1 : x ≤ 9223372036854775807) : wrap64 x = x := by unfold wrap64; omega
theorem tdiv_nn {a b : Int} (h : 0 ≤ a) : Int.tdiv a b = a / b := Int.tdiv_eq_ediv_of_nonneg h
theorem tmod_nn {a b : Int} (h : 0 ≤ a) : Int.tmod a b = a % b := Int.tmod_eq_emod_of_nonneg h
theorem ext_rd {a b : List Int} (hl : a.length = b.length) (h : ∀ i : Nat, i < a.length → rd a (i : Int) = rd b (i : Int)) : a = b := by
  apply List.ext_getElem hl
  intro i h1 h2
  rw [← rd_cast a i h1, ← rd_cast b i h2]
  exact h i h1
end Go.Proofs.Ytbfafjejmljcpaa.X

namespace Go.Proofs.Ytbfafjejmljcpaa.P
open Go.RowKit Go.Proofs.YtbfafjejmljcpaaW.PrintWords Go.Proofs.YtbfafjejmljcpaaW.PrintLast
set_option linter.unusedVariables false
set_option linter.unusedSimpArgs false

def slices_Index_int_int.l0 : Nat → List Int → Int → Int → Int → Option (Int)
 | 0, _, _, _, _ => none
 | k + 1, x0, x1, x7, x8 => if x8 < x7 then (if 0 ≤ x8 then (if x8 < (x0.length : Int) then (if x1 = (rd x0 x8) then (some x8) else (slices_Index_int_int.l0 k x0 x1 x7 (wrap64 (x8 + 1)))) else (none)) else (none)) else (some (-1))
def slices_Index_int_int.f (k : Nat) (l0 : List Int) (a1 : Int) : Option (Int) := slices_Index_int_int.l0 k l0 a1 (l0.length : Int) 0
set_option maxHeartbeats 8000000 in
set_option maxRecDepth 100000 in
theorem slices_Index_int_int.calls (k : Nat) (A0 : Option Addr) (c0 : Nat) (l0 : List Int) (a1 : Int) (r : Int) (w : World) (hr0 : Kd.C (Kd.int .i64) w A0 l0.length l0) (hc0 : l0.length ≤ c0) (h : slices_Index_int_int.f k l0 a1 = some r) :
  Calls Try.prog 96 #[.slice A0 l0.length c0, .int .i64 a1] w fun e w' => e = .returned (.int .i64 r) ∧ Drawn0 w w' := by
 have HR0 := Aside0.mk hr0
 have HC0 := Aside0.mk hc0
 clear hr0 hc0
 have H : (slices_Index_int_int.l0 k l0 a1 (l0.length : Int) 0) = some r := h
 clear h
 have H' := Aside0.mk H
 clear H
 go_enter Try.func96, Try.ntmps96
 go_wp2
 go_loopg [8] k (fun kq v8 w' => ∃ (x8_1 : Int), v8 = .int .i64 x8_1 ∧ Aside0 (slices_Index_int_int.l0 kq l0 a1 (l0.length : Int) x8_1 = some r) ∧ Aside0 (kq ≤ k) ∧ Drawn0 w w')
 case atStart => exact ⟨(0), (by first | rfl | (simp; done) | (simp [*]; done)), H', ⟨Nat.le_refl _⟩, by repeat (first | exact Drawn0.refl _ | apply Drawn0.step)⟩
 case round =>
  clear H'
  try clear p2
  obtain ⟨x8_1, rfl, HA, HK1, ⟨m1, rfl⟩⟩ := hrel
  cases gk with
  | zero => exact absurd HA.out (by simp [slices_Index_int_int.l0])
  | succ k1 =>
   have H := HA.out
   clear HA
   simp only [slices_Index_int_int.l0] at H
   by_cases c3 : x8_1 < (l0.length : Int)
   ·rw [if_pos c3] at H
    have c3b0 : decide (x8_1 < (l0.length : Int)) = true := decide_eq_true c3
    clear c3
    by_cases c4 : 0 ≤ x8_1
    ·rw [if_pos c4] at H
     have c4b0 : decide (0 ≤ x8_1) = true := decide_eq_true c4
     clear c4
     by_cases c5 : x8_1 < (l0.length : Int)
     ·rw [if_pos c5] at H
      have c5b0 : decide (x8_1 < (l0.length : Int)) = true := decide_eq_true c5
      clear c5
      by_cases c6 : a1 = (rd l0 x8_1)
      ·rw [if_pos c6] at H
       have c6b0 : (a1 == (rd l0 x8_1)) = true := beq_iff_eq.mpr c6
       have c6b1 : (a1 != (rd l0 x8_1)) = false := bne_eq_false_iff_eq.mpr c6
       clear c6
       obtain rfl := Option.some.inj H
       have p301 : 0 ≤ (x8_1 : Int) := dd_
       have q301 : x8_1 < (l0.length : Int) := dd_
       obtain ⟨ad301, e301, hx301_0⟩ := Kd.at_int HR0.out x8_1 p301 q301
       cases e301
       replace p301 := eq_true p301
       replace q301 := eq_true q301
       go_wp2
       go_ret
       exact ⟨by first | rfl | (simp; done) | (simp [*]; done), by repeat (first | exact Drawn0.refl _ | apply Drawn0.step)⟩
      ·rw [if_neg c6] at H
       have c6b0 : (a1 == (rd l0 x8_1)) = false := beq_eq_false_iff_ne.mpr c6
       have c6b1 : (a1 != (rd l0 x8_1)) = true := bne_iff_ne.mpr c6
       have H' := Aside0.mk H
       clear H
       have p301 : 0 ≤ (x8_1 : Int) := dd_
       have q301 : x8_1 < (l0.length : Int) := dd_
       obtain ⟨ad301, e301, hx301_0⟩ := Kd.at_int HR0.out x8_1 p301 q301
       cases e301
       replace p301 := eq_true p301
       replace q301 := eq_true q301
       go_wp2
       go_roundg k1
       case measure => have := HK1.out; omega
       case rel => exact ⟨(wrap64 (x8_1 + 1)), (by first | rfl | (simp; done) | (simp [*]; done)), H', ⟨by have := HK1.out; omega⟩, by repeat (first | exact Drawn0.refl _ | apply Drawn0.step)⟩
     ·rw [if_neg c5] at H
      exact absurd H (by simp)
    ·rw [if_neg c4] at H
     exact absurd H (by simp)
   ·rw [if_neg c3] at H
    have c3b0 : decide (x8_1 < (l0.length : Int)) = false := decide_eq_false c3
    clear c3
    obtain rfl := Option.some.inj H
    go_wp2
    go_ret
    exact ⟨by first | rfl | (simp; done) | (simp [*]; done), by repeat (first | exact Drawn0.refl _ | apply Drawn0.step)⟩
end Go.Proofs.Ytbfafjejmljcpaa.P

namespace Go.Proofs.Ytbfafjejmljcpaa.P
open Go.RowKit Go.Proofs.YtbfafjejmljcpaaW.PrintWords Go.Proofs.YtbfafjejmljcpaaW.PrintLast
set_option linter.unusedVariables false
set_option linter.unusedSimpArgs false

def slices_Contains_int_int.f (k : Nat) (l0 : List Int) (a1 : Int) : Option (Bool) := (slices_Index_int_int.f k l0 a1).bind fun t302 => (some (decide (t302 ≥ 0)))
set_option maxHeartbeats 8000000 in
set_option maxRecDepth 100000 in
theorem slices_Contains_int_int.calls (k : Nat) (A0 : Option Addr) (c0 : Nat) (l0 : List Int) (a1 : Int) (r : Bool) (w : World) (hr0 : Kd.C (Kd.int .i64) w A0 l0.length l0) (hc0 : l0.length ≤ c0) (h : slices_Contains_int_int.f k l0 a1 = some r) :
  Calls Try.prog 61 #[.slice A0 l0.length c0, .int .i64 a1] w fun e w' => e = .returned (.bool r) ∧ Drawn0 w w' := by
 have HR0 := Aside0.mk hr0
 have HC0 := Aside0.mk hc0
 clear hr0 hc0
 have H : ((slices_Index_int_int.f k l0 a1).bind fun t302 => (some (decide (t302 ≥ 0)))) = some r := h
 clear h
 replace H := Option.bind_eq_some_iff.mp H
 obtain ⟨t302, A30, H⟩ := H
 replace H : (some (decide (t302 ≥ 0))) = some r := H
 have A3 := Aside0.mk A30
 clear A30
 obtain rfl := Option.some.inj H
 go_enter Try.func61, Try.ntmps61
 go_wp2_with (first | (refine goesL_ (some 7) rfl rfl Try.func96 (by kernel_rfl) rfl #[.slice A0 l0.length c0, .int .i64 a1] rfl ll_ ?_; (with_reducible refine (slices_Index_int_int.calls k _ _ l0 a1 t302 _ ?side1 ?side2 A3.out).mono ?_); (case side1 => exact ss_ HR0); (case side2 => exact HC0.out); rintro e w' ⟨rfl, ⟨nd, rfl⟩⟩; refine ⟨_, rfl, ?_⟩))
 go_ret
 exact ⟨by first | rfl | (simp; done) | (simp [*]; done), by repeat (first | exact Drawn0.refl _ | apply Drawn0.step)⟩
end Go.Proofs.Ytbfafjejmljcpaa.P

set_option linter.unusedVariables false
set_option linter.unusedSimpArgs false
namespace Go.Proofs.Ytbfafjejmljcpaa.X
open Go.RowKit Go.Proofs.YtbfafjejmljcpaaW.PrintWords Go.Proofs.YtbfafjejmljcpaaW.PrintLast Go.Proofs.Ytbfafjejmljcpaa.P

theorem has_false {l : List Int} {x : Int} (h : ∀ j : Nat, j < l.length → rd l (j : Int) ≠ x) : decide (x ∈ l) = false := by
  refine decide_eq_false fun hx => ?_
  obtain ⟨j, hj, rfl⟩ := List.mem_iff_getElem.1 hx
  exact h j hj (rd_cast l j hj)
theorem index_loop (l : List Int) (hl : l.length ≤ 1048576) (x : Int) (d : Nat) : ∀ (i : Int), 0 ≤ i → i + d = l.length → (∀ j : Nat, (j : Int) < i → rd l (j : Int) ≠ x) → ∃ v : Int, Ev (fun k => slices_Index_int_int.l0 k l x (l.length : Int) i) v ∧ decide (v ≥ 0) = decide (x ∈ l) := by
  induction d with
  | zero =>
    intro i h0 h1 h
    refine ⟨-1, Ev.step (fun k => by rw [slices_Index_int_int.l0]) (Ev.neg (by omega) (Ev.done rfl)), ?_⟩
    rw [has_false fun j hj => h j (by omega)]; rfl
  | succ d ih =>
    intro i h0 h1 h
    by_cases e : x = rd l i
    · refine ⟨i, Ev.step (fun k => by rw [slices_Index_int_int.l0]) ?_, ?_⟩
      · exact Ev.pos (by omega) (Ev.pos (by omega) (Ev.pos (by omega) (Ev.pos e (Ev.done rfl))))
      · rw [decide_eq_true (show x ∈ l by rw [e]; exact rd_mem (by omega) h0)]; simpa using h0
    · obtain ⟨v, hv, hd⟩ := ih (i + 1) (by omega) (by omega) fun j hj => by
        by_cases ej : (j : Int) = i
        · rw [ej]; exact fun h => e h.symm
        · exact h j (by omega)
      refine ⟨v, Ev.step (fun k => by rw [slices_Index_int_int.l0]) ?_, hd⟩
      simp (disch := omega) only [w64]
      exact Ev.pos (by omega) (Ev.pos (by omega) (Ev.pos (by omega) (Ev.neg e hv)))
theorem contains_ev (l : List Int) (hl : l.length ≤ 1048576) (x : Int) : Ev (fun k => slices_Contains_int_int.f k l x) (decide (x ∈ l)) := by
  obtain ⟨v, hv, hd⟩ := index_loop l hl x l.length 0 (by omega) (by omega) (fun j h => by omega)
  unfold slices_Contains_int_int.f slices_Index_int_int.f
  exact Ev.bind hv (Ev.done (by rw [← hd]))
end Go.Proofs.Ytbfafjejmljcpaa.X

namespace Go.Proofs.Ytbfafjejmljcpaa.P
open Go.RowKit Go.Proofs.YtbfafjejmljcpaaW.PrintWords Go.Proofs.YtbfafjejmljcpaaW.PrintLast
set_option linter.unusedVariables false
set_option linter.unusedSimpArgs false

def spec_l1Add.f (a0 : Int) (a1 : Int) : Option (Int) := some (wrap64 ((Int.tmod (wrap64 ((Int.tmod a0 3) + (Int.tmod a1 3))) 3) + (wrap64 ((Int.tmod (wrap64 ((wrap64 (Int.tdiv a0 3)) + (wrap64 (Int.tdiv a1 3)))) 3) * 3))))
set_option maxHeartbeats 8000000 in
set_option maxRecDepth 100000 in
theorem spec_l1Add.calls (a0 : Int) (a1 : Int) (r : Int) (w : World) (h : spec_l1Add.f a0 a1 = some r) :
  Calls Try.prog 95 #[.int .i64 a0, .int .i64 a1] w fun e w' => e = .returned (.int .i64 r) ∧ Drawn0 w w' := by
 have H : (some (wrap64 ((Int.tmod (wrap64 ((Int.tmod a0 3) + (Int.tmod a1 3))) 3) + (wrap64 ((Int.tmod (wrap64 ((wrap64 (Int.tdiv a0 3)) + (wrap64 (Int.tdiv a1 3)))) 3) * 3))))) = some r := h
 clear h
 obtain rfl := Option.some.inj H
 go_enter Try.func95, Try.ntmps95
 go_wp2
 go_ret
 exact ⟨by first | rfl | (simp; done) | (simp [*]; done), by repeat (first | exact Drawn0.refl _ | apply Drawn0.step)⟩
end Go.Proofs.Ytbfafjejmljcpaa.P

namespace Go.Proofs.Ytbfafjejmljcpaa.P
open Go.RowKit Go.Proofs.YtbfafjejmljcpaaW.PrintWords Go.Proofs.YtbfafjejmljcpaaW.PrintLast
set_option linter.unusedVariables false
set_option linter.unusedSimpArgs false

def spec_l1Minus.f (a0 : Int) : Option (Int) := some (wrap64 ((Int.tmod (wrap64 (3 - (Int.tmod a0 3))) 3) + (wrap64 ((Int.tmod (wrap64 (3 - (wrap64 (Int.tdiv a0 3)))) 3) * 3))))
set_option maxHeartbeats 8000000 in
set_option maxRecDepth 100000 in
theorem spec_l1Minus.calls (a0 : Int) (r : Int) (w : World) (h : spec_l1Minus.f a0 = some r) :
  Calls Try.prog 140 #[.int .i64 a0] w fun e w' => e = .returned (.int .i64 r) ∧ Drawn0 w w' := by
 have H : (some (wrap64 ((Int.tmod (wrap64 (3 - (Int.tmod a0 3))) 3) + (wrap64 ((Int.tmod (wrap64 (3 - (wrap64 (Int.tdiv a0 3)))) 3) * 3))))) = some r := h
 clear h
 obtain rfl := Option.some.inj H
 go_enter Try.func140, Try.ntmps140
 go_wp2
 go_ret
 exact ⟨by first | rfl | (simp; done) | (simp [*]; done), by repeat (first | exact Drawn0.refl _ | apply Drawn0.step)⟩
end Go.Proofs.Ytbfafjejmljcpaa.P

set_option linter.unusedVariables false
set_option linter.unusedSimpArgs false
namespace Go.Proofs.Ytbfafjejmljcpaa.X
open Go.RowKit Go.Proofs.YtbfafjejmljcpaaW.PrintWords Go.Proofs.YtbfafjejmljcpaaW.PrintLast Go.Proofs.Ytbfafjejmljcpaa.P

theorem qd' {P : Program} {f : FuncId} {args : Array Value} {w : World} {n : Nat} {v : Value} (h : Calls P f args (w.drewN n) fun e w' => e = .returned v ∧ Drawn0 (w.drewN n) w') :
    Calls P f args (w.drewN n) fun e w'' => e = .returned v ∧ ∃ m, w'' = w.drewN m :=
  h.mono fun _ _ ⟨he, hd⟩ => ⟨he, by obtain ⟨m, hm⟩ := hd.out; exact ⟨n + m, by rw [hm, World.drewN_drewN]⟩⟩
theorem spec_l1Add_eq (a b : Int) (ha : In9 a) (hb : In9 b) : spec_l1Add.f a b = some (addN a b) :=
  nine2 (P := fun a b => spec_l1Add.f a b = some (addN a b)) (by decide +kernel) a b ha.1 ha.2 hb.1 hb.2
theorem spec_l1Minus_eq (a : Int) (ha : In9 a) : spec_l1Minus.f a = some (minusN a) :=
  nine1 (P := fun a => spec_l1Minus.f a = some (minusN a)) (by decide +kernel) a ha.1 ha.2
theorem l1Add_calls (a b : Int) (ha : In9 a) (hb : In9 b) (w : World) : Calls Try.prog 95 #[.int .i64 a, .int .i64 b] w fun e w' => e = .returned (.int .i64 (addN a b)) ∧ Drawn0 w w' := spec_l1Add.calls a b _ w (spec_l1Add_eq a b ha hb)
theorem l1Minus_calls (a : Int) (ha : In9 a) (w : World) : Calls Try.prog 140 #[.int .i64 a] w fun e w' => e = .returned (.int .i64 (minusN a)) ∧ Drawn0 w w' := spec_l1Minus.calls a _ w (spec_l1Minus_eq a ha)
theorem tab_at {w : World} {ad : Addr} {t : List Int} {n : Nat} (h : Kd.C (Kd.int .i64) w (some ad) n t) (i : Int) (h0 : 0 ≤ i) (h1 : i < n) : w.cell? (ad.add i.toNat) = some (.int .i64 (rd t i)) := by
  obtain ⟨ad', e, hc⟩ := Kd.at_int h i h0 h1
  cases e; exact hc
theorem tab_some {w : World} {A0 : Option Addr} {t : List Int} {n : Nat} (h : Kd.C (Kd.int .i64) w A0 n t) (hl : 0 < n) : ∃ ad, A0 = some ad := by
  obtain ⟨ad', e, hc⟩ := Kd.at_int h 0 (by omega) (by omega)
  exact ⟨ad', e⟩
def shareB (t : List Int) (x y z : Int) : Bool := decide (rd t (9 * addN x y + z) = addN (rd t (9 * x + z)) (rd t (9 * y + z)))
theorem sharesB_all {t : List Int} (h : ∀ x y z : Int, In9 x → In9 y → In9 z → shareB t x y z = true) : sharesB t = true :=
  allI_int_iff.2 fun x x0 x1 => allI_int_iff.2 fun y y0 y1 => allI_int_iff.2 fun z z0 z1 => h x y z ⟨x0, x1⟩ ⟨y0, y1⟩ ⟨z0, z1⟩
theorem sharesB_hit {t : List Int} {x y z : Int} (hx : In9 x) (hy : In9 y) (hz : In9 z) (h : shareB t x y z = false) : sharesB t = false := all3_hit (p := shareB t) hx hy hz h
set_option maxRecDepth 100000 in
set_option maxHeartbeats 4000000 in
theorem l2Shares_calls (A0 : Option Addr) (c0 : Nat) (t : List Int) (w : World) (hr : Kd.C (Kd.int .i64) w A0 t.length t) (hn : ninesB t 81 = true) :
    Calls Try.prog 102 #[.slice A0 t.length c0] w fun e w' => e = .returned (.bool (sharesB t)) ∧ Drawn0 w w' := by
  obtain ⟨hl, _⟩ := ninesB_iff.1 hn
  obtain ⟨ad, rfl⟩ := tab_some hr (by omega)
  have HT := Aside0.mk hr
  have HN := Aside0.mk hn
  have hlen : 81 ≤ t.length := by omega
  clear hr hn hl
  go_enter Try.func102, Try.ntmps102
  go_wp2
  go_loopg [3] 9 (fun kq v3 w' => ∃ a : Int, v3 = .int .i64 a ∧ Aside0 (0 ≤ a ∧ a ≤ 9) ∧ Aside0 ((9 : Int) - a ≤ kq) ∧ Aside0 (∀ x y z : Int, 0 ≤ x → x < a → In9 y → In9 z → shareB t x y z = true) ∧ Aside0 (Drawn0 w w'))
  case atStart => exact ⟨0, rfl, ⟨by omega⟩, ⟨by omega⟩, ⟨fun x y z h0 h1 => by omega⟩, ⟨Drawn0.refl _⟩⟩
  case round =>
    obtain ⟨a, rfl, HI, HK, HA, HD⟩ := hrel
    have h0 : 0 ≤ a := HI.out.1
    by_cases c6 : a < 9
    · go_wp2
      go_loopg [4] 9 (fun kq v4 w' => ∃ b : Int, v4 = .int .i64 b ∧ Aside0 (0 ≤ b ∧ b ≤ 9) ∧ Aside0 ((9 : Int) - b ≤ kq) ∧ Aside0 (∀ y z : Int, 0 ≤ y → y < b → In9 z → shareB t a y z = true) ∧ Aside0 (Drawn0 w w'))
      case atStart => exact ⟨0, rfl, ⟨by omega⟩, ⟨by omega⟩, ⟨fun y z h0 h1 => by omega⟩, HD⟩
      case round =>
        clear HD
        obtain ⟨b, rfl, HI2, HK2, HA2, HD⟩ := hrel
        have h02 : 0 ≤ b := HI2.out.1
        by_cases c7 : b < 9
        · go_wp2
          go_loopg [5] 9 (fun kq v5 w' => ∃ c : Int, v5 = .int .i64 c ∧ Aside0 (0 ≤ c ∧ c ≤ 9) ∧ Aside0 ((9 : Int) - c ≤ kq) ∧ Aside0 (∀ z : Int, 0 ≤ z → z < c → shareB t a b z = true) ∧ Aside0 (Drawn0 w w'))
          case atStart => exact ⟨0, rfl, ⟨by omega⟩, ⟨by omega⟩, ⟨fun z h0 h1 => by omega⟩, HD⟩
          case round =>
            clear HD
            obtain ⟨c, rfl, HI3, HK3, HA3, HD⟩ := hrel
            have h03 : 0 ≤ c := HI3.out.1
            by_cases c8 : c < 9
            · have HTw := Kd.C_below HT.out HD.out.below
              have q1 := nines_rd HN.out (i := 9 * a + c) (by omega) (by omega)
              have q2 := nines_rd HN.out (i := 9 * b + c) (by omega) (by omega)
              have r01 := addN_range a b
              have hs : shareB t a b c = decide (rd t (9 * addN a b + c) = addN (rd t (9 * a + c)) (rd t (9 * b + c))) := rfl
              have C1 := Aside0.mk (l1Add_calls a b ⟨h0, c6⟩ ⟨h02, c7⟩)
              have C2 := Aside0.mk (l1Add_calls (rd t (9 * a + c)) (rd t (9 * b + c)) q1 q2)
              obtain ⟨s, hs1⟩ : ∃ s, addN a b = s := ⟨_, rfl⟩
              rw [hs1] at C1 r01 hs
              clear hs1
              obtain ⟨r0, r1⟩ := r01
              have g1 := tab_at HTw (9 * a + c) (by omega) (by omega)
              have g2 := tab_at HTw (9 * b + c) (by omega) (by omega)
              have g3 := tab_at HTw (9 * s + c) (by omega) (by omega)
              obtain ⟨v1, hv1⟩ : ∃ v, rd t (9 * a + c) = v := ⟨_, rfl⟩
              obtain ⟨v2, hv2⟩ : ∃ v, rd t (9 * b + c) = v := ⟨_, rfl⟩
              obtain ⟨v3, hv3⟩ : ∃ v, rd t (9 * s + c) = v := ⟨_, rfl⟩
              rw [hv1] at g1 hs C2
              rw [hv2] at g2 hs C2
              rw [hv3] at g3 hs
              obtain ⟨v4, hv4⟩ : ∃ v, addN v1 v2 = v := ⟨_, rfl⟩
              rw [hv4] at hs C2
              have HS := Aside0.mk hs
              clear hs hv1 hv2 hv3 hv4 q1 q2 HTw
              by_cases he : v3 = v4
              · have he1 : (v3 == v4) = true := beq_iff_eq.2 he
                have he2 : (v3 != v4) = false := by rw [bne, he1]; rfl
                have HP := Aside0.mk (show shareB t a b c = true by rw [HS.out, decide_eq_true he])
                clear he
                go_wp2
                go_quiet ((first | (go_at_call 95; with_reducible exact qd' (C1.out _)) | (go_at_call 95; with_reducible exact qd' (C2.out _))))
                go_wp2
                go_roundg (9 - (c.toNat + 1))
                case measure => have := HK3.out; omega
                case rel =>
                  refine ⟨c + 1, rfl, ⟨by omega⟩, ⟨by omega⟩, ⟨fun z hz0 hz1 => ?_⟩, ⟨HD.out.step _⟩⟩
                  by_cases e : z = c
                  · rw [e]; exact HP.out
                  · exact HA3.out z hz0 (by omega)
              · have he1 : (v3 == v4) = false := beq_eq_false_iff_ne.2 he
                have he2 : (v3 != v4) = true := by rw [bne, he1]; rfl
                have HP := Aside0.mk (show shareB t a b c = false by rw [HS.out, decide_eq_false he])
                clear he
                go_wp2
                go_quiet ((first | (go_at_call 95; with_reducible exact qd' (C1.out _)) | (go_at_call 95; with_reducible exact qd' (C2.out _))))
                go_wp2
                go_ret
                exact ⟨by rw [sharesB_hit ⟨h0, c6⟩ ⟨h02, c7⟩ ⟨h03, c8⟩ HP.out]; rfl, HD.out.step _⟩
            · go_wp2
              go_roundg (9 - (b.toNat + 1))
              case measure => have := HK2.out; omega
              case rel =>
                refine ⟨b + 1, rfl, ⟨by omega⟩, ⟨by omega⟩, ⟨fun y z hy0 hy1 hz => ?_⟩, HD⟩
                by_cases e : y = b
                · rw [e]; exact HA3.out z hz.1 (by have := hz.2; have := HI3.out; omega)
                · exact HA2.out y z hy0 (by omega) hz
        · go_wp2
          go_roundg (9 - (a.toNat + 1))
          case measure => have := HK.out; omega
          case rel =>
            refine ⟨a + 1, rfl, ⟨by omega⟩, ⟨by omega⟩, ⟨fun x y z hx0 hx1 hy hz => ?_⟩, HD⟩
            by_cases e : x = a
            · rw [e]; exact HA2.out y z hy.1 (by have := hy.2; have := HI2.out; omega) hz
            · exact HA.out x y z hx0 (by omega) hy hz
    · go_wp2
      go_ret
      have hall : sharesB t = true := sharesB_all fun x y z hx hy hz => HA.out x y z hx.1 (by have := HI.out; have := hx.2; omega) hy hz
      exact ⟨by rw [hall]; rfl, HD.out⟩
theorem gapsB_of {t : List Int} {c d : Int} (h : ∀ x y : Int, 0 ≤ x → x < y → y < 9 → addN (rd t (9 * x + c)) (minusN (rd t (9 * x + d))) ≠ addN (rd t (9 * y + c)) (minusN (rd t (9 * y + d)))) : gapsB t c d = true :=
  onceB_iff.2 fun x y hxy hy => h x y (by omega) (by omega) (by omega)
set_option maxRecDepth 100000 in
set_option maxHeartbeats 4000000 in
theorem l2Solves_calls (A0 : Option Addr) (c0 : Nat) (t : List Int) (c d : Int) (w : World) (hr : Kd.C (Kd.int .i64) w A0 t.length t) (hn : ninesB t 81 = true) (hc : In9 c) (hd : In9 d) :
    Calls Try.prog 103 #[.slice A0 t.length c0, .int .i64 c, .int .i64 d] w fun e w' => e = .returned (.bool (gapsB t c d)) ∧ Below w.heap.size w w' := by
  obtain ⟨hl, _⟩ := ninesB_iff.1 hn
  obtain ⟨ad, rfl⟩ := tab_some hr (by omega)
  obtain ⟨c1, c2⟩ := hc
  obtain ⟨d1, d2⟩ := hd
  have HT := Aside0.mk hr
  have HN := Aside0.mk hn
  have hlen : 81 ≤ t.length := by omega
  have HS := Aside0.mk (Arr.alloc w 4 9 (fun _ => false))
  have hmk : ∀ w, (Instr.makeSlice 52 (.int .i64 9) (.int .i64 9)).run Try.prog w = .ok (.slice (some ⟨w.heap.size, 0, none⟩) 9 9) (w.alloc (.cells #[.bool false, .bool false, .bool false, .bool false, .bool false, .bool false, .bool false, .bool false, .bool false] 4)) := fun _ => by kernel_rfl
  obtain ⟨p, hp⟩ : ∃ p : Int → Int, p = fun x => addN (rd t (9 * x + c)) (minusN (rd t (9 * x + d))) := ⟨_, rfl⟩
  have HP := Aside0.mk hp
  clear hr hn hl hp
  go_enter Try.func103, Try.ntmps103
  go_wp2
  go_loopg [8] 9 (fun kq v8 w' => ∃ i : Int, v8 = .int .i64 i ∧ Aside0 (0 ≤ i ∧ i ≤ 9) ∧ Aside0 ((9 : Int) - i ≤ kq) ∧ Aside0 (∀ x y : Int, 0 ≤ x → x < y → y < i → p x ≠ p y) ∧ Aside0 (Arr w' w.heap.size 4 9 (seenO p i)) ∧ Aside0 (Below w.heap.size w w'))
  case atStart => exact ⟨0, rfl, ⟨by omega⟩, ⟨by omega⟩, ⟨fun x y h0 h1 => by omega⟩, ⟨HS.out.congr (fun j hj => rfl)⟩, ⟨(Below.refl _ _).alloc (Nat.le_refl _) _⟩⟩
  case round =>
    clear HS
    obtain ⟨i, rfl, HI, HK, HA, HS, HB⟩ := hrel
    have h0 : 0 ≤ i := HI.out.1
    by_cases c6 : i < 9
    · have HTw := Kd.C_below HT.out HB.out
      have q1 := nines_rd HN.out (i := 9 * i + c) (by omega) (by omega)
      have q2 := nines_rd HN.out (i := 9 * i + d) (by omega) (by omega)
      have g1 := tab_at HTw (9 * i + c) (by omega) (by omega)
      have g2 := tab_at HTw (9 * i + d) (by omega) (by omega)
      have hv : p i = addN (rd t (9 * i + c)) (minusN (rd t (9 * i + d))) := by rw [HP.out]
      have C1 := Aside0.mk (l1Minus_calls (rd t (9 * i + d)) q2)
      have C2 := Aside0.mk (l1Add_calls (rd t (9 * i + c)) (minusN (rd t (9 * i + d))) q1 (minusN_range _))
      have r01 := addN_range (rd t (9 * i + c)) (minusN (rd t (9 * i + d)))
      obtain ⟨v, hv1⟩ : ∃ v, addN (rd t (9 * i + c)) (minusN (rd t (9 * i + d))) = v := ⟨_, rfl⟩
      rw [hv1] at C2 r01 hv
      obtain ⟨r0, r1⟩ := r01
      have HV := Aside0.mk hv
      clear hv hv1 q1 q2 HTw
      have hcl := HS.out.cell v.toNat (by omega)
      have hf := HS.out.frozen v.toNat
      by_cases hs : seenO p i v.toNat = true
      · rw [hs] at hcl
        have HF := Aside0.mk hs
        clear hs
        go_wp2
        go_quiet ((first | (go_at_call 140; with_reducible exact qd' (C1.out _)) | (go_at_call 95; with_reducible exact qd' (C2.out _))))
        go_wp2
        go_ret
        have : gapsB t c d = false := by
          have h := HF.out
          unfold seenO at h
          obtain ⟨x, hx, hpx⟩ := List.any_eq_true.1 h
          have hx := List.mem_range.1 hx
          have hpx := of_decide_eq_true hpx
          have := onceB_hit (p := p) x i (by omega) (by omega) c6 (by rw [hpx, HV.out]; omega)
          rw [HP.out] at this
          exact this
        exact ⟨by rw [this]; rfl, HB.out.trans (Below.mono (Drawn0.below ⟨⟨_, rfl⟩⟩) HB.out.size)⟩
      · have hs := Bool.eq_false_iff.2 hs
        rw [hs] at hcl
        have HF := Aside0.mk hs
        have HS6 := Aside0.mk (fun n : Nat => (HS.out.below (Drawn0.below (w' := wr.drewN n) ⟨⟨n, rfl⟩⟩)).set v.toNat true)
        have HB2 := Aside0.mk (fun n : Nat => (bstep HB.out (Drawn0.below (w' := wr.drewN n) ⟨⟨n, rfl⟩⟩)).setCell (p := ⟨w.heap.size, v.toNat, none⟩) (Nat.le_refl _) (.bool true))
        clear hs
        go_wp2
        go_quiet ((first | (go_at_call 140; with_reducible exact qd' (C1.out _)) | (go_at_call 95; with_reducible exact qd' (C2.out _))))
        go_wp2
        go_roundg (9 - (i.toNat + 1))
        case measure => have := HK.out; omega
        case rel =>
          refine ⟨i + 1, rfl, ⟨by omega⟩, ⟨by omega⟩, ⟨fun x y hx hxy hy => ?_⟩, ⟨(HS6.out nq).congr (fun j hj => ?_)⟩, ⟨HB2.out nq⟩⟩
          · by_cases e : y = i
            · subst e
              intro hxe
              have h := HF.out
              unfold seenO at h
              have := List.any_eq_false.1 h x.toNat (List.mem_range.2 (by omega))
              rw [Int.toNat_of_nonneg hx, hxe, HV.out] at this
              exact this (decide_eq_true (by omega))
            · exact HA.out x y hx hxy (by omega)
          · rw [seenO_succ p i h0 j, HV.out]
            by_cases e : j = v.toNat
            · subst e; rw [if_pos rfl, decide_eq_true (by omega), Bool.or_true]
            · rw [if_neg e, decide_eq_false (by omega), Bool.or_false]
    · go_wp2
      go_ret
      have hall : gapsB t c d = true := by
        refine gapsB_of fun x y hx hxy hy => ?_
        have := HA.out x y hx hxy (by have := HI.out; omega)
        rwa [HP.out] at this
      exact ⟨by rw [hall]; rfl, HB.out⟩
end Go.Proofs.Ytbfafjejmljcpaa.X
namespace Go.Proofs.Ytbfafjejmljcpaa.P
open Go.RowKit Go.Proofs.YtbfafjejmljcpaaW.PrintWords Go.Proofs.YtbfafjejmljcpaaW.PrintLast
def spec_l2Shares.f (l0 : List Int) : Option Bool := if X.ninesB l0 81 = true then some (X.sharesB l0) else none
theorem spec_l2Shares.calls (A0 : Option Addr) (c0 : Nat) (l0 : List Int) (r : Bool) (w : World) (hr0 : Kd.C (Kd.int .i64) w A0 l0.length l0) (hc0 : l0.length ≤ c0) (h : spec_l2Shares.f l0 = some r) :
    Calls Try.prog 102 #[.slice A0 l0.length c0] w fun e w' => e = .returned (.bool r) ∧ Drawn0 w w' := by
  unfold spec_l2Shares.f at h
  by_cases hn : X.ninesB l0 81 = true
  · rw [if_pos hn] at h
    obtain rfl := Option.some.inj h
    exact X.l2Shares_calls A0 c0 l0 w hr0 hn
  · rw [if_neg hn] at h; exact absurd h (by simp)
def spec_l2Solves.f (l0 : List Int) (a1 a2 : Int) : Option Bool := if X.ninesB l0 81 = true ∧ (0 ≤ a1 ∧ a1 < 9) ∧ (0 ≤ a2 ∧ a2 < 9) then some (X.gapsB l0 a1 a2) else none
theorem spec_l2Solves.calls (A0 : Option Addr) (c0 : Nat) (l0 : List Int) (a1 a2 : Int) (r : Bool) (w : World) (hr0 : Kd.C (Kd.int .i64) w A0 l0.length l0) (hc0 : l0.length ≤ c0) (h : spec_l2Solves.f l0 a1 a2 = some r) :
    Calls Try.prog 103 #[.slice A0 l0.length c0, .int .i64 a1, .int .i64 a2] w fun e w' => e = .returned (.bool r) ∧ Below w.heap.size w w' := by
  unfold spec_l2Solves.f at h
  by_cases hn : X.ninesB l0 81 = true ∧ (0 ≤ a1 ∧ a1 < 9) ∧ (0 ≤ a2 ∧ a2 < 9)
  · rw [if_pos hn] at h
    obtain rfl := Option.some.inj h
    exact X.l2Solves_calls A0 c0 l0 a1 a2 w hr0 hn.1 hn.2.1 hn.2.2
  · rw [if_neg hn] at h; exact absurd h (by simp)
end Go.Proofs.Ytbfafjejmljcpaa.P

namespace Go.Proofs.Ytbfafjejmljcpaa.P
open Go.RowKit Go.Proofs.YtbfafjejmljcpaaW.PrintWords Go.Proofs.YtbfafjejmljcpaaW.PrintLast
set_option linter.unusedVariables false
set_option linter.unusedSimpArgs false

def spec_l6In.f (a0 : Int) (a1 : Int) (a2 : Int) : Option (Bool) := if a0 ≥ a1 then (some (decide (a0 ≤ a2))) else (some false)
set_option maxHeartbeats 8000000 in
set_option maxRecDepth 100000 in
theorem spec_l6In.calls (a0 : Int) (a1 : Int) (a2 : Int) (r : Bool) (w : World) (h : spec_l6In.f a0 a1 a2 = some r) :
  Calls Try.prog 57 #[.int .i64 a0, .int .i64 a1, .int .i64 a2] w fun e w' => e = .returned (.bool r) ∧ Drawn0 w w' := by
 have H : (if a0 ≥ a1 then (some (decide (a0 ≤ a2))) else (some false)) = some r := h
 clear h
 by_cases c4 : a0 ≥ a1
 ·rw [if_pos c4] at H
  have c4b0 : decide (a1 ≤ a0) = true := decide_eq_true c4
  clear c4
  obtain rfl := Option.some.inj H
  go_enter Try.func57, Try.ntmps57
  go_wp2
  go_ret
  exact ⟨by first | rfl | (simp; done) | (simp [*]; done), by repeat (first | exact Drawn0.refl _ | apply Drawn0.step)⟩
 ·rw [if_neg c4] at H
  have c4b0 : decide (a1 ≤ a0) = false := decide_eq_false c4
  clear c4
  obtain rfl := Option.some.inj H
  go_enter Try.func57, Try.ntmps57
  go_wp2
  go_ret
  exact ⟨by first | rfl | (simp; done) | (simp [*]; done), by repeat (first | exact Drawn0.refl _ | apply Drawn0.step)⟩
end Go.Proofs.Ytbfafjejmljcpaa.P

namespace Go.Proofs.Ytbfafjejmljcpaa.P
open Go.RowKit Go.Proofs.YtbfafjejmljcpaaW.PrintWords Go.Proofs.YtbfafjejmljcpaaW.PrintLast
set_option linter.unusedVariables false
set_option linter.unusedSimpArgs false

def spec_l6lAdd.f (a0 : Int) (a1 : Int) : Option (Int) := (spec_l1Add.f (wrap64 (Int.tdiv a0 9)) (wrap64 (Int.tdiv a1 9))).bind fun t465 => ((spec_l1Add.f (Int.tmod a0 9) (Int.tmod a1 9)).bind fun t466 => (some (wrap64 ((wrap64 (9 * t465)) + t466))))
set_option maxHeartbeats 8000000 in
set_option maxRecDepth 100000 in
theorem spec_l6lAdd.calls (a0 : Int) (a1 : Int) (r : Int) (w : World) (h : spec_l6lAdd.f a0 a1 = some r) :
  Calls Try.prog 59 #[.int .i64 a0, .int .i64 a1] w fun e w' => e = .returned (.int .i64 r) ∧ Drawn0 w w' := by
 have H : ((spec_l1Add.f (wrap64 (Int.tdiv a0 9)) (wrap64 (Int.tdiv a1 9))).bind fun t465 => ((spec_l1Add.f (Int.tmod a0 9) (Int.tmod a1 9)).bind fun t466 => (some (wrap64 ((wrap64 (9 * t465)) + t466))))) = some r := h
 clear h
 replace H := Option.bind_eq_some_iff.mp H
 obtain ⟨t465, A30, H⟩ := H
 replace H : ((spec_l1Add.f (Int.tmod a0 9) (Int.tmod a1 9)).bind fun t466 => (some (wrap64 ((wrap64 (9 * t465)) + t466)))) = some r := H
 have A3 := Aside0.mk A30
 clear A30
 replace H := Option.bind_eq_some_iff.mp H
 obtain ⟨t466, A40, H⟩ := H
 replace H : (some (wrap64 ((wrap64 (9 * t465)) + t466))) = some r := H
 have A4 := Aside0.mk A40
 clear A40
 obtain rfl := Option.some.inj H
 go_enter Try.func59, Try.ntmps59
 go_wp2_with (first | (refine goesL_ (some 9) rfl rfl Try.func95 (by kernel_rfl) rfl #[.int .i64 (wrap64 (Int.tdiv a0 9)), .int .i64 (wrap64 (Int.tdiv a1 9))] rfl ll_ ?_; (with_reducible refine (spec_l1Add.calls (wrap64 (Int.tdiv a0 9)) (wrap64 (Int.tdiv a1 9)) t465 _ A3.out).mono ?_); rintro e w' ⟨rfl, ⟨nd, rfl⟩⟩; refine ⟨_, rfl, ?_⟩) | (refine goesL_ (some 15) rfl rfl Try.func95 (by kernel_rfl) rfl #[.int .i64 (Int.tmod a0 9), .int .i64 (Int.tmod a1 9)] rfl ll_ ?_; (with_reducible refine (spec_l1Add.calls (Int.tmod a0 9) (Int.tmod a1 9) t466 _ A4.out).mono ?_); rintro e w' ⟨rfl, ⟨nd, rfl⟩⟩; refine ⟨_, rfl, ?_⟩))
 go_ret
 exact ⟨by first | rfl | (simp; done) | (simp [*]; done), by repeat (first | exact Drawn0.refl _ | apply Drawn0.step)⟩
end Go.Proofs.Ytbfafjejmljcpaa.P

namespace Go.Proofs.Ytbfafjejmljcpaa.P
open Go.RowKit Go.Proofs.YtbfafjejmljcpaaW.PrintWords Go.Proofs.YtbfafjejmljcpaaW.PrintLast
set_option linter.unusedVariables false
set_option linter.unusedSimpArgs false

def spec_l6lHas.l0 : Nat → List Int → Int → Int → Option (Bool)
 | 0, _, _, _ => none
 | k + 1, x0, x1, x5 => if x5 < (x0.length : Int) then (if 0 ≤ x5 then (if (rd x0 x5) = x1 then (some true) else (spec_l6lHas.l0 k x0 x1 (wrap64 (x5 + 1)))) else (none)) else (some false)
def spec_l6lHas.f (k : Nat) (l0 : List Int) (a1 : Int) : Option (Bool) := spec_l6lHas.l0 k l0 a1 0
set_option maxHeartbeats 8000000 in
set_option maxRecDepth 100000 in
theorem spec_l6lHas.calls (k : Nat) (A0 : Option Addr) (c0 : Nat) (l0 : List Int) (a1 : Int) (r : Bool) (w : World) (hr0 : Kd.C (Kd.int .i64) w A0 l0.length l0) (hc0 : l0.length ≤ c0) (h : spec_l6lHas.f k l0 a1 = some r) :
  Calls Try.prog 58 #[.slice A0 l0.length c0, .int .i64 a1] w fun e w' => e = .returned (.bool r) ∧ Drawn0 w w' := by
 have HR0 := Aside0.mk hr0
 have HC0 := Aside0.mk hc0
 clear hr0 hc0
 have H : (spec_l6lHas.l0 k l0 a1 0) = some r := h
 clear h
 have H' := Aside0.mk H
 clear H
 go_enter Try.func58, Try.ntmps58
 go_wp2
 go_loopg [5] k (fun kq v5 w' => ∃ (x5_1 : Int), v5 = .int .i64 x5_1 ∧ Aside0 (spec_l6lHas.l0 kq l0 a1 x5_1 = some r) ∧ Aside0 (kq ≤ k) ∧ Drawn0 w w')
 case atStart => exact ⟨(0), (by first | rfl | (simp; done) | (simp [*]; done)), H', ⟨Nat.le_refl _⟩, by repeat (first | exact Drawn0.refl _ | apply Drawn0.step)⟩
 case round =>
  clear H'
  try clear p2
  obtain ⟨x5_1, rfl, HA, HK1, ⟨m1, rfl⟩⟩ := hrel
  cases gk with
  | zero => exact absurd HA.out (by simp [spec_l6lHas.l0])
  | succ k1 =>
   have H := HA.out
   clear HA
   simp only [spec_l6lHas.l0] at H
   by_cases c3 : x5_1 < (l0.length : Int)
   ·rw [if_pos c3] at H
    have c3b0 : decide (x5_1 < (l0.length : Int)) = true := decide_eq_true c3
    clear c3
    by_cases c4 : 0 ≤ x5_1
    ·rw [if_pos c4] at H
     have c4b0 : decide (0 ≤ x5_1) = true := decide_eq_true c4
     clear c4
     by_cases c5 : (rd l0 x5_1) = a1
     ·rw [if_pos c5] at H
      have c5b0 : ((rd l0 x5_1) == a1) = true := beq_iff_eq.mpr c5
      have c5b1 : ((rd l0 x5_1) != a1) = false := bne_eq_false_iff_eq.mpr c5
      clear c5
      obtain rfl := Option.some.inj H
      have p464 : 0 ≤ (x5_1 : Int) := dd_
      have q464 : x5_1 < (l0.length : Int) := dd_
      obtain ⟨ad464, e464, hx464_0⟩ := Kd.at_int HR0.out x5_1 p464 q464
      cases e464
      replace p464 := eq_true p464
      replace q464 := eq_true q464
      go_wp2
      go_ret
      exact ⟨by first | rfl | (simp; done) | (simp [*]; done), by repeat (first | exact Drawn0.refl _ | apply Drawn0.step)⟩
     ·rw [if_neg c5] at H
      have c5b0 : ((rd l0 x5_1) == a1) = false := beq_eq_false_iff_ne.mpr c5
      have c5b1 : ((rd l0 x5_1) != a1) = true := bne_iff_ne.mpr c5
      have H' := Aside0.mk H
      clear H
      have p464 : 0 ≤ (x5_1 : Int) := dd_
      have q464 : x5_1 < (l0.length : Int) := dd_
      obtain ⟨ad464, e464, hx464_0⟩ := Kd.at_int HR0.out x5_1 p464 q464
      cases e464
      replace p464 := eq_true p464
      replace q464 := eq_true q464
      go_wp2
      go_roundg k1
      case measure => have := HK1.out; omega
      case rel => exact ⟨(wrap64 (x5_1 + 1)), (by first | rfl | (simp; done) | (simp [*]; done)), H', ⟨by have := HK1.out; omega⟩, by repeat (first | exact Drawn0.refl _ | apply Drawn0.step)⟩
    ·rw [if_neg c4] at H
     exact absurd H (by simp)
   ·rw [if_neg c3] at H
    have c3b0 : decide (x5_1 < (l0.length : Int)) = false := decide_eq_false c3
    clear c3
    obtain rfl := Option.some.inj H
    go_wp2
    go_ret
    exact ⟨by first | rfl | (simp; done) | (simp [*]; done), by repeat (first | exact Drawn0.refl _ | apply Drawn0.step)⟩
end Go.Proofs.Ytbfafjejmljcpaa.P

namespace Go.Proofs.Ytbfafjejmljcpaa.P
open Go.RowKit Go.Proofs.YtbfafjejmljcpaaW.PrintWords Go.Proofs.YtbfafjejmljcpaaW.PrintLast
set_option linter.unusedVariables false
set_option linter.unusedSimpArgs false

mutual
def spec_LeafIn.l0 : Nat → List Int → Int → Option (Bool)
 | 0, _, _ => none
 | k + 1, x0, x3 => if x3 < 9 then (if 0 ≤ x3 then (if x3 < (x0.length : Int) then ((spec_l6In.f (rd x0 x3) 0 80).bind fun t468 => (if t468 = true then (if x3 > 0 then (if 0 ≤ (wrap64 (x3 - 1)) then (if (wrap64 (x3 - 1)) < (x0.length : Int) then (if (rd x0 x3) ≤ (rd x0 (wrap64 (x3 - 1))) then (some false) else (spec_LeafIn.l0 k x0 (wrap64 (x3 + 1)))) else (none)) else (none)) else (spec_LeafIn.l0 k x0 (wrap64 (x3 + 1)))) else (some false))) else (none)) else (none)) else (spec_LeafIn.l1 k x0 0)
def spec_LeafIn.l1 : Nat → List Int → Int → Option (Bool)
 | 0, _, _ => none
 | k + 1, x0, x4 => if x4 < 9 then (spec_LeafIn.l2 k x0 x4 0) else (some true)
def spec_LeafIn.l2 : Nat → List Int → Int → Int → Option (Bool)
 | 0, _, _, _ => none
 | k + 1, x0, x4, x5 => if x5 < 9 then (if 0 ≤ x4 then (if x4 < (x0.length : Int) then (if 0 ≤ x5 then (if x5 < (x0.length : Int) then ((spec_l6lAdd.f (rd x0 x4) (rd x0 x5)).bind fun t473 => ((spec_l6lHas.f k x0 t473).bind fun t474 => (if t474 = true then (spec_LeafIn.l2 k x0 x4 (wrap64 (x5 + 1))) else (some false)))) else (none)) else (none)) else (none)) else (none)) else (spec_LeafIn.l1 k x0 (wrap64 (x4 + 1)))
end
def spec_LeafIn.f (k : Nat) (l0 : List Int) : Option (Bool) := if (l0.length : Int) = 9 then (spec_LeafIn.l0 k l0 0) else (some false)
set_option maxHeartbeats 8000000 in
set_option maxRecDepth 100000 in
theorem spec_LeafIn.calls (k : Nat) (A0 : Option Addr) (c0 : Nat) (l0 : List Int) (r : Bool) (w : World) (hr0 : Kd.C (Kd.int .i64) w A0 l0.length l0) (hc0 : l0.length ≤ c0) (h : spec_LeafIn.f k l0 = some r) :
  Calls Try.prog 24 #[.slice A0 l0.length c0] w fun e w' => e = .returned (.bool r) ∧ Drawn0 w w' := by
 have HR0 := Aside0.mk hr0
 have HC0 := Aside0.mk hc0
 clear hr0 hc0
 have H : (if (l0.length : Int) = 9 then (spec_LeafIn.l0 k l0 0) else (some false)) = some r := h
 clear h
 by_cases c2 : (l0.length : Int) = 9
 ·rw [if_pos c2] at H
  have c2b0 : ((l0.length : Int) == 9) = true := beq_iff_eq.mpr c2
  have c2b1 : ((l0.length : Int) != 9) = false := bne_eq_false_iff_eq.mpr c2
  clear c2
  have H' := Aside0.mk H
  clear H
  go_enter Try.func24, Try.ntmps24
  go_wp2
  repeat (go_quiet (fail); try go_wp2)
  go_loopg [3] k (fun kq v3 w' => ∃ (x3_1 : Int), v3 = .int .i64 x3_1 ∧ Aside0 (spec_LeafIn.l0 kq l0 x3_1 = some r) ∧ Aside0 (kq ≤ k) ∧ Drawn0 w w')
  case atStart => exact ⟨(0), (by first | rfl | (simp; done) | (simp [*]; done)), H', ⟨Nat.le_refl _⟩, by repeat (first | exact Drawn0.refl _ | apply Drawn0.step)⟩
  case round =>
   clear H'
   try clear c2
   try clear c2b0
   try clear c2b1
   try clear p2
   obtain ⟨x3_1, rfl, HA, HK1, ⟨m1, rfl⟩⟩ := hrel
   cases gk with
   | zero => exact absurd HA.out (by simp [spec_LeafIn.l0])
   | succ k1 =>
    have H := HA.out
    clear HA
    simp only [spec_LeafIn.l0] at H
    by_cases c3 : x3_1 < 9
    ·rw [if_pos c3] at H
     have c3b0 : decide (x3_1 < 9) = true := decide_eq_true c3
     clear c3
     by_cases c4 : 0 ≤ x3_1
     ·rw [if_pos c4] at H
      have c4b0 : decide (0 ≤ x3_1) = true := decide_eq_true c4
      clear c4
      by_cases c5 : x3_1 < (l0.length : Int)
      ·rw [if_pos c5] at H
       have c5b0 : decide (x3_1 < (l0.length : Int)) = true := decide_eq_true c5
       clear c5
       replace H := Option.bind_eq_some_iff.mp H
       obtain ⟨t468, A60, H⟩ := H
       replace H : (if t468 = true then (if x3_1 > 0 then (if 0 ≤ (wrap64 (x3_1 - 1)) then (if (wrap64 (x3_1 - 1)) < (l0.length : Int) then (if (rd l0 x3_1) ≤ (rd l0 (wrap64 (x3_1 - 1))) then (some false) else (spec_LeafIn.l0 k1 l0 (wrap64 (x3_1 + 1)))) else (none)) else (none)) else (spec_LeafIn.l0 k1 l0 (wrap64 (x3_1 + 1)))) else (some false)) = some r := H
       have A6 := Aside0.mk A60
       clear A60
       by_cases c7 : t468 = true
       ·subst c7
        have H1 : (if x3_1 > 0 then (if 0 ≤ (wrap64 (x3_1 - 1)) then (if (wrap64 (x3_1 - 1)) < (l0.length : Int) then (if (rd l0 x3_1) ≤ (rd l0 (wrap64 (x3_1 - 1))) then (some false) else (spec_LeafIn.l0 k1 l0 (wrap64 (x3_1 + 1)))) else (none)) else (none)) else (spec_LeafIn.l0 k1 l0 (wrap64 (x3_1 + 1)))) = some r := by rw [if_pos rfl] at H; exact H
        clear H
        have H := H1
        clear H1
        by_cases c8 : x3_1 > 0
        ·rw [if_pos c8] at H
         have c8b0 : decide (0 < x3_1) = true := decide_eq_true c8
         clear c8
         obtain ⟨ji9, hji9⟩ : ∃ j_ : Int, (wrap64 (x3_1 - 1)) = j_ := ⟨_, rfl⟩
         replace H : (if 0 ≤ (ji9) then (if (ji9) < (l0.length : Int) then (if (rd l0 x3_1) ≤ (rd l0 (ji9)) then (some false) else (spec_LeafIn.l0 k1 l0 (wrap64 (x3_1 + 1)))) else (none)) else (none)) = some r := by first | (rw [hji9] at H; exact H) | (simp only [hji9] at H ⊢; exact H)
         (try rw [hji9] at A6)
         have hji9w : (IntKind.i64.wrap (x3_1 - 1)) = ji9 := (i64_w _).trans hji9
         by_cases c10 : 0 ≤ (ji9)
         ·rw [if_pos c10] at H
          have c10b0 : decide (0 ≤ (ji9)) = true := decide_eq_true c10
          clear c10
          by_cases c11 : (ji9) < (l0.length : Int)
          ·rw [if_pos c11] at H
           have c11b0 : decide ((ji9) < (l0.length : Int)) = true := decide_eq_true c11
           clear c11
           by_cases c12 : (rd l0 x3_1) ≤ (rd l0 (ji9))
           ·rw [if_pos c12] at H
            have c12b0 : decide ((rd l0 x3_1) ≤ (rd l0 (ji9))) = true := decide_eq_true c12
            clear c12
            obtain rfl := Option.some.inj H
            have p467 : 0 ≤ (x3_1 : Int) := dd_
            have q467 : x3_1 < (l0.length : Int) := dd_
            obtain ⟨ad467, e467, hx467_0⟩ := Kd.at_int HR0.out x3_1 p467 q467
            cases e467
            replace p467 := eq_true p467
            replace q467 := eq_true q467
            go_wp2_with (first | (go_at_call 57; (with_reducible refine (spec_l6In.calls (rd l0 x3_1) 0 80 true _ A6.out).mono ?_); rintro e w' ⟨rfl, ⟨nd, rfl⟩⟩; (try first | exact ⟨rfl, _, World.drewN_drewN _ _ _⟩ | exact ⟨rfl, _, Eq.trans (World.drewN_drewN _ _ _) (congrArg (World.drewN _) (Nat.add_assoc _ _ _))⟩); have p469 : 0 ≤ (x3_1 : Int) := dd_; have q469 : x3_1 < (l0.length : Int) := dd_; obtain ⟨ad469, e469, hx469_0⟩ := Kd.at_int HR0.out x3_1 p469 q469; obtain rfl : ad467 = ad469 := (by injection e469); replace p469 := eq_true p469; replace q469 := eq_true q469; have p470 : 0 ≤ ((ji9) : Int) := dd_; have q470 : (ji9) < (l0.length : Int) := dd_; obtain ⟨ad470, e470, hx470_0⟩ := Kd.at_int HR0.out (ji9) p470 q470; obtain rfl : ad467 = ad470 := (by injection e470); replace p470 := eq_true p470; replace q470 := eq_true q470))
            repeat (go_quiet (first | (go_at_call 57; (with_reducible refine (spec_l6In.calls (rd l0 x3_1) 0 80 true _ A6.out).mono ?_); rintro e w' ⟨rfl, ⟨nd, rfl⟩⟩; (try first | exact ⟨rfl, _, World.drewN_drewN _ _ _⟩ | exact ⟨rfl, _, Eq.trans (World.drewN_drewN _ _ _) (congrArg (World.drewN _) (Nat.add_assoc _ _ _))⟩); have p469 : 0 ≤ (x3_1 : Int) := dd_; have q469 : x3_1 < (l0.length : Int) := dd_; obtain ⟨ad469, e469, hx469_0⟩ := Kd.at_int HR0.out x3_1 p469 q469; obtain rfl : ad467 = ad469 := (by injection e469); replace p469 := eq_true p469; replace q469 := eq_true q469; have p470 : 0 ≤ ((ji9) : Int) := dd_; have q470 : (ji9) < (l0.length : Int) := dd_; obtain ⟨ad470, e470, hx470_0⟩ := Kd.at_int HR0.out (ji9) p470 q470; obtain rfl : ad467 = ad470 := (by injection e470); replace p470 := eq_true p470; replace q470 := eq_true q470)); try go_wp2_with (first | (go_at_call 57; (with_reducible refine (spec_l6In.calls (rd l0 x3_1) 0 80 true _ A6.out).mono ?_); rintro e w' ⟨rfl, ⟨nd, rfl⟩⟩; (try first | exact ⟨rfl, _, World.drewN_drewN _ _ _⟩ | exact ⟨rfl, _, Eq.trans (World.drewN_drewN _ _ _) (congrArg (World.drewN _) (Nat.add_assoc _ _ _))⟩); have p469 : 0 ≤ (x3_1 : Int) := dd_; have q469 : x3_1 < (l0.length : Int) := dd_; obtain ⟨ad469, e469, hx469_0⟩ := Kd.at_int HR0.out x3_1 p469 q469; obtain rfl : ad467 = ad469 := (by injection e469); replace p469 := eq_true p469; replace q469 := eq_true q469; have p470 : 0 ≤ ((ji9) : Int) := dd_; have q470 : (ji9) < (l0.length : Int) := dd_; obtain ⟨ad470, e470, hx470_0⟩ := Kd.at_int HR0.out (ji9) p470 q470; obtain rfl : ad467 = ad470 := (by injection e470); replace p470 := eq_true p470; replace q470 := eq_true q470)))
            go_ret
            exact ⟨by first | rfl | (simp; done) | (simp only [← hji9] <;> (first | rfl | simp)) | (simp [*]; done), by repeat (first | exact Drawn0.refl _ | apply Drawn0.step)⟩
           ·rw [if_neg c12] at H
            have c12b0 : decide ((rd l0 x3_1) ≤ (rd l0 (ji9))) = false := decide_eq_false c12
            clear c12
            have H' := Aside0.mk H
            clear H
            have p467 : 0 ≤ (x3_1 : Int) := dd_
            have q467 : x3_1 < (l0.length : Int) := dd_
            obtain ⟨ad467, e467, hx467_0⟩ := Kd.at_int HR0.out x3_1 p467 q467
            cases e467
            replace p467 := eq_true p467
            replace q467 := eq_true q467
            go_wp2_with (first | (go_at_call 57; (with_reducible refine (spec_l6In.calls (rd l0 x3_1) 0 80 true _ A6.out).mono ?_); rintro e w' ⟨rfl, ⟨nd, rfl⟩⟩; (try first | exact ⟨rfl, _, World.drewN_drewN _ _ _⟩ | exact ⟨rfl, _, Eq.trans (World.drewN_drewN _ _ _) (congrArg (World.drewN _) (Nat.add_assoc _ _ _))⟩); have p469 : 0 ≤ (x3_1 : Int) := dd_; have q469 : x3_1 < (l0.length : Int) := dd_; obtain ⟨ad469, e469, hx469_0⟩ := Kd.at_int HR0.out x3_1 p469 q469; obtain rfl : ad467 = ad469 := (by injection e469); replace p469 := eq_true p469; replace q469 := eq_true q469; have p470 : 0 ≤ ((ji9) : Int) := dd_; have q470 : (ji9) < (l0.length : Int) := dd_; obtain ⟨ad470, e470, hx470_0⟩ := Kd.at_int HR0.out (ji9) p470 q470; obtain rfl : ad467 = ad470 := (by injection e470); replace p470 := eq_true p470; replace q470 := eq_true q470))
            repeat (go_quiet (first | (go_at_call 57; (with_reducible refine (spec_l6In.calls (rd l0 x3_1) 0 80 true _ A6.out).mono ?_); rintro e w' ⟨rfl, ⟨nd, rfl⟩⟩; (try first | exact ⟨rfl, _, World.drewN_drewN _ _ _⟩ | exact ⟨rfl, _, Eq.trans (World.drewN_drewN _ _ _) (congrArg (World.drewN _) (Nat.add_assoc _ _ _))⟩); have p469 : 0 ≤ (x3_1 : Int) := dd_; have q469 : x3_1 < (l0.length : Int) := dd_; obtain ⟨ad469, e469, hx469_0⟩ := Kd.at_int HR0.out x3_1 p469 q469; obtain rfl : ad467 = ad469 := (by injection e469); replace p469 := eq_true p469; replace q469 := eq_true q469; have p470 : 0 ≤ ((ji9) : Int) := dd_; have q470 : (ji9) < (l0.length : Int) := dd_; obtain ⟨ad470, e470, hx470_0⟩ := Kd.at_int HR0.out (ji9) p470 q470; obtain rfl : ad467 = ad470 := (by injection e470); replace p470 := eq_true p470; replace q470 := eq_true q470)); try go_wp2_with (first | (go_at_call 57; (with_reducible refine (spec_l6In.calls (rd l0 x3_1) 0 80 true _ A6.out).mono ?_); rintro e w' ⟨rfl, ⟨nd, rfl⟩⟩; (try first | exact ⟨rfl, _, World.drewN_drewN _ _ _⟩ | exact ⟨rfl, _, Eq.trans (World.drewN_drewN _ _ _) (congrArg (World.drewN _) (Nat.add_assoc _ _ _))⟩); have p469 : 0 ≤ (x3_1 : Int) := dd_; have q469 : x3_1 < (l0.length : Int) := dd_; obtain ⟨ad469, e469, hx469_0⟩ := Kd.at_int HR0.out x3_1 p469 q469; obtain rfl : ad467 = ad469 := (by injection e469); replace p469 := eq_true p469; replace q469 := eq_true q469; have p470 : 0 ≤ ((ji9) : Int) := dd_; have q470 : (ji9) < (l0.length : Int) := dd_; obtain ⟨ad470, e470, hx470_0⟩ := Kd.at_int HR0.out (ji9) p470 q470; obtain rfl : ad467 = ad470 := (by injection e470); replace p470 := eq_true p470; replace q470 := eq_true q470)))
            go_roundg k1
            case measure => have := HK1.out; omega
            case rel => exact ⟨(wrap64 (x3_1 + 1)), (by first | rfl | (simp; done) | (simp [*]; done)), H', ⟨by have := HK1.out; omega⟩, by repeat (first | exact Drawn0.refl _ | apply Drawn0.step)⟩
          ·rw [if_neg c11] at H
           exact absurd H (by simp)
         ·rw [if_neg c10] at H
          exact absurd H (by simp)
        ·rw [if_neg c8] at H
         have c8b0 : decide (0 < x3_1) = false := decide_eq_false c8
         clear c8
         have H' := Aside0.mk H
         clear H
         have p467 : 0 ≤ (x3_1 : Int) := dd_
         have q467 : x3_1 < (l0.length : Int) := dd_
         obtain ⟨ad467, e467, hx467_0⟩ := Kd.at_int HR0.out x3_1 p467 q467
         cases e467
         replace p467 := eq_true p467
         replace q467 := eq_true q467
         go_wp2_with (first | (go_at_call 57; (with_reducible refine (spec_l6In.calls (rd l0 x3_1) 0 80 true _ A6.out).mono ?_); rintro e w' ⟨rfl, ⟨nd, rfl⟩⟩; (try first | exact ⟨rfl, _, World.drewN_drewN _ _ _⟩ | exact ⟨rfl, _, Eq.trans (World.drewN_drewN _ _ _) (congrArg (World.drewN _) (Nat.add_assoc _ _ _))⟩)))
         repeat (go_quiet (first | (go_at_call 57; (with_reducible refine (spec_l6In.calls (rd l0 x3_1) 0 80 true _ A6.out).mono ?_); rintro e w' ⟨rfl, ⟨nd, rfl⟩⟩; (try first | exact ⟨rfl, _, World.drewN_drewN _ _ _⟩ | exact ⟨rfl, _, Eq.trans (World.drewN_drewN _ _ _) (congrArg (World.drewN _) (Nat.add_assoc _ _ _))⟩))); try go_wp2_with (first | (go_at_call 57; (with_reducible refine (spec_l6In.calls (rd l0 x3_1) 0 80 true _ A6.out).mono ?_); rintro e w' ⟨rfl, ⟨nd, rfl⟩⟩; (try first | exact ⟨rfl, _, World.drewN_drewN _ _ _⟩ | exact ⟨rfl, _, Eq.trans (World.drewN_drewN _ _ _) (congrArg (World.drewN _) (Nat.add_assoc _ _ _))⟩))))
         go_roundg k1
         case measure => have := HK1.out; omega
         case rel => exact ⟨(wrap64 (x3_1 + 1)), (by first | rfl | (simp; done) | (simp [*]; done)), H', ⟨by have := HK1.out; omega⟩, by repeat (first | exact Drawn0.refl _ | apply Drawn0.step)⟩
       ·replace c7 := Bool.eq_false_iff.mpr c7
        subst c7
        have H1 : (some false) = some r := by rw [if_neg (show ¬ (false = true) by decide)] at H; exact H
        clear H
        have H := H1
        clear H1
        obtain rfl := Option.some.inj H
        have p467 : 0 ≤ (x3_1 : Int) := dd_
        have q467 : x3_1 < (l0.length : Int) := dd_
        obtain ⟨ad467, e467, hx467_0⟩ := Kd.at_int HR0.out x3_1 p467 q467
        cases e467
        replace p467 := eq_true p467
        replace q467 := eq_true q467
        go_wp2_with (first | (go_at_call 57; (with_reducible refine (spec_l6In.calls (rd l0 x3_1) 0 80 false _ A6.out).mono ?_); rintro e w' ⟨rfl, ⟨nd, rfl⟩⟩; (try first | exact ⟨rfl, _, World.drewN_drewN _ _ _⟩ | exact ⟨rfl, _, Eq.trans (World.drewN_drewN _ _ _) (congrArg (World.drewN _) (Nat.add_assoc _ _ _))⟩)))
        repeat (go_quiet (first | (go_at_call 57; (with_reducible refine (spec_l6In.calls (rd l0 x3_1) 0 80 false _ A6.out).mono ?_); rintro e w' ⟨rfl, ⟨nd, rfl⟩⟩; (try first | exact ⟨rfl, _, World.drewN_drewN _ _ _⟩ | exact ⟨rfl, _, Eq.trans (World.drewN_drewN _ _ _) (congrArg (World.drewN _) (Nat.add_assoc _ _ _))⟩))); try go_wp2_with (first | (go_at_call 57; (with_reducible refine (spec_l6In.calls (rd l0 x3_1) 0 80 false _ A6.out).mono ?_); rintro e w' ⟨rfl, ⟨nd, rfl⟩⟩; (try first | exact ⟨rfl, _, World.drewN_drewN _ _ _⟩ | exact ⟨rfl, _, Eq.trans (World.drewN_drewN _ _ _) (congrArg (World.drewN _) (Nat.add_assoc _ _ _))⟩))))
        go_ret
        exact ⟨by first | rfl | (simp; done) | (simp [*]; done), by repeat (first | exact Drawn0.refl _ | apply Drawn0.step)⟩
      ·rw [if_neg c5] at H
       exact absurd H (by simp)
     ·rw [if_neg c4] at H
      exact absurd H (by simp)
    ·rw [if_neg c3] at H
     have c3b0 : decide (x3_1 < 9) = false := decide_eq_false c3
     clear c3
     have H' := Aside0.mk H
     clear H
     go_wp2
     repeat (go_quiet (fail); try go_wp2)
     go_loopg [4] k1 (fun kq v4 w' => ∃ (x4_2 : Int), v4 = .int .i64 x4_2 ∧ Aside0 (spec_LeafIn.l1 kq l0 x4_2 = some r) ∧ Aside0 (kq ≤ k1) ∧ Drawn0 w w')
     case atStart => exact ⟨(0), (by first | rfl | (simp; done) | (simp [*]; done)), H', ⟨Nat.le_refl _⟩, by repeat (first | exact Drawn0.refl _ | apply Drawn0.step)⟩
     case round =>
      clear H'
      try clear c1
      try clear c2
      try clear c2b0
      try clear c2b1
      try clear p2
      try clear c3
      try clear c3b0
      try clear c4
      try clear c4b0
      try clear p4
      try clear q4
      try clear hx4
      try clear c5
      try clear c5b0
      try clear p6
      try clear c7
      try clear c8
      try clear c8b0
      try clear c10
      try clear c10b0
      try clear c11
      try clear c11b0
      try clear c12
      try clear c12b0
      try clear hx467_0
      try clear hx469_0
      try clear hx470_0
      try clear p2
      try clear p467
      try clear p469
      try clear p470
      try clear q467
      try clear q469
      try clear q470
      obtain ⟨x4_2, rfl, HA, HK2, ⟨m2, rfl⟩⟩ := hrel
      cases gk with
      | zero => exact absurd HA.out (by simp [spec_LeafIn.l1])
      | succ k2 =>
       have H := HA.out
       clear HA
       simp only [spec_LeafIn.l1] at H
       by_cases c13 : x4_2 < 9
       ·rw [if_pos c13] at H
        have c13b0 : decide (x4_2 < 9) = true := decide_eq_true c13
        clear c13
        have H' := Aside0.mk H
        clear H
        go_wp2
        repeat (go_quiet (fail); try go_wp2)
        go_loopg [5] k2 (fun kq v5 w' => ∃ (x5_3 : Int), v5 = .int .i64 x5_3 ∧ Aside0 (spec_LeafIn.l2 kq l0 x4_2 x5_3 = some r) ∧ Aside0 (kq ≤ k2) ∧ Drawn0 w w')
        case atStart => exact ⟨(0), (by first | rfl | (simp; done) | (simp [*]; done)), H', ⟨Nat.le_refl _⟩, by repeat (first | exact Drawn0.refl _ | apply Drawn0.step)⟩
        case round =>
         clear H'
         try clear c1
         try clear c2
         try clear c2b0
         try clear c2b1
         try clear p2
         try clear c3
         try clear c3b0
         try clear c4
         try clear c4b0
         try clear p4
         try clear q4
         try clear hx4
         try clear c5
         try clear c5b0
         try clear p6
         try clear c7
         try clear c8
         try clear c8b0
         try clear c10
         try clear c10b0
         try clear c11
         try clear c11b0
         try clear c12
         try clear c12b0
         try clear c13
         try clear c13b0
         try clear hx467_0
         try clear hx469_0
         try clear hx470_0
         try clear p2
         try clear p4
         try clear p467
         try clear p469
         try clear p470
         try clear p6
         try clear q4
         try clear q467
         try clear q469
         try clear q470
         obtain ⟨x5_3, rfl, HA, HK3, ⟨m3, rfl⟩⟩ := hrel
         cases gk with
         | zero => exact absurd HA.out (by simp [spec_LeafIn.l2])
         | succ k3 =>
          have H := HA.out
          clear HA
          simp only [spec_LeafIn.l2] at H
          by_cases c14 : x5_3 < 9
          ·rw [if_pos c14] at H
           have c14b0 : decide (x5_3 < 9) = true := decide_eq_true c14
           clear c14
           by_cases c15 : 0 ≤ x4_2
           ·rw [if_pos c15] at H
            have c15b0 : decide (0 ≤ x4_2) = true := decide_eq_true c15
            clear c15
            by_cases c16 : x4_2 < (l0.length : Int)
            ·rw [if_pos c16] at H
             have c16b0 : decide (x4_2 < (l0.length : Int)) = true := decide_eq_true c16
             clear c16
             by_cases c17 : 0 ≤ x5_3
             ·rw [if_pos c17] at H
              have c17b0 : decide (0 ≤ x5_3) = true := decide_eq_true c17
              clear c17
              by_cases c18 : x5_3 < (l0.length : Int)
              ·rw [if_pos c18] at H
               have c18b0 : decide (x5_3 < (l0.length : Int)) = true := decide_eq_true c18
               clear c18
               replace H := Option.bind_eq_some_iff.mp H
               obtain ⟨t473, A190, H⟩ := H
               replace H : ((spec_l6lHas.f k3 l0 t473).bind fun t474 => (if t474 = true then (spec_LeafIn.l2 k3 l0 x4_2 (wrap64 (x5_3 + 1))) else (some false))) = some r := H
               have A19 := Aside0.mk A190
               clear A190
               replace H := Option.bind_eq_some_iff.mp H
               obtain ⟨t474, A200, H⟩ := H
               replace H : (if t474 = true then (spec_LeafIn.l2 k3 l0 x4_2 (wrap64 (x5_3 + 1))) else (some false)) = some r := H
               have A20 := Aside0.mk A200
               clear A200
               by_cases c21 : t474 = true
               ·subst c21
                have H1 : (spec_LeafIn.l2 k3 l0 x4_2 (wrap64 (x5_3 + 1))) = some r := by rw [if_pos rfl] at H; exact H
                clear H
                have H := H1
                clear H1
                have H' := Aside0.mk H
                clear H
                have p471 : 0 ≤ (x4_2 : Int) := dd_
                have q471 : x4_2 < (l0.length : Int) := dd_
                obtain ⟨ad471, e471, hx471_0⟩ := Kd.at_int HR0.out x4_2 p471 q471
                cases e471
                replace p471 := eq_true p471
                replace q471 := eq_true q471
                have p472 : 0 ≤ (x5_3 : Int) := dd_
                have q472 : x5_3 < (l0.length : Int) := dd_
                obtain ⟨ad472, e472, hx472_0⟩ := Kd.at_int HR0.out x5_3 p472 q472
                obtain rfl : ad471 = ad472 := (by injection e472)
                replace p472 := eq_true p472
                replace q472 := eq_true q472
                go_wp2_with (first | (go_at_call 59; (with_reducible refine (spec_l6lAdd.calls (rd l0 x4_2) (rd l0 x5_3) t473 _ A19.out).mono ?_); rintro e w' ⟨rfl, ⟨nd, rfl⟩⟩; (try first | exact ⟨rfl, _, World.drewN_drewN _ _ _⟩ | exact ⟨rfl, _, Eq.trans (World.drewN_drewN _ _ _) (congrArg (World.drewN _) (Nat.add_assoc _ _ _))⟩)) | (go_at_call 58; (with_reducible refine (spec_l6lHas.calls k3 _ _ l0 t473 true _ ?side1 ?side2 A20.out).mono ?_); (case side1 => exact ss_ HR0); (case side2 => exact HC0.out); rintro e w' ⟨rfl, ⟨nd, rfl⟩⟩; (try first | exact ⟨rfl, _, World.drewN_drewN _ _ _⟩ | exact ⟨rfl, _, Eq.trans (World.drewN_drewN _ _ _) (congrArg (World.drewN _) (Nat.add_assoc _ _ _))⟩)))
                repeat (go_quiet (first | (go_at_call 59; (with_reducible refine (spec_l6lAdd.calls (rd l0 x4_2) (rd l0 x5_3) t473 _ A19.out).mono ?_); rintro e w' ⟨rfl, ⟨nd, rfl⟩⟩; (try first | exact ⟨rfl, _, World.drewN_drewN _ _ _⟩ | exact ⟨rfl, _, Eq.trans (World.drewN_drewN _ _ _) (congrArg (World.drewN _) (Nat.add_assoc _ _ _))⟩)) | (go_at_call 58; (with_reducible refine (spec_l6lHas.calls k3 _ _ l0 t473 true _ ?side1 ?side2 A20.out).mono ?_); (case side1 => exact ss_ HR0); (case side2 => exact HC0.out); rintro e w' ⟨rfl, ⟨nd, rfl⟩⟩; (try first | exact ⟨rfl, _, World.drewN_drewN _ _ _⟩ | exact ⟨rfl, _, Eq.trans (World.drewN_drewN _ _ _) (congrArg (World.drewN _) (Nat.add_assoc _ _ _))⟩))); try go_wp2_with (first | (go_at_call 59; (with_reducible refine (spec_l6lAdd.calls (rd l0 x4_2) (rd l0 x5_3) t473 _ A19.out).mono ?_); rintro e w' ⟨rfl, ⟨nd, rfl⟩⟩; (try first | exact ⟨rfl, _, World.drewN_drewN _ _ _⟩ | exact ⟨rfl, _, Eq.trans (World.drewN_drewN _ _ _) (congrArg (World.drewN _) (Nat.add_assoc _ _ _))⟩)) | (go_at_call 58; (with_reducible refine (spec_l6lHas.calls k3 _ _ l0 t473 true _ ?side1 ?side2 A20.out).mono ?_); (case side1 => exact ss_ HR0); (case side2 => exact HC0.out); rintro e w' ⟨rfl, ⟨nd, rfl⟩⟩; (try first | exact ⟨rfl, _, World.drewN_drewN _ _ _⟩ | exact ⟨rfl, _, Eq.trans (World.drewN_drewN _ _ _) (congrArg (World.drewN _) (Nat.add_assoc _ _ _))⟩))))
                go_roundg k3
                case measure => have := HK1.out; have := HK2.out; have := HK3.out; omega
                case rel => exact ⟨(wrap64 (x5_3 + 1)), (by first | rfl | (simp; done) | (simp [*]; done)), H', ⟨by have := HK1.out; have := HK2.out; have := HK3.out; omega⟩, by repeat (first | exact Drawn0.refl _ | apply Drawn0.step)⟩
               ·replace c21 := Bool.eq_false_iff.mpr c21
                subst c21
                have H1 : (some false) = some r := by rw [if_neg (show ¬ (false = true) by decide)] at H; exact H
                clear H
                have H := H1
                clear H1
                obtain rfl := Option.some.inj H
                have p471 : 0 ≤ (x4_2 : Int) := dd_
                have q471 : x4_2 < (l0.length : Int) := dd_
                obtain ⟨ad471, e471, hx471_0⟩ := Kd.at_int HR0.out x4_2 p471 q471
                cases e471
                replace p471 := eq_true p471
                replace q471 := eq_true q471
                have p472 : 0 ≤ (x5_3 : Int) := dd_
                have q472 : x5_3 < (l0.length : Int) := dd_
                obtain ⟨ad472, e472, hx472_0⟩ := Kd.at_int HR0.out x5_3 p472 q472
                obtain rfl : ad471 = ad472 := (by injection e472)
                replace p472 := eq_true p472
                replace q472 := eq_true q472
                go_wp2_with (first | (go_at_call 59; (with_reducible refine (spec_l6lAdd.calls (rd l0 x4_2) (rd l0 x5_3) t473 _ A19.out).mono ?_); rintro e w' ⟨rfl, ⟨nd, rfl⟩⟩; (try first | exact ⟨rfl, _, World.drewN_drewN _ _ _⟩ | exact ⟨rfl, _, Eq.trans (World.drewN_drewN _ _ _) (congrArg (World.drewN _) (Nat.add_assoc _ _ _))⟩)) | (go_at_call 58; (with_reducible refine (spec_l6lHas.calls k3 _ _ l0 t473 false _ ?side1 ?side2 A20.out).mono ?_); (case side1 => exact ss_ HR0); (case side2 => exact HC0.out); rintro e w' ⟨rfl, ⟨nd, rfl⟩⟩; (try first | exact ⟨rfl, _, World.drewN_drewN _ _ _⟩ | exact ⟨rfl, _, Eq.trans (World.drewN_drewN _ _ _) (congrArg (World.drewN _) (Nat.add_assoc _ _ _))⟩)))
                repeat (go_quiet (first | (go_at_call 59; (with_reducible refine (spec_l6lAdd.calls (rd l0 x4_2) (rd l0 x5_3) t473 _ A19.out).mono ?_); rintro e w' ⟨rfl, ⟨nd, rfl⟩⟩; (try first | exact ⟨rfl, _, World.drewN_drewN _ _ _⟩ | exact ⟨rfl, _, Eq.trans (World.drewN_drewN _ _ _) (congrArg (World.drewN _) (Nat.add_assoc _ _ _))⟩)) | (go_at_call 58; (with_reducible refine (spec_l6lHas.calls k3 _ _ l0 t473 false _ ?side1 ?side2 A20.out).mono ?_); (case side1 => exact ss_ HR0); (case side2 => exact HC0.out); rintro e w' ⟨rfl, ⟨nd, rfl⟩⟩; (try first | exact ⟨rfl, _, World.drewN_drewN _ _ _⟩ | exact ⟨rfl, _, Eq.trans (World.drewN_drewN _ _ _) (congrArg (World.drewN _) (Nat.add_assoc _ _ _))⟩))); try go_wp2_with (first | (go_at_call 59; (with_reducible refine (spec_l6lAdd.calls (rd l0 x4_2) (rd l0 x5_3) t473 _ A19.out).mono ?_); rintro e w' ⟨rfl, ⟨nd, rfl⟩⟩; (try first | exact ⟨rfl, _, World.drewN_drewN _ _ _⟩ | exact ⟨rfl, _, Eq.trans (World.drewN_drewN _ _ _) (congrArg (World.drewN _) (Nat.add_assoc _ _ _))⟩)) | (go_at_call 58; (with_reducible refine (spec_l6lHas.calls k3 _ _ l0 t473 false _ ?side1 ?side2 A20.out).mono ?_); (case side1 => exact ss_ HR0); (case side2 => exact HC0.out); rintro e w' ⟨rfl, ⟨nd, rfl⟩⟩; (try first | exact ⟨rfl, _, World.drewN_drewN _ _ _⟩ | exact ⟨rfl, _, Eq.trans (World.drewN_drewN _ _ _) (congrArg (World.drewN _) (Nat.add_assoc _ _ _))⟩))))
                go_ret
                exact ⟨by first | rfl | (simp; done) | (simp [*]; done), by repeat (first | exact Drawn0.refl _ | apply Drawn0.step)⟩
              ·rw [if_neg c18] at H
               exact absurd H (by simp)
             ·rw [if_neg c17] at H
              exact absurd H (by simp)
            ·rw [if_neg c16] at H
             exact absurd H (by simp)
           ·rw [if_neg c15] at H
            exact absurd H (by simp)
          ·rw [if_neg c14] at H
           have c14b0 : decide (x5_3 < 9) = false := decide_eq_false c14
           clear c14
           have H' := Aside0.mk H
           clear H
           go_wp2
           repeat (go_quiet (fail); try go_wp2)
           go_roundg k3
           case measure => have := HK1.out; have := HK2.out; have := HK3.out; omega
           case rel => exact ⟨(wrap64 (x4_2 + 1)), (by first | rfl | (simp; done) | (simp [*]; done)), H', ⟨by have := HK1.out; have := HK2.out; have := HK3.out; omega⟩, by repeat (first | exact Drawn0.refl _ | apply Drawn0.step)⟩
       ·rw [if_neg c13] at H
        have c13b0 : decide (x4_2 < 9) = false := decide_eq_false c13
        clear c13
        obtain rfl := Option.some.inj H
        go_wp2
        repeat (go_quiet (fail); try go_wp2)
        go_ret
        exact ⟨by first | rfl | (simp; done) | (simp [*]; done), by repeat (first | exact Drawn0.refl _ | apply Drawn0.step)⟩
 ·rw [if_neg c2] at H
  have c2b0 : ((l0.length : Int) == 9) = false := beq_eq_false_iff_ne.mpr c2
  have c2b1 : ((l0.length : Int) != 9) = true := bne_iff_ne.mpr c2
  obtain rfl := Option.some.inj H
  go_enter Try.func24, Try.ntmps24
  go_wp2
  repeat (go_quiet (fail); try go_wp2)
  go_ret
  exact ⟨by first | rfl | (simp; done) | (simp [*]; done), by repeat (first | exact Drawn0.refl _ | apply Drawn0.step)⟩
end Go.Proofs.Ytbfafjejmljcpaa.P

namespace Go.Proofs.Ytbfafjejmljcpaa.P
open Go.RowKit Go.Proofs.YtbfafjejmljcpaaW.PrintWords Go.Proofs.YtbfafjejmljcpaaW.PrintLast
set_option linter.unusedVariables false
set_option linter.unusedSimpArgs false

def impl_addNear.f (a0 : Int) (a1 : Int) : Option (Int) := (impl_add.f (wrap64 (Int.tdiv a0 9)) (wrap64 (Int.tdiv a1 9))).bind fun t641 => ((impl_add.f (Int.tmod a0 9) (Int.tmod a1 9)).bind fun t642 => (some (wrap64 ((wrap64 (9 * t641)) + t642))))
set_option maxHeartbeats 8000000 in
set_option maxRecDepth 100000 in
theorem impl_addNear.calls (a0 : Int) (a1 : Int) (r : Int) (w : World) (h : impl_addNear.f a0 a1 = some r) :
  Calls Try.prog 62 #[.int .i64 a0, .int .i64 a1] w fun e w' => e = .returned (.int .i64 r) ∧ Drawn0 w w' := by
 have H : ((impl_add.f (wrap64 (Int.tdiv a0 9)) (wrap64 (Int.tdiv a1 9))).bind fun t641 => ((impl_add.f (Int.tmod a0 9) (Int.tmod a1 9)).bind fun t642 => (some (wrap64 ((wrap64 (9 * t641)) + t642))))) = some r := h
 clear h
 replace H := Option.bind_eq_some_iff.mp H
 obtain ⟨t641, A30, H⟩ := H
 replace H : ((impl_add.f (Int.tmod a0 9) (Int.tmod a1 9)).bind fun t642 => (some (wrap64 ((wrap64 (9 * t641)) + t642)))) = some r := H
 have A3 := Aside0.mk A30
 clear A30
 replace H := Option.bind_eq_some_iff.mp H
 obtain ⟨t642, A40, H⟩ := H
 replace H : (some (wrap64 ((wrap64 (9 * t641)) + t642))) = some r := H
 have A4 := Aside0.mk A40
 clear A40
 obtain rfl := Option.some.inj H
 go_enter Try.func62, Try.ntmps62
 go_wp2_with (first | (refine goesL_ (some 9) rfl rfl Try.func97 (by kernel_rfl) rfl #[.int .i64 (wrap64 (Int.tdiv a0 9)), .int .i64 (wrap64 (Int.tdiv a1 9))] rfl ll_ ?_; (with_reducible refine (impl_add.calls (wrap64 (Int.tdiv a0 9)) (wrap64 (Int.tdiv a1 9)) t641 _ A3.out).mono ?_); rintro e w' ⟨rfl, ⟨nd, rfl⟩⟩; refine ⟨_, rfl, ?_⟩) | (refine goesL_ (some 15) rfl rfl Try.func97 (by kernel_rfl) rfl #[.int .i64 (Int.tmod a0 9), .int .i64 (Int.tmod a1 9)] rfl ll_ ?_; (with_reducible refine (impl_add.calls (Int.tmod a0 9) (Int.tmod a1 9) t642 _ A4.out).mono ?_); rintro e w' ⟨rfl, ⟨nd, rfl⟩⟩; refine ⟨_, rfl, ?_⟩))
 go_ret
 exact ⟨by first | rfl | (simp; done) | (simp [*]; done), by repeat (first | exact Drawn0.refl _ | apply Drawn0.step)⟩
end Go.Proofs.Ytbfafjejmljcpaa.P

namespace Go.Proofs.Ytbfafjejmljcpaa.P
open Go.RowKit Go.Proofs.YtbfafjejmljcpaaW.PrintWords Go.Proofs.YtbfafjejmljcpaaW.PrintLast
set_option linter.unusedVariables false
set_option linter.unusedSimpArgs false

def impl_isNear.f (a0 : Int) : Option (Bool) := if a0 ≥ 0 then (some (decide (a0 < 81))) else (some false)
set_option maxHeartbeats 8000000 in
set_option maxRecDepth 100000 in
theorem impl_isNear.calls (a0 : Int) (r : Bool) (w : World) (h : impl_isNear.f a0 = some r) :
  Calls Try.prog 60 #[.int .i64 a0] w fun e w' => e = .returned (.bool r) ∧ Drawn0 w w' := by
 have H : (if a0 ≥ 0 then (some (decide (a0 < 81))) else (some false)) = some r := h
 clear h
 by_cases c2 : a0 ≥ 0
 ·rw [if_pos c2] at H
  have c2b0 : decide (0 ≤ a0) = true := decide_eq_true c2
  clear c2
  obtain rfl := Option.some.inj H
  go_enter Try.func60, Try.ntmps60
  go_wp2
  go_ret
  exact ⟨by first | rfl | (simp; done) | (simp [*]; done), by repeat (first | exact Drawn0.refl _ | apply Drawn0.step)⟩
 ·rw [if_neg c2] at H
  have c2b0 : decide (0 ≤ a0) = false := decide_eq_false c2
  clear c2
  obtain rfl := Option.some.inj H
  go_enter Try.func60, Try.ntmps60
  go_wp2
  go_ret
  exact ⟨by first | rfl | (simp; done) | (simp [*]; done), by repeat (first | exact Drawn0.refl _ | apply Drawn0.step)⟩
end Go.Proofs.Ytbfafjejmljcpaa.P

namespace Go.Proofs.Ytbfafjejmljcpaa.P
open Go.RowKit Go.Proofs.YtbfafjejmljcpaaW.PrintWords Go.Proofs.YtbfafjejmljcpaaW.PrintLast
set_option linter.unusedVariables false
set_option linter.unusedSimpArgs false

mutual
def impl_isLeaf.l0 : Nat → List Int → List Int → Int → Int → Option (Bool)
 | 0, _, _, _, _ => none
 | k + 1, x0, x12, x13, x14 => if x14 < x13 then (if 0 ≤ x14 then (if x14 < (x12.length : Int) then ((impl_isNear.f (rd x12 x14)).bind fun t644 => (if t644 = true then (if x14 > 0 then (if 0 ≤ (wrap64 (x14 - 1)) then (if (wrap64 (x14 - 1)) < (x0.length : Int) then (if (rd x0 (wrap64 (x14 - 1))) ≥ (rd x12 x14) then (some false) else (impl_isLeaf.l0 k x0 x12 x13 (wrap64 (x14 + 1)))) else (none)) else (none)) else (impl_isLeaf.l0 k x0 x12 x13 (wrap64 (x14 + 1)))) else (some false))) else (none)) else (none)) else (impl_isLeaf.l1 k x0 x0 (x0.length : Int) 0)
def impl_isLeaf.l1 : Nat → List Int → List Int → Int → Int → Option (Bool)
 | 0, _, _, _, _ => none
 | k + 1, x0, x36, x37, x38 => if x38 < x37 then (if 0 ≤ x38 then (if x38 < (x36.length : Int) then (impl_isLeaf.l2 k x0 (rd x36 x38) x36 x37 x38 x0 (x0.length : Int) 0) else (none)) else (none)) else (some true)
def impl_isLeaf.l2 : Nat → List Int → Int → List Int → Int → Int → List Int → Int → Int → Option (Bool)
 | 0, _, _, _, _, _, _, _, _ => none
 | k + 1, x0, x6, x36, x37, x38, x42, x43, x44 => if x44 < x43 then (if 0 ≤ x44 then (if x44 < (x42.length : Int) then ((impl_addNear.f x6 (rd x42 x44)).bind fun t648 => ((slices_Contains_int_int.f k x0 t648).bind fun t649 => (if t649 = true then (impl_isLeaf.l2 k x0 x6 x36 x37 x38 x42 x43 (wrap64 (x44 + 1))) else (some false)))) else (none)) else (none)) else (impl_isLeaf.l1 k x0 x36 x37 (wrap64 (x38 + 1)))
end
def impl_isLeaf.f (k : Nat) (l0 : List Int) : Option (Bool) := if (l0.length : Int) = 9 then (impl_isLeaf.l0 k l0 l0 (l0.length : Int) 0) else (some false)
set_option maxHeartbeats 8000000 in
set_option maxRecDepth 100000 in
theorem impl_isLeaf.calls (k : Nat) (A0 : Option Addr) (c0 : Nat) (l0 : List Int) (r : Bool) (w : World) (hr0 : Kd.C (Kd.int .i64) w A0 l0.length l0) (hc0 : l0.length ≤ c0) (h : impl_isLeaf.f k l0 = some r) :
  Calls Try.prog 56 #[.slice A0 l0.length c0] w fun e w' => e = .returned (.bool r) ∧ Drawn0 w w' := by
 have HR0 := Aside0.mk hr0
 have HC0 := Aside0.mk hc0
 clear hr0 hc0
 have H : (if (l0.length : Int) = 9 then (impl_isLeaf.l0 k l0 l0 (l0.length : Int) 0) else (some false)) = some r := h
 clear h
 by_cases c2 : (l0.length : Int) = 9
 ·rw [if_pos c2] at H
  have c2b0 : ((l0.length : Int) == 9) = true := beq_iff_eq.mpr c2
  have c2b1 : ((l0.length : Int) != 9) = false := bne_eq_false_iff_eq.mpr c2
  clear c2
  have H' := Aside0.mk H
  clear H
  go_enter Try.func56, Try.ntmps56
  go_wp2
  go_loopg [14] k (fun kq v14 w' => ∃ (x14_1 : Int), v14 = .int .i64 x14_1 ∧ Aside0 (impl_isLeaf.l0 kq l0 l0 (l0.length : Int) x14_1 = some r) ∧ Aside0 (kq ≤ k) ∧ Drawn0 w w')
  case atStart => exact ⟨(0), (by first | rfl | (simp; done) | (simp [*]; done)), H', ⟨Nat.le_refl _⟩, by repeat (first | exact Drawn0.refl _ | apply Drawn0.step)⟩
  case round =>
   clear H'
   try clear c2
   try clear c2b0
   try clear c2b1
   try clear p2
   obtain ⟨x14_1, rfl, HA, HK1, ⟨m1, rfl⟩⟩ := hrel
   cases gk with
   | zero => exact absurd HA.out (by simp [impl_isLeaf.l0])
   | succ k1 =>
    have H := HA.out
    clear HA
    simp only [impl_isLeaf.l0] at H
    by_cases c3 : x14_1 < (l0.length : Int)
    ·rw [if_pos c3] at H
     have c3b0 : decide (x14_1 < (l0.length : Int)) = true := decide_eq_true c3
     clear c3
     by_cases c4 : 0 ≤ x14_1
     ·rw [if_pos c4] at H
      have c4b0 : decide (0 ≤ x14_1) = true := decide_eq_true c4
      clear c4
      by_cases c5 : x14_1 < (l0.length : Int)
      ·rw [if_pos c5] at H
       have c5b0 : decide (x14_1 < (l0.length : Int)) = true := decide_eq_true c5
       clear c5
       replace H := Option.bind_eq_some_iff.mp H
       obtain ⟨t644, A60, H⟩ := H
       replace H : (if t644 = true then (if x14_1 > 0 then (if 0 ≤ (wrap64 (x14_1 - 1)) then (if (wrap64 (x14_1 - 1)) < (l0.length : Int) then (if (rd l0 (wrap64 (x14_1 - 1))) ≥ (rd l0 x14_1) then (some false) else (impl_isLeaf.l0 k1 l0 l0 (l0.length : Int) (wrap64 (x14_1 + 1)))) else (none)) else (none)) else (impl_isLeaf.l0 k1 l0 l0 (l0.length : Int) (wrap64 (x14_1 + 1)))) else (some false)) = some r := H
       have A6 := Aside0.mk A60
       clear A60
       by_cases c7 : t644 = true
       ·subst c7
        have H1 : (if x14_1 > 0 then (if 0 ≤ (wrap64 (x14_1 - 1)) then (if (wrap64 (x14_1 - 1)) < (l0.length : Int) then (if (rd l0 (wrap64 (x14_1 - 1))) ≥ (rd l0 x14_1) then (some false) else (impl_isLeaf.l0 k1 l0 l0 (l0.length : Int) (wrap64 (x14_1 + 1)))) else (none)) else (none)) else (impl_isLeaf.l0 k1 l0 l0 (l0.length : Int) (wrap64 (x14_1 + 1)))) = some r := by rw [if_pos rfl] at H; exact H
        clear H
        have H := H1
        clear H1
        by_cases c8 : x14_1 > 0
        ·rw [if_pos c8] at H
         have c8b0 : decide (0 < x14_1) = true := decide_eq_true c8
         clear c8
         obtain ⟨ji9, hji9⟩ : ∃ j_ : Int, (wrap64 (x14_1 - 1)) = j_ := ⟨_, rfl⟩
         replace H : (if 0 ≤ (ji9) then (if (ji9) < (l0.length : Int) then (if (rd l0 (ji9)) ≥ (rd l0 x14_1) then (some false) else (impl_isLeaf.l0 k1 l0 l0 (l0.length : Int) (wrap64 (x14_1 + 1)))) else (none)) else (none)) = some r := by first | (rw [hji9] at H; exact H) | (simp only [hji9] at H ⊢; exact H)
         (try rw [hji9] at A6)
         have hji9w : (IntKind.i64.wrap (x14_1 - 1)) = ji9 := (i64_w _).trans hji9
         by_cases c10 : 0 ≤ (ji9)
         ·rw [if_pos c10] at H
          have c10b0 : decide (0 ≤ (ji9)) = true := decide_eq_true c10
          clear c10
          by_cases c11 : (ji9) < (l0.length : Int)
          ·rw [if_pos c11] at H
           have c11b0 : decide ((ji9) < (l0.length : Int)) = true := decide_eq_true c11
           clear c11
           by_cases c12 : (rd l0 (ji9)) ≥ (rd l0 x14_1)
           ·rw [if_pos c12] at H
            have c12b0 : decide ((rd l0 x14_1) ≤ (rd l0 (ji9))) = true := decide_eq_true c12
            clear c12
            obtain rfl := Option.some.inj H
            have p643 : 0 ≤ (x14_1 : Int) := dd_
            have q643 : x14_1 < (l0.length : Int) := dd_
            obtain ⟨ad643, e643, hx643_0⟩ := Kd.at_int HR0.out x14_1 p643 q643
            cases e643
            replace p643 := eq_true p643
            replace q643 := eq_true q643
            go_wp2_with (first | (refine goesL_ (some 20) rfl rfl Try.func60 (by kernel_rfl) rfl #[.int .i64 (rd l0 x14_1)] rfl ll_ ?_; (with_reducible refine (impl_isNear.calls (rd l0 x14_1) true _ A6.out).mono ?_); rintro e w' ⟨rfl, ⟨nd, rfl⟩⟩; refine ⟨_, rfl, ?_⟩; have p645 : 0 ≤ ((ji9) : Int) := dd_; have q645 : (ji9) < (l0.length : Int) := dd_; obtain ⟨ad645, e645, hx645_0⟩ := Kd.at_int HR0.out (ji9) p645 q645; obtain rfl : ad643 = ad645 := (by injection e645); replace p645 := eq_true p645; replace q645 := eq_true q645))
            go_ret
            exact ⟨by first | rfl | (simp; done) | (simp only [← hji9] <;> (first | rfl | simp)) | (simp [*]; done), by repeat (first | exact Drawn0.refl _ | apply Drawn0.step)⟩
           ·rw [if_neg c12] at H
            have c12b0 : decide ((rd l0 x14_1) ≤ (rd l0 (ji9))) = false := decide_eq_false c12
            clear c12
            have H' := Aside0.mk H
            clear H
            have p643 : 0 ≤ (x14_1 : Int) := dd_
            have q643 : x14_1 < (l0.length : Int) := dd_
            obtain ⟨ad643, e643, hx643_0⟩ := Kd.at_int HR0.out x14_1 p643 q643
            cases e643
            replace p643 := eq_true p643
            replace q643 := eq_true q643
            go_wp2_with (first | (refine goesL_ (some 20) rfl rfl Try.func60 (by kernel_rfl) rfl #[.int .i64 (rd l0 x14_1)] rfl ll_ ?_; (with_reducible refine (impl_isNear.calls (rd l0 x14_1) true _ A6.out).mono ?_); rintro e w' ⟨rfl, ⟨nd, rfl⟩⟩; refine ⟨_, rfl, ?_⟩; have p645 : 0 ≤ ((ji9) : Int) := dd_; have q645 : (ji9) < (l0.length : Int) := dd_; obtain ⟨ad645, e645, hx645_0⟩ := Kd.at_int HR0.out (ji9) p645 q645; obtain rfl : ad643 = ad645 := (by injection e645); replace p645 := eq_true p645; replace q645 := eq_true q645))
            go_roundg k1
            case measure => have := HK1.out; omega
            case rel => exact ⟨(wrap64 (x14_1 + 1)), (by first | rfl | (simp; done) | (simp [*]; done)), H', ⟨by have := HK1.out; omega⟩, by repeat (first | exact Drawn0.refl _ | apply Drawn0.step)⟩
          ·rw [if_neg c11] at H
           exact absurd H (by simp)
         ·rw [if_neg c10] at H
          exact absurd H (by simp)
        ·rw [if_neg c8] at H
         have c8b0 : decide (0 < x14_1) = false := decide_eq_false c8
         clear c8
         have H' := Aside0.mk H
         clear H
         have p643 : 0 ≤ (x14_1 : Int) := dd_
         have q643 : x14_1 < (l0.length : Int) := dd_
         obtain ⟨ad643, e643, hx643_0⟩ := Kd.at_int HR0.out x14_1 p643 q643
         cases e643
         replace p643 := eq_true p643
         replace q643 := eq_true q643
         go_wp2_with (first | (refine goesL_ (some 20) rfl rfl Try.func60 (by kernel_rfl) rfl #[.int .i64 (rd l0 x14_1)] rfl ll_ ?_; (with_reducible refine (impl_isNear.calls (rd l0 x14_1) true _ A6.out).mono ?_); rintro e w' ⟨rfl, ⟨nd, rfl⟩⟩; refine ⟨_, rfl, ?_⟩))
         go_roundg k1
         case measure => have := HK1.out; omega
         case rel => exact ⟨(wrap64 (x14_1 + 1)), (by first | rfl | (simp; done) | (simp [*]; done)), H', ⟨by have := HK1.out; omega⟩, by repeat (first | exact Drawn0.refl _ | apply Drawn0.step)⟩
       ·replace c7 := Bool.eq_false_iff.mpr c7
        subst c7
        have H1 : (some false) = some r := by rw [if_neg (show ¬ (false = true) by decide)] at H; exact H
        clear H
        have H := H1
        clear H1
        obtain rfl := Option.some.inj H
        have p643 : 0 ≤ (x14_1 : Int) := dd_
        have q643 : x14_1 < (l0.length : Int) := dd_
        obtain ⟨ad643, e643, hx643_0⟩ := Kd.at_int HR0.out x14_1 p643 q643
        cases e643
        replace p643 := eq_true p643
        replace q643 := eq_true q643
        go_wp2_with (first | (refine goesL_ (some 20) rfl rfl Try.func60 (by kernel_rfl) rfl #[.int .i64 (rd l0 x14_1)] rfl ll_ ?_; (with_reducible refine (impl_isNear.calls (rd l0 x14_1) false _ A6.out).mono ?_); rintro e w' ⟨rfl, ⟨nd, rfl⟩⟩; refine ⟨_, rfl, ?_⟩))
        go_ret
        exact ⟨by first | rfl | (simp; done) | (simp [*]; done), by repeat (first | exact Drawn0.refl _ | apply Drawn0.step)⟩
      ·rw [if_neg c5] at H
       exact absurd H (by simp)
     ·rw [if_neg c4] at H
      exact absurd H (by simp)
    ·rw [if_neg c3] at H
     have c3b0 : decide (x14_1 < (l0.length : Int)) = false := decide_eq_false c3
     clear c3
     have H' := Aside0.mk H
     clear H
     go_wp2
     go_loopg [38] k1 (fun kq v38 w' => ∃ (x38_2 : Int), v38 = .int .i64 x38_2 ∧ Aside0 (impl_isLeaf.l1 kq l0 l0 (l0.length : Int) x38_2 = some r) ∧ Aside0 (kq ≤ k1) ∧ Drawn0 w w')
     case atStart => exact ⟨(0), (by first | rfl | (simp; done) | (simp [*]; done)), H', ⟨Nat.le_refl _⟩, by repeat (first | exact Drawn0.refl _ | apply Drawn0.step)⟩
     case round =>
      clear H'
      try clear c1
      try clear c2
      try clear c2b0
      try clear c2b1
      try clear p2
      try clear c3
      try clear c3b0
      try clear c4
      try clear c4b0
      try clear c5
      try clear c5b0
      try clear c6
      try clear p6
      try clear q6
      try clear hx6
      try clear c7
      try clear c8
      try clear c8b0
      try clear c10
      try clear c10b0
      try clear c11
      try clear c11b0
      try clear c12
      try clear c12b0
      try clear hx643_0
      try clear hx645_0
      try clear p2
      try clear p643
      try clear p645
      try clear q643
      try clear q645
      obtain ⟨x38_2, rfl, HA, HK2, ⟨m2, rfl⟩⟩ := hrel
      cases gk with
      | zero => exact absurd HA.out (by simp [impl_isLeaf.l1])
      | succ k2 =>
       have H := HA.out
       clear HA
       simp only [impl_isLeaf.l1] at H
       by_cases c13 : x38_2 < (l0.length : Int)
       ·rw [if_pos c13] at H
        have c13b0 : decide (x38_2 < (l0.length : Int)) = true := decide_eq_true c13
        clear c13
        by_cases c14 : 0 ≤ x38_2
        ·rw [if_pos c14] at H
         have c14b0 : decide (0 ≤ x38_2) = true := decide_eq_true c14
         clear c14
         by_cases c15 : x38_2 < (l0.length : Int)
         ·rw [if_pos c15] at H
          have c15b0 : decide (x38_2 < (l0.length : Int)) = true := decide_eq_true c15
          clear c15
          have H' := Aside0.mk H
          clear H
          have p646 : 0 ≤ (x38_2 : Int) := dd_
          have q646 : x38_2 < (l0.length : Int) := dd_
          obtain ⟨ad646, e646, hx646_0⟩ := Kd.at_int HR0.out x38_2 p646 q646
          cases e646
          replace p646 := eq_true p646
          replace q646 := eq_true q646
          go_wp2
          go_loopg [44] k2 (fun kq v44 w' => ∃ (x44_3 : Int), v44 = .int .i64 x44_3 ∧ Aside0 (impl_isLeaf.l2 kq l0 (rd l0 x38_2) l0 (l0.length : Int) x38_2 l0 (l0.length : Int) x44_3 = some r) ∧ Aside0 (kq ≤ k2) ∧ Drawn0 w w')
          case atStart => exact ⟨(0), (by first | rfl | (simp; done) | (simp [*]; done)), H', ⟨Nat.le_refl _⟩, by repeat (first | exact Drawn0.refl _ | apply Drawn0.step)⟩
          case round =>
           clear H'
           try clear c1
           try clear c2
           try clear c2b0
           try clear c2b1
           try clear p2
           try clear c3
           try clear c3b0
           try clear c4
           try clear c4b0
           try clear c5
           try clear c5b0
           try clear c6
           try clear p6
           try clear q6
           try clear hx6
           try clear c7
           try clear c8
           try clear c8b0
           try clear c10
           try clear c10b0
           try clear c11
           try clear c11b0
           try clear c12
           try clear c12b0
           try clear c13
           try clear c13b0
           try clear c14
           try clear c14b0
           try clear c15
           try clear c15b0
           try clear hx643_0
           try clear hx645_0
           try clear hx646_0
           try clear p2
           try clear p6
           try clear p643
           try clear p645
           try clear p646
           try clear q6
           try clear q643
           try clear q645
           try clear q646
           obtain ⟨x44_3, rfl, HA, HK3, ⟨m3, rfl⟩⟩ := hrel
           cases gk with
           | zero => exact absurd HA.out (by simp [impl_isLeaf.l2])
           | succ k3 =>
            have H := HA.out
            clear HA
            simp only [impl_isLeaf.l2] at H
            by_cases c16 : x44_3 < (l0.length : Int)
            ·rw [if_pos c16] at H
             have c16b0 : decide (x44_3 < (l0.length : Int)) = true := decide_eq_true c16
             clear c16
             by_cases c17 : 0 ≤ x44_3
             ·rw [if_pos c17] at H
              have c17b0 : decide (0 ≤ x44_3) = true := decide_eq_true c17
              clear c17
              by_cases c18 : x44_3 < (l0.length : Int)
              ·rw [if_pos c18] at H
               have c18b0 : decide (x44_3 < (l0.length : Int)) = true := decide_eq_true c18
               clear c18
               replace H := Option.bind_eq_some_iff.mp H
               obtain ⟨t648, A190, H⟩ := H
               replace H : ((slices_Contains_int_int.f k3 l0 t648).bind fun t649 => (if t649 = true then (impl_isLeaf.l2 k3 l0 (rd l0 x38_2) l0 (l0.length : Int) x38_2 l0 (l0.length : Int) (wrap64 (x44_3 + 1))) else (some false))) = some r := H
               have A19 := Aside0.mk A190
               clear A190
               replace H := Option.bind_eq_some_iff.mp H
               obtain ⟨t649, A200, H⟩ := H
               replace H : (if t649 = true then (impl_isLeaf.l2 k3 l0 (rd l0 x38_2) l0 (l0.length : Int) x38_2 l0 (l0.length : Int) (wrap64 (x44_3 + 1))) else (some false)) = some r := H
               have A20 := Aside0.mk A200
               clear A200
               by_cases c21 : t649 = true
               ·subst c21
                have H1 : (impl_isLeaf.l2 k3 l0 (rd l0 x38_2) l0 (l0.length : Int) x38_2 l0 (l0.length : Int) (wrap64 (x44_3 + 1))) = some r := by rw [if_pos rfl] at H; exact H
                clear H
                have H := H1
                clear H1
                have H' := Aside0.mk H
                clear H
                have p647 : 0 ≤ (x44_3 : Int) := dd_
                have q647 : x44_3 < (l0.length : Int) := dd_
                obtain ⟨ad647, e647, hx647_0⟩ := Kd.at_int HR0.out x44_3 p647 q647
                obtain rfl : ad646 = ad647 := (by injection e647)
                replace p647 := eq_true p647
                replace q647 := eq_true q647
                go_wp2_with (first | (refine goesL_ (some 51) rfl rfl Try.func62 (by kernel_rfl) rfl #[.int .i64 (rd l0 x38_2), .int .i64 (rd l0 x44_3)] rfl ll_ ?_; (with_reducible refine (impl_addNear.calls (rd l0 x38_2) (rd l0 x44_3) t648 _ A19.out).mono ?_); rintro e w' ⟨rfl, ⟨nd, rfl⟩⟩; refine ⟨_, rfl, ?_⟩) | (refine goesL_ (some 52) rfl rfl Try.func61 (by kernel_rfl) rfl #[.slice (some ad646) l0.length c0, .int .i64 t648] rfl ll_ ?_; (with_reducible refine (slices_Contains_int_int.calls k3 _ _ l0 t648 true _ ?side1 ?side2 A20.out).mono ?_); (case side1 => exact ss_ HR0); (case side2 => exact HC0.out); rintro e w' ⟨rfl, ⟨nd, rfl⟩⟩; refine ⟨_, rfl, ?_⟩))
                go_roundg k3
                case measure => have := HK1.out; have := HK2.out; have := HK3.out; omega
                case rel => exact ⟨(wrap64 (x44_3 + 1)), (by first | rfl | (simp; done) | (simp [*]; done)), H', ⟨by have := HK1.out; have := HK2.out; have := HK3.out; omega⟩, by repeat (first | exact Drawn0.refl _ | apply Drawn0.step)⟩
               ·replace c21 := Bool.eq_false_iff.mpr c21
                subst c21
                have H1 : (some false) = some r := by rw [if_neg (show ¬ (false = true) by decide)] at H; exact H
                clear H
                have H := H1
                clear H1
                obtain rfl := Option.some.inj H
                have p647 : 0 ≤ (x44_3 : Int) := dd_
                have q647 : x44_3 < (l0.length : Int) := dd_
                obtain ⟨ad647, e647, hx647_0⟩ := Kd.at_int HR0.out x44_3 p647 q647
                obtain rfl : ad646 = ad647 := (by injection e647)
                replace p647 := eq_true p647
                replace q647 := eq_true q647
                go_wp2_with (first | (refine goesL_ (some 51) rfl rfl Try.func62 (by kernel_rfl) rfl #[.int .i64 (rd l0 x38_2), .int .i64 (rd l0 x44_3)] rfl ll_ ?_; (with_reducible refine (impl_addNear.calls (rd l0 x38_2) (rd l0 x44_3) t648 _ A19.out).mono ?_); rintro e w' ⟨rfl, ⟨nd, rfl⟩⟩; refine ⟨_, rfl, ?_⟩) | (refine goesL_ (some 52) rfl rfl Try.func61 (by kernel_rfl) rfl #[.slice (some ad646) l0.length c0, .int .i64 t648] rfl ll_ ?_; (with_reducible refine (slices_Contains_int_int.calls k3 _ _ l0 t648 false _ ?side1 ?side2 A20.out).mono ?_); (case side1 => exact ss_ HR0); (case side2 => exact HC0.out); rintro e w' ⟨rfl, ⟨nd, rfl⟩⟩; refine ⟨_, rfl, ?_⟩))
                go_ret
                exact ⟨by first | rfl | (simp; done) | (simp [*]; done), by repeat (first | exact Drawn0.refl _ | apply Drawn0.step)⟩
              ·rw [if_neg c18] at H
               exact absurd H (by simp)
             ·rw [if_neg c17] at H
              exact absurd H (by simp)
            ·rw [if_neg c16] at H
             have c16b0 : decide (x44_3 < (l0.length : Int)) = false := decide_eq_false c16
             clear c16
             have H' := Aside0.mk H
             clear H
             go_wp2
             go_roundg k3
             case measure => have := HK1.out; have := HK2.out; have := HK3.out; omega
             case rel => exact ⟨(wrap64 (x38_2 + 1)), (by first | rfl | (simp; done) | (simp [*]; done)), H', ⟨by have := HK1.out; have := HK2.out; have := HK3.out; omega⟩, by repeat (first | exact Drawn0.refl _ | apply Drawn0.step)⟩
         ·rw [if_neg c15] at H
          exact absurd H (by simp)
        ·rw [if_neg c14] at H
         exact absurd H (by simp)
       ·rw [if_neg c13] at H
        have c13b0 : decide (x38_2 < (l0.length : Int)) = false := decide_eq_false c13
        clear c13
        obtain rfl := Option.some.inj H
        go_wp2
        go_ret
        exact ⟨by first | rfl | (simp; done) | (simp [*]; done), by repeat (first | exact Drawn0.refl _ | apply Drawn0.step)⟩
 ·rw [if_neg c2] at H
  have c2b0 : ((l0.length : Int) == 9) = false := beq_eq_false_iff_ne.mpr c2
  have c2b1 : ((l0.length : Int) != 9) = true := bne_iff_ne.mpr c2
  obtain rfl := Option.some.inj H
  go_enter Try.func56, Try.ntmps56
  go_wp2
  go_ret
  exact ⟨by first | rfl | (simp; done) | (simp [*]; done), by repeat (first | exact Drawn0.refl _ | apply Drawn0.step)⟩
end Go.Proofs.Ytbfafjejmljcpaa.P

set_option linter.unusedVariables false
set_option linter.unusedSimpArgs false
namespace Go.Proofs.Ytbfafjejmljcpaa.X
open Go.RowKit Go.Proofs.YtbfafjejmljcpaaW.PrintWords Go.Proofs.YtbfafjejmljcpaaW.PrintLast Go.Proofs.Ytbfafjejmljcpaa.P

def nearB (p : Int) : Bool := decide (0 ≤ p) && decide (p < 81)
theorem nearB_iff {p : Int} : nearB p = true ↔ 0 ≤ p ∧ p < 81 := by simp [nearB]
def addF (p q : Int) : Int := 9 * addN (p / 9) (q / 9) + addN (p % 9) (q % 9)
def stepB (l : List Int) (i : Int) : Bool := nearB (rd l i) && (!decide (0 < i) || decide (rd l (i - 1) < rd l i))
def sumB (l : List Int) (i k : Int) : Bool := decide (addF (rd l i) (rd l k) ∈ l)
def leafB (l : List Int) : Bool := decide (l.length = 9) && (allI 9 (stepB l) && allI 9 fun i => allI 9 fun k => sumB l i k)
theorem leafB_hit1 {l : List Int} {i : Int} (h0 : 0 ≤ i) (h1 : i < 9) (h : stepB l i = false) : leafB l = false := by
  have : allI 9 (stepB l) = false := by
    cases e : allI 9 (stepB l) with
    | false => rfl
    | true => have := allI_int e i h0 h1; rw [h] at this; exact absurd this (by decide)
  unfold leafB; rw [this, Bool.false_and, Bool.and_false]
theorem leafB_hit2 {l : List Int} {i k : Int} (h0 : 0 ≤ i) (h1 : i < 9) (k0 : 0 ≤ k) (k1 : k < 9) (h : sumB l i k = false) : leafB l = false := by
  have : (allI 9 fun i => allI 9 fun k => sumB l i k) = false := by
    cases e : (allI 9 fun i => allI 9 fun k => sumB l i k) with
    | false => rfl
    | true => have := allI_int (allI_int e i h0 h1) k k0 k1; rw [h] at this; exact absurd this (by decide)
  unfold leafB; rw [this, Bool.and_false, Bool.and_false]
theorem leafB_all {l : List Int} (hl : l.length = 9) (h1 : ∀ i : Int, 0 ≤ i → i < 9 → stepB l i = true) (h2 : ∀ i k : Int, 0 ≤ i → i < 9 → 0 ≤ k → k < 9 → sumB l i k = true) : leafB l = true := by
  unfold leafB
  rw [decide_eq_true hl, allI_int_iff.2 h1, allI_int_iff.2 fun i i0 i1 => allI_int_iff.2 fun k k0 k1 => h2 i k i0 i1 k0 k1]; rfl
theorem addNear_eq {p q : Int} (hp : nearB p = true) (hq : nearB q = true) : impl_addNear.f p q = some (addF p q) := by
  obtain ⟨p0, p1⟩ := nearB_iff.1 hp
  obtain ⟨q0, q1⟩ := nearB_iff.1 hq
  have h1 := impl_add_eq (p / 9) (q / 9) ⟨by omega, by omega⟩ ⟨by omega, by omega⟩
  have h2 := impl_add_eq (p % 9) (q % 9) ⟨by omega, by omega⟩ ⟨by omega, by omega⟩
  obtain ⟨r0, r1⟩ := addN_range (p / 9) (q / 9)
  obtain ⟨s0, s1⟩ := addN_range (p % 9) (q % 9)
  unfold impl_addNear.f addF
  simp (disch := omega) only [w64, tdiv_nn, tmod_nn, h1, h2, Option.bind_some]
theorem isNear_eq (p : Int) : impl_isNear.f p = some (nearB p) := by
  unfold impl_isNear.f nearB
  by_cases h : p ≥ 0
  · rw [if_pos h, decide_eq_true h]; simp
  · rw [if_neg h, decide_eq_false h]; simp
theorem implLeaf_l2 (l : List Int) (hl : l.length = 9) (hs : ∀ i : Int, 0 ≤ i → i < 9 → stepB l i = true) (i : Int) (i0 : 0 ≤ i) (i1 : i < 9) (hr : (∀ k : Int, 0 ≤ k → k < 9 → sumB l i k = true) → Ev (fun n => impl_isLeaf.l1 n l l (l.length : Int) (i + 1)) (leafB l)) (d : Nat) :
    ∀ (j : Int), 0 ≤ j → j + d = 9 → (∀ k : Int, 0 ≤ k → k < j → sumB l i k = true) → Ev (fun n => impl_isLeaf.l2 n l (rd l i) l (l.length : Int) i l (l.length : Int) j) (leafB l) := by
  induction d with
  | zero =>
    intro j h0 h1 h
    refine Ev.step (fun k => by rw [impl_isLeaf.l2]) ?_
    simp (disch := omega) only [w64]
    exact Ev.neg (by omega) (hr fun k k0 k1 => h k k0 (by omega))
  | succ d ih =>
    intro j h0 h1 h
    have n1 := hs i i0 i1
    have n2 := hs j h0 (by omega)
    unfold stepB at n1 n2
    have ha := addNear_eq (Bool.and_eq_true _ _ ▸ n1).1 (Bool.and_eq_true _ _ ▸ n2).1
    refine Ev.step (fun k => by rw [impl_isLeaf.l2]) ?_
    simp (disch := omega) only [w64, ha, Option.bind_some]
    refine Ev.pos (by omega) (Ev.pos (by omega) (Ev.pos (by omega) (Ev.bind (contains_ev l (by omega) _) ?_)))
    by_cases e : sumB l i j = true
    · refine Ev.pos e (ih (j + 1) (by omega) (by omega) fun k k0 k1 => ?_)
      by_cases ek : k = j
      · rw [ek]; exact e
      · exact h k k0 (by omega)
    · refine Ev.neg e (Ev.done ?_)
      rw [leafB_hit2 i0 i1 h0 (by omega) (Bool.eq_false_iff.2 e)]
theorem implLeaf_l1 (l : List Int) (hl : l.length = 9) (hs : ∀ i : Int, 0 ≤ i → i < 9 → stepB l i = true) (d : Nat) : ∀ (i : Int), 0 ≤ i → i + d = 9 → (∀ x k : Int, 0 ≤ x → x < i → 0 ≤ k → k < 9 → sumB l x k = true) → Ev (fun n => impl_isLeaf.l1 n l l (l.length : Int) i) (leafB l) := by
  induction d with
  | zero =>
    intro i h0 h1 h
    refine Ev.step (fun k => by rw [impl_isLeaf.l1]) ?_
    refine Ev.neg (by omega) (Ev.done ?_)
    rw [leafB_all hl hs fun x k x0 x1 k0 k1 => h x k x0 (by omega) k0 k1]
  | succ d ih =>
    intro i h0 h1 h
    refine Ev.step (fun k => by rw [impl_isLeaf.l1]) ?_
    refine Ev.pos (by omega) (Ev.pos (by omega) (Ev.pos (by omega) ?_))
    refine implLeaf_l2 l hl hs i h0 (by omega) (fun hk => ih (i + 1) (by omega) (by omega) fun x k x0 x1 k0 k1 => ?_) 9 0 (by omega) (by omega) (fun k h0 h1 => by omega)
    by_cases e : x = i
    · rw [e]; exact hk k k0 k1
    · exact h x k x0 (by omega) k0 k1
theorem implLeaf_l0 (l : List Int) (hl : l.length = 9) (d : Nat) : ∀ (i : Int), 0 ≤ i → i + d = 9 → (∀ x : Int, 0 ≤ x → x < i → stepB l x = true) → Ev (fun n => impl_isLeaf.l0 n l l (l.length : Int) i) (leafB l) := by
  induction d with
  | zero =>
    intro i h0 h1 h
    refine Ev.step (fun k => by rw [impl_isLeaf.l0]) ?_
    refine Ev.neg (by omega) ?_
    exact implLeaf_l1 l hl (fun x x0 x1 => h x x0 (by omega)) 9 0 (by omega) (by omega) (fun x k h0 h1 => by omega)
  | succ d ih =>
    intro i h0 h1 h
    have hst : stepB l i = (nearB (rd l i) && (!decide (0 < i) || decide (rd l (i - 1) < rd l i))) := rfl
    refine Ev.step (fun k => by rw [impl_isLeaf.l0]) ?_
    simp (disch := omega) only [w64, isNear_eq, Option.bind_some]
    refine Ev.pos (by omega) (Ev.pos (by omega) (Ev.pos (by omega) ?_))
    by_cases e1 : nearB (rd l i) = true
    case neg => exact Ev.neg e1 (Ev.done (by rw [leafB_hit1 h0 (by omega) (by rw [hst, Bool.eq_false_iff.2 e1]; rfl)]))
    refine Ev.pos e1 ?_
    have next : stepB l i = true → Ev (fun n => impl_isLeaf.l0 n l l (l.length : Int) (i + 1)) (leafB l) := fun hs => ih (i + 1) (by omega) (by omega) fun x x0 x1 => by
      by_cases e : x = i
      · rw [e]; exact hs
      · exact h x x0 (by omega)
    by_cases hi : i > 0
    · refine Ev.pos hi (Ev.pos (by omega) (Ev.pos (by omega) ?_))
      by_cases e2 : rd l (i - 1) ≥ rd l i
      · refine Ev.pos e2 (Ev.done ?_)
        rw [leafB_hit1 h0 (by omega) (by rw [hst, decide_eq_true hi, decide_eq_false (by omega)]; simp)]
      · refine Ev.neg e2 (next ?_)
        rw [hst, e1, decide_eq_true (show rd l (i - 1) < rd l i by omega)]; simp
    · refine Ev.neg hi (next ?_)
      rw [hst, e1, decide_eq_false (show ¬ 0 < i by omega)]; rfl
theorem implLeaf_ev (l : List Int) : Ev (fun k => impl_isLeaf.f k l) (leafB l) := by
  unfold impl_isLeaf.f
  by_cases hl : l.length = 9
  · exact Ev.pos (by omega) (implLeaf_l0 l hl 9 0 (by omega) (by omega) (fun x h0 h1 => by omega))
  · refine Ev.neg (by omega) (Ev.done ?_)
    unfold leafB; rw [decide_eq_false hl]; rfl
end Go.Proofs.Ytbfafjejmljcpaa.X

set_option linter.unusedVariables false
set_option linter.unusedSimpArgs false
namespace Go.Proofs.Ytbfafjejmljcpaa.X
open Go.RowKit Go.Proofs.YtbfafjejmljcpaaW.PrintWords

def firstI (n : Nat) (p : Int → Bool) : Int := match (List.range n).find? fun (i : Nat) => p (i : Int) with | some i => (i : Int) | none => -1
theorem firstI_none {n : Nat} {p : Int → Bool} (h : ∀ i : Int, 0 ≤ i → i < n → p i = false) : firstI n p = -1 := by
  have : ((List.range n).find? fun (i : Nat) => p (i : Int)) = none := by
    rw [List.find?_eq_none]
    intro i hi
    rw [h i (by omega) (by have := List.mem_range.1 hi; omega)]; simp
  unfold firstI; rw [this]
theorem firstI_some {n : Nat} {p : Int → Bool} (i : Int) (h0 : 0 ≤ i) (h1 : i < n) (hp : p i = true) (h : ∀ j : Int, 0 ≤ j → j < i → p j = false) : firstI n p = i := by
  have : ((List.range n).find? fun (i : Nat) => p (i : Int)) = some i.toNat := by
    rw [List.find?_range_eq_some]
    refine ⟨by rw [Int.toNat_of_nonneg h0]; exact hp, List.mem_range.2 (by omega), fun j hj => ?_⟩
    rw [h j (by omega) (by omega)]; rfl
  unfold firstI; rw [this]; show ((i.toNat : Nat) : Int) = i; omega
theorem firstI_spec {n : Nat} {p : Int → Bool} (i : Int) (h0 : 0 ≤ i) (h1 : i < n) (hp : p i = true) : 0 ≤ firstI n p ∧ firstI n p < n ∧ p (firstI n p) = true ∧ firstI n p ≤ i := by
  cases e : ((List.range n).find? fun (i : Nat) => p (i : Int)) with
  | none =>
    rw [List.find?_eq_none] at e
    have := e i.toNat (List.mem_range.2 (by omega))
    rw [Int.toNat_of_nonneg h0, hp] at this; exact absurd rfl this
  | some j =>
    rw [List.find?_range_eq_some] at e
    obtain ⟨h2, h3, h4⟩ := e
    have hj : firstI n p = (j : Int) := by
      unfold firstI
      rw [show ((List.range n).find? fun (i : Nat) => p (i : Int)) = some j from List.find?_range_eq_some.2 ⟨h2, h3, h4⟩]
    have hjn := List.mem_range.1 h3
    rw [hj]
    refine ⟨by omega, by omega, h2, ?_⟩
    rcases Int.lt_or_le i (j : Int) with hlt | hle
    · have := h4 i.toNat (by omega)
      rw [Int.toNat_of_nonneg h0, hp] at this; exact absurd this (by decide)
    · exact hle
theorem pigeon (n : Nat) : ∀ f : Nat → Nat, (∀ i, i < n → f i < n) → (∀ i j, i < j → j < n → f i ≠ f j) → ∀ y, y < n → ∃ i, i < n ∧ f i = y := by
  induction n with
  | zero => intro f _ _ y hy; omega
  | succ n ih =>
    intro f hr hi y hy
    by_cases ha : f n = n
    · by_cases hyn : y = n
      · exact ⟨n, by omega, by rw [ha, hyn]⟩
      · obtain ⟨i, h1, h2⟩ := ih f (fun i h => by have := hr i (by omega); have := hi i n h (by omega); omega) (fun i j h h' => hi i j h (by omega)) y (by omega)
        exact ⟨i, by omega, h2⟩
    · have han : f n < n := by have := hr n (by omega); omega
      have key := ih (fun i => if f i = n then f n else f i) (fun i h => by
          by_cases e : f i = n
          · simp only [e, if_true]; exact han
          · simp only [e, if_false]; have := hr i (by omega); omega)
        (fun i j h h' => by
          by_cases e1 : f i = n <;> by_cases e2 : f j = n
          · exact absurd (e1.trans e2.symm) (hi i j h (by omega))
          · simp only [e1, e2, if_true, if_false]; exact fun e => hi j n h' (by omega) e.symm
          · simp only [e1, e2, if_true, if_false]; exact fun e => hi i n (by omega) (by omega) e
          · simp only [e1, e2, if_false]; exact hi i j h (by omega))
      by_cases hya : y = f n
      · exact ⟨n, by omega, hya.symm⟩
      · by_cases hyn : y = n
        · obtain ⟨i, h1, h2⟩ := key (f n) han
          by_cases e : f i = n
          · exact ⟨i, by omega, by rw [e, hyn]⟩
          · simp only [e, if_false] at h2
            exact absurd h2 (hi i n h1 (by omega))
        · obtain ⟨i, h1, h2⟩ := key y (by omega)
          by_cases e : f i = n
          · simp only [e, if_true] at h2
            exact absurd h2.symm hya
          · simp only [e, if_false] at h2
            exact ⟨i, by omega, h2⟩
theorem once_onto {p : Int → Int} (hr : ∀ x : Int, 0 ≤ x → x < 9 → 0 ≤ p x ∧ p x < 9) (ho : onceB p = true) (y : Int) (h0 : 0 ≤ y) (h1 : y < 9) : ∃ x : Int, 0 ≤ x ∧ x < 9 ∧ p x = y := by
  obtain ⟨i, h2, h3⟩ := pigeon 9 (fun i => (p (i : Int)).toNat) (fun i h => by have := hr i (by omega) (by omega); omega)
    (fun i j h h' => by
      have := onceB_iff.1 ho i j h h'
      have a := hr i (by omega) (by omega)
      have b := hr j (by omega) (by omega)
      omega) y.toNat (by omega)
  have := hr i (by omega) (by omega)
  exact ⟨i, by omega, by omega, by omega⟩
theorem nine3 {P : Int → Int → Int → Prop} (h : ∀ i j k : Fin 9, P (i.val : Int) (j.val : Int) (k.val : Int)) (a b c : Int) (h0 : 0 ≤ a) (h1 : a < 9) (h2 : 0 ≤ b) (h3 : b < 9) (h4 : 0 ≤ c) (h5 : c < 9) : P a b c :=
  nine1 (P := fun a => P a b c) (fun i => nine2 (P := fun b c => P i.val b c) (fun j k => h i j k) b c h2 h3 h4 h5) a h0 h1
theorem addN_zero {a : Int} (h0 : 0 ≤ a) (h1 : a < 9) : addN a 0 = a := nine1 (P := fun a => addN a 0 = a) (by decide +kernel) a h0 h1
theorem addN_minus {a : Int} (h0 : 0 ≤ a) (h1 : a < 9) : addN a (minusN a) = 0 := nine1 (P := fun a => addN a (minusN a) = 0) (by decide +kernel) a h0 h1
theorem addN_cancel {a b c : Int} (ha0 : 0 ≤ a) (ha1 : a < 9) (hb0 : 0 ≤ b) (hb1 : b < 9) (hc0 : 0 ≤ c) (hc1 : c < 9) (h : addN a b = addN a c) : b = c :=
  nine3 (P := fun a b c => addN a b = addN a c → b = c) (by decide +kernel) a b c ha0 ha1 hb0 hb1 hc0 hc1 h
theorem minus_add {a b : Int} (h0 : 0 ≤ a) (h1 : a < 9) (h2 : 0 ≤ b) (h3 : b < 9) : addN (addN a (minusN b)) b = a := nine2 (P := fun a b => addN (addN a (minusN b)) b = a) (by decide +kernel) a b h0 h1 h2 h3
theorem add_minus {a b : Int} (h0 : 0 ≤ a) (h1 : a < 9) (h2 : 0 ≤ b) (h3 : b < 9) : addN (addN a b) (minusN b) = a := nine2 (P := fun a b => addN (addN a b) (minusN b) = a) (by decide +kernel) a b h0 h1 h2 h3
theorem minus_eq {a b : Int} (h0 : 0 ≤ a) (h1 : a < 9) (h2 : 0 ≤ b) (h3 : b < 9) (h : addN a (minusN b) = 0) : a = b := nine2 (P := fun a b => addN a (minusN b) = 0 → a = b) (by decide +kernel) a b h0 h1 h2 h3 h
theorem minus_diff {a b : Int} (h0 : 0 ≤ a) (h1 : a < 9) (h2 : 0 ≤ b) (h3 : b < 9) : minusN (addN a (minusN b)) = addN b (minusN a) := nine2 (P := fun a b => minusN (addN a (minusN b)) = addN b (minusN a)) (by decide +kernel) a b h0 h1 h2 h3
theorem solve_b {a y : Int} (a0 : 0 ≤ a) (a1 : a < 9) (y0 : 0 ≤ y) (y1 : y < 9) : y = addN a (addN y (minusN a)) := nine2 (P := fun a y => y = addN a (addN y (minusN a))) (by decide +kernel) a y a0 a1 y0 y1
theorem three_a {s y v : Int} (h0 : 0 ≤ s) (h1 : s < 9) (h2 : 0 ≤ y) (h3 : y < 9) (h4 : 0 ≤ v) (h5 : v < 9) : v = addN s (addN y (minusN (addN (addN y (minusN v)) s))) :=
  nine3 (P := fun s y v => v = addN s (addN y (minusN (addN (addN y (minusN v)) s)))) (by decide +kernel) s y v h0 h1 h2 h3 h4 h5
theorem three_b {p c b : Int} (h0 : 0 ≤ p) (h1 : p < 9) (h2 : 0 ≤ c) (h3 : c < 9) (h4 : 0 ≤ b) (h5 : b < 9) : addN (addN (addN p c) (minusN b)) (minusN p) = addN c (minusN b) :=
  nine3 (P := fun p c b => addN (addN (addN p c) (minusN b)) (minusN p) = addN c (minusN b)) (by decide +kernel) p c b h0 h1 h2 h3 h4 h5
theorem sysB_parts {t : List Int} (h : sysB t = true) : ninesB t 81 = true ∧ unitsB t = true ∧ sharesB t = true ∧ solvesB t = true := by
  unfold sysB at h
  simp only [Bool.and_eq_true] at h
  exact h
theorem sys_range {t : List Int} (h : sysB t = true) {x m : Int} (x0 : 0 ≤ x) (x1 : x < 9) (m0 : 0 ≤ m) (m1 : m < 9) : 0 ≤ rd t (9 * x + m) ∧ rd t (9 * x + m) < 9 := nines_rd (sysB_parts h).1 (by omega) (by omega)
theorem sys_units {t : List Int} (h : sysB t = true) {a : Int} (a0 : 0 ≤ a) (a1 : a < 9) : rd t a = 0 ∧ rd t (9 * a) = 0 ∧ rd t (9 + a) = a ∧ rd t (9 * a + 1) = a := by
  have := allI_int (sysB_parts h).2.1 a a0 a1
  simp only [Bool.and_eq_true, decide_eq_true_eq] at this
  exact ⟨this.1.1.1, this.1.1.2, this.1.2, this.2⟩
theorem sys_share {t : List Int} (h : sysB t = true) {a b c : Int} (a0 : 0 ≤ a) (a1 : a < 9) (b0 : 0 ≤ b) (b1 : b < 9) (c0 : 0 ≤ c) (c1 : c < 9) : rd t (9 * addN a b + c) = addN (rd t (9 * a + c)) (rd t (9 * b + c)) := by
  have := allI_int (allI_int (allI_int (sysB_parts h).2.2.1 a a0 a1) b b0 b1) c c0 c1
  exact of_decide_eq_true this
theorem sys_gaps {t : List Int} (h : sysB t = true) {c d : Int} (d0 : 0 ≤ d) (dc : d < c) (c1 : c < 9) : gapsB t c d = true := by
  have := allI_int (allI_int (sysB_parts h).2.2.2 c (by omega) c1) d d0 (by omega)
  rw [decide_eq_true dc] at this
  exact this
theorem onceB_inj {p : Int → Int} (h : onceB p = true) {x y : Int} (x0 : 0 ≤ x) (x1 : x < 9) (y0 : 0 ≤ y) (y1 : y < 9) (e : p x = p y) : x = y := by
  rcases Int.lt_trichotomy x y with hlt | he | hgt
  · have := onceB_iff.1 h x.toNat y.toNat (by omega) (by omega)
    rw [Int.toNat_of_nonneg x0, Int.toNat_of_nonneg y0] at this
    exact absurd e this
  · exact he
  · have := onceB_iff.1 h y.toNat x.toNat (by omega) (by omega)
    rw [Int.toNat_of_nonneg x0, Int.toNat_of_nonneg y0] at this
    exact absurd e.symm this
def diffI (t : List Int) (c d x : Int) : Int := addN (rd t (9 * x + c)) (minusN (rd t (9 * x + d)))
theorem addN_flip {a b c d : Int} (ha : 0 ≤ a ∧ a < 9) (hb : 0 ≤ b ∧ b < 9) (hc : 0 ≤ c ∧ c < 9) (hd : 0 ≤ d ∧ d < 9) (h : addN a (minusN b) = addN c (minusN d)) : addN b (minusN a) = addN d (minusN c) := by
  rw [← minus_diff ha.1 ha.2 hb.1 hb.2, ← minus_diff hc.1 hc.2 hd.1 hd.2, h]
theorem sys_once {t : List Int} (h : sysB t = true) {c d : Int} (c0 : 0 ≤ c) (c1 : c < 9) (d0 : 0 ≤ d) (d1 : d < 9) (hcd : c ≠ d) : onceB (diffI t c d) = true := by
  rcases Int.lt_or_gt_of_ne hcd with hlt | hgt
  · refine onceB_iff.2 fun i j hij hj e => ?_
    have := onceB_iff.1 (sys_gaps h c0 hlt d1) i j hij hj
    refine this ?_
    exact addN_flip (sys_range h (by omega) (by omega) c0 c1) (sys_range h (by omega) (by omega) d0 d1) (sys_range h (by omega) (by omega) c0 c1) (sys_range h (by omega) (by omega) d0 d1) e
  · exact sys_gaps h d0 hgt c1
theorem diff_inj {t : List Int} (h : sysB t = true) {c d x y : Int} (c0 : 0 ≤ c) (c1 : c < 9) (d0 : 0 ≤ d) (d1 : d < 9) (hcd : c ≠ d) (x0 : 0 ≤ x) (x1 : x < 9) (y0 : 0 ≤ y) (y1 : y < 9) (e : diffI t c d x = diffI t c d y) : x = y :=
  onceB_inj (sys_once h c0 c1 d0 d1 hcd) x0 x1 y0 y1 e
theorem row_inj {t : List Int} (h : sysB t = true) {a c d : Int} (a0 : 0 < a) (a1 : a < 9) (c0 : 0 ≤ c) (c1 : c < 9) (d0 : 0 ≤ d) (d1 : d < 9) (e : rd t (9 * a + c) = rd t (9 * a + d)) : c = d := by
  rcases Decidable.em (c = d) with he | hne
  · exact he
  · exfalso
    have hz1 := (sys_units h c0 c1).1
    have hz2 := (sys_units h d0 d1).1
    have := diff_inj h (x := a) (y := 0) c0 c1 d0 d1 hne (by omega) a1 (by omega) (by omega) (by
      unfold diffI
      rw [e, show 9 * (0 : Int) + c = c by omega, show 9 * (0 : Int) + d = d by omega, hz1, hz2, addN_minus (sys_range h (by omega) a1 d0 d1).1 (sys_range h (by omega) a1 d0 d1).2, addN_minus (by omega) (by omega)])
    omega
theorem row_onto {t : List Int} (h : sysB t = true) {a : Int} (a0 : 0 < a) (a1 : a < 9) (y : Int) (y0 : 0 ≤ y) (y1 : y < 9) : ∃ m : Int, 0 ≤ m ∧ m < 9 ∧ rd t (9 * a + m) = y :=
  once_onto (p := fun m => rd t (9 * a + m)) (fun x x0 x1 => sys_range h (by omega) a1 x0 x1) (onceB_iff.2 fun i j hij hj e => by
    have := row_inj h a0 a1 (by omega) (by omega) (by omega) (by omega) e
    omega) y y0 y1
def onB (t : List Int) (p l : Int) : Bool :=
  if l = 90 then decide (81 ≤ p) else if 81 ≤ l then (decide (p = 90) || (decide (p < 81) && decide (p / 9 = l - 81))) else if 81 ≤ p then decide (p = 81 + l / 9) else decide (p % 9 = addN (rd t (9 * (p / 9) + l / 9)) (l % 9))
theorem on_near {t : List Int} {x y m b : Int} (x0 : 0 ≤ x) (x1 : x < 9) (y0 : 0 ≤ y) (y1 : y < 9) (m0 : 0 ≤ m) (m1 : m < 9) (b0 : 0 ≤ b) (b1 : b < 9) : onB t (9 * x + y) (9 * m + b) = true ↔ y = addN (rd t (9 * x + m)) b := by
  unfold onB
  rw [if_neg (by omega), if_neg (by omega), if_neg (by omega), show (9 * x + y) % 9 = y by omega, show (9 * x + y) / 9 = x by omega, show (9 * m + b) / 9 = m by omega, show (9 * m + b) % 9 = b by omega]
  exact decide_eq_true_iff
theorem on_vert {t : List Int} {x y c : Int} (x0 : 0 ≤ x) (x1 : x < 9) (y0 : 0 ≤ y) (y1 : y < 9) (c0 : 0 ≤ c) (c1 : c < 9) : onB t (9 * x + y) (81 + c) = true ↔ x = c := by
  unfold onB
  rw [if_neg (by omega), if_pos (by omega), decide_eq_false (show ¬ (9 * x + y = 90) by omega), decide_eq_true (show 9 * x + y < 81 by omega), show (9 * x + y) / 9 = x by omega]
  simp; omega
theorem on_inf {t : List Int} {p : Int} : onB t p 90 = true ↔ 81 ≤ p := by unfold onB; rw [if_pos rfl]; exact decide_eq_true_iff
theorem on_far {t : List Int} {p m b : Int} (hp : 81 ≤ p) (m0 : 0 ≤ m) (m1 : m < 9) (b0 : 0 ≤ b) (b1 : b < 9) : onB t p (9 * m + b) = true ↔ p = 81 + m := by
  unfold onB
  rw [if_neg (by omega), if_neg (by omega), if_pos hp, show (9 * m + b) / 9 = m by omega]
  exact decide_eq_true_iff
theorem on_far_vert {t : List Int} {p c : Int} (hp : 81 ≤ p) (c0 : 0 ≤ c) (c1 : c < 9) : onB t p (81 + c) = true ↔ p = 90 := by
  unfold onB
  rw [if_neg (by omega), if_pos (by omega), decide_eq_false (show ¬ p < 81 by omega)]
  simp
theorem line_cases {l : Int} (h0 : 0 ≤ l) (h1 : l < 91) : (∃ m b : Int, 0 ≤ m ∧ m < 9 ∧ 0 ≤ b ∧ b < 9 ∧ l = 9 * m + b) ∨ (∃ c : Int, 0 ≤ c ∧ c < 9 ∧ l = 81 + c) ∨ l = 90 := by
  rcases Int.lt_or_le l 81 with h | h
  · exact .inl ⟨l / 9, l % 9, by omega, by omega, by omega, by omega, by omega⟩
  · rcases Int.lt_or_le l 90 with h' | h'
    · exact .inr (.inl ⟨l - 81, by omega, by omega, by omega⟩)
    · exact .inr (.inr (by omega))
theorem point_cases {p : Int} (h0 : 0 ≤ p) (h1 : p < 91) : (∃ x y : Int, 0 ≤ x ∧ x < 9 ∧ 0 ≤ y ∧ y < 9 ∧ p = 9 * x + y) ∨ 81 ≤ p := by
  rcases Int.lt_or_le p 81 with h | h
  · exact .inl ⟨p / 9, p % 9, by omega, by omega, by omega, by omega, by omega⟩
  · exact .inr h
theorem join_near {t : List Int} (h : sysB t = true) {x y u v : Int} (x0 : 0 ≤ x) (x1 : x < 9) (y0 : 0 ≤ y) (y1 : y < 9) (u0 : 0 ≤ u) (u1 : u < 9) (v0 : 0 ≤ v) (v1 : v < 9) (hne : x ≠ u) :
    ∃ m b : Int, 0 ≤ m ∧ m < 9 ∧ 0 ≤ b ∧ b < 9 ∧ y = addN (rd t (9 * x + m)) b ∧ v = addN (rd t (9 * u + m)) b := by
  have ha := addN_range x (minusN u)
  have hb := addN_range y (minusN v)
  have hane : addN x (minusN u) ≠ 0 := fun e => hne (minus_eq x0 x1 u0 u1 e)
  obtain ⟨m, m0, m1, hm⟩ := row_onto h (a := addN x (minusN u)) (by omega) ha.2 (addN y (minusN v)) hb.1 hb.2
  have hsh := sys_share h ha.1 ha.2 u0 u1 m0 m1
  rw [minus_add x0 x1 u0 u1, hm] at hsh
  have r1 := sys_range h x0 x1 m0 m1
  have r2 := sys_range h u0 u1 m0 m1
  refine ⟨m, addN y (minusN (rd t (9 * x + m))), m0, m1, (addN_range _ _).1, (addN_range _ _).2, solve_b r1.1 r1.2 y0 y1, ?_⟩
  rw [hsh]
  exact three_a r2.1 r2.2 y0 y1 v0 v1
theorem join_ex {t : List Int} (h : sysB t = true) {p q : Int} (p0 : 0 ≤ p) (p1 : p < 91) (q0 : 0 ≤ q) (q1 : q < 91) (hne : p ≠ q) : ∃ l : Int, 0 ≤ l ∧ l < 91 ∧ onB t p l = true ∧ onB t q l = true := by
  have nearfar : ∀ x y q : Int, 0 ≤ x → x < 9 → 0 ≤ y → y < 9 → 81 ≤ q → q < 91 → ∃ l : Int, 0 ≤ l ∧ l < 91 ∧ onB t (9 * x + y) l = true ∧ onB t q l = true := by
    intro x y q x0 x1 y0 y1 hq q1
    rcases Int.lt_or_le q 90 with h9 | h9
    · have hb := addN_range y (minusN (rd t (9 * x + (q - 81))))
      exact ⟨9 * (q - 81) + addN y (minusN (rd t (9 * x + (q - 81)))), by omega, by omega, (on_near x0 x1 y0 y1 (by omega) (by omega) hb.1 hb.2).2 (solve_b (sys_range h x0 x1 (by omega) (by omega)).1 (sys_range h x0 x1 (by omega) (by omega)).2 y0 y1), (on_far hq (by omega) (by omega) hb.1 hb.2).2 (by omega)⟩
    · exact ⟨81 + x, by omega, by omega, (on_vert x0 x1 y0 y1 x0 x1).2 rfl, (on_far_vert hq x0 x1).2 (by omega)⟩
  rcases point_cases p0 p1 with ⟨x, y, x0, x1, y0, y1, rfl⟩ | hp
  · rcases point_cases q0 q1 with ⟨u, v, u0, u1, v0, v1, rfl⟩ | hq
    · by_cases e : x = u
      · subst e
        exact ⟨81 + x, by omega, by omega, (on_vert x0 x1 y0 y1 x0 x1).2 rfl, (on_vert x0 x1 v0 v1 x0 x1).2 rfl⟩
      · obtain ⟨m, b, m0, m1, b0, b1, e1, e2⟩ := join_near h x0 x1 y0 y1 u0 u1 v0 v1 e
        exact ⟨9 * m + b, by omega, by omega, (on_near x0 x1 y0 y1 m0 m1 b0 b1).2 e1, (on_near u0 u1 v0 v1 m0 m1 b0 b1).2 e2⟩
    · exact nearfar x y q x0 x1 y0 y1 hq q1
  · rcases point_cases q0 q1 with ⟨u, v, u0, u1, v0, v1, rfl⟩ | hq
    · obtain ⟨l, a, b, c, d⟩ := nearfar u v p u0 u1 v0 v1 hp p1
      exact ⟨l, a, b, d, c⟩
    · exact ⟨90, by omega, by omega, on_inf.2 hp, on_inf.2 hq⟩
theorem same_line {t : List Int} (h : sysB t = true) {x y u v m b n c : Int} (x0 : 0 ≤ x) (x1 : x < 9) (u0 : 0 ≤ u) (u1 : u < 9) (m0 : 0 ≤ m) (m1 : m < 9) (b0 : 0 ≤ b) (b1 : b < 9) (n0 : 0 ≤ n) (n1 : n < 9) (c0 : 0 ≤ c) (c1 : c < 9)
    (e1 : y = addN (rd t (9 * x + m)) b) (e2 : y = addN (rd t (9 * x + n)) c) (e3 : v = addN (rd t (9 * u + m)) b) (e4 : v = addN (rd t (9 * u + n)) c) (hne : ¬ (x = u ∧ y = v)) : m = n ∧ b = c := by
  rcases Decidable.em (m = n) with he | hn
  · subst he
    exact ⟨rfl, addN_cancel (sys_range h x0 x1 m0 m1).1 (sys_range h x0 x1 m0 m1).2 b0 b1 c0 c1 (e1.symm.trans e2)⟩
  · exfalso
    have r1 := sys_range h x0 x1 m0 m1
    have r2 := sys_range h x0 x1 n0 n1
    have r3 := sys_range h u0 u1 m0 m1
    have r4 := sys_range h u0 u1 n0 n1
    have hx := diff_inj h (x := x) (y := u) m0 m1 n0 n1 hn x0 x1 u0 u1 (by
      unfold diffI
      have f1 := e1.symm.trans e2
      have f2 := e3.symm.trans e4
      have g1 := add_minus r1.1 r1.2 b0 b1
      have g3 := add_minus r3.1 r3.2 b0 b1
      rw [f1] at g1
      rw [f2] at g3
      rw [← g1, ← g3, three_b r2.1 r2.2 c0 c1 b0 b1, three_b r4.1 r4.2 c0 c1 b0 b1])
    subst hx
    exact hne ⟨rfl, e1.trans e3.symm⟩
theorem join_uniq {t : List Int} (h : sysB t = true) {p q l k : Int} (p0 : 0 ≤ p) (p1 : p < 91) (q0 : 0 ≤ q) (q1 : q < 91) (hne : p ≠ q) (l0 : 0 ≤ l) (l1 : l < 91) (k0 : 0 ≤ k) (k1 : k < 91)
    (a : onB t p l = true) (b : onB t q l = true) (c : onB t p k = true) (d : onB t q k = true) : l = k := by
  rcases point_cases p0 p1 with ⟨x, y, x0, x1, y0, y1, rfl⟩ | hp <;> rcases point_cases q0 q1 with ⟨u, v, u0, u1, v0, v1, rfl⟩ | hq <;>
    rcases line_cases l0 l1 with ⟨m, e, m0, m1, e0, e1, rfl⟩ | ⟨e, e0, e1, rfl⟩ | rfl <;> rcases line_cases k0 k1 with ⟨n, f, n0, n1, f0, f1, rfl⟩ | ⟨f, f0, f1, rfl⟩ | rfl
  case inl.inl.inl.inl =>
    rw [on_near x0 x1 y0 y1 m0 m1 e0 e1] at a; rw [on_near u0 u1 v0 v1 m0 m1 e0 e1] at b; rw [on_near x0 x1 y0 y1 n0 n1 f0 f1] at c; rw [on_near u0 u1 v0 v1 n0 n1 f0 f1] at d
    have := same_line h x0 x1 u0 u1 m0 m1 e0 e1 n0 n1 f0 f1 a c b d (by omega)
    omega
  case inl.inr.inl.inl =>
    rw [on_near x0 x1 y0 y1 m0 m1 e0 e1] at a; rw [on_far hq m0 m1 e0 e1] at b; rw [on_near x0 x1 y0 y1 n0 n1 f0 f1] at c; rw [on_far hq n0 n1 f0 f1] at d
    obtain rfl : m = n := by omega
    have := addN_cancel (sys_range h x0 x1 m0 m1).1 (sys_range h x0 x1 m0 m1).2 e0 e1 f0 f1 (a.symm.trans c); omega
  case inr.inl.inl.inl =>
    rw [on_far hp m0 m1 e0 e1] at a; rw [on_near u0 u1 v0 v1 m0 m1 e0 e1] at b; rw [on_far hp n0 n1 f0 f1] at c; rw [on_near u0 u1 v0 v1 n0 n1 f0 f1] at d
    obtain rfl : m = n := by omega
    have := addN_cancel (sys_range h u0 u1 m0 m1).1 (sys_range h u0 u1 m0 m1).2 e0 e1 f0 f1 (b.symm.trans d); omega
  case inl.inl.inl.inr.inl =>
    rw [on_near x0 x1 y0 y1 m0 m1 e0 e1] at a; rw [on_near u0 u1 v0 v1 m0 m1 e0 e1] at b; rw [on_vert x0 x1 y0 y1 f0 f1] at c; rw [on_vert u0 u1 v0 v1 f0 f1] at d
    exfalso; subst c; subst d; exact hne (by rw [a, b])
  case inl.inl.inr.inl.inl =>
    rw [on_vert x0 x1 y0 y1 e0 e1] at a; rw [on_vert u0 u1 v0 v1 e0 e1] at b; rw [on_near x0 x1 y0 y1 n0 n1 f0 f1] at c; rw [on_near u0 u1 v0 v1 n0 n1 f0 f1] at d
    exfalso; subst a; subst b; exact hne (by rw [c, d])
  all_goals
    (try rw [on_inf] at a); (try rw [on_inf] at b); (try rw [on_inf] at c); (try rw [on_inf] at d)
    (try rw [on_vert x0 x1 y0 y1 e0 e1] at a); (try rw [on_vert u0 u1 v0 v1 e0 e1] at b); (try rw [on_vert x0 x1 y0 y1 f0 f1] at c); (try rw [on_vert u0 u1 v0 v1 f0 f1] at d)
    (try rw [on_far hp m0 m1 e0 e1] at a); (try rw [on_far hq m0 m1 e0 e1] at b); (try rw [on_far hp n0 n1 f0 f1] at c); (try rw [on_far hq n0 n1 f0 f1] at d)
    (try rw [on_far_vert hp e0 e1] at a); (try rw [on_far_vert hq e0 e1] at b); (try rw [on_far_vert hp f0 f1] at c); (try rw [on_far_vert hq f0 f1] at d)
    try omega
def joinI (t : List Int) (p q : Int) : Int := firstI 91 fun l => onB t p l && onB t q l
theorem joinI_spec {t : List Int} (h : sysB t = true) {p q : Int} (p0 : 0 ≤ p) (p1 : p < 91) (q0 : 0 ≤ q) (q1 : q < 91) (hne : p ≠ q) : 0 ≤ joinI t p q ∧ joinI t p q < 91 ∧ onB t p (joinI t p q) = true ∧ onB t q (joinI t p q) = true := by
  obtain ⟨l, l0, l1, a, b⟩ := join_ex h p0 p1 q0 q1 hne
  obtain ⟨j0, j1, j2, _⟩ := firstI_spec (n := 91) (p := fun l => onB t p l && onB t q l) l l0 l1 (by rw [a, b]; rfl)
  exact ⟨j0, j1, (Bool.and_eq_true _ _ ▸ j2).1, (Bool.and_eq_true _ _ ▸ j2).2⟩
theorem joinI_eq {t : List Int} (h : sysB t = true) {p q l : Int} (p0 : 0 ≤ p) (p1 : p < 91) (q0 : 0 ≤ q) (q1 : q < 91) (hne : p ≠ q) (l0 : 0 ≤ l) (l1 : l < 91) (a : onB t p l = true) (b : onB t q l = true) : joinI t p q = l := by
  obtain ⟨j0, j1, j2, j3⟩ := joinI_spec h p0 p1 q0 q1 hne
  exact join_uniq h p0 p1 q0 q1 hne j0 j1 l0 l1 j2 j3 a b
end Go.Proofs.Ytbfafjejmljcpaa.X

namespace Go.Proofs.Ytbfafjejmljcpaa.P
open Go.RowKit Go.Proofs.YtbfafjejmljcpaaW.PrintWords Go.Proofs.YtbfafjejmljcpaaW.PrintLast
set_option linter.unusedVariables false
set_option linter.unusedSimpArgs false

def cmp_isNaN_int.f (a0 : Int) : Option (Bool) := some (a0 != a0)
set_option maxHeartbeats 8000000 in
set_option maxRecDepth 100000 in
theorem cmp_isNaN_int.calls (a0 : Int) (r : Bool) (w : World) (h : cmp_isNaN_int.f a0 = some r) :
  Calls Try.prog 126 #[.int .i64 a0] w fun e w' => e = .returned (.bool r) ∧ Drawn0 w w' := by
 have H : (some (a0 != a0)) = some r := h
 clear h
 obtain rfl := Option.some.inj H
 go_enter Try.func126, Try.ntmps126
 go_wp2
 go_ret
 exact ⟨by first | rfl | (simp; done) | (simp [*]; done), by repeat (first | exact Drawn0.refl _ | apply Drawn0.step)⟩
end Go.Proofs.Ytbfafjejmljcpaa.P

namespace Go.Proofs.Ytbfafjejmljcpaa.P
open Go.RowKit Go.Proofs.YtbfafjejmljcpaaW.PrintWords Go.Proofs.YtbfafjejmljcpaaW.PrintLast
set_option linter.unusedVariables false
set_option linter.unusedSimpArgs false

def cmp_Compare_int.f (a0 : Int) (a1 : Int) : Option (Int) := (cmp_isNaN_int.f a0).bind fun t650 => ((cmp_isNaN_int.f a1).bind fun t651 => (if t650 = true then (if t651 = true then (some 0) else (some (-1))) else (if t651 = true then (some 1) else (if a0 < a1 then (some (-1)) else (if a0 > a1 then (some 1) else (some 0))))))
set_option maxHeartbeats 8000000 in
set_option maxRecDepth 100000 in
theorem cmp_Compare_int.calls (a0 : Int) (a1 : Int) (r : Int) (w : World) (h : cmp_Compare_int.f a0 a1 = some r) :
  Calls Try.prog 119 #[.int .i64 a0, .int .i64 a1] w fun e w' => e = .returned (.int .i64 r) ∧ Drawn0 w w' := by
 have H : ((cmp_isNaN_int.f a0).bind fun t650 => ((cmp_isNaN_int.f a1).bind fun t651 => (if t650 = true then (if t651 = true then (some 0) else (some (-1))) else (if t651 = true then (some 1) else (if a0 < a1 then (some (-1)) else (if a0 > a1 then (some 1) else (some 0))))))) = some r := h
 clear h
 replace H := Option.bind_eq_some_iff.mp H
 obtain ⟨t650, A30, H⟩ := H
 replace H : ((cmp_isNaN_int.f a1).bind fun t651 => (if t650 = true then (if t651 = true then (some 0) else (some (-1))) else (if t651 = true then (some 1) else (if a0 < a1 then (some (-1)) else (if a0 > a1 then (some 1) else (some 0)))))) = some r := H
 have A3 := Aside0.mk A30
 clear A30
 replace H := Option.bind_eq_some_iff.mp H
 obtain ⟨t651, A40, H⟩ := H
 replace H : (if t650 = true then (if t651 = true then (some 0) else (some (-1))) else (if t651 = true then (some 1) else (if a0 < a1 then (some (-1)) else (if a0 > a1 then (some 1) else (some 0))))) = some r := H
 have A4 := Aside0.mk A40
 clear A40
 by_cases c5 : t650 = true
 ·subst c5
  have H1 : (if t651 = true then (some 0) else (some (-1))) = some r := by rw [if_pos rfl] at H; exact H
  clear H
  have H := H1
  clear H1
  by_cases c6 : t651 = true
  ·subst c6
   have H1 : (some 0) = some r := by rw [if_pos rfl] at H; exact H
   clear H
   have H := H1
   clear H1
   obtain rfl := Option.some.inj H
   go_enter Try.func119, Try.ntmps119
   go_wp2_with (first | (refine goesL_ (some 8) rfl rfl Try.func126 (by kernel_rfl) rfl #[.int .i64 a0] rfl ll_ ?_; (with_reducible refine (cmp_isNaN_int.calls a0 true _ A3.out).mono ?_); rintro e w' ⟨rfl, ⟨nd, rfl⟩⟩; refine ⟨_, rfl, ?_⟩) | (refine goesL_ (some 10) rfl rfl Try.func126 (by kernel_rfl) rfl #[.int .i64 a1] rfl ll_ ?_; (with_reducible refine (cmp_isNaN_int.calls a1 true _ A4.out).mono ?_); rintro e w' ⟨rfl, ⟨nd, rfl⟩⟩; refine ⟨_, rfl, ?_⟩))
   go_ret
   exact ⟨by first | rfl | (simp; done) | (simp [*]; done), by repeat (first | exact Drawn0.refl _ | apply Drawn0.step)⟩
  ·replace c6 := Bool.eq_false_iff.mpr c6
   subst c6
   have H1 : (some (-1)) = some r := by rw [if_neg (show ¬ (false = true) by decide)] at H; exact H
   clear H
   have H := H1
   clear H1
   obtain rfl := Option.some.inj H
   go_enter Try.func119, Try.ntmps119
   go_wp2_with (first | (refine goesL_ (some 8) rfl rfl Try.func126 (by kernel_rfl) rfl #[.int .i64 a0] rfl ll_ ?_; (with_reducible refine (cmp_isNaN_int.calls a0 true _ A3.out).mono ?_); rintro e w' ⟨rfl, ⟨nd, rfl⟩⟩; refine ⟨_, rfl, ?_⟩) | (refine goesL_ (some 10) rfl rfl Try.func126 (by kernel_rfl) rfl #[.int .i64 a1] rfl ll_ ?_; (with_reducible refine (cmp_isNaN_int.calls a1 false _ A4.out).mono ?_); rintro e w' ⟨rfl, ⟨nd, rfl⟩⟩; refine ⟨_, rfl, ?_⟩))
   go_ret
   exact ⟨by first | rfl | (simp; done) | (simp [*]; done), by repeat (first | exact Drawn0.refl _ | apply Drawn0.step)⟩
 ·replace c5 := Bool.eq_false_iff.mpr c5
  subst c5
  have H1 : (if t651 = true then (some 1) else (if a0 < a1 then (some (-1)) else (if a0 > a1 then (some 1) else (some 0)))) = some r := by rw [if_neg (show ¬ (false = true) by decide)] at H; exact H
  clear H
  have H := H1
  clear H1
  by_cases c7 : t651 = true
  ·subst c7
   have H1 : (some 1) = some r := by rw [if_pos rfl] at H; exact H
   clear H
   have H := H1
   clear H1
   obtain rfl := Option.some.inj H
   go_enter Try.func119, Try.ntmps119
   go_wp2_with (first | (refine goesL_ (some 8) rfl rfl Try.func126 (by kernel_rfl) rfl #[.int .i64 a0] rfl ll_ ?_; (with_reducible refine (cmp_isNaN_int.calls a0 false _ A3.out).mono ?_); rintro e w' ⟨rfl, ⟨nd, rfl⟩⟩; refine ⟨_, rfl, ?_⟩) | (refine goesL_ (some 10) rfl rfl Try.func126 (by kernel_rfl) rfl #[.int .i64 a1] rfl ll_ ?_; (with_reducible refine (cmp_isNaN_int.calls a1 true _ A4.out).mono ?_); rintro e w' ⟨rfl, ⟨nd, rfl⟩⟩; refine ⟨_, rfl, ?_⟩))
   go_ret
   exact ⟨by first | rfl | (simp; done) | (simp [*]; done), by repeat (first | exact Drawn0.refl _ | apply Drawn0.step)⟩
  ·replace c7 := Bool.eq_false_iff.mpr c7
   subst c7
   have H1 : (if a0 < a1 then (some (-1)) else (if a0 > a1 then (some 1) else (some 0))) = some r := by rw [if_neg (show ¬ (false = true) by decide)] at H; exact H
   clear H
   have H := H1
   clear H1
   by_cases c8 : a0 < a1
   ·rw [if_pos c8] at H
    have c8b0 : decide (a0 < a1) = true := decide_eq_true c8
    clear c8
    obtain rfl := Option.some.inj H
    go_enter Try.func119, Try.ntmps119
    go_wp2_with (first | (refine goesL_ (some 8) rfl rfl Try.func126 (by kernel_rfl) rfl #[.int .i64 a0] rfl ll_ ?_; (with_reducible refine (cmp_isNaN_int.calls a0 false _ A3.out).mono ?_); rintro e w' ⟨rfl, ⟨nd, rfl⟩⟩; refine ⟨_, rfl, ?_⟩) | (refine goesL_ (some 10) rfl rfl Try.func126 (by kernel_rfl) rfl #[.int .i64 a1] rfl ll_ ?_; (with_reducible refine (cmp_isNaN_int.calls a1 false _ A4.out).mono ?_); rintro e w' ⟨rfl, ⟨nd, rfl⟩⟩; refine ⟨_, rfl, ?_⟩))
    go_ret
    exact ⟨by first | rfl | (simp; done) | (simp [*]; done), by repeat (first | exact Drawn0.refl _ | apply Drawn0.step)⟩
   ·rw [if_neg c8] at H
    have c8b0 : decide (a0 < a1) = false := decide_eq_false c8
    clear c8
    by_cases c9 : a0 > a1
    ·rw [if_pos c9] at H
     have c9b0 : decide (a1 < a0) = true := decide_eq_true c9
     clear c9
     obtain rfl := Option.some.inj H
     go_enter Try.func119, Try.ntmps119
     go_wp2_with (first | (refine goesL_ (some 8) rfl rfl Try.func126 (by kernel_rfl) rfl #[.int .i64 a0] rfl ll_ ?_; (with_reducible refine (cmp_isNaN_int.calls a0 false _ A3.out).mono ?_); rintro e w' ⟨rfl, ⟨nd, rfl⟩⟩; refine ⟨_, rfl, ?_⟩) | (refine goesL_ (some 10) rfl rfl Try.func126 (by kernel_rfl) rfl #[.int .i64 a1] rfl ll_ ?_; (with_reducible refine (cmp_isNaN_int.calls a1 false _ A4.out).mono ?_); rintro e w' ⟨rfl, ⟨nd, rfl⟩⟩; refine ⟨_, rfl, ?_⟩))
     go_ret
     exact ⟨by first | rfl | (simp; done) | (simp [*]; done), by repeat (first | exact Drawn0.refl _ | apply Drawn0.step)⟩
    ·rw [if_neg c9] at H
     have c9b0 : decide (a1 < a0) = false := decide_eq_false c9
     clear c9
     obtain rfl := Option.some.inj H
     go_enter Try.func119, Try.ntmps119
     go_wp2_with (first | (refine goesL_ (some 8) rfl rfl Try.func126 (by kernel_rfl) rfl #[.int .i64 a0] rfl ll_ ?_; (with_reducible refine (cmp_isNaN_int.calls a0 false _ A3.out).mono ?_); rintro e w' ⟨rfl, ⟨nd, rfl⟩⟩; refine ⟨_, rfl, ?_⟩) | (refine goesL_ (some 10) rfl rfl Try.func126 (by kernel_rfl) rfl #[.int .i64 a1] rfl ll_ ?_; (with_reducible refine (cmp_isNaN_int.calls a1 false _ A4.out).mono ?_); rintro e w' ⟨rfl, ⟨nd, rfl⟩⟩; refine ⟨_, rfl, ?_⟩))
     go_ret
     exact ⟨by first | rfl | (simp; done) | (simp [*]; done), by repeat (first | exact Drawn0.refl _ | apply Drawn0.step)⟩
end Go.Proofs.Ytbfafjejmljcpaa.P

namespace Go.Proofs.Ytbfafjejmljcpaa.P
open Go.RowKit Go.Proofs.YtbfafjejmljcpaaW.PrintWords Go.Proofs.YtbfafjejmljcpaaW.PrintLast
set_option linter.unusedVariables false
set_option linter.unusedSimpArgs false

def slices_Compare_int_int.l0 : Nat → List Int → List Int → List Int → Int → Int → Option (Int)
 | 0, _, _, _, _, _ => none
 | k + 1, x0, x1, x9, x10, x11 => if x11 < x10 then (if 0 ≤ x11 then (if x11 < (x9.length : Int) then (if x11 ≥ (x1.length : Int) then (some 1) else (if x11 < (x1.length : Int) then ((cmp_Compare_int.f (rd x9 x11) (rd x1 x11)).bind fun t654 => (if t654 = 0 then (slices_Compare_int_int.l0 k x0 x1 x9 x10 (wrap64 (x11 + 1))) else (some t654))) else (none))) else (none)) else (none)) else (if (x0.length : Int) < (x1.length : Int) then (some (-1)) else (some 0))
def slices_Compare_int_int.f (k : Nat) (l0 : List Int) (l1 : List Int) : Option (Int) := slices_Compare_int_int.l0 k l0 l1 l0 (l0.length : Int) 0
set_option maxHeartbeats 8000000 in
set_option maxRecDepth 100000 in
theorem slices_Compare_int_int.calls (k : Nat) (A0 : Option Addr) (c0 : Nat) (l0 : List Int) (A1 : Option Addr) (c1 : Nat) (l1 : List Int) (r : Int) (w : World) (hr0 : Kd.C (Kd.int .i64) w A0 l0.length l0) (hc0 : l0.length ≤ c0) (hr1 : Kd.C (Kd.int .i64) w A1 l1.length l1) (hc1 : l1.length ≤ c1) (h : slices_Compare_int_int.f k l0 l1 = some r) :
  Calls Try.prog 84 #[.slice A0 l0.length c0, .slice A1 l1.length c1] w fun e w' => e = .returned (.int .i64 r) ∧ Drawn0 w w' := by
 have HR0 := Aside0.mk hr0
 have HC0 := Aside0.mk hc0
 clear hr0 hc0
 have HR1 := Aside0.mk hr1
 have HC1 := Aside0.mk hc1
 clear hr1 hc1
 have H : (slices_Compare_int_int.l0 k l0 l1 l0 (l0.length : Int) 0) = some r := h
 clear h
 have H' := Aside0.mk H
 clear H
 go_enter Try.func84, Try.ntmps84
 go_wp2
 go_loopg [11] k (fun kq v11 w' => ∃ (x11_1 : Int), v11 = .int .i64 x11_1 ∧ Aside0 (slices_Compare_int_int.l0 kq l0 l1 l0 (l0.length : Int) x11_1 = some r) ∧ Aside0 (kq ≤ k) ∧ Drawn0 w w')
 case atStart => exact ⟨(0), (by first | rfl | (simp; done) | (simp [*]; done)), H', ⟨Nat.le_refl _⟩, by repeat (first | exact Drawn0.refl _ | apply Drawn0.step)⟩
 case round =>
  clear H'
  try clear c1
  try clear p2
  obtain ⟨x11_1, rfl, HA, HK1, ⟨m1, rfl⟩⟩ := hrel
  cases gk with
  | zero => exact absurd HA.out (by simp [slices_Compare_int_int.l0])
  | succ k1 =>
   have H := HA.out
   clear HA
   simp only [slices_Compare_int_int.l0] at H
   by_cases c3 : x11_1 < (l0.length : Int)
   ·rw [if_pos c3] at H
    have c3b0 : decide (x11_1 < (l0.length : Int)) = true := decide_eq_true c3
    clear c3
    by_cases c4 : 0 ≤ x11_1
    ·rw [if_pos c4] at H
     have c4b0 : decide (0 ≤ x11_1) = true := decide_eq_true c4
     clear c4
     by_cases c5 : x11_1 < (l0.length : Int)
     ·rw [if_pos c5] at H
      have c5b0 : decide (x11_1 < (l0.length : Int)) = true := decide_eq_true c5
      clear c5
      by_cases c6 : x11_1 ≥ (l1.length : Int)
      ·rw [if_pos c6] at H
       have c6b0 : decide ((l1.length : Int) ≤ x11_1) = true := decide_eq_true c6
       clear c6
       obtain rfl := Option.some.inj H
       have p652 : 0 ≤ (x11_1 : Int) := dd_
       have q652 : x11_1 < (l0.length : Int) := dd_
       obtain ⟨ad652, e652, hx652_0⟩ := Kd.at_int HR0.out x11_1 p652 q652
       cases e652
       replace p652 := eq_true p652
       replace q652 := eq_true q652
       go_wp2
       go_ret
       exact ⟨by first | rfl | (simp; done) | (simp [*]; done), by repeat (first | exact Drawn0.refl _ | apply Drawn0.step)⟩
      ·rw [if_neg c6] at H
       have c6b0 : decide ((l1.length : Int) ≤ x11_1) = false := decide_eq_false c6
       clear c6
       by_cases c7 : x11_1 < (l1.length : Int)
       ·rw [if_pos c7] at H
        have c7b0 : decide (x11_1 < (l1.length : Int)) = true := decide_eq_true c7
        clear c7
        replace H := Option.bind_eq_some_iff.mp H
        obtain ⟨t654, A80, H⟩ := H
        replace H : (if t654 = 0 then (slices_Compare_int_int.l0 k1 l0 l1 l0 (l0.length : Int) (wrap64 (x11_1 + 1))) else (some t654)) = some r := H
        have A8 := Aside0.mk A80
        clear A80
        by_cases c9 : t654 = 0
        ·rw [if_pos c9] at H
         have c9b0 : (t654 == 0) = true := beq_iff_eq.mpr c9
         have c9b1 : (t654 != 0) = false := bne_eq_false_iff_eq.mpr c9
         clear c9
         have H' := Aside0.mk H
         clear H
         have p652 : 0 ≤ (x11_1 : Int) := dd_
         have q652 : x11_1 < (l0.length : Int) := dd_
         obtain ⟨ad652, e652, hx652_0⟩ := Kd.at_int HR0.out x11_1 p652 q652
         cases e652
         replace p652 := eq_true p652
         replace q652 := eq_true q652
         have p653 : 0 ≤ (x11_1 : Int) := dd_
         have q653 : x11_1 < (l1.length : Int) := dd_
         obtain ⟨ad653, e653, hx653_0⟩ := Kd.at_int HR1.out x11_1 p653 q653
         cases e653
         replace p653 := eq_true p653
         replace q653 := eq_true q653
         go_wp2_with (first | (refine goesL_ (some 26) rfl rfl Try.func119 (by kernel_rfl) rfl #[.int .i64 (rd l0 x11_1), .int .i64 (rd l1 x11_1)] rfl ll_ ?_; (with_reducible refine (cmp_Compare_int.calls (rd l0 x11_1) (rd l1 x11_1) t654 _ A8.out).mono ?_); rintro e w' ⟨rfl, ⟨nd, rfl⟩⟩; refine ⟨_, rfl, ?_⟩))
         go_roundg k1
         case measure => have := HK1.out; omega
         case rel => exact ⟨(wrap64 (x11_1 + 1)), (by first | rfl | (simp; done) | (simp [*]; done)), H', ⟨by have := HK1.out; omega⟩, by repeat (first | exact Drawn0.refl _ | apply Drawn0.step)⟩
        ·rw [if_neg c9] at H
         have c9b0 : (t654 == 0) = false := beq_eq_false_iff_ne.mpr c9
         have c9b1 : (t654 != 0) = true := bne_iff_ne.mpr c9
         obtain rfl := Option.some.inj H
         have p652 : 0 ≤ (x11_1 : Int) := dd_
         have q652 : x11_1 < (l0.length : Int) := dd_
         obtain ⟨ad652, e652, hx652_0⟩ := Kd.at_int HR0.out x11_1 p652 q652
         cases e652
         replace p652 := eq_true p652
         replace q652 := eq_true q652
         have p653 : 0 ≤ (x11_1 : Int) := dd_
         have q653 : x11_1 < (l1.length : Int) := dd_
         obtain ⟨ad653, e653, hx653_0⟩ := Kd.at_int HR1.out x11_1 p653 q653
         cases e653
         replace p653 := eq_true p653
         replace q653 := eq_true q653
         go_wp2_with (first | (refine goesL_ (some 26) rfl rfl Try.func119 (by kernel_rfl) rfl #[.int .i64 (rd l0 x11_1), .int .i64 (rd l1 x11_1)] rfl ll_ ?_; (with_reducible refine (cmp_Compare_int.calls (rd l0 x11_1) (rd l1 x11_1) t654 _ A8.out).mono ?_); rintro e w' ⟨rfl, ⟨nd, rfl⟩⟩; refine ⟨_, rfl, ?_⟩))
         go_ret
         exact ⟨by first | rfl | (simp; done) | (simp [*]; done), by repeat (first | exact Drawn0.refl _ | apply Drawn0.step)⟩
       ·rw [if_neg c7] at H
        exact absurd H (by simp)
     ·rw [if_neg c5] at H
      exact absurd H (by simp)
    ·rw [if_neg c4] at H
     exact absurd H (by simp)
   ·rw [if_neg c3] at H
    have c3b0 : decide (x11_1 < (l0.length : Int)) = false := decide_eq_false c3
    clear c3
    by_cases c10 : (l0.length : Int) < (l1.length : Int)
    ·rw [if_pos c10] at H
     have c10b0 : decide ((l0.length : Int) < (l1.length : Int)) = true := decide_eq_true c10
     have c10b1 : decide (l0.length < l1.length) = true := decide_eq_true (Int.ofNat_lt.mp c10)
     clear c10
     obtain rfl := Option.some.inj H
     go_wp2
     go_ret
     exact ⟨by first | rfl | (simp; done) | (simp [*]; done), by repeat (first | exact Drawn0.refl _ | apply Drawn0.step)⟩
    ·rw [if_neg c10] at H
     have c10b0 : decide ((l0.length : Int) < (l1.length : Int)) = false := decide_eq_false c10
     have c10b1 : decide (l0.length < l1.length) = false := decide_eq_false (fun h => c10 (Int.ofNat_lt.mpr h))
     clear c10
     obtain rfl := Option.some.inj H
     go_wp2
     go_ret
     exact ⟨by first | rfl | (simp; done) | (simp [*]; done), by repeat (first | exact Drawn0.refl _ | apply Drawn0.step)⟩
end Go.Proofs.Ytbfafjejmljcpaa.P

set_option linter.unusedVariables false
set_option linter.unusedSimpArgs false
namespace Go.Proofs.Ytbfafjejmljcpaa.X
open Go.RowKit Go.Proofs.YtbfafjejmljcpaaW.PrintWords Go.Proofs.YtbfafjejmljcpaaW.PrintLast Go.Proofs.Ytbfafjejmljcpaa.P

def gapI (a b : List Int) : Int := firstI 9 fun i => rd a i != rd b i
def lessB (a b : List Int) : Bool := decide (0 ≤ gapI a b) && decide (rd a (gapI a b) < rd b (gapI a b))
def cmpI (a b : List Int) : Int := if gapI a b < 0 then 0 else if rd a (gapI a b) < rd b (gapI a b) then -1 else 1
theorem gapI_ge (a b : List Int) : -1 ≤ gapI a b := by
  unfold gapI
  by_cases h : ∃ i : Int, 0 ≤ i ∧ i < 9 ∧ (rd a i != rd b i) = true
  · obtain ⟨i, h0, h1, h2⟩ := h
    have := firstI_spec (n := 9) (p := fun i => rd a i != rd b i) i h0 h1 h2
    omega
  · rw [firstI_none fun i h0 h1 => Bool.eq_false_iff.2 fun h2 => h ⟨i, h0, h1, h2⟩]; omega
theorem cmpI_less {a b : List Int} : decide (cmpI a b ≥ 0) = !lessB a b := by
  unfold cmpI lessB
  have := gapI_ge a b
  by_cases h : gapI a b < 0
  · rw [if_pos h, decide_eq_false (by omega : ¬ 0 ≤ gapI a b)]; rfl
  · rw [if_neg h, decide_eq_true (by omega : 0 ≤ gapI a b)]
    by_cases h2 : rd a (gapI a b) < rd b (gapI a b)
    · rw [if_pos h2, decide_eq_true h2]; rfl
    · rw [if_neg h2, decide_eq_false h2]; rfl
theorem isNaN_eq (x : Int) : cmp_isNaN_int.f x = some false := by
  unfold cmp_isNaN_int.f
  simp
theorem cmpInt_eq (x y : Int) : cmp_Compare_int.f x y = some (if x < y then -1 else if x > y then 1 else 0) := by
  unfold cmp_Compare_int.f
  rw [isNaN_eq, isNaN_eq]
  simp only [Option.bind_some, Bool.false_eq_true, if_false]
  split <;> (try split) <;> rfl
theorem compare_loop (a b : List Int) (ha : a.length = 9) (hb : b.length = 9) (d : Nat) : ∀ i : Int, 0 ≤ i → i + d = 9 → (∀ j : Int, 0 ≤ j → j < i → rd a j = rd b j) → Ev (fun k => slices_Compare_int_int.l0 k a b a 9 i) (cmpI a b) := by
  induction d with
  | zero =>
    intro i h0 h1 h
    refine Ev.step (fun k => by rw [slices_Compare_int_int.l0]) ?_
    refine Ev.neg (by omega) (Ev.neg (by omega) (Ev.done ?_))
    have : gapI a b = -1 := firstI_none fun j j0 j1 => by rw [h j j0 (by omega)]; simp
    unfold cmpI; rw [this]; rfl
  | succ d ih =>
    intro i h0 h1 h
    refine Ev.step (fun k => by rw [slices_Compare_int_int.l0]) ?_
    rw [w64 (x := i + 1) (by omega) (by omega), cmpInt_eq]
    refine Ev.pos (by omega) (Ev.pos h0 (Ev.pos (by omega) (Ev.neg (by omega) (Ev.pos (by omega) (Ev.fix rfl ?_)))))
    have gap : rd a i ≠ rd b i → gapI a b = i := fun hne => firstI_some i h0 (by omega) (by simpa using hne) fun j j0 j1 => by rw [h j j0 j1]; simp
    by_cases c1 : rd a i < rd b i
    · rw [if_pos c1]
      refine Ev.neg (by decide) (Ev.done ?_)
      unfold cmpI; rw [gap (by omega), if_neg (by omega), if_pos c1]
    · rw [if_neg c1]
      by_cases c2 : rd a i > rd b i
      · rw [if_pos c2]
        refine Ev.neg (by decide) (Ev.done ?_)
        unfold cmpI; rw [gap (by omega), if_neg (by omega), if_neg c1]
      · rw [if_neg c2]
        refine Ev.pos rfl (ih (i + 1) (by omega) (by omega) fun j j0 j1 => ?_)
        by_cases e : j = i
        · rw [e]; omega
        · exact h j j0 (by omega)
theorem compare_ev (a b : List Int) (ha : a.length = 9) (hb : b.length = 9) : Ev (fun k => slices_Compare_int_int.f k a b) (cmpI a b) := by
  unfold slices_Compare_int_int.f
  rw [show (a.length : Int) = 9 by omega]
  exact compare_loop a b ha hb 9 0 (by omega) (by omega) (fun j j0 j1 => by omega)
theorem leafB_parts {l : List Int} (h : leafB l = true) : l.length = 9 ∧ (∀ i : Int, 0 ≤ i → i < 9 → stepB l i = true) ∧ (∀ i k : Int, 0 ≤ i → i < 9 → 0 ≤ k → k < 9 → sumB l i k = true) := by
  unfold leafB at h
  simp only [Bool.and_eq_true, decide_eq_true_eq] at h
  exact ⟨h.1, fun i i0 i1 => allI_int h.2.1 i i0 i1, fun i k i0 i1 k0 k1 => allI_int (allI_int h.2.2 i i0 i1) k k0 k1⟩
theorem leaf_near {l : List Int} (h : leafB l = true) {i : Int} (i0 : 0 ≤ i) (i1 : i < 9) : 0 ≤ rd l i ∧ rd l i < 81 := by
  have := (leafB_parts h).2.1 i i0 i1
  unfold stepB at this
  exact nearB_iff.1 (Bool.and_eq_true _ _ ▸ this).1
theorem leaf_step {l : List Int} (h : leafB l = true) {i : Int} (i0 : 0 < i) (i1 : i < 9) : rd l (i - 1) < rd l i := by
  have := (leafB_parts h).2.1 i (by omega) i1
  unfold stepB at this
  have := (Bool.and_eq_true _ _ ▸ this).2
  rw [decide_eq_true i0] at this
  simpa using this
theorem leaf_lt {l : List Int} (h : leafB l = true) (d : Nat) : ∀ i : Int, 0 ≤ i → i + 1 + d < 9 → rd l i < rd l (i + 1 + d) := by
  induction d with
  | zero =>
    intro i i0 i1
    have := leaf_step h (i := i + 1) (by omega) (by omega)
    rw [show i + 1 - 1 = i by omega] at this
    simpa using this
  | succ d ih =>
    intro i i0 i1
    have h1 := ih i i0 (by omega)
    have h2 := leaf_step h (i := i + 1 + ((d + 1 : Nat) : Int)) (by omega) (by omega)
    rw [show i + 1 + ((d + 1 : Nat) : Int) - 1 = i + 1 + (d : Int) by omega] at h2
    omega
theorem leaf_asc {l : List Int} (h : leafB l = true) {i j : Int} (i0 : 0 ≤ i) (ij : i < j) (j1 : j < 9) : rd l i < rd l j := by
  have := leaf_lt h (j - i - 1).toNat i i0 (by omega)
  rwa [show i + 1 + ((j - i - 1).toNat : Int) = j by omega] at this
theorem mem_rd {l : List Int} {v : Int} (h : v ∈ l) : ∃ i : Int, 0 ≤ i ∧ i < l.length ∧ rd l i = v := by
  obtain ⟨i, hi, e⟩ := List.mem_iff_getElem.1 h
  exact ⟨i, by omega, by omega, by rw [rd_cast l i hi, e]⟩
theorem leaf_take {l : List Int} (h : leafB l = true) {i : Int} (i0 : 0 ≤ i) (i1 : i < 9) : rd l i ∉ l.take i.toNat := by
  intro hm
  obtain ⟨j, hj, e⟩ := List.mem_take_iff_getElem.1 hm
  have := leaf_asc h (i := (j : Int)) (j := i) (by omega) (by omega) i1
  rw [rd_cast l j (by omega), e] at this
  omega
def seenS (l : List (List Int)) (i p : Int) : Bool := (List.range i.toNat).any fun (j : Nat) => decide (p ∈ rd_LI l (j : Int))
theorem seenS_zero (l : List (List Int)) (p : Int) : seenS l 0 p = false := rfl
theorem seenS_succ (l : List (List Int)) {i : Int} (h0 : 0 ≤ i) (p : Int) : seenS l (i + 1) p = (seenS l i p || decide (p ∈ rd_LI l i)) := by
  unfold seenS
  rw [show (i + 1).toNat = i.toNat + 1 by omega, List.range_succ, List.any_append]
  simp [Int.toNat_of_nonneg h0]
def freshB (l : List (List Int)) (i : Int) : Bool := (rd_LI l i).all fun p => decide (p ≤ 0) || !seenS l i p
def ordB (l : List (List Int)) (i : Int) : Bool := decide (i ≤ 0) || lessB (rd_LI l (i - 1)) (rd_LI l i)
def leafOk (l : List (List Int)) (i : Int) : Bool := leafB (rd_LI l i) && (ordB l i && freshB l i)
def spreadB (l : List (List Int)) : Bool := decide (l.length = 10) && allI 10 (leafOk l)
theorem spreadB_hit {l : List (List Int)} {i : Int} (h0 : 0 ≤ i) (h1 : i < 10) (h : leafOk l i = false) : spreadB l = false := by
  cases e : spreadB l with
  | false => rfl
  | true =>
    unfold spreadB at e
    have := allI_int (Bool.and_eq_true _ _ ▸ e).2 i h0 h1
    rw [h] at this; exact absurd this (by decide)
theorem spreadB_all {l : List (List Int)} (hl : l.length = 10) (h : ∀ i : Int, 0 ≤ i → i < 10 → leafOk l i = true) : spreadB l = true := by
  unfold spreadB
  rw [decide_eq_true hl, allI_int_iff.2 h]; rfl
theorem leafOk_parts {l : List (List Int)} {i : Int} (h : leafOk l i = true) : leafB (rd_LI l i) = true ∧ ordB l i = true ∧ freshB l i = true := by
  unfold leafOk at h
  simp only [Bool.and_eq_true] at h
  exact h
end Go.Proofs.Ytbfafjejmljcpaa.X

set_option linter.unusedVariables false
set_option linter.unusedSimpArgs false
namespace Go.Proofs.Ytbfafjejmljcpaa.X
open Go.RowKit Go.Proofs.YtbfafjejmljcpaaW.PrintWords

def In91 (p : Int) : Prop := 0 ≤ p ∧ p < 91
def pointsL (t : List Int) (l : Int) : List Int := filI 91 fun p => onB t p l
theorem filI_asc (n : Nat) (p : Int → Bool) : (filI n p).Pairwise (· < ·) := by
  induction n with
  | zero => exact List.Pairwise.nil
  | succ n ih =>
    rw [filI_succ, List.pairwise_append]
    refine ⟨ih, ?_, fun a ha b hb => ?_⟩
    · by_cases h : p (n : Int) = true
      · rw [if_pos h]; exact List.pairwise_singleton _ _
      · rw [if_neg h]; exact List.Pairwise.nil
    · by_cases h : p (n : Int) = true
      · rw [if_pos h] at hb
        have hbn := List.mem_singleton.1 hb
        have := (mem_filI.1 ha).2.1
        omega
      · rw [if_neg h] at hb; exact absurd hb (by simp)
theorem rd_getElem {l : List Int} {i : Int} (h0 : 0 ≤ i) (h1 : i < l.length) : rd l i = l[i.toNat]'(by omega) := by
  unfold rd
  rw [List.getD_eq_getElem?_getD]
  simp [show i.toNat < l.length by omega]
def ptB (p : Int) : Bool := decide (0 ≤ p) && decide (p < 91)
theorem ptB_iff {p : Int} : ptB p = true ↔ In91 p := by simp [ptB, In91]
def newB (l : List Int) (i : Int) : Bool := ptB (rd l i) && !decide (rd l i ∈ l.take i.toNat)
def diffB (l : List Int) : Bool := allI l.length (newB l)
theorem diffB_hit {l : List Int} {i : Int} (h0 : 0 ≤ i) (h1 : i < l.length) (h : newB l i = false) : diffB l = false := by
  cases e : diffB l with
  | false => rfl
  | true => have := allI_int e i h0 h1; rw [h] at this; exact absurd this (by decide)
theorem diffB_all {l : List Int} (h : ∀ i : Int, 0 ≤ i → i < l.length → newB l i = true) : diffB l = true := allI_int_iff.2 h
def jokB (t : List Int) (p q : Int) : Bool := sysB t && (ptB p && (ptB q && !decide (p = q)))
theorem jokB_iff {t : List Int} {p q : Int} : jokB t p q = true ↔ sysB t = true ∧ In91 p ∧ In91 q ∧ p ≠ q := by
  unfold jokB
  simp only [Bool.and_eq_true, Bool.not_eq_true', decide_eq_false_iff_not, ptB_iff]
end Go.Proofs.Ytbfafjejmljcpaa.X
