/- The law FnSquareApart of the given program: for every input the call returns true, and each argument reads afterwards as it read before. No conditions. (Part 3 of 3; the last part holds the theorem.) -/
import Derived.Test.YtfoadgbffidgaaaMFnSquareApart0
import Derived.Test.YtfoadgbffidgaaaMFnSquareApart1
import Derived.Test.YtfoadgbffidgaaaRows
import Derived.WalkKit
import Derived.ProofKit
import Derived.OpenShut
import Derived.ShutString
import Derived.ChangeOld
import Derived.Below
import Derived.SizedLaws
import Derived.Test.YtfoadgbffidgaaaWSized
set_option linter.unusedVariables false
set_option linter.unusedSimpArgs false
namespace Go.Proofs.Ytfoadgbffidgaaa.X
open Go.RowKit Go.Proofs.YtfoadgbffidgaaaW.PrintWords

/-! ### the first number of which something holds -/
def firstI (n : Nat) (p : Int → Bool) : Int := match (List.range n).find? fun (i : Nat) => p (i : Int) with | some i => (i : Int) | none => -1
theorem firstI_none {n : Nat} {p : Int → Bool} (h : ∀ i : Int, 0 ≤ i → i < n → p i = false) : firstI n p = -1 := by
  have : ((List.range n).find? fun (i : Nat) => p (i : Int)) = none := by
    rw [List.find?_eq_none]
    intro i hi
    rw [h i (by omega) (by have := List.mem_range.1 hi; omega)]; simp
  unfold firstI; rw [this]
theorem firstI_some {n : Nat} {p : Int → Bool} (i : Int) (h0 : 0 ≤ i) (h1 : i < n) (hp : p i = true) (h : ∀ j : Int, 0 ≤ j → j < i → p j = false) : firstI n p = i := by
  have : ((List.range n).find? fun (i : Nat) => p (i : Int)) = some i.toNat := by
    rw [List.find?_range_eq_some]
    refine ⟨by rw [Int.toNat_of_nonneg h0]; exact hp, List.mem_range.2 (by omega), fun j hj => ?_⟩
    rw [h j (by omega) (by omega)]; rfl
  unfold firstI; rw [this]; show ((i.toNat : Nat) : Int) = i; omega
theorem firstI_spec {n : Nat} {p : Int → Bool} (i : Int) (h0 : 0 ≤ i) (h1 : i < n) (hp : p i = true) : 0 ≤ firstI n p ∧ firstI n p < n ∧ p (firstI n p) = true ∧ firstI n p ≤ i := by
  cases e : ((List.range n).find? fun (i : Nat) => p (i : Int)) with
  | none =>
    rw [List.find?_eq_none] at e
    have := e i.toNat (List.mem_range.2 (by omega))
    rw [Int.toNat_of_nonneg h0, hp] at this; exact absurd rfl this
  | some j =>
    rw [List.find?_range_eq_some] at e
    obtain ⟨h2, h3, h4⟩ := e
    have hj : firstI n p = (j : Int) := by
      unfold firstI
      rw [show ((List.range n).find? fun (i : Nat) => p (i : Int)) = some j from List.find?_range_eq_some.2 ⟨h2, h3, h4⟩]
    have hjn := List.mem_range.1 h3
    rw [hj]
    refine ⟨by omega, by omega, h2, ?_⟩
    rcases Int.lt_or_le i (j : Int) with hlt | hle
    · have := h4 i.toNat (by omega)
      rw [Int.toNat_of_nonneg h0, hp] at this; exact absurd this (by decide)
    · exact hle

/-! ### one to one is onto -/
theorem pigeon (n : Nat) : ∀ f : Nat → Nat, (∀ i, i < n → f i < n) → (∀ i j, i < j → j < n → f i ≠ f j) → ∀ y, y < n → ∃ i, i < n ∧ f i = y := by
  induction n with
  | zero => intro f _ _ y hy; omega
  | succ n ih =>
    intro f hr hi y hy
    by_cases ha : f n = n
    · by_cases hyn : y = n
      · exact ⟨n, by omega, by rw [ha, hyn]⟩
      · obtain ⟨i, h1, h2⟩ := ih f (fun i h => by have := hr i (by omega); have := hi i n h (by omega); omega) (fun i j h h' => hi i j h (by omega)) y (by omega)
        exact ⟨i, by omega, h2⟩
    · have han : f n < n := by have := hr n (by omega); omega
      have key := ih (fun i => if f i = n then f n else f i) (fun i h => by
          by_cases e : f i = n
          · simp only [e, if_true]; exact han
          · simp only [e, if_false]; have := hr i (by omega); omega)
        (fun i j h h' => by
          by_cases e1 : f i = n <;> by_cases e2 : f j = n
          · exact absurd (e1.trans e2.symm) (hi i j h (by omega))
          · simp only [e1, e2, if_true, if_false]; exact fun e => hi j n h' (by omega) e.symm
          · simp only [e1, e2, if_true, if_false]; exact fun e => hi i n (by omega) (by omega) e
          · simp only [e1, e2, if_false]; exact hi i j h (by omega))
      by_cases hya : y = f n
      · exact ⟨n, by omega, hya.symm⟩
      · by_cases hyn : y = n
        · obtain ⟨i, h1, h2⟩ := key (f n) han
          by_cases e : f i = n
          · exact ⟨i, by omega, by rw [e, hyn]⟩
          · simp only [e, if_false] at h2
            exact absurd h2 (hi i n h1 (by omega))
        · obtain ⟨i, h1, h2⟩ := key y (by omega)
          by_cases e : f i = n
          · simp only [e, if_true] at h2
            exact absurd h2.symm hya
          · simp only [e, if_false] at h2
            exact ⟨i, by omega, h2⟩
theorem once_onto {p : Int → Int} (hr : ∀ x : Int, 0 ≤ x → x < 9 → 0 ≤ p x ∧ p x < 9) (ho : onceB p = true) (y : Int) (h0 : 0 ≤ y) (h1 : y < 9) : ∃ x : Int, 0 ≤ x ∧ x < 9 ∧ p x = y := by
  obtain ⟨i, h2, h3⟩ := pigeon 9 (fun i => (p (i : Int)).toNat) (fun i h => by have := hr i (by omega) (by omega); omega)
    (fun i j h h' => by
      have := onceB_iff.1 ho i j h h'
      have a := hr i (by omega) (by omega)
      have b := hr j (by omega) (by omega)
      omega) y.toNat (by omega)
  have := hr i (by omega) (by omega)
  exact ⟨i, by omega, by omega, by omega⟩

/-! ### adding elements -/
theorem nine3 {P : Int → Int → Int → Prop} (h : ∀ i j k : Fin 9, P (i.val : Int) (j.val : Int) (k.val : Int)) (a b c : Int) (h0 : 0 ≤ a) (h1 : a < 9) (h2 : 0 ≤ b) (h3 : b < 9) (h4 : 0 ≤ c) (h5 : c < 9) : P a b c :=
  nine1 (P := fun a => P a b c) (fun i => nine2 (P := fun b c => P i.val b c) (fun j k => h i j k) b c h2 h3 h4 h5) a h0 h1
theorem addN_comm (a b : Int) : addN a b = addN b a := by unfold addN; rw [Int.add_comm (a % 3), Int.add_comm (a / 3)]
theorem addN_assoc {a b c : Int} (h0 : 0 ≤ a) (h1 : a < 9) (h2 : 0 ≤ b) (h3 : b < 9) (h4 : 0 ≤ c) (h5 : c < 9) : addN (addN a b) c = addN a (addN b c) :=
  nine3 (P := fun a b c => addN (addN a b) c = addN a (addN b c)) (by decide +kernel) a b c h0 h1 h2 h3 h4 h5
theorem addN_zero {a : Int} (h0 : 0 ≤ a) (h1 : a < 9) : addN a 0 = a := nine1 (P := fun a => addN a 0 = a) (by decide +kernel) a h0 h1
theorem zero_addN {a : Int} (h0 : 0 ≤ a) (h1 : a < 9) : addN 0 a = a := nine1 (P := fun a => addN 0 a = a) (by decide +kernel) a h0 h1
theorem addN_minus {a : Int} (h0 : 0 ≤ a) (h1 : a < 9) : addN a (minusN a) = 0 := nine1 (P := fun a => addN a (minusN a) = 0) (by decide +kernel) a h0 h1
theorem addN_cancel {a b c : Int} (ha0 : 0 ≤ a) (ha1 : a < 9) (hb0 : 0 ≤ b) (hb1 : b < 9) (hc0 : 0 ≤ c) (hc1 : c < 9) (h : addN a b = addN a c) : b = c :=
  nine3 (P := fun a b c => addN a b = addN a c → b = c) (by decide +kernel) a b c ha0 ha1 hb0 hb1 hc0 hc1 h
theorem minus_add {a b : Int} (h0 : 0 ≤ a) (h1 : a < 9) (h2 : 0 ≤ b) (h3 : b < 9) : addN (addN a (minusN b)) b = a := nine2 (P := fun a b => addN (addN a (minusN b)) b = a) (by decide +kernel) a b h0 h1 h2 h3
theorem add_minus {a b : Int} (h0 : 0 ≤ a) (h1 : a < 9) (h2 : 0 ≤ b) (h3 : b < 9) : addN (addN a b) (minusN b) = a := nine2 (P := fun a b => addN (addN a b) (minusN b) = a) (by decide +kernel) a b h0 h1 h2 h3
theorem minus_eq {a b : Int} (h0 : 0 ≤ a) (h1 : a < 9) (h2 : 0 ≤ b) (h3 : b < 9) (h : addN a (minusN b) = 0) : a = b := nine2 (P := fun a b => addN a (minusN b) = 0 → a = b) (by decide +kernel) a b h0 h1 h2 h3 h
theorem minus_diff {a b : Int} (h0 : 0 ≤ a) (h1 : a < 9) (h2 : 0 ≤ b) (h3 : b < 9) : minusN (addN a (minusN b)) = addN b (minusN a) := nine2 (P := fun a b => minusN (addN a (minusN b)) = addN b (minusN a)) (by decide +kernel) a b h0 h1 h2 h3
theorem solve_b {a y : Int} (a0 : 0 ≤ a) (a1 : a < 9) (y0 : 0 ≤ y) (y1 : y < 9) : y = addN a (addN y (minusN a)) := nine2 (P := fun a y => y = addN a (addN y (minusN a))) (by decide +kernel) a y a0 a1 y0 y1
theorem three_a {s y v : Int} (h0 : 0 ≤ s) (h1 : s < 9) (h2 : 0 ≤ y) (h3 : y < 9) (h4 : 0 ≤ v) (h5 : v < 9) : v = addN s (addN y (minusN (addN (addN y (minusN v)) s))) :=
  nine3 (P := fun s y v => v = addN s (addN y (minusN (addN (addN y (minusN v)) s)))) (by decide +kernel) s y v h0 h1 h2 h3 h4 h5
theorem three_b {p c b : Int} (h0 : 0 ≤ p) (h1 : p < 9) (h2 : 0 ≤ c) (h3 : c < 9) (h4 : 0 ≤ b) (h5 : b < 9) : addN (addN (addN p c) (minusN b)) (minusN p) = addN c (minusN b) :=
  nine3 (P := fun p c b => addN (addN (addN p c) (minusN b)) (minusN p) = addN c (minusN b)) (by decide +kernel) p c b h0 h1 h2 h3 h4 h5
theorem three_c {p d b : Int} (h0 : 0 ≤ p) (h1 : p < 9) (h2 : 0 ≤ d) (h3 : d < 9) (h4 : 0 ≤ b) (h5 : b < 9) : addN (addN (addN d (minusN b)) p) b = addN p d :=
  nine3 (P := fun p d b => addN (addN (addN d (minusN b)) p) b = addN p d) (by decide +kernel) p d b h0 h1 h2 h3 h4 h5

/-! ### systems -/
theorem sysB_parts {t : List Int} (h : sysB t = true) : ninesB t 81 = true ∧ unitsB t = true ∧ sharesB t = true ∧ solvesB t = true := by
  unfold sysB at h
  simp only [Bool.and_eq_true] at h
  exact h
theorem sys_len {t : List Int} (h : sysB t = true) : t.length = 81 := (ninesB_iff.1 (sysB_parts h).1).1
theorem sys_range {t : List Int} (h : sysB t = true) {x m : Int} (x0 : 0 ≤ x) (x1 : x < 9) (m0 : 0 ≤ m) (m1 : m < 9) : 0 ≤ rd t (9 * x + m) ∧ rd t (9 * x + m) < 9 := nines_rd (sysB_parts h).1 (by omega) (by omega)
theorem sys_units {t : List Int} (h : sysB t = true) {a : Int} (a0 : 0 ≤ a) (a1 : a < 9) : rd t a = 0 ∧ rd t (9 * a) = 0 ∧ rd t (9 + a) = a ∧ rd t (9 * a + 1) = a := by
  have := allI_int (sysB_parts h).2.1 a a0 a1
  simp only [Bool.and_eq_true, decide_eq_true_eq] at this
  exact ⟨this.1.1.1, this.1.1.2, this.1.2, this.2⟩
theorem sys_share {t : List Int} (h : sysB t = true) {a b c : Int} (a0 : 0 ≤ a) (a1 : a < 9) (b0 : 0 ≤ b) (b1 : b < 9) (c0 : 0 ≤ c) (c1 : c < 9) : rd t (9 * addN a b + c) = addN (rd t (9 * a + c)) (rd t (9 * b + c)) := by
  have := allI_int (allI_int (allI_int (sysB_parts h).2.2.1 a a0 a1) b b0 b1) c c0 c1
  exact of_decide_eq_true this
theorem sys_gaps {t : List Int} (h : sysB t = true) {c d : Int} (d0 : 0 ≤ d) (dc : d < c) (c1 : c < 9) : gapsB t c d = true := by
  have := allI_int (allI_int (sysB_parts h).2.2.2 c (by omega) c1) d d0 (by omega)
  rw [decide_eq_true dc] at this
  exact this
theorem onceB_inj {p : Int → Int} (h : onceB p = true) {x y : Int} (x0 : 0 ≤ x) (x1 : x < 9) (y0 : 0 ≤ y) (y1 : y < 9) (e : p x = p y) : x = y := by
  rcases Int.lt_trichotomy x y with hlt | he | hgt
  · have := onceB_iff.1 h x.toNat y.toNat (by omega) (by omega)
    rw [Int.toNat_of_nonneg x0, Int.toNat_of_nonneg y0] at this
    exact absurd e this
  · exact he
  · have := onceB_iff.1 h y.toNat x.toNat (by omega) (by omega)
    rw [Int.toNat_of_nonneg x0, Int.toNat_of_nonneg y0] at this
    exact absurd e.symm this
def diffI (t : List Int) (c d x : Int) : Int := addN (rd t (9 * x + c)) (minusN (rd t (9 * x + d)))
theorem addN_flip {a b c d : Int} (ha : 0 ≤ a ∧ a < 9) (hb : 0 ≤ b ∧ b < 9) (hc : 0 ≤ c ∧ c < 9) (hd : 0 ≤ d ∧ d < 9) (h : addN a (minusN b) = addN c (minusN d)) : addN b (minusN a) = addN d (minusN c) := by
  rw [← minus_diff ha.1 ha.2 hb.1 hb.2, ← minus_diff hc.1 hc.2 hd.1 hd.2, h]
/-- For two different elements c and d the differences x c - x d are all elements, each once. -/
theorem sys_once {t : List Int} (h : sysB t = true) {c d : Int} (c0 : 0 ≤ c) (c1 : c < 9) (d0 : 0 ≤ d) (d1 : d < 9) (hcd : c ≠ d) : onceB (diffI t c d) = true := by
  rcases Int.lt_or_gt_of_ne hcd with hlt | hgt
  · refine onceB_iff.2 fun i j hij hj e => ?_
    have := onceB_iff.1 (sys_gaps h c0 hlt d1) i j hij hj
    refine this ?_
    exact addN_flip (sys_range h (by omega) (by omega) c0 c1) (sys_range h (by omega) (by omega) d0 d1) (sys_range h (by omega) (by omega) c0 c1) (sys_range h (by omega) (by omega) d0 d1) e
  · exact sys_gaps h d0 hgt c1
theorem diff_inj {t : List Int} (h : sysB t = true) {c d x y : Int} (c0 : 0 ≤ c) (c1 : c < 9) (d0 : 0 ≤ d) (d1 : d < 9) (hcd : c ≠ d) (x0 : 0 ≤ x) (x1 : x < 9) (y0 : 0 ≤ y) (y1 : y < 9) (e : diffI t c d x = diffI t c d y) : x = y :=
  onceB_inj (sys_once h c0 c1 d0 d1 hcd) x0 x1 y0 y1 e
theorem diff_onto {t : List Int} (h : sysB t = true) {c d : Int} (c0 : 0 ≤ c) (c1 : c < 9) (d0 : 0 ≤ d) (d1 : d < 9) (hcd : c ≠ d) (y : Int) (y0 : 0 ≤ y) (y1 : y < 9) : ∃ x : Int, 0 ≤ x ∧ x < 9 ∧ diffI t c d x = y :=
  once_onto (fun x _ _ => addN_range _ _) (sys_once h c0 c1 d0 d1 hcd) y y0 y1
/-- Products with an element that is not 0, it first, are all different. -/
theorem row_inj {t : List Int} (h : sysB t = true) {a c d : Int} (a0 : 0 < a) (a1 : a < 9) (c0 : 0 ≤ c) (c1 : c < 9) (d0 : 0 ≤ d) (d1 : d < 9) (e : rd t (9 * a + c) = rd t (9 * a + d)) : c = d := by
  rcases Decidable.em (c = d) with he | hne
  · exact he
  · exfalso
    have hz1 := (sys_units h c0 c1).1
    have hz2 := (sys_units h d0 d1).1
    have := diff_inj h (x := a) (y := 0) c0 c1 d0 d1 hne (by omega) a1 (by omega) (by omega) (by
      unfold diffI
      rw [e, show 9 * (0 : Int) + c = c by omega, show 9 * (0 : Int) + d = d by omega, hz1, hz2, addN_minus (sys_range h (by omega) a1 d0 d1).1 (sys_range h (by omega) a1 d0 d1).2, addN_minus (by omega) (by omega)])
    omega
theorem row_onto {t : List Int} (h : sysB t = true) {a : Int} (a0 : 0 < a) (a1 : a < 9) (y : Int) (y0 : 0 ≤ y) (y1 : y < 9) : ∃ m : Int, 0 ≤ m ∧ m < 9 ∧ rd t (9 * a + m) = y :=
  once_onto (p := fun m => rd t (9 * a + m)) (fun x x0 x1 => sys_range h (by omega) a1 x0 x1) (onceB_iff.2 fun i j hij hj e => by
    have := row_inj h a0 a1 (by omega) (by omega) (by omega) (by omega) e
    omega) y y0 y1

/-! ### points and lines -/
def onB (t : List Int) (p l : Int) : Bool :=
  if l = 90 then decide (81 ≤ p) else if 81 ≤ l then (decide (p = 90) || (decide (p < 81) && decide (p / 9 = l - 81))) else if 81 ≤ p then decide (p = 81 + l / 9) else decide (p % 9 = addN (rd t (9 * (p / 9) + l / 9)) (l % 9))
theorem on_near {t : List Int} {x y m b : Int} (x0 : 0 ≤ x) (x1 : x < 9) (y0 : 0 ≤ y) (y1 : y < 9) (m0 : 0 ≤ m) (m1 : m < 9) (b0 : 0 ≤ b) (b1 : b < 9) : onB t (9 * x + y) (9 * m + b) = true ↔ y = addN (rd t (9 * x + m)) b := by
  unfold onB
  rw [if_neg (by omega), if_neg (by omega), if_neg (by omega), show (9 * x + y) % 9 = y by omega, show (9 * x + y) / 9 = x by omega, show (9 * m + b) / 9 = m by omega, show (9 * m + b) % 9 = b by omega]
  exact decide_eq_true_iff
theorem on_vert {t : List Int} {x y c : Int} (x0 : 0 ≤ x) (x1 : x < 9) (y0 : 0 ≤ y) (y1 : y < 9) (c0 : 0 ≤ c) (c1 : c < 9) : onB t (9 * x + y) (81 + c) = true ↔ x = c := by
  unfold onB
  rw [if_neg (by omega), if_pos (by omega), decide_eq_false (show ¬ (9 * x + y = 90) by omega), decide_eq_true (show 9 * x + y < 81 by omega), show (9 * x + y) / 9 = x by omega]
  simp; omega
theorem on_inf {t : List Int} {p : Int} : onB t p 90 = true ↔ 81 ≤ p := by unfold onB; rw [if_pos rfl]; exact decide_eq_true_iff
theorem on_far {t : List Int} {p m b : Int} (hp : 81 ≤ p) (m0 : 0 ≤ m) (m1 : m < 9) (b0 : 0 ≤ b) (b1 : b < 9) : onB t p (9 * m + b) = true ↔ p = 81 + m := by
  unfold onB
  rw [if_neg (by omega), if_neg (by omega), if_pos hp, show (9 * m + b) / 9 = m by omega]
  exact decide_eq_true_iff
theorem on_far_vert {t : List Int} {p c : Int} (hp : 81 ≤ p) (c0 : 0 ≤ c) (c1 : c < 9) : onB t p (81 + c) = true ↔ p = 90 := by
  unfold onB
  rw [if_neg (by omega), if_pos (by omega), decide_eq_false (show ¬ p < 81 by omega)]
  simp
/-- A line is told by a slope and a number, stands upright, or is the far one; a point is near or far. -/
theorem line_cases {l : Int} (h0 : 0 ≤ l) (h1 : l < 91) : (∃ m b : Int, 0 ≤ m ∧ m < 9 ∧ 0 ≤ b ∧ b < 9 ∧ l = 9 * m + b) ∨ (∃ c : Int, 0 ≤ c ∧ c < 9 ∧ l = 81 + c) ∨ l = 90 := by
  rcases Int.lt_or_le l 81 with h | h
  · exact .inl ⟨l / 9, l % 9, by omega, by omega, by omega, by omega, by omega⟩
  · rcases Int.lt_or_le l 90 with h' | h'
    · exact .inr (.inl ⟨l - 81, by omega, by omega, by omega⟩)
    · exact .inr (.inr (by omega))
theorem point_cases {p : Int} (h0 : 0 ≤ p) (h1 : p < 91) : (∃ x y : Int, 0 ≤ x ∧ x < 9 ∧ 0 ≤ y ∧ y < 9 ∧ p = 9 * x + y) ∨ 81 ≤ p := by
  rcases Int.lt_or_le p 81 with h | h
  · exact .inl ⟨p / 9, p % 9, by omega, by omega, by omega, by omega, by omega⟩
  · exact .inr h
theorem join_near {t : List Int} (h : sysB t = true) {x y u v : Int} (x0 : 0 ≤ x) (x1 : x < 9) (y0 : 0 ≤ y) (y1 : y < 9) (u0 : 0 ≤ u) (u1 : u < 9) (v0 : 0 ≤ v) (v1 : v < 9) (hne : x ≠ u) :
    ∃ m b : Int, 0 ≤ m ∧ m < 9 ∧ 0 ≤ b ∧ b < 9 ∧ y = addN (rd t (9 * x + m)) b ∧ v = addN (rd t (9 * u + m)) b := by
  have ha := addN_range x (minusN u)
  have hb := addN_range y (minusN v)
  have hane : addN x (minusN u) ≠ 0 := fun e => hne (minus_eq x0 x1 u0 u1 e)
  obtain ⟨m, m0, m1, hm⟩ := row_onto h (a := addN x (minusN u)) (by omega) ha.2 (addN y (minusN v)) hb.1 hb.2
  have hsh := sys_share h ha.1 ha.2 u0 u1 m0 m1
  rw [minus_add x0 x1 u0 u1, hm] at hsh
  have r1 := sys_range h x0 x1 m0 m1
  have r2 := sys_range h u0 u1 m0 m1
  refine ⟨m, addN y (minusN (rd t (9 * x + m))), m0, m1, (addN_range _ _).1, (addN_range _ _).2, solve_b r1.1 r1.2 y0 y1, ?_⟩
  rw [hsh]
  exact three_a r2.1 r2.2 y0 y1 v0 v1
theorem join_ex {t : List Int} (h : sysB t = true) {p q : Int} (p0 : 0 ≤ p) (p1 : p < 91) (q0 : 0 ≤ q) (q1 : q < 91) (hne : p ≠ q) : ∃ l : Int, 0 ≤ l ∧ l < 91 ∧ onB t p l = true ∧ onB t q l = true := by
  have nearfar : ∀ x y q : Int, 0 ≤ x → x < 9 → 0 ≤ y → y < 9 → 81 ≤ q → q < 91 → ∃ l : Int, 0 ≤ l ∧ l < 91 ∧ onB t (9 * x + y) l = true ∧ onB t q l = true := by
    intro x y q x0 x1 y0 y1 hq q1
    rcases Int.lt_or_le q 90 with h9 | h9
    · have hb := addN_range y (minusN (rd t (9 * x + (q - 81))))
      exact ⟨9 * (q - 81) + addN y (minusN (rd t (9 * x + (q - 81)))), by omega, by omega, (on_near x0 x1 y0 y1 (by omega) (by omega) hb.1 hb.2).2 (solve_b (sys_range h x0 x1 (by omega) (by omega)).1 (sys_range h x0 x1 (by omega) (by omega)).2 y0 y1), (on_far hq (by omega) (by omega) hb.1 hb.2).2 (by omega)⟩
    · exact ⟨81 + x, by omega, by omega, (on_vert x0 x1 y0 y1 x0 x1).2 rfl, (on_far_vert hq x0 x1).2 (by omega)⟩
  rcases point_cases p0 p1 with ⟨x, y, x0, x1, y0, y1, rfl⟩ | hp
  · rcases point_cases q0 q1 with ⟨u, v, u0, u1, v0, v1, rfl⟩ | hq
    · by_cases e : x = u
      · subst e
        exact ⟨81 + x, by omega, by omega, (on_vert x0 x1 y0 y1 x0 x1).2 rfl, (on_vert x0 x1 v0 v1 x0 x1).2 rfl⟩
      · obtain ⟨m, b, m0, m1, b0, b1, e1, e2⟩ := join_near h x0 x1 y0 y1 u0 u1 v0 v1 e
        exact ⟨9 * m + b, by omega, by omega, (on_near x0 x1 y0 y1 m0 m1 b0 b1).2 e1, (on_near u0 u1 v0 v1 m0 m1 b0 b1).2 e2⟩
    · exact nearfar x y q x0 x1 y0 y1 hq q1
  · rcases point_cases q0 q1 with ⟨u, v, u0, u1, v0, v1, rfl⟩ | hq
    · obtain ⟨l, a, b, c, d⟩ := nearfar u v p u0 u1 v0 v1 hp p1
      exact ⟨l, a, b, d, c⟩
    · exact ⟨90, by omega, by omega, on_inf.2 hp, on_inf.2 hq⟩
theorem same_line {t : List Int} (h : sysB t = true) {x y u v m b n c : Int} (x0 : 0 ≤ x) (x1 : x < 9) (u0 : 0 ≤ u) (u1 : u < 9) (m0 : 0 ≤ m) (m1 : m < 9) (b0 : 0 ≤ b) (b1 : b < 9) (n0 : 0 ≤ n) (n1 : n < 9) (c0 : 0 ≤ c) (c1 : c < 9)
    (e1 : y = addN (rd t (9 * x + m)) b) (e2 : y = addN (rd t (9 * x + n)) c) (e3 : v = addN (rd t (9 * u + m)) b) (e4 : v = addN (rd t (9 * u + n)) c) (hne : ¬ (x = u ∧ y = v)) : m = n ∧ b = c := by
  rcases Decidable.em (m = n) with he | hn
  · subst he
    exact ⟨rfl, addN_cancel (sys_range h x0 x1 m0 m1).1 (sys_range h x0 x1 m0 m1).2 b0 b1 c0 c1 (e1.symm.trans e2)⟩
  · exfalso
    have r1 := sys_range h x0 x1 m0 m1
    have r2 := sys_range h x0 x1 n0 n1
    have r3 := sys_range h u0 u1 m0 m1
    have r4 := sys_range h u0 u1 n0 n1
    have hx := diff_inj h (x := x) (y := u) m0 m1 n0 n1 hn x0 x1 u0 u1 (by
      unfold diffI
      have f1 := e1.symm.trans e2
      have f2 := e3.symm.trans e4
      have g1 := add_minus r1.1 r1.2 b0 b1
      have g3 := add_minus r3.1 r3.2 b0 b1
      rw [f1] at g1
      rw [f2] at g3
      rw [← g1, ← g3, three_b r2.1 r2.2 c0 c1 b0 b1, three_b r4.1 r4.2 c0 c1 b0 b1])
    subst hx
    exact hne ⟨rfl, e1.trans e3.symm⟩
theorem join_uniq {t : List Int} (h : sysB t = true) {p q l k : Int} (p0 : 0 ≤ p) (p1 : p < 91) (q0 : 0 ≤ q) (q1 : q < 91) (hne : p ≠ q) (l0 : 0 ≤ l) (l1 : l < 91) (k0 : 0 ≤ k) (k1 : k < 91)
    (a : onB t p l = true) (b : onB t q l = true) (c : onB t p k = true) (d : onB t q k = true) : l = k := by
  rcases point_cases p0 p1 with ⟨x, y, x0, x1, y0, y1, rfl⟩ | hp <;> rcases point_cases q0 q1 with ⟨u, v, u0, u1, v0, v1, rfl⟩ | hq <;>
    rcases line_cases l0 l1 with ⟨m, e, m0, m1, e0, e1, rfl⟩ | ⟨e, e0, e1, rfl⟩ | rfl <;> rcases line_cases k0 k1 with ⟨n, f, n0, n1, f0, f1, rfl⟩ | ⟨f, f0, f1, rfl⟩ | rfl
  case inl.inl.inl.inl =>
    rw [on_near x0 x1 y0 y1 m0 m1 e0 e1] at a; rw [on_near u0 u1 v0 v1 m0 m1 e0 e1] at b; rw [on_near x0 x1 y0 y1 n0 n1 f0 f1] at c; rw [on_near u0 u1 v0 v1 n0 n1 f0 f1] at d
    have := same_line h x0 x1 u0 u1 m0 m1 e0 e1 n0 n1 f0 f1 a c b d (by omega)
    omega
  case inl.inr.inl.inl =>
    rw [on_near x0 x1 y0 y1 m0 m1 e0 e1] at a; rw [on_far hq m0 m1 e0 e1] at b; rw [on_near x0 x1 y0 y1 n0 n1 f0 f1] at c; rw [on_far hq n0 n1 f0 f1] at d
    obtain rfl : m = n := by omega
    have := addN_cancel (sys_range h x0 x1 m0 m1).1 (sys_range h x0 x1 m0 m1).2 e0 e1 f0 f1 (a.symm.trans c); omega
  case inr.inl.inl.inl =>
    rw [on_far hp m0 m1 e0 e1] at a; rw [on_near u0 u1 v0 v1 m0 m1 e0 e1] at b; rw [on_far hp n0 n1 f0 f1] at c; rw [on_near u0 u1 v0 v1 n0 n1 f0 f1] at d
    obtain rfl : m = n := by omega
    have := addN_cancel (sys_range h u0 u1 m0 m1).1 (sys_range h u0 u1 m0 m1).2 e0 e1 f0 f1 (b.symm.trans d); omega
  case inl.inl.inl.inr.inl =>
    rw [on_near x0 x1 y0 y1 m0 m1 e0 e1] at a; rw [on_near u0 u1 v0 v1 m0 m1 e0 e1] at b; rw [on_vert x0 x1 y0 y1 f0 f1] at c; rw [on_vert u0 u1 v0 v1 f0 f1] at d
    exfalso; subst c; subst d; exact hne (by rw [a, b])
  case inl.inl.inr.inl.inl =>
    rw [on_vert x0 x1 y0 y1 e0 e1] at a; rw [on_vert u0 u1 v0 v1 e0 e1] at b; rw [on_near x0 x1 y0 y1 n0 n1 f0 f1] at c; rw [on_near u0 u1 v0 v1 n0 n1 f0 f1] at d
    exfalso; subst a; subst b; exact hne (by rw [c, d])
  all_goals
    (try rw [on_inf] at a); (try rw [on_inf] at b); (try rw [on_inf] at c); (try rw [on_inf] at d)
    (try rw [on_vert x0 x1 y0 y1 e0 e1] at a); (try rw [on_vert u0 u1 v0 v1 e0 e1] at b); (try rw [on_vert x0 x1 y0 y1 f0 f1] at c); (try rw [on_vert u0 u1 v0 v1 f0 f1] at d)
    (try rw [on_far hp m0 m1 e0 e1] at a); (try rw [on_far hq m0 m1 e0 e1] at b); (try rw [on_far hp n0 n1 f0 f1] at c); (try rw [on_far hq n0 n1 f0 f1] at d)
    (try rw [on_far_vert hp e0 e1] at a); (try rw [on_far_vert hq e0 e1] at b); (try rw [on_far_vert hp f0 f1] at c); (try rw [on_far_vert hq f0 f1] at d)
    try omega

def joinI (t : List Int) (p q : Int) : Int := firstI 91 fun l => onB t p l && onB t q l
def meetI (t : List Int) (l m : Int) : Int := firstI 91 fun p => onB t p l && onB t p m
theorem joinI_spec {t : List Int} (h : sysB t = true) {p q : Int} (p0 : 0 ≤ p) (p1 : p < 91) (q0 : 0 ≤ q) (q1 : q < 91) (hne : p ≠ q) : 0 ≤ joinI t p q ∧ joinI t p q < 91 ∧ onB t p (joinI t p q) = true ∧ onB t q (joinI t p q) = true := by
  obtain ⟨l, l0, l1, a, b⟩ := join_ex h p0 p1 q0 q1 hne
  obtain ⟨j0, j1, j2, _⟩ := firstI_spec (n := 91) (p := fun l => onB t p l && onB t q l) l l0 l1 (by rw [a, b]; rfl)
  exact ⟨j0, j1, (Bool.and_eq_true _ _ ▸ j2).1, (Bool.and_eq_true _ _ ▸ j2).2⟩
theorem joinI_eq {t : List Int} (h : sysB t = true) {p q l : Int} (p0 : 0 ≤ p) (p1 : p < 91) (q0 : 0 ≤ q) (q1 : q < 91) (hne : p ≠ q) (l0 : 0 ≤ l) (l1 : l < 91) (a : onB t p l = true) (b : onB t q l = true) : joinI t p q = l := by
  obtain ⟨j0, j1, j2, j3⟩ := joinI_spec h p0 p1 q0 q1 hne
  exact join_uniq h p0 p1 q0 q1 hne j0 j1 l0 l1 j2 j3 a b
theorem meet_ex {t : List Int} (h : sysB t = true) {l k : Int} (l0 : 0 ≤ l) (l1 : l < 91) (k0 : 0 ≤ k) (k1 : k < 91) (hne : l ≠ k) : ∃ p : Int, 0 ≤ p ∧ p < 91 ∧ onB t p l = true ∧ onB t p k = true := by
  rcases line_cases l0 l1 with ⟨m, b, m0, m1, b0, b1, rfl⟩ | ⟨c, c0, c1, rfl⟩ | rfl <;> rcases line_cases k0 k1 with ⟨n, d, n0, n1, d0, d1, rfl⟩ | ⟨d, d0, d1, rfl⟩ | rfl
  · by_cases e : m = n
    · subst e
      exact ⟨81 + m, by omega, by omega, (on_far (by omega) m0 m1 b0 b1).2 rfl, (on_far (by omega) m0 m1 d0 d1).2 rfl⟩
    · have hr := addN_range d (minusN b)
      obtain ⟨x, x0, x1, hx⟩ := diff_onto h m0 m1 n0 n1 e (addN d (minusN b)) hr.1 hr.2
      have r1 := sys_range h x0 x1 m0 m1
      have r2 := sys_range h x0 x1 n0 n1
      have hy := addN_range (rd t (9 * x + m)) b
      refine ⟨9 * x + addN (rd t (9 * x + m)) b, by omega, by omega, (on_near x0 x1 hy.1 hy.2 m0 m1 b0 b1).2 rfl, (on_near x0 x1 hy.1 hy.2 n0 n1 d0 d1).2 ?_⟩
      unfold diffI at hx
      have g1 := minus_add r1.1 r1.2 r2.1 r2.2
      rw [hx] at g1
      rw [← g1]
      exact three_c r2.1 r2.2 d0 d1 b0 b1
  · have hy := addN_range (rd t (9 * d + m)) b
    exact ⟨9 * d + addN (rd t (9 * d + m)) b, by omega, by omega, (on_near d0 d1 hy.1 hy.2 m0 m1 b0 b1).2 rfl, (on_vert d0 d1 hy.1 hy.2 d0 d1).2 rfl⟩
  · exact ⟨81 + m, by omega, by omega, (on_far (by omega) m0 m1 b0 b1).2 rfl, on_inf.2 (by omega)⟩
  · have hy := addN_range (rd t (9 * c + n)) d
    exact ⟨9 * c + addN (rd t (9 * c + n)) d, by omega, by omega, (on_vert c0 c1 hy.1 hy.2 c0 c1).2 rfl, (on_near c0 c1 hy.1 hy.2 n0 n1 d0 d1).2 rfl⟩
  · exact ⟨90, by omega, by omega, (on_far_vert (by omega) c0 c1).2 rfl, (on_far_vert (by omega) d0 d1).2 rfl⟩
  · exact ⟨90, by omega, by omega, (on_far_vert (by omega) c0 c1).2 rfl, on_inf.2 (by omega)⟩
  · exact ⟨81 + n, by omega, by omega, on_inf.2 (by omega), (on_far (by omega) n0 n1 d0 d1).2 rfl⟩
  · exact ⟨90, by omega, by omega, on_inf.2 (by omega), (on_far_vert (by omega) d0 d1).2 rfl⟩
  · exact absurd rfl hne
theorem meetI_spec {t : List Int} (h : sysB t = true) {l m : Int} (l0 : 0 ≤ l) (l1 : l < 91) (m0 : 0 ≤ m) (m1 : m < 91) (hne : l ≠ m) : 0 ≤ meetI t l m ∧ meetI t l m < 91 ∧ onB t (meetI t l m) l = true ∧ onB t (meetI t l m) m = true := by
  obtain ⟨p, p0, p1, a, b⟩ := meet_ex h l0 l1 m0 m1 hne
  obtain ⟨j0, j1, j2, _⟩ := firstI_spec (n := 91) (p := fun p => onB t p l && onB t p m) p p0 p1 (by rw [a, b]; rfl)
  exact ⟨j0, j1, (Bool.and_eq_true _ _ ▸ j2).1, (Bool.and_eq_true _ _ ▸ j2).2⟩
theorem meetI_eq {t : List Int} (h : sysB t = true) {l m p : Int} (l0 : 0 ≤ l) (l1 : l < 91) (m0 : 0 ≤ m) (m1 : m < 91) (hne : l ≠ m) (p0 : 0 ≤ p) (p1 : p < 91) (a : onB t p l = true) (b : onB t p m = true) : meetI t l m = p := by
  obtain ⟨j0, j1, j2, j3⟩ := meetI_spec h l0 l1 m0 m1 hne
  rcases Decidable.em (meetI t l m = p) with he | hn
  · exact he
  · exact absurd (join_uniq h j0 j1 p0 p1 hn l0 l1 m0 m1 j2 a j3 b) hne

end Go.Proofs.Ytfoadgbffidgaaa.X

namespace Go.Proofs.Ytfoadgbffidgaaa.P
open Go.RowKit Go.Proofs.YtfoadgbffidgaaaW.PrintWords Go.Proofs.YtfoadgbffidgaaaW.PrintLast Go.Proofs.YtfoadgbffidgaaaW.PrintMore
attribute [local go_sem] max2_int min2_int max_two min_two max_three min_three max_four min_four   -- for this text's walks alone
set_option linter.unusedVariables false
set_option linter.unusedSimpArgs false

/-! ### laws_toIntS: function 21 -/
def laws_toIntS.l0 : Nat → List Int → List Int → Int → Option (List Int)
  | 0, _, _, _ => none
  | k + 1, x0, x3, x4 => if x4 < (x0.length : Int) then (if 0 ≤ x4 then (if x4 < (x3.length : Int) then (laws_toIntS.l0 k x0 (x3.set (x4 : Int).toNat (rd x0 x4)) (wrap64 (x4 + 1))) else (none)) else (none)) else (some x3)
def laws_toIntS.f (k : Nat) (l0 : List Int) : Option (List Int) := if 0 ≤ (l0.length : Int) then (if ((l0.length : Int) : Int).toNat ≤ 35184372088832 then (laws_toIntS.l0 k l0 (List.replicate ((l0.length : Int) : Int).toNat 0) 0) else (none)) else (none)
theorem laws_toIntS.mono_l : ∀ k, (∀ y0 y1 y2, LeO (laws_toIntS.l0 k y0 y1 y2) (laws_toIntS.l0 (k + 1) y0 y1 y2))
  | 0 => fun _ _ _ r h => by simp [laws_toIntS.l0] at h
  | k + 1 => by
    have ih0 := laws_toIntS.mono_l k
    · intro y0 y1 y2
      unfold laws_toIntS.l0
      repeat' first
      | (with_reducible exact ih0 _ _ _)
      | (with_reducible exact LeO.refl _)
      | (with_reducible exact LeO.none _)
      | (with_reducible refine LeO.ite ?_ ?_)
      | (with_reducible refine LeO.bind ?_ (fun _ => ?_))
      | exact ih0 _ _ _
      | exact LeO.none _
      | refine LeO.ite ?_ ?_
      | refine LeO.bind ?_ (fun _ => ?_)
theorem laws_toIntS.mono : ∀ a0 k, LeO (laws_toIntS.f k a0) (laws_toIntS.f (k + 1) a0) := by
  intro a0 k
  have ih0 := laws_toIntS.mono_l k
  unfold laws_toIntS.f
  repeat' first
      | (with_reducible exact ih0 _ _ _)
      | (with_reducible exact LeO.refl _)
      | (with_reducible exact LeO.none _)
      | (with_reducible refine LeO.ite ?_ ?_)
      | (with_reducible refine LeO.bind ?_ (fun _ => ?_))
      | exact ih0 _ _ _
      | exact LeO.none _
      | refine LeO.ite ?_ ?_
      | refine LeO.bind ?_ (fun _ => ?_)
set_option maxHeartbeats 8000000 in
set_option maxRecDepth 100000 in
theorem laws_toIntS.calls (k : Nat) (A0 : Option Addr) (c0 : Nat) (l0 : List Int) (r : List Int) (w : World) (hr0 : Kd.C (Kd.int .i64) w A0 l0.length l0) (hc0 : l0.length ≤ c0) (h : laws_toIntS.f k l0 = some r) :
    Calls Try.prog 21 #[.slice A0 l0.length c0] w fun e w' => ∃ v0_ : Value, e = .returned (v0_) ∧ Kd.R (Kd.int .i64) 3 w' w.heap.size (fun _ => True) v0_ r ∧ Below w.heap.size w w' := by
  have HR0 := Aside0.mk hr0
  have HC0 := Aside0.mk hc0
  clear hr0 hc0
  have HB := Aside0.mk (Below.refl w.heap.size w)
  have H : (if 0 ≤ (l0.length : Int) then (if ((l0.length : Int) : Int).toNat ≤ 35184372088832 then (laws_toIntS.l0 k l0 (List.replicate ((l0.length : Int) : Int).toNat 0) 0) else (none)) else (none)) = some r := h
  clear h
  by_cases c2 : 0 ≤ (l0.length : Int)
  · rw [if_pos c2] at H
    have c2b0 := eq_true c2
    have c2b1 : decide (0 ≤ (l0.length : Int)) = true := decide_eq_true c2
    clear c2
    by_cases c3 : ((l0.length : Int) : Int).toNat ≤ 35184372088832
    · rw [if_pos c3] at H
      have c3b0 := eq_true c3
      have c3b1 : decide (((l0.length : Int) : Int).toNat ≤ 35184372088832) = true := decide_eq_true c3
      clear c3
      obtain ⟨y132, hy132⟩ : ∃ y_ : List Int, y_ = (List.replicate ((l0.length : Int) : Int).toNat 0) := ⟨_, rfl⟩
      replace H : (laws_toIntS.l0 k l0 y132 0) = some r := by first | (rw [hy132]; with_reducible exact H) | (have H2_ := (Option.bind_some _ _).symm.trans H; rw [hy132]; with_reducible exact H2_) | (have H2_ := (Option.bind_some _ _).symm.trans H; with_reducible exact H2_) | with_reducible exact H | (rw [hy132]; exact H) | exact H
      have Ny132 := Aside0.mk hy132
      clear hy132
      have H' := Aside0.mk H
      clear H
      go_enter Try.func21, Try.ntmps21
      go_wp2_with (first | ((with_reducible refine gate_dst (N := 7) rfl ?_); refine Kd.R_make (Kd.int .i64) _ 3 rfl (N := 7) rfl 27 _ _ rfl (l0.length : Int) rfl rfl Try.underlying27 (.int .i64 0) 8 info3 rfl (by decide) (by omega) 0 (ok := fun _ => True) (okp := fun _ => True) rfl (fun _ hk => hk) trivial (of_decide_eq_true (by first | (with_reducible assumption) | assumption)) (Nat.le_trans (Nat.mul_le_mul_right _ (of_decide_eq_true (by first | (with_reducible assumption) | assumption) : (l0.length : Int).toNat ≤ 35184372088832)) (by omega)) (Below.refl _ _) (Nat.le_refl _) ?_; intro v133 w4 ho5 hb hg_ hnew_; clear hg_ hnew_; (first | rw [← Ny132.out] at ho5 | (simp only [Int.reduceToNat] at ho5; rw [← Ny132.out] at ho5)); have n0_ := Aside0.mk (Kd.R_lower ho5 (below_size (by repeat (first | (with_reducible first | exact HB.out | apply below_alloc | apply pw_below_drewN | apply below_drew1) | exact HB.out)))); have n1_ := Aside0.mk (below_step (by repeat (first | (with_reducible first | exact HB.out | apply below_alloc | apply pw_below_drewN | apply below_drew1) | exact HB.out)) hb); clear HB; have HO134 := n0_; have HB := n1_; clear n0_ n1_; clear hb ho5))
      go_loopg [4] k (fun kq v4 w' => ∃ (x3_1 : List Int) (x4_1 : Int), v4 = .int .i64 x4_1 ∧ Aside0 (laws_toIntS.l0 kq l0 x3_1 x4_1 = some r) ∧ Aside0 (kq ≤ k) ∧ Aside0 (Kd.R (Kd.int .i64) 3 w' w.heap.size (fun _ => True) v133 x3_1) ∧ Aside0 (Below w.heap.size w w'))
      case atStart => exact ⟨(y132), (0), (by first | rfl | (simp; done) | (simp [*]; done)), H', ⟨Nat.le_refl _⟩, ⟨by (with_reducible repeat (first | apply Kd.R_alloc | apply Kd.R_drewN | apply Kd.R_drew)); exact HO134.out⟩, ⟨by repeat (first | (with_reducible first | exact HB.out | apply below_alloc | apply pw_below_drewN | apply below_drew1) | exact HB.out)⟩⟩
      case round =>
        clear H'
        try clear c2
        try clear c2b0
        try clear c2b1
        try clear p2
        try clear c3
        try clear c3b0
        try clear c3b1
        obtain ⟨x3_1, x4_1, rfl, HA, HK1, HO_3, HB⟩ := hrel
        cases gk with
        | zero => exact absurd HA.out (by simp [laws_toIntS.l0])
        | succ k1 =>
          have H := HA.out
          clear HA
          simp only [laws_toIntS.l0] at H
          by_cases c6 : x4_1 < (l0.length : Int)
          · rw [if_pos c6] at H
            have c6b0 : decide (x4_1 < (l0.length : Int)) = true := decide_eq_true c6
            clear c6
            by_cases c7 : 0 ≤ x4_1
            · rw [if_pos c7] at H
              have c7b0 : decide (0 ≤ x4_1) = true := decide_eq_true c7
              clear c7
              by_cases c8 : x4_1 < (x3_1.length : Int)
              · rw [if_pos c8] at H
                have c8b0 : decide (x4_1 < (x3_1.length : Int)) = true := decide_eq_true c8
                clear c8
                obtain ⟨y136, hy136⟩ : ∃ y_ : List Int, y_ = (x3_1.set (x4_1 : Int).toNat (rd l0 x4_1)) := ⟨_, rfl⟩
                replace H : (laws_toIntS.l0 k1 l0 y136 (wrap64 (x4_1 + 1))) = some r := by first | (rw [hy136]; with_reducible exact H) | (have H2_ := (Option.bind_some _ _).symm.trans H; rw [hy136]; with_reducible exact H2_) | (have H2_ := (Option.bind_some _ _).symm.trans H; with_reducible exact H2_) | with_reducible exact H | (rw [hy136]; exact H) | exact H
                have Ny136 := Aside0.mk hy136
                clear hy136
                have H' := Aside0.mk H
                clear H
                have p135 : 0 ≤ (x4_1 : Int) := of_decide_eq_true (by first | (with_reducible assumption) | assumption)
                have q135 : x4_1 < (l0.length : Int) := of_decide_eq_true (by first | (with_reducible assumption) | assumption)
                obtain ⟨ad135, e135, hx135_0⟩ := Kd.at_int HR0.out x4_1 p135 q135
                cases e135
                replace hx135_0 := (HB.out.cell (World.block_lt_of_cell? w _ hx135_0)).trans hx135_0
                replace p135 := eq_true p135
                replace q135 := eq_true q135
                have p9 : 0 ≤ (x4_1 : Int) := of_decide_eq_true (by first | (with_reducible assumption) | assumption)
                have q9 : (x4_1 : Int) < ((x3_1.length : Int) : Int) := of_decide_eq_true (by first | (with_reducible assumption) | assumption)
                obtain ⟨go9, co9, eo9, gb9, gl9, cl9, HG9⟩ := Kd.R_form HO_3.out (by omega)
                (first | cases eo9 | (injection eo9 with ea_ en_ ec_; (first | subst ea_ | (injection ea_ with ea_; subst ea_)); subst ec_; clear en_))
                have GB9 := Aside0.mk gb9
                have GG9 := Aside0.mk HG9
                clear gb9 gl9 HG9
                obtain ⟨hx9_0, hf9_0⟩ := Kd.R_celln 0 HO_3.out (x4_1 : Int) p9 q9
                replace p9 := eq_true p9
                replace q9 := eq_true q9
                have HP10 := Kd.R_putg HO_3.out (x4_1 : Int) (rd l0 x4_1)
                go_wp2_with (first | ((with_reducible refine gate_store (t := 3) (p := 20) rfl ?_); refine store_event (t := 3) (p := 20) (v := ?vo_w11) (w1 := (wr.setCell ⟨go9, (x4_1 : Int).toNat, none⟩ (.int .i64 (rd l0 x4_1)))) ?hg ?ho ?hn ?hr ?_; (case ho => rfl); (case hg => rfl); (case hn => rfl); (case hr => first | (go_simp; done) | (go_simp; rfl)); intro w11 hw; have hg : wr.grownBy w11 (some go9) := (by rw [hw]; exact HP10.2); have hp_ : Kd.R (Kd.int .i64) 3 w11 w.heap.size (fun _ => True) (.slice (some ⟨go9, 0, none⟩) x3_1.length co9) y136 := (by rw [hw, Ny136.out]; exact HP10.1); clear HP10; have n0_ := Aside0.mk (hp_); have n1_ := Aside0.mk ((by rw [hw]; exact below_set (HB.out) GB9.out : Below w.heap.size w w11)); clear HO_3; clear HB; have HO_3 := n0_; have HB := n1_; clear n0_ n1_; clear hg hw hp_))
                go_roundg k1
                case measure => have := HK1.out; omega
                case rel => exact ⟨(y136), (wrap64 (x4_1 + 1)), (by first | rfl | (simp; done) | (simp [*]; done)), H', ⟨by have := HK1.out; omega⟩, ⟨by (with_reducible repeat (first | apply Kd.R_alloc | apply Kd.R_drewN | apply Kd.R_drew)); exact HO_3.out⟩, ⟨by repeat (first | (with_reducible first | exact HB.out | apply below_alloc | apply pw_below_drewN | apply below_drew1) | exact HB.out)⟩⟩
              · rw [if_neg c8] at H
                exact absurd H (by simp)
            · rw [if_neg c7] at H
              exact absurd H (by simp)
          · rw [if_neg c6] at H
            have c6b0 : decide (x4_1 < (l0.length : Int)) = false := decide_eq_false c6
            clear c6
            obtain rfl := Option.some.inj H
            go_wp2
            go_ret
            exact ⟨_, by first | rfl | (simp [errW_none, errW_some] <;> rfl) | (simp [*, errW_none, errW_some] <;> rfl), by (with_reducible repeat (first | apply Kd.R_alloc | apply Kd.R_drewN | apply Kd.R_drew)); exact HO_3.out, by repeat (first | (with_reducible first | exact HB.out | apply below_alloc | apply pw_below_drewN | apply below_drew1) | exact HB.out)⟩
    · rw [if_neg c3] at H
      exact absurd H (by simp)
  · rw [if_neg c2] at H
    exact absurd H (by simp)

end Go.Proofs.Ytfoadgbffidgaaa.P

namespace Go.Proofs.Ytfoadgbffidgaaa.P
open Go.RowKit Go.Proofs.YtfoadgbffidgaaaW.PrintWords Go.Proofs.YtfoadgbffidgaaaW.PrintLast Go.Proofs.YtfoadgbffidgaaaW.PrintMore
attribute [local go_sem] max2_int min2_int max_two min_two max_three min_three max_four min_four   -- for this text's walks alone
set_option linter.unusedVariables false
set_option linter.unusedSimpArgs false

/-! ### laws_eqIntS: function 23 -/
def laws_eqIntS.l0 : Nat → List Int → List Int → Int → Option (Bool)
  | 0, _, _, _ => none
  | k + 1, x0, x1, x5 => if x5 < (x0.length : Int) then (if 0 ≤ x5 then (if x5 < (x1.length : Int) then (if (rd x0 x5) = (rd x1 x5) then (laws_eqIntS.l0 k x0 x1 (wrap64 (x5 + 1))) else (some false)) else (none)) else (none)) else (some true)
def laws_eqIntS.f (k : Nat) (l0 : List Int) (l1 : List Int) : Option (Bool) := if (l0.length : Int) = (l1.length : Int) then (laws_eqIntS.l0 k l0 l1 0) else (some false)
theorem laws_eqIntS.mono_l : ∀ k, (∀ y0 y1 y2, LeO (laws_eqIntS.l0 k y0 y1 y2) (laws_eqIntS.l0 (k + 1) y0 y1 y2))
  | 0 => fun _ _ _ r h => by simp [laws_eqIntS.l0] at h
  | k + 1 => by
    have ih0 := laws_eqIntS.mono_l k
    · intro y0 y1 y2
      unfold laws_eqIntS.l0
      repeat' first
      | (with_reducible exact ih0 _ _ _)
      | (with_reducible exact LeO.refl _)
      | (with_reducible exact LeO.none _)
      | (with_reducible refine LeO.ite ?_ ?_)
      | (with_reducible refine LeO.bind ?_ (fun _ => ?_))
      | exact ih0 _ _ _
      | exact LeO.none _
      | refine LeO.ite ?_ ?_
      | refine LeO.bind ?_ (fun _ => ?_)
theorem laws_eqIntS.mono : ∀ a0 a1 k, LeO (laws_eqIntS.f k a0 a1) (laws_eqIntS.f (k + 1) a0 a1) := by
  intro a0 a1 k
  have ih0 := laws_eqIntS.mono_l k
  unfold laws_eqIntS.f
  repeat' first
      | (with_reducible exact ih0 _ _ _)
      | (with_reducible exact LeO.refl _)
      | (with_reducible exact LeO.none _)
      | (with_reducible refine LeO.ite ?_ ?_)
      | (with_reducible refine LeO.bind ?_ (fun _ => ?_))
      | exact ih0 _ _ _
      | exact LeO.none _
      | refine LeO.ite ?_ ?_
      | refine LeO.bind ?_ (fun _ => ?_)
set_option maxHeartbeats 8000000 in
set_option maxRecDepth 100000 in
theorem laws_eqIntS.calls (k : Nat) (A0 : Option Addr) (c0 : Nat) (l0 : List Int) (A1 : Option Addr) (c1 : Nat) (l1 : List Int) (r : Bool) (w : World) (hr0 : Kd.C (Kd.int .i64) w A0 l0.length l0) (hc0 : l0.length ≤ c0) (hr1 : Kd.C (Kd.int .i64) w A1 l1.length l1) (hc1 : l1.length ≤ c1) (h : laws_eqIntS.f k l0 l1 = some r) :
    Calls Try.prog 23 #[.slice A0 l0.length c0, .slice A1 l1.length c1] w fun e w' => e = .returned (.bool r) ∧ Drawn0 w w' := by
  have HR0 := Aside0.mk hr0
  have HC0 := Aside0.mk hc0
  clear hr0 hc0
  have HR1 := Aside0.mk hr1
  have HC1 := Aside0.mk hc1
  clear hr1 hc1
  have H : (if (l0.length : Int) = (l1.length : Int) then (laws_eqIntS.l0 k l0 l1 0) else (some false)) = some r := h
  clear h
  by_cases c3 : (l0.length : Int) = (l1.length : Int)
  · rw [if_pos c3] at H
    have c3b0 : ((l0.length : Int) == (l1.length : Int)) = true := beq_iff_eq.mpr c3
    have c3b1 : ((l0.length : Int) != (l1.length : Int)) = false := bne_eq_false_iff_eq.mpr c3
    have c3b2 : (l0.length == l1.length) = true := by first | simpa using c3 | (simp at c3 ⊢; omega)
    clear c3
    have H' := Aside0.mk H
    clear H
    go_enter Try.func23, Try.ntmps23
    go_wp2
    repeat (go_quiet (fail); try go_wp2)
    go_loopg [5] k (fun kq v5 w' => ∃ (x5_1 : Int), v5 = .int .i64 x5_1 ∧ Aside0 (laws_eqIntS.l0 kq l0 l1 x5_1 = some r) ∧ Aside0 (kq ≤ k) ∧ Drawn0 w w')
    case atStart => exact ⟨(0), (by first | rfl | (simp; done) | (simp [*]; done)), H', ⟨Nat.le_refl _⟩, by repeat (first | exact Drawn0.refl _ | apply Drawn0.step)⟩
    case round =>
      clear H'
      try clear c1
      try clear c2
      try clear p2
      try clear c3
      try clear c3b0
      try clear c3b1
      try clear c3b2
      obtain ⟨x5_1, rfl, HA, HK1, ⟨m1, rfl⟩⟩ := hrel
      cases gk with
      | zero => exact absurd HA.out (by simp [laws_eqIntS.l0])
      | succ k1 =>
        have H := HA.out
        clear HA
        simp only [laws_eqIntS.l0] at H
        by_cases c4 : x5_1 < (l0.length : Int)
        · rw [if_pos c4] at H
          have c4b0 : decide (x5_1 < (l0.length : Int)) = true := decide_eq_true c4
          clear c4
          by_cases c5 : 0 ≤ x5_1
          · rw [if_pos c5] at H
            have c5b0 : decide (0 ≤ x5_1) = true := decide_eq_true c5
            clear c5
            by_cases c6 : x5_1 < (l1.length : Int)
            · rw [if_pos c6] at H
              have c6b0 : decide (x5_1 < (l1.length : Int)) = true := decide_eq_true c6
              clear c6
              by_cases c7 : (rd l0 x5_1) = (rd l1 x5_1)
              · rw [if_pos c7] at H
                have c7b0 : ((rd l0 x5_1) == (rd l1 x5_1)) = true := beq_iff_eq.mpr c7
                have c7b1 : ((rd l0 x5_1) != (rd l1 x5_1)) = false := bne_eq_false_iff_eq.mpr c7
                clear c7
                have H' := Aside0.mk H
                clear H
                have p162 : 0 ≤ (x5_1 : Int) := of_decide_eq_true (by first | (with_reducible assumption) | assumption)
                have q162 : x5_1 < (l0.length : Int) := of_decide_eq_true (by first | (with_reducible assumption) | assumption)
                obtain ⟨ad162, e162, hx162_0⟩ := Kd.at_int HR0.out x5_1 p162 q162
                cases e162
                replace p162 := eq_true p162
                replace q162 := eq_true q162
                have p163 : 0 ≤ (x5_1 : Int) := of_decide_eq_true (by first | (with_reducible assumption) | assumption)
                have q163 : x5_1 < (l1.length : Int) := of_decide_eq_true (by first | (with_reducible assumption) | assumption)
                obtain ⟨ad163, e163, hx163_0⟩ := Kd.at_int HR1.out x5_1 p163 q163
                cases e163
                replace p163 := eq_true p163
                replace q163 := eq_true q163
                go_wp2
                repeat (go_quiet (fail); try go_wp2)
                go_roundg k1
                case measure => have := HK1.out; omega
                case rel => exact ⟨(wrap64 (x5_1 + 1)), (by first | rfl | (simp; done) | (simp [*]; done)), H', ⟨by have := HK1.out; omega⟩, by repeat (first | exact Drawn0.refl _ | apply Drawn0.step)⟩
              · rw [if_neg c7] at H
                have c7b0 : ((rd l0 x5_1) == (rd l1 x5_1)) = false := beq_eq_false_iff_ne.mpr c7
                have c7b1 : ((rd l0 x5_1) != (rd l1 x5_1)) = true := bne_iff_ne.mpr c7
                obtain rfl := Option.some.inj H
                have p162 : 0 ≤ (x5_1 : Int) := of_decide_eq_true (by first | (with_reducible assumption) | assumption)
                have q162 : x5_1 < (l0.length : Int) := of_decide_eq_true (by first | (with_reducible assumption) | assumption)
                obtain ⟨ad162, e162, hx162_0⟩ := Kd.at_int HR0.out x5_1 p162 q162
                cases e162
                replace p162 := eq_true p162
                replace q162 := eq_true q162
                have p163 : 0 ≤ (x5_1 : Int) := of_decide_eq_true (by first | (with_reducible assumption) | assumption)
                have q163 : x5_1 < (l1.length : Int) := of_decide_eq_true (by first | (with_reducible assumption) | assumption)
                obtain ⟨ad163, e163, hx163_0⟩ := Kd.at_int HR1.out x5_1 p163 q163
                cases e163
                replace p163 := eq_true p163
                replace q163 := eq_true q163
                go_wp2
                repeat (go_quiet (fail); try go_wp2)
                go_ret
                exact ⟨by first | rfl | (simp; done) | (simp [*]; done), by repeat (first | exact Drawn0.refl _ | apply Drawn0.step)⟩
            · rw [if_neg c6] at H
              exact absurd H (by simp)
          · rw [if_neg c5] at H
            exact absurd H (by simp)
        · rw [if_neg c4] at H
          have c4b0 : decide (x5_1 < (l0.length : Int)) = false := decide_eq_false c4
          clear c4
          obtain rfl := Option.some.inj H
          go_wp2
          repeat (go_quiet (fail); try go_wp2)
          go_ret
          exact ⟨by first | rfl | (simp; done) | (simp [*]; done), by repeat (first | exact Drawn0.refl _ | apply Drawn0.step)⟩
  · rw [if_neg c3] at H
    have c3b0 : ((l0.length : Int) == (l1.length : Int)) = false := beq_eq_false_iff_ne.mpr c3
    have c3b1 : ((l0.length : Int) != (l1.length : Int)) = true := bne_iff_ne.mpr c3
    have c3b2 : (l0.length == l1.length) = false := by first | simpa using c3 | (simp at c3 ⊢; omega)
    obtain rfl := Option.some.inj H
    go_enter Try.func23, Try.ntmps23
    go_wp2
    repeat (go_quiet (fail); try go_wp2)
    go_ret
    exact ⟨by first | rfl | (simp; done) | (simp [*]; done), by repeat (first | exact Drawn0.refl _ | apply Drawn0.step)⟩

end Go.Proofs.Ytfoadgbffidgaaa.P

namespace Go.Proofs.Ytfoadgbffidgaaa.P
open Go.RowKit Go.Proofs.YtfoadgbffidgaaaW.PrintWords Go.Proofs.YtfoadgbffidgaaaW.PrintLast Go.Proofs.YtfoadgbffidgaaaW.PrintMore
attribute [local go_sem] max2_int min2_int max_two min_two max_three min_three max_four min_four   -- for this text's walks alone
set_option linter.unusedVariables false
set_option linter.unusedSimpArgs false

/-! ### laws_markIntS: function 24 -/
def laws_markIntS.l0 : Nat → List Int → Int → Int → Option (Int × List Int)
  | 0, _, _, _ => none
  | k + 1, x0, x1, x5 => if x5 < (x0.length : Int) then (if 0 ≤ x5 then (laws_markIntS.l0 k (x0.set (x5 : Int).toNat x1) (wrap64 (x1 + 1)) (wrap64 (x5 + 1))) else (none)) else (some (x1, x0))
def laws_markIntS.f (k : Nat) (l0 : List Int) (a1 : Int) : Option (Int × List Int) := laws_markIntS.l0 k l0 a1 0
theorem laws_markIntS.mono_l : ∀ k, (∀ y0 y1 y2, LeO (laws_markIntS.l0 k y0 y1 y2) (laws_markIntS.l0 (k + 1) y0 y1 y2))
  | 0 => fun _ _ _ r h => by simp [laws_markIntS.l0] at h
  | k + 1 => by
    have ih0 := laws_markIntS.mono_l k
    · intro y0 y1 y2
      unfold laws_markIntS.l0
      repeat' first
      | (with_reducible exact ih0 _ _ _)
      | (with_reducible exact LeO.refl _)
      | (with_reducible exact LeO.none _)
      | (with_reducible refine LeO.ite ?_ ?_)
      | (with_reducible refine LeO.bind ?_ (fun _ => ?_))
      | exact ih0 _ _ _
      | exact LeO.none _
      | refine LeO.ite ?_ ?_
      | refine LeO.bind ?_ (fun _ => ?_)
theorem laws_markIntS.mono : ∀ a0 a1 k, LeO (laws_markIntS.f k a0 a1) (laws_markIntS.f (k + 1) a0 a1) := by
  intro a0 a1 k
  have ih0 := laws_markIntS.mono_l k
  unfold laws_markIntS.f
  repeat' first
      | (with_reducible exact ih0 _ _ _)
      | (with_reducible exact LeO.refl _)
      | (with_reducible exact LeO.none _)
      | (with_reducible refine LeO.ite ?_ ?_)
      | (with_reducible refine LeO.bind ?_ (fun _ => ?_))
      | exact ih0 _ _ _
      | exact LeO.none _
      | refine LeO.ite ?_ ?_
      | refine LeO.bind ?_ (fun _ => ?_)
set_option maxHeartbeats 8000000 in
set_option maxRecDepth 100000 in
theorem laws_markIntS.calls (k : Nat) (P0_ : Nat → Prop) (u9000_ : Value) (l0 : List Int) (a1 : Int) (r1 : Int) (r2 : List Int) (w0 w : World) (hB : Below w0.heap.size w0 w) (ho0 : Kd.R (Kd.int .i64) 3 w w0.heap.size P0_ u9000_ l0) (h : laws_markIntS.f k l0 a1 = some (r1, r2)) :
    Calls Try.prog 24 #[u9000_, .int .i64 a1] w fun e w' => e = .returned (.int .i64 r1) ∧ Kd.R (Kd.int .i64) 3 w' w0.heap.size (fun k_ => (P0_ k_ ∨ w.heap.size ≤ k_)) u9000_ r2 ∧ Below w0.heap.size w0 w' ∧ Kept w w' (fun k_ => P0_ k_) := by
  have HO0 := Aside0.mk (show Kd.R (Kd.int .i64) 3 w w0.heap.size (fun k_ => (P0_ k_ ∨ w.heap.size ≤ k_)) u9000_ l0 from Kd.R_mono ho0 (fun k_ hk => (.inl hk)))
  have HK := Aside0.mk (Kept.refl w (fun k_ => P0_ k_))
  have HW0 := Aside0.mk hB.size
  have HB := Aside0.mk hB
  clear hB
  have H : (laws_markIntS.l0 k l0 a1 0) = some (r1, r2) := h
  clear h
  have H' := Aside0.mk H
  clear H
  go_enter Try.func24, Try.ntmps24
  go_wp2
  go_loopg [1, 5] k (fun kq v1 v5 w' => ∃ (x0_1 : List Int) (x1_1 : Int) (x5_1 : Int), v1 = .int .i64 x1_1 ∧ v5 = .int .i64 x5_1 ∧ Aside0 (laws_markIntS.l0 kq x0_1 x1_1 x5_1 = some (r1, r2)) ∧ Aside0 (kq ≤ k) ∧ Aside0 (Kd.R (Kd.int .i64) 3 w' w0.heap.size (fun k_ => (P0_ k_ ∨ w.heap.size ≤ k_)) u9000_ x0_1) ∧ Aside0 (Kept w w' (fun k_ => P0_ k_)) ∧ Aside0 (Below w0.heap.size w0 w'))
  case atStart => exact ⟨(l0), (a1), (0), (by first | rfl | (simp; done) | (simp [*]; done)), (by first | rfl | (simp; done) | (simp [*]; done)), H', ⟨Nat.le_refl _⟩, ⟨by (with_reducible repeat (first | apply Kd.R_alloc | apply Kd.R_drewN | apply Kd.R_drew)); exact HO0.out⟩, ⟨by repeat (first | (with_reducible first | exact HK.out | apply Kept.alloc | apply Kept.drewN | apply Kept.drew) | exact HK.out)⟩, ⟨by repeat (first | (with_reducible first | exact HB.out | apply below_alloc | apply pw_below_drewN | apply below_drew1) | exact HB.out)⟩⟩
  case round =>
    clear H'
    try clear c2
    try clear p2
    obtain ⟨x0_1, x1_1, x5_1, rfl, rfl, HA, HK1, HO_0, HK, HB⟩ := hrel
    cases gk with
    | zero => exact absurd HA.out (by simp [laws_markIntS.l0])
    | succ k1 =>
      have H := HA.out
      clear HA
      simp only [laws_markIntS.l0] at H
      by_cases c3 : x5_1 < (x0_1.length : Int)
      · rw [if_pos c3] at H
        have c3b0 : decide (x5_1 < (x0_1.length : Int)) = true := decide_eq_true c3
        clear c3
        by_cases c4 : 0 ≤ x5_1
        · rw [if_pos c4] at H
          have c4b0 : decide (0 ≤ x5_1) = true := decide_eq_true c4
          clear c4
          obtain ⟨y212, hy212⟩ : ∃ y_ : List Int, y_ = (x0_1.set (x5_1 : Int).toNat x1_1) := ⟨_, rfl⟩
          replace H : (laws_markIntS.l0 k1 y212 (wrap64 (x1_1 + 1)) (wrap64 (x5_1 + 1))) = some (r1, r2) := by first | (rw [hy212]; with_reducible exact H) | (have H2_ := (Option.bind_some _ _).symm.trans H; rw [hy212]; with_reducible exact H2_) | (have H2_ := (Option.bind_some _ _).symm.trans H; with_reducible exact H2_) | with_reducible exact H | (rw [hy212]; exact H) | exact H
          have Ny212 := Aside0.mk hy212
          clear hy212
          have H' := Aside0.mk H
          clear H
          obtain ⟨Ao6, co6, eo6⟩ := Kd.R_slice HO_0.out
          subst eo6
          have p5 : 0 ≤ (x5_1 : Int) := of_decide_eq_true (by first | (with_reducible assumption) | assumption)
          have q5 : (x5_1 : Int) < ((x0_1.length : Int) : Int) := of_decide_eq_true (by first | (with_reducible assumption) | assumption)
          obtain ⟨go5, co5, eo5, gb5, gl5, cl5, HG5⟩ := Kd.R_form HO_0.out (by omega)
          (first | cases eo5 | (injection eo5 with ea_ en_ ec_; (first | subst ea_ | (injection ea_ with ea_; subst ea_)); subst ec_; clear en_))
          have GB5 := Aside0.mk gb5
          have GG5 := Aside0.mk HG5
          clear gb5 gl5 HG5
          have HMgo5 := Aside0.mk (show (P0_ go5 ∨ w.heap.size ≤ go5) from (HO_0.out.1 _ rfl))
          obtain ⟨hx5_0, hf5_0⟩ := Kd.R_celln 0 HO_0.out (x5_1 : Int) p5 q5
          replace p5 := eq_true p5
          replace q5 := eq_true q5
          have HP7 := Kd.R_putg HO_0.out (x5_1 : Int) x1_1
          go_wp2_with (first | ((with_reducible refine gate_store (t := 3) (p := 15) rfl ?_); refine store_event (t := 3) (p := 15) (v := ?vo_w8) (w1 := (wr.setCell ⟨go5, (x5_1 : Int).toNat, none⟩ (.int .i64 x1_1))) ?hg ?ho ?hn ?hr ?_; (case ho => rfl); (case hg => rfl); (case hn => rfl); (case hr => first | (go_simp; done) | (go_simp; rfl)); intro w8 hw; have hg : wr.grownBy w8 (some go5) := (by rw [hw]; exact HP7.2); have hp_ : Kd.R (Kd.int .i64) 3 w8 w0.heap.size (fun k_ => (P0_ k_ ∨ w.heap.size ≤ k_)) (.slice (some ⟨go5, 0, none⟩) x0_1.length co6) y212 := (by rw [hw, Ny212.out]; exact HP7.1); clear HP7; have n0_ := Aside0.mk (hp_); have n1_ := Aside0.mk ((by rw [hw]; exact below_set (HB.out) GB5.out : Below w0.heap.size w0 w8)); have n2_ := Aside0.mk (Kept.of_grown (S := (fun k_ => P0_ k_)) hg (by repeat (first | (with_reducible first | exact HK.out | apply Kept.alloc | apply Kept.drewN | apply Kept.drew) | exact HK.out)) (fun k_ e_ => (HO_0.out.1 k_ e_))); clear HO_0; clear HB; clear HK; have HO_0 := n0_; have HB := n1_; have HK := n2_; clear n0_ n1_ n2_; clear hg hw hp_))
          go_roundg k1
          case measure => have := HK1.out; omega
          case rel => exact ⟨(y212), (wrap64 (x1_1 + 1)), (wrap64 (x5_1 + 1)), (by first | rfl | (simp; done) | (simp [*]; done)), (by first | rfl | (simp; done) | (simp [*]; done)), H', ⟨by have := HK1.out; omega⟩, ⟨by (with_reducible repeat (first | apply Kd.R_alloc | apply Kd.R_drewN | apply Kd.R_drew)); exact HO_0.out⟩, ⟨by repeat (first | (with_reducible first | exact HK.out | apply Kept.alloc | apply Kept.drewN | apply Kept.drew) | exact HK.out)⟩, ⟨by repeat (first | (with_reducible first | exact HB.out | apply below_alloc | apply pw_below_drewN | apply below_drew1) | exact HB.out)⟩⟩
        · rw [if_neg c4] at H
          exact absurd H (by simp)
      · rw [if_neg c3] at H
        have c3b0 : decide (x5_1 < (x0_1.length : Int)) = false := decide_eq_false c3
        clear c3
        simp only [Option.some.injEq, Prod.mk.injEq] at H
        obtain ⟨rfl, rfl⟩ := H
        obtain ⟨Ao9, co9, eo9⟩ := Kd.R_slice HO_0.out
        subst eo9
        go_wp2
        go_ret
        exact ⟨by first | rfl | (simp [errW_none, errW_some] <;> rfl) | (simp [*, errW_none, errW_some] <;> rfl), by (with_reducible repeat (first | apply Kd.R_alloc | apply Kd.R_drewN | apply Kd.R_drew)); exact HO_0.out, by repeat (first | (with_reducible first | exact HB.out | apply below_alloc | apply pw_below_drewN | apply below_drew1) | exact HB.out), by repeat (first | (with_reducible first | exact HK.out | apply Kept.alloc | apply Kept.drewN | apply Kept.drew) | exact HK.out)⟩

end Go.Proofs.Ytfoadgbffidgaaa.P

namespace Go.Proofs.Ytfoadgbffidgaaa.P
open Go.RowKit Go.Proofs.YtfoadgbffidgaaaW.PrintWords Go.Proofs.YtfoadgbffidgaaaW.PrintLast Go.Proofs.YtfoadgbffidgaaaW.PrintMore
attribute [local go_sem] max2_int min2_int max_two min_two max_three min_three max_four min_four   -- for this text's walks alone
set_option linter.unusedVariables false
set_option linter.unusedSimpArgs false

/-! ### laws_heldIntS: function 25 -/
def laws_heldIntS.l0 : Nat → List Int → Int → Int → Option (Int)
  | 0, _, _, _ => none
  | k + 1, x0, x1, x5 => if x5 < (x0.length : Int) then (if 0 ≤ x5 then (if (rd x0 x5) = x1 then (laws_heldIntS.l0 k x0 (wrap64 (x1 + 1)) (wrap64 (x5 + 1))) else (some (-1))) else (none)) else (some x1)
def laws_heldIntS.f (k : Nat) (l0 : List Int) (a1 : Int) : Option (Int) := laws_heldIntS.l0 k l0 a1 0
theorem laws_heldIntS.mono_l : ∀ k, (∀ y0 y1 y2, LeO (laws_heldIntS.l0 k y0 y1 y2) (laws_heldIntS.l0 (k + 1) y0 y1 y2))
  | 0 => fun _ _ _ r h => by simp [laws_heldIntS.l0] at h
  | k + 1 => by
    have ih0 := laws_heldIntS.mono_l k
    · intro y0 y1 y2
      unfold laws_heldIntS.l0
      repeat' first
      | (with_reducible exact ih0 _ _ _)
      | (with_reducible exact LeO.refl _)
      | (with_reducible exact LeO.none _)
      | (with_reducible refine LeO.ite ?_ ?_)
      | (with_reducible refine LeO.bind ?_ (fun _ => ?_))
      | exact ih0 _ _ _
      | exact LeO.none _
      | refine LeO.ite ?_ ?_
      | refine LeO.bind ?_ (fun _ => ?_)
theorem laws_heldIntS.mono : ∀ a0 a1 k, LeO (laws_heldIntS.f k a0 a1) (laws_heldIntS.f (k + 1) a0 a1) := by
  intro a0 a1 k
  have ih0 := laws_heldIntS.mono_l k
  unfold laws_heldIntS.f
  repeat' first
      | (with_reducible exact ih0 _ _ _)
      | (with_reducible exact LeO.refl _)
      | (with_reducible exact LeO.none _)
      | (with_reducible refine LeO.ite ?_ ?_)
      | (with_reducible refine LeO.bind ?_ (fun _ => ?_))
      | exact ih0 _ _ _
      | exact LeO.none _
      | refine LeO.ite ?_ ?_
      | refine LeO.bind ?_ (fun _ => ?_)
set_option maxHeartbeats 8000000 in
set_option maxRecDepth 100000 in
theorem laws_heldIntS.calls (k : Nat) (A0 : Option Addr) (c0 : Nat) (l0 : List Int) (a1 : Int) (r : Int) (w : World) (hr0 : Kd.C (Kd.int .i64) w A0 l0.length l0) (hc0 : l0.length ≤ c0) (h : laws_heldIntS.f k l0 a1 = some r) :
    Calls Try.prog 25 #[.slice A0 l0.length c0, .int .i64 a1] w fun e w' => e = .returned (.int .i64 r) ∧ Drawn0 w w' := by
  have HR0 := Aside0.mk hr0
  have HC0 := Aside0.mk hc0
  clear hr0 hc0
  have H : (laws_heldIntS.l0 k l0 a1 0) = some r := h
  clear h
  have H' := Aside0.mk H
  clear H
  go_enter Try.func25, Try.ntmps25
  go_wp2
  go_loopg [1, 5] k (fun kq v1 v5 w' => ∃ (x1_1 : Int) (x5_1 : Int), v1 = .int .i64 x1_1 ∧ v5 = .int .i64 x5_1 ∧ Aside0 (laws_heldIntS.l0 kq l0 x1_1 x5_1 = some r) ∧ Aside0 (kq ≤ k) ∧ Drawn0 w w')
  case atStart => exact ⟨(a1), (0), (by first | rfl | (simp; done) | (simp [*]; done)), (by first | rfl | (simp; done) | (simp [*]; done)), H', ⟨Nat.le_refl _⟩, by repeat (first | exact Drawn0.refl _ | apply Drawn0.step)⟩
  case round =>
    clear H'
    try clear c2
    try clear p2
    obtain ⟨x1_1, x5_1, rfl, rfl, HA, HK1, ⟨m1, rfl⟩⟩ := hrel
    cases gk with
    | zero => exact absurd HA.out (by simp [laws_heldIntS.l0])
    | succ k1 =>
      have H := HA.out
      clear HA
      simp only [laws_heldIntS.l0] at H
      by_cases c3 : x5_1 < (l0.length : Int)
      · rw [if_pos c3] at H
        have c3b0 : decide (x5_1 < (l0.length : Int)) = true := decide_eq_true c3
        clear c3
        by_cases c4 : 0 ≤ x5_1
        · rw [if_pos c4] at H
          have c4b0 : decide (0 ≤ x5_1) = true := decide_eq_true c4
          clear c4
          by_cases c5 : (rd l0 x5_1) = x1_1
          · rw [if_pos c5] at H
            have c5b0 : ((rd l0 x5_1) == x1_1) = true := beq_iff_eq.mpr c5
            have c5b1 : ((rd l0 x5_1) != x1_1) = false := bne_eq_false_iff_eq.mpr c5
            clear c5
            have H' := Aside0.mk H
            clear H
            have p213 : 0 ≤ (x5_1 : Int) := of_decide_eq_true (by first | (with_reducible assumption) | assumption)
            have q213 : x5_1 < (l0.length : Int) := of_decide_eq_true (by first | (with_reducible assumption) | assumption)
            obtain ⟨ad213, e213, hx213_0⟩ := Kd.at_int HR0.out x5_1 p213 q213
            cases e213
            replace p213 := eq_true p213
            replace q213 := eq_true q213
            go_wp2
            go_roundg k1
            case measure => have := HK1.out; omega
            case rel => exact ⟨(wrap64 (x1_1 + 1)), (wrap64 (x5_1 + 1)), (by first | rfl | (simp; done) | (simp [*]; done)), (by first | rfl | (simp; done) | (simp [*]; done)), H', ⟨by have := HK1.out; omega⟩, by repeat (first | exact Drawn0.refl _ | apply Drawn0.step)⟩
          · rw [if_neg c5] at H
            have c5b0 : ((rd l0 x5_1) == x1_1) = false := beq_eq_false_iff_ne.mpr c5
            have c5b1 : ((rd l0 x5_1) != x1_1) = true := bne_iff_ne.mpr c5
            obtain rfl := Option.some.inj H
            have p213 : 0 ≤ (x5_1 : Int) := of_decide_eq_true (by first | (with_reducible assumption) | assumption)
            have q213 : x5_1 < (l0.length : Int) := of_decide_eq_true (by first | (with_reducible assumption) | assumption)
            obtain ⟨ad213, e213, hx213_0⟩ := Kd.at_int HR0.out x5_1 p213 q213
            cases e213
            replace p213 := eq_true p213
            replace q213 := eq_true q213
            go_wp2
            go_ret
            exact ⟨by first | rfl | (simp; done) | (simp [*]; done), by repeat (first | exact Drawn0.refl _ | apply Drawn0.step)⟩
        · rw [if_neg c4] at H
          exact absurd H (by simp)
      · rw [if_neg c3] at H
        have c3b0 : decide (x5_1 < (l0.length : Int)) = false := decide_eq_false c3
        clear c3
        obtain rfl := Option.some.inj H
        go_wp2
        go_ret
        exact ⟨by first | rfl | (simp; done) | (simp [*]; done), by repeat (first | exact Drawn0.refl _ | apply Drawn0.step)⟩

end Go.Proofs.Ytfoadgbffidgaaa.P

set_option linter.unusedVariables false
set_option linter.unusedSimpArgs false
namespace Go.Proofs.Ytfoadgbffidgaaa.X
open Go.RowKit Go.Proofs.YtfoadgbffidgaaaW.PrintWords Go.Proofs.YtfoadgbffidgaaaW.PrintLast Go.Proofs.Ytfoadgbffidgaaa.P

theorem Ev.pos {α : Type} {c : Prop} [Decidable c] {f g : Nat → Option α} {r : α} (h : c) (k : Ev f r) : Ev (fun n => if c then f n else g n) r :=
  Ev.congr (fun _ => if_pos h) k
theorem Ev.neg {α : Type} {c : Prop} [Decidable c] {f g : Nat → Option α} {r : α} (h : ¬ c) (k : Ev g r) : Ev (fun n => if c then f n else g n) r :=
  Ev.congr (fun _ => if_neg h) k
theorem Ev.fix {α β : Type} {x : Option α} {f : Nat → α → Option β} {a : α} {r : β} (h : x = some a) (k : Ev (fun n => f n a) r) : Ev (fun n => x.bind (f n)) r :=
  Ev.congr (fun n => by rw [h]; rfl) k
theorem Ev.done {α : Type} {x : Option α} {r : α} (h : x = some r) : Ev (fun _ => x) r := ⟨0, fun _ _ => h⟩
theorem Ev.eq {α : Type} {f : Nat → Option α} {r s : α} (h : Ev f r) (e : r = s) : Ev f s := e ▸ h
theorem w64 {x : Int} (h0 : -9223372036854775808 ≤ x) (h1 : x ≤ 9223372036854775807) : wrap64 x = x := by unfold wrap64; omega
theorem tdiv_nn {a b : Int} (h : 0 ≤ a) : Int.tdiv a b = a / b := Int.tdiv_eq_ediv_of_nonneg h
theorem tmod_nn {a b : Int} (h : 0 ≤ a) : Int.tmod a b = a % b := Int.tmod_eq_emod_of_nonneg h

theorem rd_cast (l : List Int) (i : Nat) (h : i < l.length) : rd l (i : Int) = l[i] := by
  unfold rd
  rw [List.getD_eq_getElem?_getD]
  simp [h]
theorem ext_rd {a b : List Int} (hl : a.length = b.length) (h : ∀ i : Nat, i < a.length → rd a (i : Int) = rd b (i : Int)) : a = b := by
  apply List.ext_getElem hl
  intro i h1 h2
  rw [← rd_cast a i h1, ← rd_cast b i h2]
  exact h i h1

/-! ### toIntS: a copy -/
theorem toIntS_loop (l : List Int) (hl : l.length ≤ 1048576) (d : Nat) : ∀ (i : Int) (acc : List Int), 0 ≤ i → i + d = l.length → acc = l.take i.toNat ++ List.replicate d 0 → Ev (fun k => laws_toIntS.l0 k l acc i) l := by
  induction d with
  | zero =>
    intro i acc h0 h1 ha
    refine Ev.step (fun k => by rw [laws_toIntS.l0]) ?_
    refine Ev.neg (by omega) ?_
    refine Ev.done ?_
    rw [ha, List.take_of_length_le (by omega)]; simp
  | succ d ih =>
    intro i acc h0 h1 ha
    have hlen : acc.length = l.length := by rw [ha]; simp; omega
    refine Ev.step (fun k => by rw [laws_toIntS.l0]) ?_
    simp (disch := omega) only [w64]
    refine Ev.pos (by omega) (Ev.pos (by omega) (Ev.pos (by omega) ?_))
    refine ih (i + 1) _ (by omega) (by omega) ?_
    rw [ha, show (i + 1).toNat = i.toNat + 1 by omega, List.take_add_one, List.replicate_succ]
    rw [List.set_append, if_neg (by rw [List.length_take]; omega)]
    have hi : i.toNat < l.length := by omega
    have e1 : min i.toNat l.length = i.toNat := by omega
    simp only [List.length_take, e1, Nat.sub_self, List.set_cons_zero, List.getElem?_eq_getElem hi, Option.toList_some, List.append_assoc, List.singleton_append]
    rw [show rd l i = l[i.toNat] by rw [← rd_cast l i.toNat hi, Int.toNat_of_nonneg h0]]
theorem toIntS_ev (l : List Int) (hl : l.length ≤ 1048576) : Ev (fun k => laws_toIntS.f k l) l := by
  unfold laws_toIntS.f
  refine Ev.pos (by omega) (Ev.pos (by omega) ?_)
  exact toIntS_loop l hl l.length 0 _ (by omega) (by omega) (by simp)

/-! ### eqIntS -/
theorem eqIntS_loop (a b : List Int) (hl : a.length ≤ 1048576) (hab : a.length = b.length) (d : Nat) : ∀ (i : Int), 0 ≤ i → i + d = a.length → (∀ j : Nat, (j : Int) < i → rd a (j : Int) = rd b (j : Int)) → Ev (fun k => laws_eqIntS.l0 k a b i) (decide (a = b)) := by
  induction d with
  | zero =>
    intro i h0 h1 h
    refine Ev.step (fun k => by rw [laws_eqIntS.l0]) ?_
    refine Ev.neg (by omega) (Ev.done ?_)
    rw [decide_eq_true (ext_rd hab fun j hj => h j (by omega))]
  | succ d ih =>
    intro i h0 h1 h
    refine Ev.step (fun k => by rw [laws_eqIntS.l0]) ?_
    simp (disch := omega) only [w64]
    refine Ev.pos (by omega) (Ev.pos (by omega) (Ev.pos (by omega) ?_))
    by_cases e : rd a i = rd b i
    · refine Ev.pos e (ih (i + 1) (by omega) (by omega) fun j hj => ?_)
      by_cases ej : (j : Int) = i
      · rw [ej]; exact e
      · exact h j (by omega)
    · refine Ev.neg e (Ev.done ?_)
      rw [decide_eq_false (fun hab => e (by rw [hab]))]
theorem eqIntS_ev (a b : List Int) (hl : a.length ≤ 1048576) : Ev (fun k => laws_eqIntS.f k a b) (decide (a = b)) := by
  unfold laws_eqIntS.f
  by_cases h : a.length = b.length
  · exact Ev.pos (by omega) (eqIntS_loop a b hl h a.length 0 (by omega) (by omega) fun j hj => by omega)
  · refine Ev.neg (by omega) (Ev.done ?_)
    rw [decide_eq_false (fun hab => h (by rw [hab]))]

end Go.Proofs.Ytfoadgbffidgaaa.X

set_option linter.unusedVariables false
set_option linter.unusedSimpArgs false
namespace Go.Proofs.Ytfoadgbffidgaaa.X
open Go.RowKit Go.Proofs.YtfoadgbffidgaaaW.PrintWords Go.Proofs.YtfoadgbffidgaaaW.PrintLast Go.Proofs.Ytfoadgbffidgaaa.P

theorem l6In_eq (a b c : Int) : spec_l6In.f a b c = some (decide (b ≤ a) && decide (a ≤ c)) := by
  unfold spec_l6In.f
  by_cases h : a ≥ b
  · rw [if_pos h, decide_eq_true h]; simp
  · rw [if_neg h, decide_eq_false h]; simp
theorem l1In_eq (a : Int) : spec_l1In.f a = some (isN a) := by
  unfold spec_l1In.f isN
  rw [l6In_eq]
  show some _ = _
  rw [show decide (a ≤ 8) = decide (a < 9) from decide_eq_decide.2 (by omega)]
theorem l2Table_loop (l : List Int) (hl : l.length ≤ 1048576) (d : Nat) : ∀ (i : Int), 0 ≤ i → i + d = l.length → (∀ j : Nat, (j : Int) < i → isN (rd l j) = true) → Ev (fun k => spec_l2Table.l0 k l i) (ninesB l 81) := by
  induction d with
  | zero =>
    intro i h0 h1 h
    refine Ev.step (fun k => by rw [spec_l2Table.l0]) ?_
    refine Ev.neg (by omega) (Ev.done ?_)
    have ha : l.all isN = true := by
      rw [List.all_eq_true]
      intro x hx
      obtain ⟨j, hj, rfl⟩ := List.mem_iff_getElem.1 hx
      rw [← rd_cast l j hj]
      exact h j (by omega)
    unfold ninesB
    rw [ha, Bool.and_true]
    congr 1
    rw [Bool.eq_iff_iff]; simp; omega
  | succ d ih =>
    intro i h0 h1 h
    refine Ev.step (fun k => by rw [spec_l2Table.l0]) ?_
    simp (disch := omega) only [w64, l1In_eq, Option.bind_some]
    refine Ev.pos (by omega) (Ev.pos (by omega) ?_)
    by_cases e : isN (rd l i) = true
    · refine Ev.pos e (ih (i + 1) (by omega) (by omega) fun j hj => ?_)
      by_cases ej : (j : Int) = i
      · rw [ej]; exact e
      · exact h j (by omega)
    · refine Ev.neg e (Ev.done ?_)
      have : l.all isN = false := by
        rw [List.all_eq_false]
        exact ⟨rd l i, rd_mem (by omega) h0, e⟩
      unfold ninesB
      rw [this, Bool.and_false]
theorem l2Table_ev (l : List Int) (hl : l.length ≤ 1048576) : Ev (fun k => spec_l2Table.f k l) (ninesB l 81) :=
  l2Table_loop l hl l.length 0 (by omega) (by omega) (fun j h => by omega)
theorem l2Units_loop (t : List Int) (hl : t.length = 81) (d : Nat) : ∀ (i : Int), 0 ≤ i → i + d = 9 → (∀ x : Int, 0 ≤ x → x < i → unitB t x = true) → Ev (fun k => spec_l2Units.l0 k t i) (unitsB t) := by
  induction d with
  | zero =>
    intro i h0 h1 h
    refine Ev.step (fun k => by rw [spec_l2Units.l0]) ?_
    refine Ev.neg (by omega) (Ev.done ?_)
    rw [unitsB_iff.2 fun x x0 x1 => h x x0 (by omega)]
  | succ d ih =>
    intro i h0 h1 h
    have hu : unitB t i = (decide (rd t i = 0) && decide (rd t (9 * i) = 0) && decide (rd t (9 + i) = i) && decide (rd t (9 * i + 1) = i)) := rfl
    refine Ev.step (fun k => by rw [spec_l2Units.l0]) ?_
    have z1 : wrap64 (9 * i) = 9 * i := w64 (by omega) (by omega)
    have z2 : wrap64 (9 + i) = 9 + i := w64 (by omega) (by omega)
    have z3 : wrap64 (9 * i + 1) = 9 * i + 1 := w64 (by omega) (by omega)
    have z4 : wrap64 (i + 1) = i + 1 := w64 (by omega) (by omega)
    simp only [z1, z2, z3, z4]
    refine Ev.pos (by omega) (Ev.pos (by omega) (Ev.pos (by omega) ?_))
    by_cases e1 : rd t i = 0
    case neg => exact Ev.neg e1 (Ev.done (by rw [unitsB_hit h0 (by omega) (by rw [hu, decide_eq_false e1]; rfl)]))
    refine Ev.pos e1 (Ev.pos (by omega) (Ev.pos (by omega) ?_))
    by_cases e2 : rd t (9 * i) = 0
    case neg => exact Ev.neg e2 (Ev.done (by rw [unitsB_hit h0 (by omega) (by rw [hu, decide_eq_false e2, Bool.and_false]; rfl)]))
    refine Ev.pos e2 (Ev.pos (by omega) (Ev.pos (by omega) ?_))
    by_cases e3 : rd t (9 + i) = i
    case neg => exact Ev.neg e3 (Ev.done (by rw [unitsB_hit h0 (by omega) (by rw [hu, decide_eq_false e3, Bool.and_false]; rfl)]))
    refine Ev.pos e3 (Ev.pos (by omega) (Ev.pos (by omega) ?_))
    by_cases e4 : rd t (9 * i + 1) = i
    case neg => exact Ev.neg e4 (Ev.done (by rw [unitsB_hit h0 (by omega) (by rw [hu, decide_eq_false e4, Bool.and_false])]))
    refine Ev.pos e4 (ih (i + 1) (by omega) (by omega) fun x x0 x1 => ?_)
    by_cases e : x = i
    · rw [e, hu, decide_eq_true e1, decide_eq_true e2, decide_eq_true e3, decide_eq_true e4]; rfl
    · exact h x x0 (by omega)
theorem l2Units_ev (t : List Int) (hl : t.length = 81) : Ev (fun k => spec_l2Units.f k t) (unitsB t) :=
  l2Units_loop t hl 9 0 (by omega) (by omega) (fun x h0 h1 => by omega)
theorem SystemIn_l1 (t : List Int) (hn : ninesB t 81 = true) (c : Int) (hc : In9 c) (hr : (∀ d : Int, 0 ≤ d → d < c → gapsB t c d = true) → Ev (fun k => spec_SystemIn.l0 k t (c + 1)) (solvesB t)) (n : Nat) :
    ∀ (d : Int), 0 ≤ d → d + n = c → (∀ x : Int, 0 ≤ x → x < d → gapsB t c x = true) → Ev (fun k => spec_SystemIn.l1 k t c d) (solvesB t) := by
  obtain ⟨c0, c1⟩ := hc
  induction n with
  | zero =>
    intro d h0 h1 h
    refine Ev.step (fun k => by rw [spec_SystemIn.l1]) ?_
    simp (disch := omega) only [w64]
    exact Ev.neg (by omega) (hr fun x x0 x1 => h x x0 (by omega))
  | succ n ih =>
    intro d h0 h1 h
    refine Ev.step (fun k => by rw [spec_SystemIn.l1]) ?_
    have hs : spec_l2Solves.f t c d = some (gapsB t c d) := by unfold spec_l2Solves.f; exact if_pos ⟨hn, ⟨c0, c1⟩, ⟨h0, by omega⟩⟩
    simp (disch := omega) only [w64, hs, Option.bind_some]
    refine Ev.pos (by omega) ?_
    by_cases e : gapsB t c d = true
    · refine Ev.pos e (ih (d + 1) (by omega) (by omega) fun x x0 x1 => ?_)
      by_cases ex : x = d
      · rw [ex]; exact e
      · exact h x x0 (by omega)
    · refine Ev.neg e (Ev.done ?_)
      rw [solvesB_hit h0 (by omega) c1 (Bool.eq_false_iff.2 e)]
theorem SystemIn_l0 (t : List Int) (hn : ninesB t 81 = true) (n : Nat) : ∀ (c : Int), 0 ≤ c → c + n = 9 → (∀ x y : Int, 0 ≤ y → y < x → x < c → gapsB t x y = true) → Ev (fun k => spec_SystemIn.l0 k t c) (solvesB t) := by
  induction n with
  | zero =>
    intro c h0 h1 h
    refine Ev.step (fun k => by rw [spec_SystemIn.l0]) ?_
    refine Ev.neg (by omega) (Ev.done ?_)
    rw [solvesB_all fun x y y0 yx x9 => h x y y0 yx (by omega)]
  | succ n ih =>
    intro c h0 h1 h
    refine Ev.step (fun k => by rw [spec_SystemIn.l0]) ?_
    refine Ev.pos (by omega) ?_
    refine SystemIn_l1 t hn c ⟨h0, by omega⟩ (fun hg => ih (c + 1) (by omega) (by omega) fun x y y0 yx x1 => ?_) c.toNat 0 (by omega) (by omega) (fun x x0 x1 => by omega)
    by_cases e : x = c
    · subst e; exact hg y y0 yx
    · exact h x y y0 yx (by omega)
theorem SystemIn_ev (t : List Int) (hl : t.length ≤ 1048576) : Ev (fun k => spec_SystemIn.f k t) (sysB t) := by
  unfold spec_SystemIn.f
  refine Ev.bind (l2Table_ev t hl) ?_
  by_cases hn : ninesB t 81 = true
  case neg =>
    refine Ev.neg hn (Ev.step (fun k => by rw [spec_SystemIn.j0]) (Ev.pos rfl (Ev.done ?_)))
    unfold sysB; rw [Bool.eq_false_iff.2 hn]; rfl
  refine Ev.pos hn (Ev.bind (l2Units_ev t (ninesB_iff.1 hn).1) ?_)
  by_cases hu : unitsB t = true
  case neg =>
    refine Ev.neg hu (Ev.step (fun k => by rw [spec_SystemIn.j0]) (Ev.pos rfl (Ev.done ?_)))
    rw [sysB_of hn, Bool.eq_false_iff.2 hu]; rfl
  have hs : spec_l2Shares.f t = some (sharesB t) := by unfold spec_l2Shares.f; exact if_pos hn
  refine Ev.pos hu (Ev.fix hs ?_)
  rw [sysB_of hn, hu]
  by_cases h : sharesB t = true
  · rw [h]
    refine Ev.step (fun k => by rw [spec_SystemIn.j0]) ?_
    refine Ev.neg (by simp) ?_
    exact SystemIn_l0 t hn 9 0 (by omega) (by omega) (fun x y h0 h1 h2 => by omega)
  · rw [Bool.eq_false_iff.2 h]
    refine Ev.step (fun k => by rw [spec_SystemIn.j0]) ?_
    exact Ev.pos rfl (Ev.done rfl)

end Go.Proofs.Ytfoadgbffidgaaa.X

set_option linter.unusedVariables false
set_option linter.unusedSimpArgs false
namespace Go.Proofs.Ytfoadgbffidgaaa.X
open Go.RowKit Go.Proofs.YtfoadgbffidgaaaW.PrintWords Go.Proofs.YtfoadgbffidgaaaW.PrintLast Go.Proofs.Ytfoadgbffidgaaa.P

/-! ### a list of bools -/
def bL (n : Nat) (s : Nat → Bool) : List Bool := (List.range n).map s
theorem bL_length (n : Nat) (s : Nat → Bool) : (bL n s).length = n := by simp [bL]
theorem bL_replicate (n : Nat) : List.replicate n false = bL n (fun _ => false) := by
  unfold bL; rw [List.map_const']; simp
theorem bL_rd {n : Nat} {s : Nat → Bool} (v : Int) (h0 : 0 ≤ v) (h1 : v < n) : rdOf false (bL n s) v = s v.toNat := by
  unfold rdOf bL
  rw [List.getD_eq_getElem?_getD, List.getElem?_map, List.getElem?_range (by omega)]
  rfl
theorem bL_set {n : Nat} {s : Nat → Bool} (v : Int) (b : Bool) : (bL n s).set v.toNat b = bL n (fun x => if x = v.toNat then b else s x) := by
  apply List.ext_getElem?
  intro i
  rw [List.getElem?_set]
  by_cases hi : i < n
  · by_cases hj : v.toNat = i
    · subst hj; simp [bL, hi]
    · simp [bL, hi, hj, Ne.symm hj]
  · by_cases hj : v.toNat = i
    · subst hj; simp [bL, hi]
    · simp [bL, hi, hj]
theorem bL_congr {n : Nat} {s s' : Nat → Bool} (h : ∀ j, j < n → s j = s' j) : bL n s = bL n s' := by
  unfold bL
  exact List.map_congr_left fun j hj => h j (List.mem_range.1 hj)
theorem bL_seen {n : Nat} (p : Int → Int) (i : Int) (h0 : 0 ≤ i) (v : Int) (hv0 : 0 ≤ v) (hv : p i = v) : (bL n (seenO p i)).set v.toNat true = bL n (seenO p (i + 1)) := by
  rw [bL_set]
  refine bL_congr fun j hj => ?_
  rw [seenO_succ p i h0 j, hv]
  by_cases e : j = v.toNat
  · subst e; rw [if_pos rfl, decide_eq_true (by omega), Bool.or_true]
  · rw [if_neg e, decide_eq_false (by omega), Bool.or_false]
theorem seenO_zero (p : Int → Int) (j : Nat) : seenO p 0 j = false := rfl
theorem seenO_dup {p : Int → Int} {i : Int} {n : Nat} (h0 : 0 ≤ i) (hi : i < n) (hv : 0 ≤ p i) (h : seenO p i (p i).toNat = true) : onceN n p = false := by
  unfold seenO at h
  obtain ⟨z, hz, hpz⟩ := List.any_eq_true.1 h
  have hz := List.mem_range.1 hz
  have hpz := of_decide_eq_true hpz
  exact onceN_hit z i (by omega) (by omega) hi (by rw [hpz]; omega)
theorem seenO_new {p : Int → Int} {i : Int} (h0 : 0 ≤ i) (hv : 0 ≤ p i) (h : seenO p i (p i).toNat = false) (ha : ∀ x y : Int, 0 ≤ x → x < y → y < i → p x ≠ p y) : ∀ x y : Int, 0 ≤ x → x < y → y < i + 1 → p x ≠ p y := by
  intro u v hu huv hv1
  by_cases e : v = i
  · subst e
    intro hue
    unfold seenO at h
    have := List.any_eq_false.1 h u.toNat (List.mem_range.2 (by omega))
    rw [Int.toNat_of_nonneg hu, hue] at this
    exact this (decide_eq_true (by omega))
  · exact ha u v hu huv (by omega)
theorem onceB_onceN (p : Int → Int) : onceB p = onceN 9 p := rfl

/-! ### SquareIn -/
theorem SquareIn_l1 (s : List Int) (hn : ninesB s 81 = true) (a : Int) (ha : In9 a) (hr : squareRow s a = true → squareCol s a = true → Ev (fun k => spec_SquareIn.l0 k s (a + 1)) (squareB s)) (n : Nat) :
    ∀ (b : Int), 0 ≤ b → b + n = 9 → (∀ x y : Int, 0 ≤ x → x < y → y < b → rd s (9 * a + x) ≠ rd s (9 * a + y)) → (∀ x y : Int, 0 ≤ x → x < y → y < b → rd s (9 * x + a) ≠ rd s (9 * y + a)) →
      Ev (fun k => spec_SquareIn.l1 k s a (bL 9 (seenO (fun x => rd s (9 * a + x)) b)) (bL 9 (seenO (fun x => rd s (9 * x + a)) b)) b) (squareB s) := by
  have hl := (ninesB_iff.1 hn).1
  obtain ⟨a0, a1⟩ := ha
  induction n with
  | zero =>
    intro b h0 h1 hR hC
    refine Ev.step (fun k => by rw [spec_SquareIn.l1]) ?_
    have z3 : wrap64 (a + 1) = a + 1 := w64 (by omega) (by omega)
    simp only [z3]
    refine Ev.neg (by omega) (hr ?_ ?_)
    · exact onceN_iff.2 fun x y x0 xy y9 => hR x y x0 xy (by omega)
    · exact onceN_iff.2 fun x y x0 xy y9 => hC x y x0 xy (by omega)
  | succ n ih =>
    intro b h0 h1 hR hC
    obtain ⟨r0, r1⟩ := nines_rd hn (i := 9 * a + b) (by omega) (by omega)
    obtain ⟨c0, c1⟩ := nines_rd hn (i := 9 * b + a) (by omega) (by omega)
    have hs1 := bL_seen (n := 9) (fun x => rd s (9 * a + x)) b h0 (rd s (9 * a + b)) r0 rfl
    have hs2 := bL_seen (n := 9) (fun x => rd s (9 * x + a)) b h0 (rd s (9 * b + a)) c0 rfl
    refine Ev.step (fun k => by rw [spec_SquareIn.l1]) ?_
    have z1 : wrap64 (wrap64 (9 * a) + b) = 9 * a + b := by rw [w64 (x := 9 * a) (by omega) (by omega)]; exact w64 (by omega) (by omega)
    have z2 : wrap64 (wrap64 (9 * b) + a) = 9 * b + a := by rw [w64 (x := 9 * b) (by omega) (by omega)]; exact w64 (by omega) (by omega)
    have z3 : wrap64 (b + 1) = b + 1 := w64 (by omega) (by omega)
    have z4 := bL_rd (n := 9) (s := seenO (fun x => rd s (9 * a + x)) b) (rd s (9 * a + b)) r0 r1
    have z5 := bL_rd (n := 9) (s := seenO (fun x => rd s (9 * x + a)) b) (rd s (9 * b + a)) c0 c1
    simp only [z1, z2, z3, bL_length, z4, z5, hs1, hs2]
    refine Ev.pos (by omega) (Ev.pos (by omega) (Ev.pos (by omega) (Ev.pos r0 (Ev.pos (by omega) ?_))))
    by_cases e1 : seenO (fun x => rd s (9 * a + x)) b (rd s (9 * a + b)).toNat = true
    case pos =>
      refine Ev.pos e1 (Ev.done ?_)
      have : squareRow s a = false := seenO_dup (n := 9) (p := fun x => rd s (9 * a + x)) h0 (by omega) r0 e1
      rw [squareB_hit a0 a1 (by rw [this]; rfl)]
    refine Ev.neg e1 (Ev.pos (by omega) (Ev.pos (by omega) (Ev.pos c0 (Ev.pos (by omega) ?_))))
    by_cases e2 : seenO (fun x => rd s (9 * x + a)) b (rd s (9 * b + a)).toNat = true
    case pos =>
      refine Ev.pos e2 (Ev.done ?_)
      have : squareCol s a = false := seenO_dup (n := 9) (p := fun x => rd s (9 * x + a)) h0 (by omega) c0 e2
      rw [squareB_hit a0 a1 (by rw [this, Bool.and_false])]
    refine Ev.neg e2 (ih (b + 1) (by omega) (by omega) ?_ ?_)
    · exact seenO_new (p := fun x => rd s (9 * a + x)) h0 r0 (Bool.eq_false_iff.2 e1) hR
    · exact seenO_new (p := fun x => rd s (9 * x + a)) h0 c0 (Bool.eq_false_iff.2 e2) hC
theorem SquareIn_l0 (s : List Int) (hn : ninesB s 81 = true) (n : Nat) : ∀ (a : Int), 0 ≤ a → a + n = 9 → (∀ x : Int, 0 ≤ x → x < a → squareRow s x = true ∧ squareCol s x = true) → Ev (fun k => spec_SquareIn.l0 k s a) (squareB s) := by
  induction n with
  | zero =>
    intro a h0 h1 h
    refine Ev.step (fun k => by rw [spec_SquareIn.l0]) ?_
    refine Ev.neg (by omega) (Ev.done ?_)
    rw [squareB_all hn fun k k0 k1 => h k k0 (by omega)]
  | succ n ih =>
    intro a h0 h1 h
    refine Ev.step (fun k => by rw [spec_SquareIn.l0]) ?_
    refine Ev.pos (by omega) (Ev.pos (by omega) ?_)
    rw [bL_replicate]
    refine SquareIn_l1 s hn a ⟨h0, by omega⟩ (fun hr hc => ih (a + 1) (by omega) (by omega) fun x x0 x1 => ?_) 9 0 (by omega) (by omega) (fun x y h0 h1 h2 => by omega) (fun x y h0 h1 h2 => by omega)
    by_cases e : x = a
    · rw [e]; exact ⟨hr, hc⟩
    · exact h x x0 (by omega)
theorem SquareIn_ev (s : List Int) (hl : s.length ≤ 1048576) : Ev (fun k => spec_SquareIn.f k s) (squareB s) := by
  unfold spec_SquareIn.f
  refine Ev.bind (l2Table_ev s hl) ?_
  by_cases hn : ninesB s 81 = true
  case neg =>
    refine Ev.neg hn (Ev.done ?_)
    unfold squareB; rw [Bool.eq_false_iff.2 hn]; rfl
  exact Ev.pos hn (SquareIn_l0 s hn 9 0 (by omega) (by omega) (fun x h0 h1 => by omega))

end Go.Proofs.Ytfoadgbffidgaaa.X

namespace Go.Proofs.Ytfoadgbffidgaaa.P
open Go.RowKit Go.Proofs.YtfoadgbffidgaaaW.PrintWords Go.Proofs.YtfoadgbffidgaaaW.PrintLast Go.Proofs.YtfoadgbffidgaaaW.PrintMore
attribute [local go_sem] max2_int min2_int max_two min_two max_three min_three max_four min_four   -- for this text's walks alone
set_option linter.unusedVariables false
set_option linter.unusedSimpArgs false

/-! ### spec_SquareTurned: function 30 -/
def spec_SquareTurned.l0 : Nat → List Int → List Int → Int → Option (List Int × Bool)
  | 0, _, _, _ => none
  | k + 1, x0, x4, x5 => if x5 < 81 then (if 0 ≤ (wrap64 ((wrap64 ((Int.tmod x5 9) * 9)) + (wrap64 (Int.tdiv x5 9)))) then (if (wrap64 ((wrap64 ((Int.tmod x5 9) * 9)) + (wrap64 (Int.tdiv x5 9)))) < (x0.length : Int) then (if x4.length < 17592186044416 then (spec_SquareTurned.l0 k x0 (x4 ++ [rd x0 (wrap64 ((wrap64 ((Int.tmod x5 9) * 9)) + (wrap64 (Int.tdiv x5 9))))]) (wrap64 (x5 + 1))) else (none)) else (none)) else (none)) else (some (x4, true))
def spec_SquareTurned.f (k : Nat) (l0 : List Int) : Option (List Int × Bool) := (some (([] : List Int) : List Int)).bind fun y341 => ((spec_SquareIn.f k l0).bind fun t344 => (if t344 = true then (spec_SquareTurned.l0 k l0 y341 0) else (some (y341, false))))
theorem spec_SquareTurned.mono_l : ∀ k, (∀ y0 y1 y2, LeO (spec_SquareTurned.l0 k y0 y1 y2) (spec_SquareTurned.l0 (k + 1) y0 y1 y2))
  | 0 => fun _ _ _ r h => by simp [spec_SquareTurned.l0] at h
  | k + 1 => by
    have ih0 := spec_SquareTurned.mono_l k
    · intro y0 y1 y2
      unfold spec_SquareTurned.l0
      repeat' first
      | (with_reducible exact ih0 _ _ _)
      | (with_reducible exact spec_SquareIn.mono _ _)
      | (with_reducible exact LeO.refl _)
      | (with_reducible exact LeO.none _)
      | (with_reducible refine LeO.ite ?_ ?_)
      | (with_reducible refine LeO.bind ?_ (fun _ => ?_))
      | exact ih0 _ _ _
      | exact spec_SquareIn.mono _ _
      | exact LeO.none _
      | refine LeO.ite ?_ ?_
      | refine LeO.bind ?_ (fun _ => ?_)
theorem spec_SquareTurned.mono : ∀ a0 k, LeO (spec_SquareTurned.f k a0) (spec_SquareTurned.f (k + 1) a0) := by
  intro a0 k
  have ih0 := spec_SquareTurned.mono_l k
  unfold spec_SquareTurned.f
  repeat' first
      | (with_reducible exact ih0 _ _ _)
      | (with_reducible exact spec_SquareIn.mono _ _)
      | (with_reducible exact LeO.refl _)
      | (with_reducible exact LeO.none _)
      | (with_reducible refine LeO.ite ?_ ?_)
      | (with_reducible refine LeO.bind ?_ (fun _ => ?_))
      | exact ih0 _ _ _
      | exact spec_SquareIn.mono _ _
      | exact LeO.none _
      | refine LeO.ite ?_ ?_
      | refine LeO.bind ?_ (fun _ => ?_)
set_option maxHeartbeats 8000000 in
set_option maxRecDepth 100000 in
theorem spec_SquareTurned.calls (k : Nat) (A0 : Option Addr) (c0 : Nat) (l0 : List Int) (r1 : List Int) (r2 : Bool) (w : World) (hr0 : Kd.C (Kd.int .i64) w A0 l0.length l0) (hc0 : l0.length ≤ c0) (h : spec_SquareTurned.f k l0 = some (r1, r2)) :
    Calls Try.prog 30 #[.slice A0 l0.length c0] w fun e w' => ∃ v0_ : Value, e = .returned (.tuple #[v0_, .bool r2]) ∧ Kd.R (Kd.int .i64) 3 w' w.heap.size (fun _ => True) v0_ r1 ∧ Below w.heap.size w w' := by
  have HR0 := Aside0.mk hr0
  have HC0 := Aside0.mk hc0
  clear hr0 hc0
  have HB := Aside0.mk (Below.refl w.heap.size w)
  have H : ((some (([] : List Int) : List Int)).bind fun y341 => ((spec_SquareIn.f k l0).bind fun t344 => (if t344 = true then (spec_SquareTurned.l0 k l0 y341 0) else (some (y341, false))))) = some (r1, r2) := h
  clear h
  obtain ⟨y341, hy341⟩ : ∃ y_ : List Int, y_ = (([] : List Int)) := ⟨_, rfl⟩
  replace H : ((spec_SquareIn.f k l0).bind fun t344 => (if t344 = true then (spec_SquareTurned.l0 k l0 y341 0) else (some (y341, false)))) = some (r1, r2) := by first | (rw [hy341]; with_reducible exact H) | (have H2_ := (Option.bind_some _ _).symm.trans H; rw [hy341]; with_reducible exact H2_) | (have H2_ := (Option.bind_some _ _).symm.trans H; with_reducible exact H2_) | with_reducible exact H | (rw [hy341]; exact H) | exact H
  have Ny341 := Aside0.mk hy341
  clear hy341
  replace H := Option.bind_eq_some_iff.mp H
  obtain ⟨t344, A20, H⟩ := H
  replace H : (if t344 = true then (spec_SquareTurned.l0 k l0 y341 0) else (some (y341, false))) = some (r1, r2) := H
  have A2 := Aside0.mk A20
  clear A20
  by_cases c3 : t344 = true
  · subst c3
    have H1 : (spec_SquareTurned.l0 k l0 y341 0) = some (r1, r2) := by rw [if_pos rfl] at H; exact H
    clear H
    have H := H1
    clear H1
    have H' := Aside0.mk H
    clear H
    go_enter Try.func30, Try.ntmps30
    go_wp2_with (first | ((with_reducible refine gate_dst (N := 6) rfl ?_); refine Kd.R_lit (Kd.int .i64) _ 3 ?hg (N := 6) ?hd (xs := ([] : List Int)) (inner := []) (ok := fun _ => True) (okp := fun _ => True) ?hr ?hp (fun _ hk => hk) trivial (Below.refl _ _) (Nat.le_refl _) (by simp) ?_; (case hd => rfl); (case hg => rfl); (case hr => first | (go_simp; done) | (go_simp; rfl)); (case hp => exact (Reps.none _ _)); intro v342 w4 ho5 hb hg_ hnew_; clear hg_ hnew_; (first | rw [← Ny341.out] at ho5 | (simp only [Int.reduceToNat] at ho5; rw [← Ny341.out] at ho5)); have n0_ := Aside0.mk (Kd.R_lower ho5 (below_size (by repeat (first | (with_reducible first | exact HB.out | apply below_alloc | apply pw_below_drewN | apply below_drew1) | exact HB.out)))); have n1_ := Aside0.mk (below_step (by repeat (first | (with_reducible first | exact HB.out | apply below_alloc | apply pw_below_drewN | apply below_drew1) | exact HB.out)) hb); clear HB; have HO343 := n0_; have HB := n1_; clear n0_ n1_; clear hb ho5) | ((with_reducible refine gate_callee (f := 34) rfl ?_); refine goesL_ (some 8) rfl rfl Try.func34 (by kernel_rfl) rfl #[.slice A0 l0.length c0] rfl (by (try simp only [List.map_toArray, List.map_cons, List.map_nil]); first | done | rfl | (simp only [List.length_drop, List.length_take]; rfl)) ?_; (with_reducible refine (spec_SquareIn.calls k _ _ l0 true _ ?side1 ?side2 A2.out).mono ?_); (case side1 => repeat (first | exact (Kd.C_below HR0.out HB.out) | (with_reducible refine Kd.C_alloc ?_ _) | (with_reducible refine Kd.C_drewN ?_ _) | (with_reducible refine Kd.C_drew ?_))); (case side2 => exact HC0.out); rintro e w6 ⟨rfl, hb⟩; refine ⟨_, rfl, ?_⟩; have n0_ := Aside0.mk (Kd.R_below (by (with_reducible repeat (first | apply Kd.R_alloc | apply Kd.R_drewN | apply Kd.R_drew)); exact HO343.out) hb); have n1_ := Aside0.mk (below_step (by repeat (first | (with_reducible first | exact HB.out | apply below_alloc | apply pw_below_drewN | apply below_drew1) | exact HB.out)) hb); clear HO343; clear HB; have HO343 := n0_; have HB := n1_; clear n0_ n1_; (try clear hb); (try clear hb2); (try clear hk); (try clear hi)))
    go_loopg [4, 5] k (fun kq v4 v5 w' => ∃ (x4_1 : List Int) (x5_1 : Int), v5 = .int .i64 x5_1 ∧ Aside0 (spec_SquareTurned.l0 kq l0 x4_1 x5_1 = some (r1, r2)) ∧ Aside0 (kq ≤ k) ∧ Aside0 (Kd.R (Kd.int .i64) 3 w' w.heap.size (fun _ => True) v4 x4_1) ∧ Aside0 (Below w.heap.size w w'))
    case atStart => exact ⟨(y341), (0), (by first | rfl | (simp; done) | (simp [*]; done)), H', ⟨Nat.le_refl _⟩, ⟨by (with_reducible repeat (first | apply Kd.R_alloc | apply Kd.R_drewN | apply Kd.R_drew)); exact HO343.out⟩, ⟨by repeat (first | (with_reducible first | exact HB.out | apply below_alloc | apply pw_below_drewN | apply below_drew1) | exact HB.out)⟩⟩
    case round =>
      clear H'
      try clear p2
      try clear c3
      obtain ⟨x4_1, x5_1, rfl, HA, HK1, HO_4, HB⟩ := hrel
      cases gk with
      | zero => exact absurd HA.out (by simp [spec_SquareTurned.l0])
      | succ k1 =>
        have H := HA.out
        clear HA
        simp only [spec_SquareTurned.l0] at H
        by_cases c7 : x5_1 < 81
        · rw [if_pos c7] at H
          have c7b0 : decide (x5_1 < 81) = true := decide_eq_true c7
          clear c7
          obtain ⟨ji8, hji8⟩ : ∃ j_ : Int, (wrap64 ((wrap64 ((Int.tmod x5_1 9) * 9)) + (wrap64 (Int.tdiv x5_1 9)))) = j_ := ⟨_, rfl⟩
          replace H : (if 0 ≤ (ji8) then (if (ji8) < (l0.length : Int) then (if x4_1.length < 17592186044416 then (spec_SquareTurned.l0 k1 l0 (x4_1 ++ [rd l0 (ji8)]) (wrap64 (x5_1 + 1))) else (none)) else (none)) else (none)) = some (r1, r2) := by first | (rw [hji8] at H; exact H) | (simp only [hji8] at H ⊢; exact H)
          have hji8w : (IntKind.i64.wrap ((wrap64 ((Int.tmod x5_1 9) * 9)) + (wrap64 (Int.tdiv x5_1 9)))) = ji8 := (i64_w _).trans hji8
          by_cases c9 : 0 ≤ (ji8)
          · rw [if_pos c9] at H
            have c9b0 : decide (0 ≤ (ji8)) = true := decide_eq_true c9
            clear c9
            by_cases c10 : (ji8) < (l0.length : Int)
            · rw [if_pos c10] at H
              have c10b0 : decide ((ji8) < (l0.length : Int)) = true := decide_eq_true c10
              clear c10
              by_cases c11 : x4_1.length < 17592186044416
              · rw [if_pos c11] at H
                have LMc11 := Aside0.mk c11
                clear c11
                obtain ⟨y346, hy346⟩ : ∃ y_ : List Int, y_ = (x4_1 ++ [rd l0 (ji8)]) := ⟨_, rfl⟩
                replace H : (spec_SquareTurned.l0 k1 l0 y346 (wrap64 (x5_1 + 1))) = some (r1, r2) := by first | (rw [hy346]; with_reducible exact H) | (have H2_ := (Option.bind_some _ _).symm.trans H; rw [hy346]; with_reducible exact H2_) | (have H2_ := (Option.bind_some _ _).symm.trans H; with_reducible exact H2_) | with_reducible exact H | (rw [hy346]; exact H) | exact H
                have Ny346 := Aside0.mk hy346
                clear hy346
                have H' := Aside0.mk H
                clear H
                have p345 : 0 ≤ ((ji8) : Int) := of_decide_eq_true (by first | (with_reducible assumption) | assumption)
                have q345 : (ji8) < (l0.length : Int) := of_decide_eq_true (by first | (with_reducible assumption) | assumption)
                obtain ⟨ad345, e345, hx345_0⟩ := Kd.at_int HR0.out (ji8) p345 q345
                cases e345
                replace hx345_0 := (HB.out.cell (World.block_lt_of_cell? w _ hx345_0)).trans hx345_0
                replace p345 := eq_true p345
                replace q345 := eq_true q345
                go_wp2_with (first | ((with_reducible refine gate_builtin (b := .append) (xs := #[.tmp 15, .tmp 25]) rfl ?_); at_builtin; refine Kd.R_append (Kd.int .i64) (w0 := w) w.heap.size rfl (.tmp 15) (.tmp 25) 27 3 (.int .i64 0) 8 rfl Try.underlying27 info3 rfl (by decide) (by omega) u4 x4_1 (rd l0 (ji8)) [.int .i64 (rd l0 (ji8))] (fun _ => True) (fun _ => False) rfl rfl ?aP (fun _ hk => hk.elim) ?aF ?aO ?aB ?aS ?aL ?_; (case aP => exact rfl); (case aB => exact (by repeat (first | (with_reducible first | exact HB.out | apply below_alloc | apply pw_below_drewN | apply below_drew1) | exact HB.out))); (case aF => exact (fun _ _ => trivial)); (case aO => exact (by (with_reducible repeat (first | apply Kd.R_alloc | apply Kd.R_drewN | apply Kd.R_drew)); exact HO_4.out)); (case aS => exact (below_size (by repeat (first | (with_reducible first | exact HB.out | apply below_alloc | apply pw_below_drewN | apply below_drew1) | exact HB.out)))); (case aL => have := LMc11.out; omega); intro v347 w12 ho hb hg hat; rw [← Ny346.out] at ho; have n0_ := Aside0.mk (hb); have n1_ := Aside0.mk (ho); clear HB; clear HO_4; have HB := n0_; have HO348 := n1_; clear n0_ n1_; clear ho hb hg hat))
                go_roundg k1
                case measure => have := HK1.out; omega
                case rel => exact ⟨(y346), (wrap64 (x5_1 + 1)), (by first | rfl | (simp; done) | (simp [*]; done)), H', ⟨by have := HK1.out; omega⟩, ⟨by (with_reducible repeat (first | apply Kd.R_alloc | apply Kd.R_drewN | apply Kd.R_drew)); exact HO348.out⟩, ⟨by repeat (first | (with_reducible first | exact HB.out | apply below_alloc | apply pw_below_drewN | apply below_drew1) | exact HB.out)⟩⟩
              · rw [if_neg c11] at H
                exact absurd H (by simp)
            · rw [if_neg c10] at H
              exact absurd H (by simp)
          · rw [if_neg c9] at H
            exact absurd H (by simp)
        · rw [if_neg c7] at H
          have c7b0 : decide (x5_1 < 81) = false := decide_eq_false c7
          clear c7
          simp only [Option.some.injEq, Prod.mk.injEq] at H
          obtain ⟨rfl, rfl⟩ := H
          go_wp2
          go_ret2
          exact ⟨_, by first | rfl | (simp [errW_none, errW_some] <;> rfl) | (simp [*, errW_none, errW_some] <;> rfl), by (with_reducible repeat (first | apply Kd.R_alloc | apply Kd.R_drewN | apply Kd.R_drew)); exact HO_4.out, by repeat (first | (with_reducible first | exact HB.out | apply below_alloc | apply pw_below_drewN | apply below_drew1) | exact HB.out)⟩
  · replace c3 := Bool.eq_false_iff.mpr c3
    subst c3
    have H1 : (some (y341, false)) = some (r1, r2) := by rw [if_neg (show ¬ (false = true) by decide)] at H; exact H
    clear H
    have H := H1
    clear H1
    simp only [Option.some.injEq, Prod.mk.injEq] at H
    obtain ⟨rfl, rfl⟩ := H
    go_enter Try.func30, Try.ntmps30
    go_wp2_with (first | ((with_reducible refine gate_dst (N := 6) rfl ?_); refine Kd.R_lit (Kd.int .i64) _ 3 ?hg (N := 6) ?hd (xs := ([] : List Int)) (inner := []) (ok := fun _ => True) (okp := fun _ => True) ?hr ?hp (fun _ hk => hk) trivial (Below.refl _ _) (Nat.le_refl _) (by simp) ?_; (case hd => rfl); (case hg => rfl); (case hr => first | (go_simp; done) | (go_simp; rfl)); (case hp => exact (Reps.none _ _)); intro v342 w13 ho14 hb hg_ hnew_; clear hg_ hnew_; (first | rw [← Ny341.out] at ho14 | (simp only [Int.reduceToNat] at ho14; rw [← Ny341.out] at ho14)); have n0_ := Aside0.mk (Kd.R_lower ho14 (below_size (by repeat (first | (with_reducible first | exact HB.out | apply below_alloc | apply pw_below_drewN | apply below_drew1) | exact HB.out)))); have n1_ := Aside0.mk (below_step (by repeat (first | (with_reducible first | exact HB.out | apply below_alloc | apply pw_below_drewN | apply below_drew1) | exact HB.out)) hb); clear HB; have HO343 := n0_; have HB := n1_; clear n0_ n1_; clear hb ho14) | ((with_reducible refine gate_callee (f := 34) rfl ?_); refine goesL_ (some 8) rfl rfl Try.func34 (by kernel_rfl) rfl #[.slice A0 l0.length c0] rfl (by (try simp only [List.map_toArray, List.map_cons, List.map_nil]); first | done | rfl | (simp only [List.length_drop, List.length_take]; rfl)) ?_; (with_reducible refine (spec_SquareIn.calls k _ _ l0 false _ ?side1 ?side2 A2.out).mono ?_); (case side1 => repeat (first | exact (Kd.C_below HR0.out HB.out) | (with_reducible refine Kd.C_alloc ?_ _) | (with_reducible refine Kd.C_drewN ?_ _) | (with_reducible refine Kd.C_drew ?_))); (case side2 => exact HC0.out); rintro e w15 ⟨rfl, hb⟩; refine ⟨_, rfl, ?_⟩; have n0_ := Aside0.mk (Kd.R_below (by (with_reducible repeat (first | apply Kd.R_alloc | apply Kd.R_drewN | apply Kd.R_drew)); exact HO343.out) hb); have n1_ := Aside0.mk (below_step (by repeat (first | (with_reducible first | exact HB.out | apply below_alloc | apply pw_below_drewN | apply below_drew1) | exact HB.out)) hb); clear HO343; clear HB; have HO343 := n0_; have HB := n1_; clear n0_ n1_; (try clear hb); (try clear hb2); (try clear hk); (try clear hi)))
    go_ret2
    exact ⟨_, by first | rfl | (simp [errW_none, errW_some] <;> rfl) | (simp [*, errW_none, errW_some] <;> rfl), by (with_reducible repeat (first | apply Kd.R_alloc | apply Kd.R_drewN | apply Kd.R_drew)); exact HO343.out, by repeat (first | (with_reducible first | exact HB.out | apply below_alloc | apply pw_below_drewN | apply below_drew1) | exact HB.out)⟩

end Go.Proofs.Ytfoadgbffidgaaa.P

set_option linter.unusedVariables false
set_option linter.unusedSimpArgs false
namespace Go.Proofs.Ytfoadgbffidgaaa.X
open Go.RowKit Go.Proofs.YtfoadgbffidgaaaW.PrintWords Go.Proofs.YtfoadgbffidgaaaW.PrintLast Go.Proofs.Ytfoadgbffidgaaa.P

def turnI (s : List Int) (i : Int) : Int := rd s (i % 9 * 9 + i / 9)
def turnedL (s : List Int) : List Int := mapI 81 (turnI s)
def turnedR (s : List Int) : List Int × Bool := if squareB s = true then (turnedL s, true) else ([], false)
theorem specTurned_l0 (s : List Int) (hl : s.length = 81) (n : Nat) : ∀ (i : Int), 0 ≤ i → i + n = 81 → Ev (fun k => spec_SquareTurned.l0 k s (mapI i.toNat (turnI s)) i) (turnedL s, true) := by
  induction n with
  | zero =>
    intro i h0 h1
    refine Ev.step (fun k => by rw [spec_SquareTurned.l0]) ?_
    refine Ev.neg (by omega) (Ev.done ?_)
    rw [show i.toNat = 81 by omega]; rfl
  | succ n ih =>
    intro i h0 h1
    have hlen : (mapI i.toNat (turnI s)).length = i.toNat := mapI_length _ _
    refine Ev.step (fun k => by rw [spec_SquareTurned.l0]) ?_
    simp (disch := omega) only [w64, tdiv_nn, tmod_nn]
    refine Ev.pos (by omega) (Ev.pos (by omega) (Ev.pos (by omega) (Ev.pos (by omega) ?_)))
    have := ih (i + 1) (by omega) (by omega)
    rw [show (i + 1).toNat = i.toNat + 1 by omega, mapI_succ, Int.toNat_of_nonneg h0] at this
    exact this
theorem specTurned_ev (s : List Int) (hl : s.length ≤ 1048576) : Ev (fun k => spec_SquareTurned.f k s) (turnedR s) := by
  unfold spec_SquareTurned.f turnedR
  refine Ev.fix rfl (Ev.bind (SquareIn_ev s hl) ?_)
  by_cases hs : squareB s = true
  · rw [if_pos hs]
    exact Ev.pos hs (specTurned_l0 s (ninesB_iff.1 (squareB_nines hs)).1 81 0 (by omega) (by omega))
  · rw [if_neg hs]
    exact Ev.neg hs (Ev.done rfl)
theorem implTurned_l1 (s : List Int) (hl : s.length = 81) (x : Int) (x0 : 0 ≤ x) (x1 : x < 9) (hr : Ev (fun k => impl_SquareTurned.l0 k s (mapI (9 * (x + 1)).toNat (turnI s)) (x + 1)) (turnedL s, true)) (n : Nat) :
    ∀ (y : Int), 0 ≤ y → y + n = 9 → Ev (fun k => impl_SquareTurned.l1 k s (mapI (9 * x + y).toNat (turnI s)) x x y) (turnedL s, true) := by
  induction n with
  | zero =>
    intro y h0 h1
    refine Ev.step (fun k => by rw [impl_SquareTurned.l1]) ?_
    simp (disch := omega) only [w64]
    refine Ev.neg (by omega) ?_
    rw [show 9 * x + y = 9 * (x + 1) by omega]
    exact hr
  | succ n ih =>
    intro y h0 h1
    have hlen : (mapI (9 * x + y).toNat (turnI s)).length = (9 * x + y).toNat := mapI_length _ _
    refine Ev.step (fun k => by rw [impl_SquareTurned.l1]) ?_
    simp (disch := omega) only [w64]
    refine Ev.pos (by omega) (Ev.pos (by omega) (Ev.pos (by omega) (Ev.pos (by omega) ?_)))
    have := ih (y + 1) (by omega) (by omega)
    rw [show (9 * x + (y + 1)).toNat = (9 * x + y).toNat + 1 by omega, mapI_succ, Int.toNat_of_nonneg (by omega)] at this
    rw [show turnI s (9 * x + y) = rd s (9 * y + x) by unfold turnI; congr 1; omega] at this
    exact this
theorem implTurned_l0 (s : List Int) (hl : s.length = 81) (n : Nat) : ∀ (x : Int), 0 ≤ x → x + n = 9 → Ev (fun k => impl_SquareTurned.l0 k s (mapI (9 * x).toNat (turnI s)) x) (turnedL s, true) := by
  induction n with
  | zero =>
    intro x h0 h1
    refine Ev.step (fun k => by rw [impl_SquareTurned.l0]) ?_
    refine Ev.neg (by omega) (Ev.done ?_)
    rw [show (9 * x).toNat = 81 by omega]; rfl
  | succ n ih =>
    intro x h0 h1
    refine Ev.step (fun k => by rw [impl_SquareTurned.l0]) ?_
    refine Ev.pos (by omega) ?_
    have := implTurned_l1 s hl x h0 (by omega) (ih (x + 1) (by omega) (by omega)) 9 0 (by omega) (by omega)
    rwa [show 9 * x + 0 = 9 * x by omega] at this
theorem implTurned_ev (s : List Int) : Ev (fun k => impl_SquareTurned.f k s) (turnedR s) := by
  unfold impl_SquareTurned.f turnedR
  refine Ev.fix rfl ?_
  by_cases hs : squareB s = true
  · rw [if_pos hs]
    refine Ev.pos hs (Ev.fix rfl ?_)
    exact implTurned_l0 s (ninesB_iff.1 (squareB_nines hs)).1 9 0 (by omega) (by omega)
  · rw [if_neg hs]
    exact Ev.neg hs (Ev.done rfl)
theorem turnedR_length (s : List Int) : (turnedR s).1.length ≤ 1048576 := by
  unfold turnedR
  by_cases hs : squareB s = true
  · rw [if_pos hs]; show (mapI _ _).length ≤ _; rw [mapI_length]; omega
  · rw [if_neg hs]; exact Nat.zero_le _

end Go.Proofs.Ytfoadgbffidgaaa.X

namespace Go.Proofs.Ytfoadgbffidgaaa.P
open Go.RowKit Go.Proofs.YtfoadgbffidgaaaW.PrintWords Go.Proofs.YtfoadgbffidgaaaW.PrintLast Go.Proofs.YtfoadgbffidgaaaW.PrintMore
attribute [local go_sem] max2_int min2_int max_two min_two max_three min_three max_four min_four   -- for this text's walks alone
set_option linter.unusedVariables false
set_option linter.unusedSimpArgs false

/-! ### impl_SquareOf: function 43 -/
mutual
def impl_SquareOf.j0 : Nat → List Int → Int → Bool → Option (List Int × Bool)
  | 0, _, _, _ => none
  | k + 1, x0, x1, x20 => if x20 = true then (some (([] : List Int), false)) else (impl_SquareOf.l0 k x0 x1 (([] : List Int)) 0)
def impl_SquareOf.l0 : Nat → List Int → Int → List Int → Int → Option (List Int × Bool)
  | 0, _, _, _, _ => none
  | k + 1, x0, x1, x6, x22 => if x22 < 9 then (impl_SquareOf.l1 k x0 x1 x6 x22 x22 0) else (some (x6, true))
def impl_SquareOf.l1 : Nat → List Int → Int → List Int → Int → Int → Int → Option (List Int × Bool)
  | 0, _, _, _, _, _, _ => none
  | k + 1, x0, x1, x6, x7, x22, x25 => if x25 < 9 then (if 0 ≤ (wrap64 ((wrap64 (9 * x7)) + x1)) then (if (wrap64 ((wrap64 (9 * x7)) + x1)) < (x0.length : Int) then ((impl_add.f (rd x0 (wrap64 ((wrap64 (9 * x7)) + x1))) x25).bind fun t557 => (if x6.length < 17592186044416 then (impl_SquareOf.l1 k x0 x1 (x6 ++ [t557]) x7 x22 (wrap64 (x25 + 1))) else (none))) else (none)) else (none)) else (impl_SquareOf.l0 k x0 x1 x6 (wrap64 (x22 + 1)))
end
def impl_SquareOf.f (k : Nat) (l0 : List Int) (a1 : Int) : Option (List Int × Bool) := (impl_isSystem.f l0).bind fun t551 => (if t551 = true then ((impl_isNine.f a1).bind fun t552 => (if t552 = true then (impl_SquareOf.j0 k l0 a1 (a1 == 0)) else (impl_SquareOf.j0 k l0 a1 true))) else (impl_SquareOf.j0 k l0 a1 true))
theorem impl_SquareOf.mono_l : ∀ k, (∀ y0 y1 y2, LeO (impl_SquareOf.j0 k y0 y1 y2) (impl_SquareOf.j0 (k + 1) y0 y1 y2)) ∧ (∀ y0 y1 y2 y3, LeO (impl_SquareOf.l0 k y0 y1 y2 y3) (impl_SquareOf.l0 (k + 1) y0 y1 y2 y3)) ∧ (∀ y0 y1 y2 y3 y4 y5, LeO (impl_SquareOf.l1 k y0 y1 y2 y3 y4 y5) (impl_SquareOf.l1 (k + 1) y0 y1 y2 y3 y4 y5))
  | 0 => ⟨fun _ _ _ r h => by simp [impl_SquareOf.j0] at h, fun _ _ _ _ r h => by simp [impl_SquareOf.l0] at h, fun _ _ _ _ _ _ r h => by simp [impl_SquareOf.l1] at h⟩
  | k + 1 => by
    obtain ⟨ih0, ih1, ih2⟩ := impl_SquareOf.mono_l k
    refine ⟨?_, ?_, ?_⟩
    · intro y0 y1 y2
      unfold impl_SquareOf.j0
      repeat' first
      | (with_reducible exact ih0 _ _ _)
      | (with_reducible exact ih1 _ _ _ _)
      | (with_reducible exact ih2 _ _ _ _ _ _)
      | (with_reducible exact LeO.refl _)
      | (with_reducible exact LeO.none _)
      | (with_reducible refine LeO.ite ?_ ?_)
      | (with_reducible refine LeO.bind ?_ (fun _ => ?_))
      | exact ih0 _ _ _
      | exact ih1 _ _ _ _
      | exact ih2 _ _ _ _ _ _
      | exact LeO.none _
      | refine LeO.ite ?_ ?_
      | refine LeO.bind ?_ (fun _ => ?_)
    · intro y0 y1 y2 y3
      unfold impl_SquareOf.l0
      repeat' first
      | (with_reducible exact ih0 _ _ _)
      | (with_reducible exact ih1 _ _ _ _)
      | (with_reducible exact ih2 _ _ _ _ _ _)
      | (with_reducible exact LeO.refl _)
      | (with_reducible exact LeO.none _)
      | (with_reducible refine LeO.ite ?_ ?_)
      | (with_reducible refine LeO.bind ?_ (fun _ => ?_))
      | exact ih0 _ _ _
      | exact ih1 _ _ _ _
      | exact ih2 _ _ _ _ _ _
      | exact LeO.none _
      | refine LeO.ite ?_ ?_
      | refine LeO.bind ?_ (fun _ => ?_)
    · intro y0 y1 y2 y3 y4 y5
      unfold impl_SquareOf.l1
      repeat' first
      | (with_reducible exact ih0 _ _ _)
      | (with_reducible exact ih1 _ _ _ _)
      | (with_reducible exact ih2 _ _ _ _ _ _)
      | (with_reducible exact LeO.refl _)
      | (with_reducible exact LeO.none _)
      | (with_reducible refine LeO.ite ?_ ?_)
      | (with_reducible refine LeO.bind ?_ (fun _ => ?_))
      | exact ih0 _ _ _
      | exact ih1 _ _ _ _
      | exact ih2 _ _ _ _ _ _
      | exact LeO.none _
      | refine LeO.ite ?_ ?_
      | refine LeO.bind ?_ (fun _ => ?_)
theorem impl_SquareOf.mono : ∀ a0 a1 k, LeO (impl_SquareOf.f k a0 a1) (impl_SquareOf.f (k + 1) a0 a1) := by
  intro a0 a1 k
  obtain ⟨ih0, ih1, ih2⟩ := impl_SquareOf.mono_l k
  unfold impl_SquareOf.f
  repeat' first
      | (with_reducible exact ih0 _ _ _)
      | (with_reducible exact ih1 _ _ _ _)
      | (with_reducible exact ih2 _ _ _ _ _ _)
      | (with_reducible exact LeO.refl _)
      | (with_reducible exact LeO.none _)
      | (with_reducible refine LeO.ite ?_ ?_)
      | (with_reducible refine LeO.bind ?_ (fun _ => ?_))
      | exact ih0 _ _ _
      | exact ih1 _ _ _ _
      | exact ih2 _ _ _ _ _ _
      | exact LeO.none _
      | refine LeO.ite ?_ ?_
      | refine LeO.bind ?_ (fun _ => ?_)
set_option maxHeartbeats 8000000 in
set_option maxRecDepth 100000 in
theorem impl_SquareOf.calls (k : Nat) (A0 : Option Addr) (c0 : Nat) (l0 : List Int) (a1 : Int) (r1 : List Int) (r2 : Bool) (w : World) (hr0 : Kd.C (Kd.int .i64) w A0 l0.length l0) (hc0 : l0.length ≤ c0) (h : impl_SquareOf.f k l0 a1 = some (r1, r2)) :
    Calls Try.prog 43 #[.slice A0 l0.length c0, .int .i64 a1] w fun e w' => ∃ v0_ : Value, e = .returned (.tuple #[v0_, .bool r2]) ∧ Kd.R (Kd.int .i64) 3 w' w.heap.size (fun _ => True) v0_ r1 ∧ Below w.heap.size w w' := by
  have HR0 := Aside0.mk hr0
  have HC0 := Aside0.mk hc0
  clear hr0 hc0
  have HB := Aside0.mk (Below.refl w.heap.size w)
  have H : ((impl_isSystem.f l0).bind fun t551 => (if t551 = true then ((impl_isNine.f a1).bind fun t552 => (if t552 = true then (impl_SquareOf.j0 k l0 a1 (a1 == 0)) else (impl_SquareOf.j0 k l0 a1 true))) else (impl_SquareOf.j0 k l0 a1 true))) = some (r1, r2) := h
  clear h
  have HC3 := Aside0.mk H
  clear H
  go_enter Try.func43, Try.ntmps43
  go_upto_region 1 with (fail)
  go_cut [20] (fun v20 wc => ∃ (kq : Nat) (x20_2 : Bool), v20 = .bool x20_2 ∧ Aside0 (impl_SquareOf.j0 kq l0 a1 x20_2 = some (r1, r2)) ∧ Aside0 (kq ≤ k) ∧ Aside0 (Below w.heap.size w wc))
  case first =>
    have H := HC3.out
    clear HC3
    replace H := Option.bind_eq_some_iff.mp H
    obtain ⟨t551, A40, H⟩ := H
    replace H : (if t551 = true then ((impl_isNine.f a1).bind fun t552 => (if t552 = true then (impl_SquareOf.j0 k l0 a1 (a1 == 0)) else (impl_SquareOf.j0 k l0 a1 true))) else (impl_SquareOf.j0 k l0 a1 true)) = some (r1, r2) := H
    have A4 := Aside0.mk A40
    clear A40
    by_cases c5 : t551 = true
    · subst c5
      have H1 : ((impl_isNine.f a1).bind fun t552 => (if t552 = true then (impl_SquareOf.j0 k l0 a1 (a1 == 0)) else (impl_SquareOf.j0 k l0 a1 true))) = some (r1, r2) := by rw [if_pos rfl] at H; exact H
      clear H
      have H := H1
      clear H1
      replace H := Option.bind_eq_some_iff.mp H
      obtain ⟨t552, A60, H⟩ := H
      replace H : (if t552 = true then (impl_SquareOf.j0 k l0 a1 (a1 == 0)) else (impl_SquareOf.j0 k l0 a1 true)) = some (r1, r2) := H
      have A6 := Aside0.mk A60
      clear A60
      by_cases c7 : t552 = true
      · subst c7
        have H1 : (impl_SquareOf.j0 k l0 a1 (a1 == 0)) = some (r1, r2) := by rw [if_pos rfl] at H; exact H
        clear H
        have H := H1
        clear H1
        have H' := Aside0.mk H
        clear H
        go_wp2_with (first | ((with_reducible refine gate_callee (f := 59) rfl ?_); refine goesL_ (some 10) rfl rfl Try.func59 (by kernel_rfl) rfl #[.slice A0 l0.length c0] rfl (by (try simp only [List.map_toArray, List.map_cons, List.map_nil]); first | done | rfl | (simp only [List.length_drop, List.length_take]; rfl)) ?_; (with_reducible refine (impl_isSystem.calls _ _ l0 true _ ?side1 ?side2 A4.out).mono ?_); (case side1 => repeat (first | exact (Kd.C_below HR0.out HB.out) | (with_reducible refine Kd.C_alloc ?_ _) | (with_reducible refine Kd.C_drewN ?_ _) | (with_reducible refine Kd.C_drew ?_))); (case side2 => exact HC0.out); rintro e w8 ⟨rfl, hb⟩; refine ⟨_, rfl, ?_⟩; have n0_ := Aside0.mk (below_step (by repeat (first | (with_reducible first | exact HB.out | apply below_alloc | apply pw_below_drewN | apply below_drew1) | exact HB.out)) hb); clear HB; have HB := n0_; clear n0_; (try clear hb); (try clear hb2); (try clear hk); (try clear hi)) | (go_at_call 83; (with_reducible refine (impl_isNine.calls a1 true _ A6.out).mono ?_); rintro e w' ⟨rfl, ⟨nd, rfl⟩⟩))
        go_meet
        case rel => exact ⟨_, ((a1 == 0)), (by first | rfl | (simp; done) | (simp [*]; done)), H', ⟨by first | omega | exact Nat.le_refl _⟩, ⟨by repeat (first | (with_reducible first | exact HB.out | apply below_alloc | apply pw_below_drewN | apply below_drew1) | exact HB.out)⟩⟩
      · replace c7 := Bool.eq_false_iff.mpr c7
        subst c7
        have H1 : (impl_SquareOf.j0 k l0 a1 true) = some (r1, r2) := by rw [if_neg (show ¬ (false = true) by decide)] at H; exact H
        clear H
        have H := H1
        clear H1
        have H' := Aside0.mk H
        clear H
        go_wp2_with (first | ((with_reducible refine gate_callee (f := 59) rfl ?_); refine goesL_ (some 10) rfl rfl Try.func59 (by kernel_rfl) rfl #[.slice A0 l0.length c0] rfl (by (try simp only [List.map_toArray, List.map_cons, List.map_nil]); first | done | rfl | (simp only [List.length_drop, List.length_take]; rfl)) ?_; (with_reducible refine (impl_isSystem.calls _ _ l0 true _ ?side1 ?side2 A4.out).mono ?_); (case side1 => repeat (first | exact (Kd.C_below HR0.out HB.out) | (with_reducible refine Kd.C_alloc ?_ _) | (with_reducible refine Kd.C_drewN ?_ _) | (with_reducible refine Kd.C_drew ?_))); (case side2 => exact HC0.out); rintro e w9 ⟨rfl, hb⟩; refine ⟨_, rfl, ?_⟩; have n0_ := Aside0.mk (below_step (by repeat (first | (with_reducible first | exact HB.out | apply below_alloc | apply pw_below_drewN | apply below_drew1) | exact HB.out)) hb); clear HB; have HB := n0_; clear n0_; (try clear hb); (try clear hb2); (try clear hk); (try clear hi)) | (go_at_call 83; (with_reducible refine (impl_isNine.calls a1 false _ A6.out).mono ?_); rintro e w' ⟨rfl, ⟨nd, rfl⟩⟩))
        go_meet
        case rel => exact ⟨_, (true), (by first | rfl | (simp; done) | (simp [*]; done)), H', ⟨by first | omega | exact Nat.le_refl _⟩, ⟨by repeat (first | (with_reducible first | exact HB.out | apply below_alloc | apply pw_below_drewN | apply below_drew1) | exact HB.out)⟩⟩
    · replace c5 := Bool.eq_false_iff.mpr c5
      subst c5
      have H1 : (impl_SquareOf.j0 k l0 a1 true) = some (r1, r2) := by rw [if_neg (show ¬ (false = true) by decide)] at H; exact H
      clear H
      have H := H1
      clear H1
      have H' := Aside0.mk H
      clear H
      go_wp2_with (first | ((with_reducible refine gate_callee (f := 59) rfl ?_); refine goesL_ (some 10) rfl rfl Try.func59 (by kernel_rfl) rfl #[.slice A0 l0.length c0] rfl (by (try simp only [List.map_toArray, List.map_cons, List.map_nil]); first | done | rfl | (simp only [List.length_drop, List.length_take]; rfl)) ?_; (with_reducible refine (impl_isSystem.calls _ _ l0 false _ ?side1 ?side2 A4.out).mono ?_); (case side1 => repeat (first | exact (Kd.C_below HR0.out HB.out) | (with_reducible refine Kd.C_alloc ?_ _) | (with_reducible refine Kd.C_drewN ?_ _) | (with_reducible refine Kd.C_drew ?_))); (case side2 => exact HC0.out); rintro e w10 ⟨rfl, hb⟩; refine ⟨_, rfl, ?_⟩; have n0_ := Aside0.mk (below_step (by repeat (first | (with_reducible first | exact HB.out | apply below_alloc | apply pw_below_drewN | apply below_drew1) | exact HB.out)) hb); clear HB; have HB := n0_; clear n0_; (try clear hb); (try clear hb2); (try clear hk); (try clear hi)))
      go_meet
      case rel => exact ⟨_, (true), (by first | rfl | (simp; done) | (simp [*]; done)), H', ⟨by first | omega | exact Nat.le_refl _⟩, ⟨by repeat (first | (with_reducible first | exact HB.out | apply below_alloc | apply pw_below_drewN | apply below_drew1) | exact HB.out)⟩⟩
  case rest =>
    clear HC3
    try clear p2
    try clear c4
    try clear c5
    try clear c7
    obtain ⟨kq, x20_2, rfl, HA, HJ2, HB⟩ := hcut
    cases kq with
    | zero => exact absurd HA.out (by simp [impl_SquareOf.j0])
    | succ kj2 =>
      have H := HA.out
      clear HA
      simp only [impl_SquareOf.j0] at H
      by_cases c11 : x20_2 = true
      · subst c11
        have H1 : (some (([] : List Int), false)) = some (r1, r2) := by rw [if_pos rfl] at H; exact H
        clear H
        have H := H1
        clear H1
        simp only [Option.some.injEq, Prod.mk.injEq] at H
        obtain ⟨rfl, rfl⟩ := H
        go_wp2
        go_ret2
        exact ⟨_, by first | rfl | (simp [errW_none, errW_some] <;> rfl) | (simp [*, errW_none, errW_some] <;> rfl), by first | exact Kd.R_nil _ _ _ _ _ | exact Kd.N_nil _ _ _ _ _ | exact Kd.V_nil _ _ _ _ _ | exact Kd.Q_nil _ _ _ _ _ | exact Kd.S_nil _ _ _ _ _, by repeat (first | (with_reducible first | exact HB.out | apply below_alloc | apply pw_below_drewN | apply below_drew1) | exact HB.out)⟩
      · replace c11 := Bool.eq_false_iff.mpr c11
        subst c11
        have H1 : (impl_SquareOf.l0 kj2 l0 a1 (([] : List Int)) 0) = some (r1, r2) := by rw [if_neg (show ¬ (false = true) by decide)] at H; exact H
        clear H
        have H := H1
        clear H1
        obtain ⟨y553, hy553⟩ : ∃ y_ : List Int, y_ = (([] : List Int)) := ⟨_, rfl⟩
        replace H : (impl_SquareOf.l0 kj2 l0 a1 y553 0) = some (r1, r2) := by first | (rw [hy553]; with_reducible exact H) | (have H2_ := (Option.bind_some _ _).symm.trans H; rw [hy553]; with_reducible exact H2_) | (have H2_ := (Option.bind_some _ _).symm.trans H; with_reducible exact H2_) | with_reducible exact H | (rw [hy553]; exact H) | exact H
        have Ny553 := Aside0.mk hy553
        clear hy553
        have H' := Aside0.mk H
        clear H
        go_wp2_with (first | ((with_reducible refine gate_dst (N := 21) rfl ?_); refine Kd.R_lit (Kd.int .i64) _ 3 ?hg (N := 21) ?hd (xs := ([] : List Int)) (inner := []) (ok := fun _ => True) (okp := fun _ => True) ?hr ?hp (fun _ hk => hk) trivial (Below.refl _ _) (Nat.le_refl _) (by simp) ?_; (case hd => rfl); (case hg => rfl); (case hr => first | (go_simp; done) | (go_simp; rfl)); (case hp => exact (Reps.none _ _)); intro v554 w12 ho13 hb hg_ hnew_; clear hg_ hnew_; (first | rw [← Ny553.out] at ho13 | (simp only [Int.reduceToNat] at ho13; rw [← Ny553.out] at ho13)); have n0_ := Aside0.mk (Kd.R_lower ho13 (below_size (by repeat (first | (with_reducible first | exact HB.out | apply below_alloc | apply pw_below_drewN | apply below_drew1) | exact HB.out)))); have n1_ := Aside0.mk (below_step (by repeat (first | (with_reducible first | exact HB.out | apply below_alloc | apply pw_below_drewN | apply below_drew1) | exact HB.out)) hb); clear HB; have HO555 := n0_; have HB := n1_; clear n0_ n1_; clear hb ho13))
        go_loopg [6, 22] kj2 (fun kq v6 v22 w' => ∃ (x6_2 : List Int) (x22_2 : Int), v22 = .int .i64 x22_2 ∧ Aside0 (impl_SquareOf.l0 kq l0 a1 x6_2 x22_2 = some (r1, r2)) ∧ Aside0 (kq ≤ kj2) ∧ Aside0 (Kd.R (Kd.int .i64) 3 w' w.heap.size (fun _ => True) v6 x6_2) ∧ Aside0 (Below w.heap.size w w'))
        case atStart => exact ⟨(y553), (0), (by first | rfl | (simp; done) | (simp [*]; done)), H', ⟨Nat.le_refl _⟩, ⟨by (with_reducible repeat (first | apply Kd.R_alloc | apply Kd.R_drewN | apply Kd.R_drew)); exact HO555.out⟩, ⟨by repeat (first | (with_reducible first | exact HB.out | apply below_alloc | apply pw_below_drewN | apply below_drew1) | exact HB.out)⟩⟩
        case round =>
          clear H'
          try clear c1
          try clear p2
          try clear c4
          try clear c5
          try clear c7
          try clear c11
          try clear p2
          obtain ⟨x6_2, x22_2, rfl, HA, HK2, HO_6, HB⟩ := hrel
          cases gk with
          | zero => exact absurd HA.out (by simp [impl_SquareOf.l0])
          | succ k2 =>
            have H := HA.out
            clear HA
            simp only [impl_SquareOf.l0] at H
            by_cases c14 : x22_2 < 9
            · rw [if_pos c14] at H
              have c14b0 : decide (x22_2 < 9) = true := decide_eq_true c14
              clear c14
              have H' := Aside0.mk H
              clear H
              go_wp2
              go_loopg [6, 25] k2 (fun kq v6 v25 w' => ∃ (x6_3 : List Int) (x25_3 : Int), v25 = .int .i64 x25_3 ∧ Aside0 (impl_SquareOf.l1 kq l0 a1 x6_3 x22_2 x22_2 x25_3 = some (r1, r2)) ∧ Aside0 (kq ≤ k2) ∧ Aside0 (Kd.R (Kd.int .i64) 3 w' w.heap.size (fun _ => True) v6 x6_3) ∧ Aside0 (Below w.heap.size w w'))
              case atStart => exact ⟨(x6_2), (0), (by first | rfl | (simp; done) | (simp [*]; done)), H', ⟨Nat.le_refl _⟩, ⟨by (with_reducible repeat (first | apply Kd.R_alloc | apply Kd.R_drewN | apply Kd.R_drew)); exact HO_6.out⟩, ⟨by repeat (first | (with_reducible first | exact HB.out | apply below_alloc | apply pw_below_drewN | apply below_drew1) | exact HB.out)⟩⟩
              case round =>
                clear H'
                try clear c1
                try clear p2
                try clear c4
                try clear c5
                try clear c7
                try clear c11
                try clear c14
                try clear c14b0
                try clear p2
                obtain ⟨x6_3, x25_3, rfl, HA, HK3, HO_6, HB⟩ := hrel
                cases gk with
                | zero => exact absurd HA.out (by simp [impl_SquareOf.l1])
                | succ k3 =>
                  have H := HA.out
                  clear HA
                  simp only [impl_SquareOf.l1] at H
                  by_cases c15 : x25_3 < 9
                  · rw [if_pos c15] at H
                    have c15b0 : decide (x25_3 < 9) = true := decide_eq_true c15
                    clear c15
                    obtain ⟨ji16, hji16⟩ : ∃ j_ : Int, (wrap64 ((wrap64 (9 * x22_2)) + a1)) = j_ := ⟨_, rfl⟩
                    replace H : (if 0 ≤ (ji16) then (if (ji16) < (l0.length : Int) then ((impl_add.f (rd l0 (ji16)) x25_3).bind fun t557 => (if x6_3.length < 17592186044416 then (impl_SquareOf.l1 k3 l0 a1 (x6_3 ++ [t557]) x22_2 x22_2 (wrap64 (x25_3 + 1))) else (none))) else (none)) else (none)) = some (r1, r2) := by first | (rw [hji16] at H; exact H) | (simp only [hji16] at H ⊢; exact H)
                    have hji16w : (IntKind.i64.wrap ((wrap64 (9 * x22_2)) + a1)) = ji16 := (i64_w _).trans hji16
                    by_cases c17 : 0 ≤ (ji16)
                    · rw [if_pos c17] at H
                      have c17b0 : decide (0 ≤ (ji16)) = true := decide_eq_true c17
                      clear c17
                      by_cases c18 : (ji16) < (l0.length : Int)
                      · rw [if_pos c18] at H
                        have c18b0 : decide ((ji16) < (l0.length : Int)) = true := decide_eq_true c18
                        clear c18
                        replace H := Option.bind_eq_some_iff.mp H
                        obtain ⟨t557, A190, H⟩ := H
                        replace H : (if x6_3.length < 17592186044416 then (impl_SquareOf.l1 k3 l0 a1 (x6_3 ++ [t557]) x22_2 x22_2 (wrap64 (x25_3 + 1))) else (none)) = some (r1, r2) := H
                        have A19 := Aside0.mk A190
                        clear A190
                        by_cases c20 : x6_3.length < 17592186044416
                        · rw [if_pos c20] at H
                          have LMc20 := Aside0.mk c20
                          clear c20
                          obtain ⟨y558, hy558⟩ : ∃ y_ : List Int, y_ = (x6_3 ++ [t557]) := ⟨_, rfl⟩
                          replace H : (impl_SquareOf.l1 k3 l0 a1 y558 x22_2 x22_2 (wrap64 (x25_3 + 1))) = some (r1, r2) := by first | (rw [hy558]; with_reducible exact H) | (have H2_ := (Option.bind_some _ _).symm.trans H; rw [hy558]; with_reducible exact H2_) | (have H2_ := (Option.bind_some _ _).symm.trans H; with_reducible exact H2_) | with_reducible exact H | (rw [hy558]; exact H) | exact H
                          have Ny558 := Aside0.mk hy558
                          clear hy558
                          have H' := Aside0.mk H
                          clear H
                          have p556 : 0 ≤ ((ji16) : Int) := of_decide_eq_true (by first | (with_reducible assumption) | assumption)
                          have q556 : (ji16) < (l0.length : Int) := of_decide_eq_true (by first | (with_reducible assumption) | assumption)
                          obtain ⟨ad556, e556, hx556_0⟩ := Kd.at_int HR0.out (ji16) p556 q556
                          cases e556
                          replace hx556_0 := (HB.out.cell (World.block_lt_of_cell? w _ hx556_0)).trans hx556_0
                          replace p556 := eq_true p556
                          replace q556 := eq_true q556
                          go_wp2_with (first | ((with_reducible refine gate_callee (f := 84) rfl ?_); refine goesL_ (some 37) rfl rfl Try.func84 (by kernel_rfl) rfl #[.int .i64 (rd l0 (ji16)), .int .i64 x25_3] rfl (by (try simp only [List.map_toArray, List.map_cons, List.map_nil]); first | done | (simp only [hji16]; rfl) | rfl | (simp only [List.length_drop, List.length_take]; rfl)) ?_; (with_reducible refine (impl_add.calls (rd l0 (ji16)) x25_3 t557 _ A19.out).mono ?_); rintro e w' ⟨rfl, ⟨nd, rfl⟩⟩; refine ⟨_, rfl, ?_⟩) | ((with_reducible refine gate_builtin (b := .append) (xs := #[.tmp 28, .tmp 38]) rfl ?_); at_builtin; refine Kd.R_append (Kd.int .i64) (w0 := w) w.heap.size rfl (.tmp 28) (.tmp 38) 27 3 (.int .i64 0) 8 rfl Try.underlying27 info3 rfl (by decide) (by omega) u6 x6_3 t557 [.int .i64 t557] (fun _ => True) (fun _ => False) rfl rfl ?aP (fun _ hk => hk.elim) ?aF ?aO ?aB ?aS ?aL ?_; (case aP => exact rfl); (case aB => exact (by repeat (first | (with_reducible first | exact HB.out | apply below_alloc | apply pw_below_drewN | apply below_drew1) | exact HB.out))); (case aF => exact (fun _ _ => trivial)); (case aO => exact (by (with_reducible repeat (first | apply Kd.R_alloc | apply Kd.R_drewN | apply Kd.R_drew)); exact HO_6.out)); (case aS => exact (below_size (by repeat (first | (with_reducible first | exact HB.out | apply below_alloc | apply pw_below_drewN | apply below_drew1) | exact HB.out)))); (case aL => have := LMc20.out; omega); intro v559 w21 ho hb hg hat; rw [← Ny558.out] at ho; have n0_ := Aside0.mk (hb); have n1_ := Aside0.mk (ho); clear HB; clear HO_6; have HB := n0_; have HO560 := n1_; clear n0_ n1_; clear ho hb hg hat))
                          go_roundg k3
                          case measure => have := HJ2.out; have := HK2.out; have := HK3.out; omega
                          case rel => exact ⟨(y558), (wrap64 (x25_3 + 1)), (by first | rfl | (simp; done) | (simp [*]; done)), H', ⟨by have := HJ2.out; have := HK2.out; have := HK3.out; omega⟩, ⟨by (with_reducible repeat (first | apply Kd.R_alloc | apply Kd.R_drewN | apply Kd.R_drew)); exact HO560.out⟩, ⟨by repeat (first | (with_reducible first | exact HB.out | apply below_alloc | apply pw_below_drewN | apply below_drew1) | exact HB.out)⟩⟩
                        · rw [if_neg c20] at H
                          exact absurd H (by simp)
                      · rw [if_neg c18] at H
                        exact absurd H (by simp)
                    · rw [if_neg c17] at H
                      exact absurd H (by simp)
                  · rw [if_neg c15] at H
                    have c15b0 : decide (x25_3 < 9) = false := decide_eq_false c15
                    clear c15
                    have H' := Aside0.mk H
                    clear H
                    go_wp2
                    go_roundg k3
                    case measure => have := HJ2.out; have := HK2.out; have := HK3.out; omega
                    case rel => exact ⟨(x6_3), (wrap64 (x22_2 + 1)), (by first | rfl | (simp; done) | (simp [*]; done)), H', ⟨by have := HJ2.out; have := HK2.out; have := HK3.out; omega⟩, ⟨by (with_reducible repeat (first | apply Kd.R_alloc | apply Kd.R_drewN | apply Kd.R_drew)); exact HO_6.out⟩, ⟨by repeat (first | (with_reducible first | exact HB.out | apply below_alloc | apply pw_below_drewN | apply below_drew1) | exact HB.out)⟩⟩
            · rw [if_neg c14] at H
              have c14b0 : decide (x22_2 < 9) = false := decide_eq_false c14
              clear c14
              simp only [Option.some.injEq, Prod.mk.injEq] at H
              obtain ⟨rfl, rfl⟩ := H
              go_wp2
              go_ret2
              exact ⟨_, by first | rfl | (simp [errW_none, errW_some] <;> rfl) | (simp [*, errW_none, errW_some] <;> rfl), by (with_reducible repeat (first | apply Kd.R_alloc | apply Kd.R_drewN | apply Kd.R_drew)); exact HO_6.out, by repeat (first | (with_reducible first | exact HB.out | apply below_alloc | apply pw_below_drewN | apply below_drew1) | exact HB.out)⟩

end Go.Proofs.Ytfoadgbffidgaaa.P

set_option linter.unusedVariables false
set_option linter.unusedSimpArgs false
namespace Go.Proofs.Ytfoadgbffidgaaa.X
open Go.RowKit Go.Proofs.YtfoadgbffidgaaaW.PrintWords Go.Proofs.YtfoadgbffidgaaaW.PrintLast Go.Proofs.Ytfoadgbffidgaaa.P

def sqI (t : List Int) (m i : Int) : Int := addN (rd t (9 * (i / 9) + m)) (i % 9)
def sqOfL (t : List Int) (m : Int) : List Int := mapI 81 (sqI t m)
def isM (m : Int) : Bool := decide (1 ≤ m) && decide (m ≤ 8)
def sqOfR (t : List Int) (m : Int) : List Int × Bool := if (sysB t && isM m) = true then (sqOfL t m, true) else ([], false)
theorem sysB_nines {t : List Int} (h : sysB t = true) : ninesB t 81 = true := by
  unfold sysB at h; exact (Bool.and_eq_true _ _ ▸ h).1
theorem specSqOf_l1 (t : List Int) (hn : ninesB t 81 = true) (m : Int) (hm : In9 m) (x : Int) (x0 : 0 ≤ x) (x1 : x < 9) (hr : Ev (fun k => spec_SquareOf.l0 k t m (mapI (9 * (x + 1)).toNat (sqI t m)) (x + 1)) (sqOfL t m, true)) (n : Nat) :
    ∀ (y : Int), 0 ≤ y → y + n = 9 → Ev (fun k => spec_SquareOf.l1 k t m (mapI (9 * x + y).toNat (sqI t m)) x y) (sqOfL t m, true) := by
  have hl := (ninesB_iff.1 hn).1
  obtain ⟨m0, m1⟩ := hm
  induction n with
  | zero =>
    intro y h0 h1
    refine Ev.step (fun k => by rw [spec_SquareOf.l1]) ?_
    simp (disch := omega) only [w64]
    refine Ev.neg (by omega) ?_
    rw [show 9 * x + y = 9 * (x + 1) by omega]
    exact hr
  | succ n ih =>
    intro y h0 h1
    have hlen : (mapI (9 * x + y).toNat (sqI t m)).length = (9 * x + y).toNat := mapI_length _ _
    have ha := spec_l1Add_eq (rd t (9 * x + m)) y (nines_rd hn (by omega) (by omega)) ⟨h0, by omega⟩
    refine Ev.step (fun k => by rw [spec_SquareOf.l1]) ?_
    simp (disch := omega) only [w64, ha, Option.bind_some]
    refine Ev.pos (by omega) (Ev.pos (by omega) (Ev.pos (by omega) (Ev.pos (by omega) ?_)))
    have := ih (y + 1) (by omega) (by omega)
    rw [show (9 * x + (y + 1)).toNat = (9 * x + y).toNat + 1 by omega, mapI_succ, Int.toNat_of_nonneg (by omega)] at this
    rw [show sqI t m (9 * x + y) = addN (rd t (9 * x + m)) y by unfold sqI; rw [show (9 * x + y) / 9 = x by omega, show (9 * x + y) % 9 = y by omega]] at this
    exact this
theorem specSqOf_l0 (t : List Int) (hn : ninesB t 81 = true) (m : Int) (hm : In9 m) (n : Nat) : ∀ (x : Int), 0 ≤ x → x + n = 9 → Ev (fun k => spec_SquareOf.l0 k t m (mapI (9 * x).toNat (sqI t m)) x) (sqOfL t m, true) := by
  induction n with
  | zero =>
    intro x h0 h1
    refine Ev.step (fun k => by rw [spec_SquareOf.l0]) ?_
    refine Ev.neg (by omega) (Ev.done ?_)
    rw [show (9 * x).toNat = 81 by omega]; rfl
  | succ n ih =>
    intro x h0 h1
    refine Ev.step (fun k => by rw [spec_SquareOf.l0]) ?_
    refine Ev.pos (by omega) ?_
    have := specSqOf_l1 t hn m hm x h0 (by omega) (ih (x + 1) (by omega) (by omega)) 9 0 (by omega) (by omega)
    rwa [show 9 * x + 0 = 9 * x by omega] at this
theorem specSqOf_ev (t : List Int) (hl : t.length ≤ 1048576) (m : Int) : Ev (fun k => spec_SquareOf.f k t m) (sqOfR t m) := by
  unfold spec_SquareOf.f sqOfR
  refine Ev.fix rfl (Ev.bind (SystemIn_ev t hl) ?_)
  by_cases hs : sysB t = true
  case neg =>
    rw [Bool.eq_false_iff.2 hs]
    refine Ev.neg (by simp) ?_
    refine Ev.step (fun k => by rw [spec_SquareOf.j0]) ?_
    exact Ev.pos rfl (Ev.done rfl)
  refine Ev.pos hs (Ev.fix (l6In_eq m 1 8) ?_)
  rw [hs]
  show Ev (fun n => spec_SquareOf.j0 n t m [] !(isM m)) _
  by_cases hm : isM m = true
  · rw [hm]
    refine Ev.step (fun k => by rw [spec_SquareOf.j0]) ?_
    refine Ev.neg (by simp) ?_
    have h := hm
    unfold isM at h
    simp at h
    exact specSqOf_l0 t (sysB_nines hs) m ⟨by omega, by omega⟩ 9 0 (by omega) (by omega)
  · rw [Bool.eq_false_iff.2 hm]
    refine Ev.step (fun k => by rw [spec_SquareOf.j0]) ?_
    exact Ev.pos rfl (Ev.done rfl)
theorem implSqOf_l1 (t : List Int) (hn : ninesB t 81 = true) (m : Int) (hm : In9 m) (x : Int) (x0 : 0 ≤ x) (x1 : x < 9) (hr : Ev (fun k => impl_SquareOf.l0 k t m (mapI (9 * (x + 1)).toNat (sqI t m)) (x + 1)) (sqOfL t m, true)) (n : Nat) :
    ∀ (y : Int), 0 ≤ y → y + n = 9 → Ev (fun k => impl_SquareOf.l1 k t m (mapI (9 * x + y).toNat (sqI t m)) x x y) (sqOfL t m, true) := by
  have hl := (ninesB_iff.1 hn).1
  obtain ⟨m0, m1⟩ := hm
  induction n with
  | zero =>
    intro y h0 h1
    refine Ev.step (fun k => by rw [impl_SquareOf.l1]) ?_
    simp (disch := omega) only [w64]
    refine Ev.neg (by omega) ?_
    rw [show 9 * x + y = 9 * (x + 1) by omega]
    exact hr
  | succ n ih =>
    intro y h0 h1
    have hlen : (mapI (9 * x + y).toNat (sqI t m)).length = (9 * x + y).toNat := mapI_length _ _
    have ha := impl_add_eq (rd t (9 * x + m)) y (nines_rd hn (by omega) (by omega)) ⟨h0, by omega⟩
    refine Ev.step (fun k => by rw [impl_SquareOf.l1]) ?_
    simp (disch := omega) only [w64, ha, Option.bind_some]
    refine Ev.pos (by omega) (Ev.pos (by omega) (Ev.pos (by omega) (Ev.pos (by omega) ?_)))
    have := ih (y + 1) (by omega) (by omega)
    rw [show (9 * x + (y + 1)).toNat = (9 * x + y).toNat + 1 by omega, mapI_succ, Int.toNat_of_nonneg (by omega)] at this
    rw [show sqI t m (9 * x + y) = addN (rd t (9 * x + m)) y by unfold sqI; rw [show (9 * x + y) / 9 = x by omega, show (9 * x + y) % 9 = y by omega]] at this
    exact this
theorem implSqOf_l0 (t : List Int) (hn : ninesB t 81 = true) (m : Int) (hm : In9 m) (n : Nat) : ∀ (x : Int), 0 ≤ x → x + n = 9 → Ev (fun k => impl_SquareOf.l0 k t m (mapI (9 * x).toNat (sqI t m)) x) (sqOfL t m, true) := by
  induction n with
  | zero =>
    intro x h0 h1
    refine Ev.step (fun k => by rw [impl_SquareOf.l0]) ?_
    refine Ev.neg (by omega) (Ev.done ?_)
    rw [show (9 * x).toNat = 81 by omega]; rfl
  | succ n ih =>
    intro x h0 h1
    refine Ev.step (fun k => by rw [impl_SquareOf.l0]) ?_
    refine Ev.pos (by omega) ?_
    have := implSqOf_l1 t hn m hm x h0 (by omega) (ih (x + 1) (by omega) (by omega)) 9 0 (by omega) (by omega)
    rwa [show 9 * x + 0 = 9 * x by omega] at this
theorem implSqOf_ev (t : List Int) (m : Int) : Ev (fun k => impl_SquareOf.f k t m) (sqOfR t m) := by
  unfold impl_SquareOf.f sqOfR
  refine Ev.fix rfl ?_
  by_cases hs : sysB t = true
  case neg =>
    rw [Bool.eq_false_iff.2 hs]
    refine Ev.neg (by simp) ?_
    refine Ev.step (fun k => by rw [impl_SquareOf.j0]) ?_
    exact Ev.pos rfl (Ev.done rfl)
  refine Ev.pos hs (Ev.fix (impl_isNine_eq m) ?_)
  rw [hs]
  by_cases hn : isN m = true
  case neg =>
    have : isM m = false := by
      cases e : isM m with
      | false => rfl
      | true => exact absurd (isN_iff.2 (by unfold isM at e; simp at e; omega)) hn
    rw [this]
    refine Ev.neg hn ?_
    refine Ev.step (fun k => by rw [impl_SquareOf.j0]) ?_
    exact Ev.pos rfl (Ev.done rfl)
  refine Ev.pos hn ?_
  by_cases h0 : m = 0
  · have : isM m = false := by subst h0; rfl
    rw [this, beq_iff_eq.2 h0]
    refine Ev.step (fun k => by rw [impl_SquareOf.j0]) ?_
    exact Ev.pos rfl (Ev.done rfl)
  · have hm := isN_iff.1 hn
    have : isM m = true := by unfold isM; simp; omega
    rw [this, beq_eq_false_iff_ne.2 h0]
    refine Ev.step (fun k => by rw [impl_SquareOf.j0]) ?_
    refine Ev.neg (by simp) ?_
    exact implSqOf_l0 t (sysB_nines hs) m ⟨by omega, by omega⟩ 9 0 (by omega) (by omega)
theorem sqOfR_length (t : List Int) (m : Int) : (sqOfR t m).1.length ≤ 1048576 := by
  unfold sqOfR
  by_cases hs : (sysB t && isM m) = true
  · rw [if_pos hs]; show (mapI _ _).length ≤ _; rw [mapI_length]; omega
  · rw [if_neg hs]; exact Nat.zero_le _

end Go.Proofs.Ytfoadgbffidgaaa.X

set_option linter.unusedVariables false
set_option linter.unusedSimpArgs false
namespace Go.Proofs.Ytfoadgbffidgaaa.X
open Go.RowKit Go.Proofs.YtfoadgbffidgaaaW.PrintWords

theorem turn_at (s : List Int) {x y : Int} (x0 : 0 ≤ x) (x1 : x < 9) (y0 : 0 ≤ y) (y1 : y < 9) : rd (turnedL s) (9 * x + y) = rd s (9 * y + x) := by
  unfold turnedL
  rw [rd_mapI (by omega) (by omega)]
  unfold turnI
  rw [show (9 * x + y) % 9 * 9 + (9 * x + y) / 9 = 9 * y + x by omega]
theorem nines_of {l : List Int} (hl : l.length = 81) (h : ∀ x y : Int, 0 ≤ x → x < 9 → 0 ≤ y → y < 9 → 0 ≤ rd l (9 * x + y) ∧ rd l (9 * x + y) < 9) : ninesB l 81 = true := by
  refine ninesB_iff.2 ⟨hl, fun v hv => ?_⟩
  obtain ⟨i, hi, rfl⟩ := List.mem_iff_getElem.1 hv
  have := h ((i : Int) / 9) ((i : Int) % 9) (by omega) (by omega) (by omega) (by omega)
  rw [show 9 * ((i : Int) / 9) + (i : Int) % 9 = (i : Int) by omega, rd_cast l i hi] at this
  exact this
theorem square_iff {s : List Int} : squareB s = true ↔ ninesB s 81 = true ∧ ∀ k : Int, 0 ≤ k → k < 9 → squareRow s k = true ∧ squareCol s k = true := by
  constructor
  · intro h
    refine ⟨squareB_nines h, fun k k0 k1 => ?_⟩
    unfold squareB at h
    have := allI_int (Bool.and_eq_true _ _ ▸ h).2 k k0 k1
    exact ⟨(Bool.and_eq_true _ _ ▸ this).1, (Bool.and_eq_true _ _ ▸ this).2⟩
  · rintro ⟨hn, h⟩
    exact squareB_all hn h
theorem turned_len (s : List Int) : (turnedL s).length = 81 := mapI_length _ _
theorem turned_square {s : List Int} (h : squareB s = true) : squareB (turnedL s) = true := by
  obtain ⟨hn, h⟩ := square_iff.1 h
  refine square_iff.2 ⟨nines_of (turned_len s) fun x y x0 x1 y0 y1 => ?_, fun k k0 k1 => ⟨?_, ?_⟩⟩
  · rw [turn_at s x0 x1 y0 y1]; exact nines_rd hn (by omega) (by omega)
  · refine onceB_iff.2 fun i j hij hj => ?_
    rw [turn_at s k0 k1 (by omega) (by omega), turn_at s k0 k1 (by omega) (by omega)]
    exact onceB_iff.1 (h k k0 k1).2 i j hij hj
  · refine onceB_iff.2 fun i j hij hj => ?_
    rw [turn_at s (by omega) (by omega) k0 k1, turn_at s (by omega) (by omega) k0 k1]
    exact onceB_iff.1 (h k k0 k1).1 i j hij hj
theorem turned_turned {s : List Int} (hl : s.length = 81) : turnedL (turnedL s) = s := by
  refine ext_rd (by rw [turned_len, hl]) fun i hi => ?_
  rw [turned_len] at hi
  rw [show (i : Int) = 9 * ((i : Int) / 9) + (i : Int) % 9 by omega, turn_at _ (by omega) (by omega) (by omega) (by omega), turn_at _ (by omega) (by omega) (by omega) (by omega)]
theorem square_len {s : List Int} (h : squareB s = true) : s.length = 81 := (ninesB_iff.1 (squareB_nines h)).1

/-! ### squares apart -/
theorem apart_self {s : List Int} : apartB s s = false := by
  cases e : apartB s s with
  | false => rfl
  | true =>
    exfalso
    unfold apartB at e
    simp only [Bool.and_eq_true] at e
    obtain ⟨hs, _, ho⟩ := e
    obtain ⟨hn, h⟩ := square_iff.1 hs
    obtain ⟨x, x0, x1, hx⟩ := once_onto (p := fun x => rd s (9 * 1 + x)) (fun x x0 x1 => nines_rd hn (by omega) (by omega)) (h 1 (by omega) (by omega)).1 (rd s 0) (nines_rd hn (by omega) (by omega)).1 (nines_rd hn (by omega) (by omega)).2
    refine onceN_iff.1 ho 0 (9 * 1 + x) (by omega) (by omega) (by omega) ?_
    unfold pairI
    have hx : rd s (9 * 1 + x) = rd s 0 := hx
    rw [hx]
theorem pair_inj {a b c d : Int} (b0 : 0 ≤ b) (b1 : b < 9) (d0 : 0 ≤ d) (d1 : d < 9) (h : 9 * a + b = 9 * c + d) : a = c ∧ b = d := by omega
theorem apart_iff {a b : List Int} : apartB a b = true ↔ squareB a = true ∧ squareB b = true ∧ ∀ i j : Int, 0 ≤ i → i < j → j < 81 → ¬ (rd a i = rd a j ∧ rd b i = rd b j) := by
  unfold apartB
  simp only [Bool.and_eq_true]
  constructor
  · rintro ⟨ha, hb, ho⟩
    refine ⟨ha, hb, fun i j i0 ij j1 e => onceN_iff.1 ho i j i0 ij j1 ?_⟩
    unfold pairI
    rw [e.1, e.2]
  · rintro ⟨ha, hb, h⟩
    refine ⟨ha, hb, onceN_iff.2 fun i j i0 ij j1 e => ?_⟩
    have hi := nines_rd (squareB_nines hb) i0 (by omega : i < 81)
    have hj := nines_rd (squareB_nines hb) (by omega : 0 ≤ j) j1
    exact h i j i0 ij j1 (pair_inj hi.1 hi.2 hj.1 hj.2 e)
theorem apart_comm {a b : List Int} (h : apartB a b = true) : apartB b a = true := by
  obtain ⟨ha, hb, h⟩ := apart_iff.1 h
  exact apart_iff.2 ⟨hb, ha, fun i j i0 ij j1 e => h i j i0 ij j1 ⟨e.2, e.1⟩⟩
theorem apart_ne {a b : List Int} (h : apartB a b = true) {i j : Int} (i0 : 0 ≤ i) (i1 : i < 81) (j0 : 0 ≤ j) (j1 : j < 81) (hne : i ≠ j) : ¬ (rd a i = rd a j ∧ rd b i = rd b j) := by
  obtain ⟨_, _, h⟩ := apart_iff.1 h
  rcases Int.lt_or_gt_of_ne hne with hl | hg
  · exact h i j i0 hl j1
  · exact fun e => h j i j0 hg i1 ⟨e.1.symm, e.2.symm⟩
theorem apart_turned {a b : List Int} (h : apartB a b = true) : apartB (turnedL a) (turnedL b) = true := by
  obtain ⟨ha, hb, _⟩ := apart_iff.1 h
  refine apart_iff.2 ⟨turned_square ha, turned_square hb, fun i j i0 ij j1 e => ?_⟩
  refine apart_ne h (i := 9 * (i % 9) + i / 9) (j := 9 * (j % 9) + j / 9) (by omega) (by omega) (by omega) (by omega) (by omega) ?_
  have ei : i = 9 * (i / 9) + i % 9 := by omega
  have ej : j = 9 * (j / 9) + j % 9 := by omega
  rw [ei, ej, turn_at _ (by omega) (by omega) (by omega) (by omega), turn_at _ (by omega) (by omega) (by omega) (by omega), turn_at _ (by omega) (by omega) (by omega) (by omega), turn_at _ (by omega) (by omega) (by omega) (by omega)] at e
  exact e

/-! ### squares of systems -/
theorem sqOf_at (t : List Int) (m : Int) {x y : Int} (x0 : 0 ≤ x) (x1 : x < 9) (y0 : 0 ≤ y) (y1 : y < 9) : rd (sqOfL t m) (9 * x + y) = addN (rd t (9 * x + m)) y := by
  unfold sqOfL
  rw [rd_mapI (by omega) (by omega)]
  unfold sqI
  rw [show (9 * x + y) / 9 = x by omega, show (9 * x + y) % 9 = y by omega]
theorem col_inj {t : List Int} (h : sysB t = true) {m x y : Int} (m0 : 1 ≤ m) (m1 : m < 9) (x0 : 0 ≤ x) (x1 : x < 9) (y0 : 0 ≤ y) (y1 : y < 9) (e : rd t (9 * x + m) = rd t (9 * y + m)) : x = y := by
  refine diff_inj h (c := m) (d := 0) (by omega) m1 (by omega) (by omega) (by omega) x0 x1 y0 y1 ?_
  unfold diffI
  rw [e, show 9 * x + 0 = 9 * x by omega, show 9 * y + 0 = 9 * y by omega, (sys_units h x0 x1).2.1, (sys_units h y0 y1).2.1]
theorem addN_cancel_r {a b c : Int} (ha0 : 0 ≤ a) (ha1 : a < 9) (hb0 : 0 ≤ b) (hb1 : b < 9) (hc0 : 0 ≤ c) (hc1 : c < 9) (h : addN b a = addN c a) : b = c := by
  rw [addN_comm b, addN_comm c] at h
  exact addN_cancel ha0 ha1 hb0 hb1 hc0 hc1 h
theorem sqOf_square {t : List Int} (h : sysB t = true) {m : Int} (m0 : 1 ≤ m) (m1 : m ≤ 8) : squareB (sqOfL t m) = true := by
  refine square_iff.2 ⟨nines_of (mapI_length _ _) fun x y x0 x1 y0 y1 => ?_, fun k k0 k1 => ⟨?_, ?_⟩⟩
  · rw [sqOf_at t m x0 x1 y0 y1]; exact addN_range _ _
  · refine onceB_iff.2 fun i j hij hj e => ?_
    rw [sqOf_at t m k0 k1 (by omega) (by omega), sqOf_at t m k0 k1 (by omega) (by omega)] at e
    have hr := sys_range h k0 k1 (by omega : 0 ≤ m) (by omega)
    have := addN_cancel hr.1 hr.2 (by omega) (by omega) (by omega) (by omega) e
    omega
  · refine onceB_iff.2 fun i j hij hj e => ?_
    rw [sqOf_at t m (by omega) (by omega) k0 k1, sqOf_at t m (by omega) (by omega) k0 k1] at e
    have hi := sys_range h (x := (i : Int)) (by omega) (by omega) (by omega : 0 ≤ m) (by omega)
    have hj := sys_range h (x := (j : Int)) (by omega) (by omega) (by omega : 0 ≤ m) (by omega)
    have := col_inj h m0 (by omega) (by omega) (by omega) (by omega) (by omega) (addN_cancel_r k0 k1 hi.1 hi.2 hj.1 hj.2 e)
    omega
theorem two_diff {a b c d y z : Int} (ha : 0 ≤ a ∧ a < 9) (hb : 0 ≤ b ∧ b < 9) (hc : 0 ≤ c ∧ c < 9) (hd : 0 ≤ d ∧ d < 9) (hy : 0 ≤ y ∧ y < 9) (hz : 0 ≤ z ∧ z < 9) (e1 : addN a y = addN c z) (e2 : addN b y = addN d z) : addN a (minusN b) = addN c (minusN d) := by
  have k : ∀ u v w : Int, 0 ≤ u ∧ u < 9 → 0 ≤ v ∧ v < 9 → 0 ≤ w ∧ w < 9 → addN u (minusN v) = addN (addN u w) (minusN (addN v w)) := fun u v w hu hv hw =>
    nine3 (P := fun u v w => addN u (minusN v) = addN (addN u w) (minusN (addN v w))) (by decide +kernel) u v w hu.1 hu.2 hv.1 hv.2 hw.1 hw.2
  rw [k a b y ha hb hy, k c d z hc hd hz, e1, e2]
theorem sqOf_apart {t : List Int} (h : sysB t = true) {m k : Int} (m0 : 1 ≤ m) (m1 : m ≤ 8) (k0 : 1 ≤ k) (k1 : k ≤ 8) (hne : k ≠ m) : apartB (sqOfL t m) (sqOfL t k) = true := by
  refine apart_iff.2 ⟨sqOf_square h m0 m1, sqOf_square h k0 k1, fun i j i0 ij j1 e => ?_⟩
  have ei : i = 9 * (i / 9) + i % 9 := by omega
  have ej : j = 9 * (j / 9) + j % 9 := by omega
  rw [ei, ej, sqOf_at _ _ (by omega) (by omega) (by omega) (by omega), sqOf_at _ _ (by omega) (by omega) (by omega) (by omega), sqOf_at _ _ (by omega) (by omega) (by omega) (by omega), sqOf_at _ _ (by omega) (by omega) (by omega) (by omega)] at e
  have r1 := sys_range h (x := i / 9) (by omega) (by omega) (by omega : 0 ≤ m) (by omega)
  have r2 := sys_range h (x := j / 9) (by omega) (by omega) (by omega : 0 ≤ m) (by omega)
  have r3 := sys_range h (x := i / 9) (by omega) (by omega) (by omega : 0 ≤ k) (by omega)
  have r4 := sys_range h (x := j / 9) (by omega) (by omega) (by omega : 0 ≤ k) (by omega)
  have hd := two_diff r1 r3 r2 r4 (by omega) (by omega) e.1 e.2
  have hx : i / 9 = j / 9 := diff_inj h (by omega) (by omega) (by omega) (by omega) (Ne.symm hne) (by omega) (by omega) (by omega) (by omega) hd
  rw [hx] at e
  have hy := addN_cancel r2.1 r2.2 (by omega) (by omega) (by omega) (by omega) e.1
  omega

end Go.Proofs.Ytfoadgbffidgaaa.X

namespace Go.Proofs.Ytfoadgbffidgaaa.P
open Go.RowKit Go.Proofs.YtfoadgbffidgaaaW.PrintWords Go.Proofs.YtfoadgbffidgaaaW.PrintLast Go.Proofs.YtfoadgbffidgaaaW.PrintMore
attribute [local go_sem] max2_int min2_int max_two min_two max_three min_three max_four min_four   -- for this text's walks alone
set_option linter.unusedVariables false
set_option linter.unusedSimpArgs false

/-! ### spec_l91Nine: function 124 -/
def spec_l91Nine.f (k : Nat) (s0_0 : List Int) (s0_1 : Int) : Option (Int × Int) := (spec_l6Rd_pick.f k s0_0 s0_1 20).bind fun bt528 => (if bt528.1 = 0 then ((some (([(-1), 9] : List Int) : List Int)).bind fun y530 => ((spec_l6Rd_pick.f k s0_0 bt528.2 2).bind fun bt533 => (if 0 ≤ bt533.1 then (if bt533.1 < (y530.length : Int) then (some (rd y530 bt533.1, bt533.2)) else (none)) else (none)))) else ((spec_l6Rd_pick.f k s0_0 bt528.2 9).bind fun bt536 => (some (bt536.1, bt536.2))))
theorem spec_l91Nine.mono : ∀ a0 a1 k, LeO (spec_l91Nine.f k a0 a1) (spec_l91Nine.f (k + 1) a0 a1) := by
  intro a0 a1 k
  unfold spec_l91Nine.f
  repeat' first
      | (with_reducible exact spec_l6Rd_pick.mono _ _ _ _)
      | (with_reducible exact LeO.refl _)
      | (with_reducible exact LeO.none _)
      | (with_reducible refine LeO.ite ?_ ?_)
      | (with_reducible refine LeO.bind ?_ (fun _ => ?_))
      | exact spec_l6Rd_pick.mono _ _ _ _
      | exact LeO.none _
      | refine LeO.ite ?_ ?_
      | refine LeO.bind ?_ (fun _ => ?_)
set_option maxHeartbeats 8000000 in
set_option maxRecDepth 100000 in
theorem spec_l91Nine.calls (k : Nat) (g : Nat) (s0_0 : List Int) (s0_1 : Int) (r1 : Int) (r2 : Int) (w0 w : World) (hI : IsS73 w0 w g s0_0 s0_1) (hB : Below w0.heap.size w0 w) (h : spec_l91Nine.f k s0_0 s0_1 = some (r1, r2)) :
    Calls Try.prog 124 #[.pointer (some ⟨g, 0, none⟩)] w fun e w' => e = .returned (.int .i64 r1) ∧ IsS73 w0 w' g s0_0 r2 ∧ Below w0.heap.size w0 w' ∧ KeepBut w w' g none := by
  have HI0 := Aside0.mk hI
  have HK := Aside0.mk (KeepBut.refl w g none)
  have HL := Aside0.mk hB.size
  clear hI
  have HW0 := Aside0.mk hB.size
  have HB := Aside0.mk hB
  clear hB
  have H : ((spec_l6Rd_pick.f k s0_0 s0_1 20).bind fun bt528 => (if bt528.1 = 0 then ((some (([(-1), 9] : List Int) : List Int)).bind fun y530 => ((spec_l6Rd_pick.f k s0_0 bt528.2 2).bind fun bt533 => (if 0 ≤ bt533.1 then (if bt533.1 < (y530.length : Int) then (some (rd y530 bt533.1, bt533.2)) else (none)) else (none)))) else ((spec_l6Rd_pick.f k s0_0 bt528.2 9).bind fun bt536 => (some (bt536.1, bt536.2))))) = some (r1, r2) := h
  clear h
  replace H := Option.bind_eq_some_iff.mp H
  obtain ⟨⟨t528, t529⟩, A20, H⟩ := H
  replace H : (if t528 = 0 then ((some (([(-1), 9] : List Int) : List Int)).bind fun y530 => ((spec_l6Rd_pick.f k s0_0 t529 2).bind fun bt533 => (if 0 ≤ bt533.1 then (if bt533.1 < (y530.length : Int) then (some (rd y530 bt533.1, bt533.2)) else (none)) else (none)))) else ((spec_l6Rd_pick.f k s0_0 t529 9).bind fun bt536 => (some (bt536.1, bt536.2)))) = some (r1, r2) := H
  have A2 := Aside0.mk A20
  clear A20
  by_cases c3 : t528 = 0
  · rw [if_pos c3] at H
    have c3b0 : (t528 == 0) = true := beq_iff_eq.mpr c3
    have c3b1 : (t528 != 0) = false := bne_eq_false_iff_eq.mpr c3
    clear c3
    obtain ⟨y530, hy530⟩ : ∃ y_ : List Int, y_ = (([(-1), 9] : List Int)) := ⟨_, rfl⟩
    replace H : ((spec_l6Rd_pick.f k s0_0 t529 2).bind fun bt533 => (if 0 ≤ bt533.1 then (if bt533.1 < (y530.length : Int) then (some (rd y530 bt533.1, bt533.2)) else (none)) else (none))) = some (r1, r2) := by first | (rw [hy530]; with_reducible exact H) | (have H2_ := (Option.bind_some _ _).symm.trans H; rw [hy530]; with_reducible exact H2_) | (have H2_ := (Option.bind_some _ _).symm.trans H; with_reducible exact H2_) | with_reducible exact H | (rw [hy530]; exact H) | exact H
    have Ny530 := Aside0.mk hy530
    clear hy530
    replace H := Option.bind_eq_some_iff.mp H
    obtain ⟨⟨t533, t534⟩, A40, H⟩ := H
    replace H : (if 0 ≤ t533 then (if t533 < (y530.length : Int) then (some (rd y530 t533, t534)) else (none)) else (none)) = some (r1, r2) := H
    have A4 := Aside0.mk A40
    clear A40
    by_cases c5 : 0 ≤ t533
    · rw [if_pos c5] at H
      have c5b0 : decide (0 ≤ t533) = true := decide_eq_true c5
      clear c5
      by_cases c6 : t533 < (y530.length : Int)
      · rw [if_pos c6] at H
        have c6b0 : decide (t533 < (y530.length : Int)) = true := decide_eq_true c6
        clear c6
        simp only [Option.some.injEq, Prod.mk.injEq] at H
        obtain ⟨rfl, rfl⟩ := H
        go_enter Try.func124, Try.ntmps124
        go_wp2_with (first | ((with_reducible refine gate_callee (f := 79) rfl ?_); refine goesL_ (some 4) rfl rfl Try.func79 (by kernel_rfl) rfl #[.pointer (some ⟨g, 0, none⟩), .int .i64 20] rfl (by (try simp only [List.map_toArray, List.map_cons, List.map_nil]); first | done | rfl | (simp only [List.length_drop, List.length_take]; rfl)) ?_; (with_reducible refine (spec_l6Rd_pick.calls k g s0_0 s0_1 20 t528 t529 w0 _ ?side1 ?side2 A2.out).mono ?_); (case side1 => repeat (first | (with_reducible first | exact HI0.out | apply IsS73.alloc | apply IsS73.drewN | apply IsS73.drew | apply IsS73.set_1) | exact HI0.out)); (case side2 => repeat (first | (with_reducible first | exact HB.out | apply below_alloc | apply pw_below_drewN | apply below_drew1 | refine below_set ?_ (IsS73.ge HI0.out)) | exact HB.out)); rintro e w7 ⟨rfl, hi, hb, hk⟩; refine ⟨_, rfl, ?_⟩; have n0_ := Aside0.mk (KeepBut.trans (by repeat (first | (with_reducible first | exact HK.out | apply KeepBut.set_ | apply keep_drewN | apply keep_drew | apply keep_alloc) | exact HK.out)) hk (.inl rfl)); have n1_ := Aside0.mk (hb); have n2_ := Aside0.mk (hi); clear HK; clear HB; clear HI0; have HK := n0_; have HB := n1_; have HI0 := n2_; clear n0_ n1_ n2_; (try clear hb); (try clear hb2); (try clear hk); (try clear hi)) | ((with_reducible refine gate_dst (N := 6) rfl ?_); refine Kd.R_lit (Kd.int .i64) _ 3 ?hg (N := 6) ?hd (xs := ([(-1), 9] : List Int)) (inner := [.int .i64 (-1), .int .i64 9]) (ok := fun _ => True) (okp := fun _ => True) ?hr ?hp (fun _ hk => hk) trivial (Below.refl _ _) (Nat.le_refl _) (by simp) ?_; (case hd => rfl); (case hg => rfl); (case hr => first | (go_simp; done) | (go_simp; rfl)); (case hp => exact (Reps.one (show Kd.M (Kd.int .i64) _ _ _ (-1) [.int .i64 (-1)] from rfl) (Reps.one (show Kd.M (Kd.int .i64) _ _ _ 9 [.int .i64 9] from rfl) (Reps.none _ _)))); intro v531 w8 ho9 hb hg_ hnew_; clear hg_ hnew_; (first | rw [← Ny530.out] at ho9 | (simp only [Int.reduceToNat] at ho9; rw [← Ny530.out] at ho9)); have n0_ := Aside0.mk (Kd.R_lower ho9 (keep_size (w := w) (g := g) (row := none) (by repeat (first | (with_reducible first | exact HK.out | apply KeepBut.set_ | apply keep_drewN | apply keep_drew | apply keep_alloc) | exact HK.out)))); have n1_ := Aside0.mk (IsS73.below (by repeat (first | (with_reducible first | exact HI0.out | apply IsS73.alloc | apply IsS73.drewN | apply IsS73.drew | apply IsS73.set_1) | exact HI0.out)) hb); have n2_ := Aside0.mk (KeepBut.trans (by repeat (first | (with_reducible first | exact HK.out | apply KeepBut.set_ | apply keep_drewN | apply keep_drew | apply keep_alloc) | exact HK.out)) (KeepBut.of_below hb g none) (.inl rfl)); have n3_ := Aside0.mk (below_step (by repeat (first | (with_reducible first | exact HB.out | apply below_alloc | apply pw_below_drewN | apply below_drew1 | refine below_set ?_ (IsS73.ge HI0.out)) | exact HB.out)) hb); clear HI0; clear HK; clear HB; have HO532 := n0_; have HI0 := n1_; have HK := n2_; have HB := n3_; clear n0_ n1_ n2_ n3_; clear hb ho9) | ((with_reducible refine gate_callee (f := 79) rfl ?_); refine goesL_ (some 8) rfl rfl Try.func79 (by kernel_rfl) rfl #[.pointer (some ⟨g, 0, none⟩), .int .i64 2] rfl (by (try simp only [List.map_toArray, List.map_cons, List.map_nil]); first | done | rfl | (simp only [List.length_drop, List.length_take]; rfl)) ?_; (with_reducible refine (spec_l6Rd_pick.calls k g s0_0 t529 2 t533 t534 w0 _ ?side1 ?side2 A4.out).mono ?_); (case side1 => repeat (first | (with_reducible first | exact HI0.out | apply IsS73.alloc | apply IsS73.drewN | apply IsS73.drew | apply IsS73.set_1) | exact HI0.out)); (case side2 => repeat (first | (with_reducible first | exact HB.out | apply below_alloc | apply pw_below_drewN | apply below_drew1 | refine below_set ?_ (IsS73.ge HI0.out)) | exact HB.out)); rintro e w10 ⟨rfl, hi, hb, hk⟩; refine ⟨_, rfl, ?_⟩; have n0_ := Aside0.mk (Kd.R_mono (Kd.R_keep (IsS73.apart (show IsS73 w0 _ g s0_0 t529 from by repeat (first | (with_reducible first | exact HI0.out | apply IsS73.alloc | apply IsS73.drewN | apply IsS73.drew | apply IsS73.set_1) | exact HI0.out)) (by (with_reducible repeat (first | apply Kd.R_alloc | apply Kd.R_drewN | apply Kd.R_drew)); exact HO532.out) (by decide)) hk (fun _ h => h.2)) (fun _ h => h.1)); have n1_ := Aside0.mk (KeepBut.trans (by repeat (first | (with_reducible first | exact HK.out | apply KeepBut.set_ | apply keep_drewN | apply keep_drew | apply keep_alloc) | exact HK.out)) hk (.inl rfl)); have n2_ := Aside0.mk (hb); have n3_ := Aside0.mk (hi); clear HO532; clear HK; clear HB; clear HI0; have HO532 := n0_; have HK := n1_; have HB := n2_; have HI0 := n3_; clear n0_ n1_ n2_ n3_; (try clear hb); (try clear hb2); (try clear hk); (try clear hi); obtain ⟨Ao11, co11, eo11⟩ := Kd.R_slice HO532.out; subst eo11; have p535 : 0 ≤ (t533 : Int) := of_decide_eq_true (by first | (with_reducible assumption) | assumption); have q535 : t533 < (y530.length : Int) := of_decide_eq_true (by first | (with_reducible assumption) | assumption); obtain ⟨ad535, e535, hx535_0⟩ := Kd.at_int (Kd.R_reads' HO532.out).2.2 t533 p535 q535; cases e535; replace p535 := eq_true p535; replace q535 := eq_true q535))
        go_ret
        exact ⟨by first | rfl | (simp [errW_none, errW_some] <;> rfl) | (simp [*, errW_none, errW_some] <;> rfl), by repeat (first | (with_reducible first | exact HI0.out | apply IsS73.alloc | apply IsS73.drewN | apply IsS73.drew | apply IsS73.set_1) | exact HI0.out), by repeat (first | (with_reducible first | exact HB.out | apply below_alloc | apply pw_below_drewN | apply below_drew1 | refine below_set ?_ (IsS73.ge HI0.out)) | exact HB.out), by repeat (first | (with_reducible first | exact HK.out | apply KeepBut.set_ | apply keep_drewN | apply keep_drew | apply keep_alloc) | exact HK.out)⟩
      · rw [if_neg c6] at H
        exact absurd H (by simp)
    · rw [if_neg c5] at H
      exact absurd H (by simp)
  · rw [if_neg c3] at H
    have c3b0 : (t528 == 0) = false := beq_eq_false_iff_ne.mpr c3
    have c3b1 : (t528 != 0) = true := bne_iff_ne.mpr c3
    replace H := Option.bind_eq_some_iff.mp H
    obtain ⟨⟨t536, t537⟩, A120, H⟩ := H
    replace H : (some (t536, t537)) = some (r1, r2) := H
    have A12 := Aside0.mk A120
    clear A120
    simp only [Option.some.injEq, Prod.mk.injEq] at H
    obtain ⟨rfl, rfl⟩ := H
    go_enter Try.func124, Try.ntmps124
    go_wp2_with (first | ((with_reducible refine gate_callee (f := 79) rfl ?_); refine goesL_ (some 4) rfl rfl Try.func79 (by kernel_rfl) rfl #[.pointer (some ⟨g, 0, none⟩), .int .i64 20] rfl (by (try simp only [List.map_toArray, List.map_cons, List.map_nil]); first | done | rfl | (simp only [List.length_drop, List.length_take]; rfl)) ?_; (with_reducible refine (spec_l6Rd_pick.calls k g s0_0 s0_1 20 t528 t529 w0 _ ?side1 ?side2 A2.out).mono ?_); (case side1 => repeat (first | (with_reducible first | exact HI0.out | apply IsS73.alloc | apply IsS73.drewN | apply IsS73.drew | apply IsS73.set_1) | exact HI0.out)); (case side2 => repeat (first | (with_reducible first | exact HB.out | apply below_alloc | apply pw_below_drewN | apply below_drew1 | refine below_set ?_ (IsS73.ge HI0.out)) | exact HB.out)); rintro e w13 ⟨rfl, hi, hb, hk⟩; refine ⟨_, rfl, ?_⟩; have n0_ := Aside0.mk (KeepBut.trans (by repeat (first | (with_reducible first | exact HK.out | apply KeepBut.set_ | apply keep_drewN | apply keep_drew | apply keep_alloc) | exact HK.out)) hk (.inl rfl)); have n1_ := Aside0.mk (hb); have n2_ := Aside0.mk (hi); clear HK; clear HB; clear HI0; have HK := n0_; have HB := n1_; have HI0 := n2_; clear n0_ n1_ n2_; (try clear hb); (try clear hb2); (try clear hk); (try clear hi)) | ((with_reducible refine gate_callee (f := 79) rfl ?_); refine goesL_ (some 12) rfl rfl Try.func79 (by kernel_rfl) rfl #[.pointer (some ⟨g, 0, none⟩), .int .i64 9] rfl (by (try simp only [List.map_toArray, List.map_cons, List.map_nil]); first | done | rfl | (simp only [List.length_drop, List.length_take]; rfl)) ?_; (with_reducible refine (spec_l6Rd_pick.calls k g s0_0 t529 9 t536 t537 w0 _ ?side1 ?side2 A12.out).mono ?_); (case side1 => repeat (first | (with_reducible first | exact HI0.out | apply IsS73.alloc | apply IsS73.drewN | apply IsS73.drew | apply IsS73.set_1) | exact HI0.out)); (case side2 => repeat (first | (with_reducible first | exact HB.out | apply below_alloc | apply pw_below_drewN | apply below_drew1 | refine below_set ?_ (IsS73.ge HI0.out)) | exact HB.out)); rintro e w14 ⟨rfl, hi, hb, hk⟩; refine ⟨_, rfl, ?_⟩; have n0_ := Aside0.mk (KeepBut.trans (by repeat (first | (with_reducible first | exact HK.out | apply KeepBut.set_ | apply keep_drewN | apply keep_drew | apply keep_alloc) | exact HK.out)) hk (.inl rfl)); have n1_ := Aside0.mk (hb); have n2_ := Aside0.mk (hi); clear HK; clear HB; clear HI0; have HK := n0_; have HB := n1_; have HI0 := n2_; clear n0_ n1_ n2_; (try clear hb); (try clear hb2); (try clear hk); (try clear hi)))
    go_ret
    exact ⟨by first | rfl | (simp [errW_none, errW_some] <;> rfl) | (simp [*, errW_none, errW_some] <;> rfl), by repeat (first | (with_reducible first | exact HI0.out | apply IsS73.alloc | apply IsS73.drewN | apply IsS73.drew | apply IsS73.set_1) | exact HI0.out), by repeat (first | (with_reducible first | exact HB.out | apply below_alloc | apply pw_below_drewN | apply below_drew1 | refine below_set ?_ (IsS73.ge HI0.out)) | exact HB.out), by repeat (first | (with_reducible first | exact HK.out | apply KeepBut.set_ | apply keep_drewN | apply keep_drew | apply keep_alloc) | exact HK.out)⟩

end Go.Proofs.Ytfoadgbffidgaaa.P

set_option linter.unusedVariables false
set_option linter.unusedSimpArgs false
namespace Go.Proofs.Ytfoadgbffidgaaa.X
open Go.RowKit Go.Proofs.YtfoadgbffidgaaaW.PrintWords Go.Proofs.YtfoadgbffidgaaaW.PrintLast Go.Proofs.Ytfoadgbffidgaaa.P

/-- What a reader reads. -/
def RdS (s : List Int) : Prop := s.length ≤ 2000 ∧ ∀ x ∈ s, 0 ≤ x ∧ x ≤ 255
theorem u8_range {x : Int} (h : (Lit.int .u8 x).wf = true) : 0 ≤ x ∧ x ≤ 255 := by
  simp [Lit.wf, IntKind.min, IntKind.max, IntKind.signed, IntKind.bits] at h
  omega
theorem open_ev (l : List Int) (h : ∀ x ∈ l, (Lit.int .u8 x).wf = true) : ∃ s, RdS s ∧ spec_l6Open.f l = some (s, 0) := by
  unfold spec_l6Open.f
  by_cases hl : (l.length : Int) > 2000
  · rw [if_pos hl, if_pos (by omega)]
    exact ⟨_, ⟨by rw [List.length_take]; omega, fun x hx => u8_range (h x (List.mem_of_mem_take hx))⟩, rfl⟩
  · rw [if_neg hl]
    exact ⟨_, ⟨by omega, fun x hx => u8_range (h x hx)⟩, rfl⟩
theorem xor_nn {a b : Int} (h0 : 0 ≤ a) (h1 : a < 9223372036854775808) (h2 : 0 ≤ b) (h3 : b < 9223372036854775808) : 0 ≤ Go.bits .xor .i64 a b := by
  obtain ⟨x, rfl⟩ := Int.eq_ofNat_of_zero_le h0
  obtain ⟨y, rfl⟩ := Int.eq_ofNat_of_zero_le h2
  have hx : x ^^^ y < 2 ^ 63 := Nat.xor_lt_two_pow (by omega) (by omega)
  have e1 : (BitVec.ofInt 64 (x : Int)).toNat = x := by
    rw [BitVec.ofInt_natCast, BitVec.toNat_ofNat]; exact Nat.mod_eq_of_lt (by omega)
  have e2 : (BitVec.ofInt 64 (y : Int)).toNat = y := by
    rw [BitVec.ofInt_natCast, BitVec.toNat_ofNat]; exact Nat.mod_eq_of_lt (by omega)
  have e : Go.bits .xor .i64 (x : Int) (y : Int) = IntKind.i64.wrap ((BitVec.ofInt 64 (x : Int) ^^^ BitVec.ofInt 64 (y : Int)).toNat : Int) := rfl
  rw [e, BitVec.toNat_xor, e1, e2]
  generalize x ^^^ y = z at hx
  simp [IntKind.wrap, IntKind.bits, IntKind.signed]
  omega
theorem tmod_range {a n : Int} (h : 0 ≤ a) (hn : 1 ≤ n) : 0 ≤ Int.tmod a n ∧ Int.tmod a n < n := by
  rw [tmod_nn h]
  exact ⟨Int.emod_nonneg _ (by omega), Int.emod_lt_of_pos _ (by omega)⟩
theorem rd_byte {s : List Int} (hs : RdS s) {i : Int} (h0 : 0 ≤ i) (h1 : i < s.length) : 0 ≤ rd s i ∧ rd s i ≤ 255 := hs.2 _ (rd_mem h1 h0)
theorem pick_j0 (s : List Int) (hs : RdS s) (p : Int) (h0 : 0 ≤ p) (h1 : p ≤ 1099511627776) (n : Int) (n0 : 1 ≤ n) (n1 : n ≤ 1000000) :
    ∃ v, (0 ≤ v ∧ v < n) ∧ Ev (fun k => spec_l6Rd_pick.j0 k n ((s.length : Int) == 0) s (p + 1)) (v, p + 1) := by
  have hl := hs.1
  by_cases e : s.length = 0
  · refine ⟨0, by omega, ?_⟩
    refine Ev.step (fun k => by rw [spec_l6Rd_pick.j0]) ?_
    refine Ev.pos (by rw [e]; rfl) (Ev.done rfl)
  have ez : wrap64 (p + 1 - 1) = p := by rw [w64 (by omega) (by omega)]; omega
  have er : ∀ i : Int, 0 ≤ i → i < s.length → wrap64 (rd s i) = rd s i := fun i i0 i1 => by
    have := rd_byte hs i0 i1; exact w64 (by omega) (by omega)
  by_cases hp : p < s.length
  · obtain ⟨b0, b1⟩ := rd_byte hs h0 hp
    refine ⟨Int.tmod (rd s p) n, tmod_range b0 n0, ?_⟩
    refine Ev.step (fun k => by rw [spec_l6Rd_pick.j0]) ?_
    rw [ez]
    refine Ev.neg (by simp; intro hh; apply e; simp [hh]) (Ev.pos hp (Ev.pos h0 (Ev.neg (by omega) ?_)))
    rw [er p h0 hp]
    exact Ev.done rfl
  · have hL : (1 : Int) ≤ s.length := by omega
    have ha : 0 ≤ p % (s.length : Int) ∧ p % (s.length : Int) < s.length := ⟨Int.emod_nonneg _ (by omega), Int.emod_lt_of_pos _ (by omega)⟩
    have hb : 0 ≤ (p * 7 + 3) % (s.length : Int) ∧ (p * 7 + 3) % (s.length : Int) < s.length := ⟨Int.emod_nonneg _ (by omega), Int.emod_lt_of_pos _ (by omega)⟩
    have hd : 0 ≤ p / (s.length : Int) ∧ p / (s.length : Int) ≤ p := ⟨Int.ediv_nonneg h0 (by omega), Int.ediv_le_self _ h0⟩
    obtain ⟨a0, a1⟩ := rd_byte hs ha.1 ha.2
    obtain ⟨b0, b1⟩ := rd_byte hs hb.1 hb.2
    have ea := er _ ha.1 ha.2
    have eb := er _ hb.1 hb.2
    have e7 : wrap64 (wrap64 (p * 7) + 3) = p * 7 + 3 := by rw [w64 (x := p * 7) (by omega) (by omega), w64 (by omega) (by omega)]
    have em : Int.tmod p (s.length : Int) = p % (s.length : Int) := tmod_nn h0
    have en : Int.tmod (p * 7 + 3) (s.length : Int) = (p * 7 + 3) % (s.length : Int) := tmod_nn (by omega)
    have ed : Int.tdiv p (s.length : Int) = p / (s.length : Int) := tdiv_nn h0
    generalize hA : rd s (p % (s.length : Int)) = A at *
    generalize hB : rd s ((p * 7 + 3) % (s.length : Int)) = B at *
    generalize hD : p / (s.length : Int) = D at *
    have eX : wrap64 (wrap64 (wrap64 (wrap64 (A * 131) + wrap64 (B * 1117)) + wrap64 (p * 29)) + wrap64 (wrap64 D * 53)) = A * 131 + B * 1117 + p * 29 + D * 53 := by
      rw [w64 (x := A * 131) (by omega) (by omega), w64 (x := B * 1117) (by omega) (by omega), w64 (x := A * 131 + B * 1117) (by omega) (by omega), w64 (x := p * 29) (by omega) (by omega), w64 (x := D) (by omega) (by omega), w64 (x := D * 53) (by omega) (by omega), w64 (x := A * 131 + B * 1117 + p * 29) (by omega) (by omega), w64 (by omega) (by omega)]
    have hX0 : 0 ≤ A * 131 + B * 1117 + p * 29 + D * 53 := by omega
    have hX1 : A * 131 + B * 1117 + p * 29 + D * 53 ≤ 9223372036854775807 := by omega
    generalize A * 131 + B * 1117 + p * 29 + D * 53 = X at *
    have eY : wrap64 (Int.tdiv X 64) = X / 64 := by rw [tdiv_nn hX0]; exact w64 (by omega) (by omega)
    refine ⟨Int.tmod (Go.bits .xor .i64 X (X / 64)) n, tmod_range (xor_nn hX0 (by omega) (by omega) (by omega)) n0, ?_⟩
    refine Ev.step (fun k => by rw [spec_l6Rd_pick.j0]) ?_
    rw [ez]
    refine Ev.neg (by simp; intro hh; apply e; simp [hh]) (Ev.neg hp (Ev.neg (by omega) ?_))
    rw [e7, em, en, ed, hA, hB, ea, eb, eX, eY]
    exact Ev.pos ha.1 (Ev.pos ha.2 (Ev.pos hb.1 (Ev.pos hb.2 (Ev.neg (by omega) (Ev.done rfl)))))
/-- A number from 0 to n - 1, and the reader is one further. -/
theorem pick_ev {s : List Int} (hs : RdS s) {p : Int} (h0 : 0 ≤ p) (h1 : p ≤ 1099511627776) {n : Int} (n0 : 1 ≤ n) (n1 : n ≤ 1000000) :
    ∃ v, (0 ≤ v ∧ v < n) ∧ Ev (fun k => spec_l6Rd_pick.f k s p n) (v, p + 1) := by
  obtain ⟨v, hv, he⟩ := pick_j0 s hs p h0 h1 n n0 n1
  refine ⟨v, hv, ?_⟩
  unfold spec_l6Rd_pick.f
  rw [w64 (by omega) (by omega)]
  exact Ev.neg (by omega) he

theorem nine_ev {s : List Int} (hs : RdS s) {p : Int} (h0 : 0 ≤ p) (h1 : p ≤ 1099511000000) : ∃ v q, (-1 ≤ v ∧ v ≤ 9) ∧ (p ≤ q ∧ q ≤ p + 2) ∧ Ev (fun k => spec_l91Nine.f k s p) (v, q) := by
  obtain ⟨a, ha, ea⟩ := pick_ev hs h0 (by omega) (n := 20) (by omega) (by omega)
  obtain ⟨b, hb, eb⟩ := pick_ev hs (p := p + 1) (by omega) (by omega) (n := 2) (by omega) (by omega)
  obtain ⟨c, hc, ec⟩ := pick_ev hs (p := p + 1) (by omega) (by omega) (n := 9) (by omega) (by omega)
  by_cases e : a = 0
  · refine ⟨rd [-1, 9] b, p + 1 + 1, ?_, by omega, ?_⟩
    · have : b = 0 ∨ b = 1 := by omega
      rcases this with rfl | rfl <;> decide
    · unfold spec_l91Nine.f
      refine Ev.bind ea (Ev.pos e (Ev.fix rfl (Ev.bind eb ?_)))
      exact Ev.pos hb.1 (Ev.pos hb.2 (Ev.done rfl))
  · refine ⟨c, p + 1 + 1, by omega, by omega, ?_⟩
    unfold spec_l91Nine.f
    exact Ev.bind ea (Ev.neg e (Ev.bind ec (Ev.done rfl)))

/-! ### The five tables -/
def kindL (c : Int) : List Int := (spec_l2Of.f 300 c).getD []
theorem five {P : Int → Prop} (h : ∀ i : Fin 5, P (i.val : Int)) (a : Int) (h0 : 0 ≤ a) (h1 : a < 5) : P a := by
  have := h ⟨a.toNat, by omega⟩
  simpa [Int.toNat_of_nonneg h0] using this
theorem kindL_some : ∀ i : Fin 5, spec_l2Of.f 300 (i.val : Int) = some (kindL (i.val : Int)) := by decide +kernel
theorem kindL_nines : ∀ i : Fin 5, ninesB (kindL (i.val : Int)) 81 = true := by decide +kernel
theorem kind_ev (c : Int) (h0 : 0 ≤ c) (h1 : c < 5) : Ev (fun k => spec_l2Of.f k c) (kindL c) :=
  Ev.of (fun k => spec_l2Of.mono c k) (five (P := fun c => spec_l2Of.f 300 c = some (kindL c)) kindL_some c h0 h1)
theorem kind_nines (c : Int) (h0 : 0 ≤ c) (h1 : c < 5) : ninesB (kindL c) 81 = true := five (P := fun c => ninesB (kindL c) 81 = true) kindL_nines c h0 h1
/-- What is drawn for a system: a kind's table, that with one entry set, or too short. -/
def DrawnT (t : List Int) : Prop := ∃ c : Int, 0 ≤ c ∧ c < 5 ∧ (t = kindL c ∨ (∃ i v : Int, 0 ≤ i ∧ i < 81 ∧ 0 ≤ v ∧ v < 9 ∧ t = (kindL c).set i.toNat v) ∨ t = (kindL c).take 80)
theorem DrawnT.len {t : List Int} (h : DrawnT t) : t.length ≤ 81 := by
  obtain ⟨c, c0, c1, h⟩ := h
  have hl := (ninesB_iff.1 (kind_nines c c0 c1)).1
  rcases h with rfl | ⟨i, v, _, _, _, _, rfl⟩ | rfl
  · omega
  · rw [List.length_set]; omega
  · rw [List.length_take]; omega
theorem system_ev {s : List Int} (hs : RdS s) {p : Int} (h0 : 0 ≤ p) (h1 : p ≤ 1099511000000) : ∃ t q, DrawnT t ∧ (p ≤ q ∧ q ≤ p + 5) ∧ Ev (fun k => spec_l91System.f k s p) (t, q) := by
  obtain ⟨c, hc, ec⟩ := pick_ev hs h0 (by omega) (n := 5) (by omega) (by omega)
  obtain ⟨a, ha, ea⟩ := pick_ev hs (p := p + 1) (by omega) (by omega) (n := 30) (by omega) (by omega)
  obtain ⟨i, hi, ei⟩ := pick_ev hs (p := p + 1 + 1) (by omega) (by omega) (n := 9) (by omega) (by omega)
  obtain ⟨j, hj, ej⟩ := pick_ev hs (p := p + 1 + 1 + 1) (by omega) (by omega) (n := 9) (by omega) (by omega)
  obtain ⟨v, hv, ev⟩ := pick_ev hs (p := p + 1 + 1 + 1 + 1) (by omega) (by omega) (n := 9) (by omega) (by omega)
  have hl := (ninesB_iff.1 (kind_nines c hc.1 hc.2)).1
  have ew : wrap64 (wrap64 (9 * i) + j) = 9 * i + j := by rw [w64 (x := 9 * i) (by omega) (by omega), w64 (by omega) (by omega)]
  by_cases e : a = 0
  · refine ⟨(kindL c).set (9 * i + j).toNat v, p + 1 + 1 + 1 + 1 + 1, ⟨c, hc.1, hc.2, .inr (.inl ⟨9 * i + j, v, by omega, by omega, hv.1, hv.2, rfl⟩)⟩, by omega, ?_⟩
    unfold spec_l91System.f
    refine Ev.bind ec (Ev.bind (kind_ev c hc.1 hc.2) (Ev.bind ea (Ev.pos e (Ev.bind ei (Ev.bind ej (Ev.bind ev ?_))))))
    dsimp only
    rw [ew]
    exact Ev.pos (by omega) (Ev.pos (by omega) (Ev.done rfl))
  by_cases e1 : a = 1
  · refine ⟨(kindL c).take 80, p + 1 + 1, ⟨c, hc.1, hc.2, .inr (.inr rfl)⟩, by omega, ?_⟩
    unfold spec_l91System.f
    refine Ev.bind ec (Ev.bind (kind_ev c hc.1 hc.2) (Ev.bind ea (Ev.neg e (Ev.pos e1 (Ev.pos ?_ (Ev.done rfl))))))
    omega
  · refine ⟨kindL c, p + 1 + 1, ⟨c, hc.1, hc.2, .inl rfl⟩, by omega, ?_⟩
    unfold spec_l91System.f
    exact Ev.bind ec (Ev.bind (kind_ev c hc.1 hc.2) (Ev.bind ea (Ev.neg e (Ev.neg e1 (Ev.done rfl)))))

end Go.Proofs.Ytfoadgbffidgaaa.X

namespace Go.Proofs.Ytfoadgbffidgaaa.P
open Go.RowKit Go.Proofs.YtfoadgbffidgaaaW.PrintWords Go.Proofs.YtfoadgbffidgaaaW.PrintLast Go.Proofs.YtfoadgbffidgaaaW.PrintMore
attribute [local go_sem] max2_int min2_int max_two min_two max_three min_three max_four min_four   -- for this text's walks alone
set_option linter.unusedVariables false
set_option linter.unusedSimpArgs false

/-! ### laws_sameInts: function 31 -/
def laws_sameInts.l0 : Nat → List Int → List Int → Int → Option (Bool)
  | 0, _, _, _ => none
  | k + 1, x0, x1, x5 => if x5 < (x0.length : Int) then (if 0 ≤ x5 then (if x5 < (x1.length : Int) then (if (rd x0 x5) = (rd x1 x5) then (laws_sameInts.l0 k x0 x1 (wrap64 (x5 + 1))) else (some false)) else (none)) else (none)) else (some true)
def laws_sameInts.f (k : Nat) (l0 : List Int) (l1 : List Int) : Option (Bool) := if (l0.length : Int) = (l1.length : Int) then (laws_sameInts.l0 k l0 l1 0) else (some false)
theorem laws_sameInts.mono_l : ∀ k, (∀ y0 y1 y2, LeO (laws_sameInts.l0 k y0 y1 y2) (laws_sameInts.l0 (k + 1) y0 y1 y2))
  | 0 => fun _ _ _ r h => by simp [laws_sameInts.l0] at h
  | k + 1 => by
    have ih0 := laws_sameInts.mono_l k
    · intro y0 y1 y2
      unfold laws_sameInts.l0
      repeat' first
      | (with_reducible exact ih0 _ _ _)
      | (with_reducible exact LeO.refl _)
      | (with_reducible exact LeO.none _)
      | (with_reducible refine LeO.ite ?_ ?_)
      | (with_reducible refine LeO.bind ?_ (fun _ => ?_))
      | exact ih0 _ _ _
      | exact LeO.none _
      | refine LeO.ite ?_ ?_
      | refine LeO.bind ?_ (fun _ => ?_)
theorem laws_sameInts.mono : ∀ a0 a1 k, LeO (laws_sameInts.f k a0 a1) (laws_sameInts.f (k + 1) a0 a1) := by
  intro a0 a1 k
  have ih0 := laws_sameInts.mono_l k
  unfold laws_sameInts.f
  repeat' first
      | (with_reducible exact ih0 _ _ _)
      | (with_reducible exact LeO.refl _)
      | (with_reducible exact LeO.none _)
      | (with_reducible refine LeO.ite ?_ ?_)
      | (with_reducible refine LeO.bind ?_ (fun _ => ?_))
      | exact ih0 _ _ _
      | exact LeO.none _
      | refine LeO.ite ?_ ?_
      | refine LeO.bind ?_ (fun _ => ?_)
set_option maxHeartbeats 8000000 in
set_option maxRecDepth 100000 in
theorem laws_sameInts.calls (k : Nat) (A0 : Option Addr) (c0 : Nat) (l0 : List Int) (A1 : Option Addr) (c1 : Nat) (l1 : List Int) (r : Bool) (w : World) (hr0 : Kd.C (Kd.int .i64) w A0 l0.length l0) (hc0 : l0.length ≤ c0) (hr1 : Kd.C (Kd.int .i64) w A1 l1.length l1) (hc1 : l1.length ≤ c1) (h : laws_sameInts.f k l0 l1 = some r) :
    Calls Try.prog 31 #[.slice A0 l0.length c0, .slice A1 l1.length c1] w fun e w' => e = .returned (.bool r) ∧ Drawn0 w w' := by
  have HR0 := Aside0.mk hr0
  have HC0 := Aside0.mk hc0
  clear hr0 hc0
  have HR1 := Aside0.mk hr1
  have HC1 := Aside0.mk hc1
  clear hr1 hc1
  have H : (if (l0.length : Int) = (l1.length : Int) then (laws_sameInts.l0 k l0 l1 0) else (some false)) = some r := h
  clear h
  by_cases c3 : (l0.length : Int) = (l1.length : Int)
  · rw [if_pos c3] at H
    have c3b0 : ((l0.length : Int) == (l1.length : Int)) = true := beq_iff_eq.mpr c3
    have c3b1 : ((l0.length : Int) != (l1.length : Int)) = false := bne_eq_false_iff_eq.mpr c3
    have c3b2 : (l0.length == l1.length) = true := by first | simpa using c3 | (simp at c3 ⊢; omega)
    clear c3
    have H' := Aside0.mk H
    clear H
    go_enter Try.func31, Try.ntmps31
    go_wp2
    repeat (go_quiet (fail); try go_wp2)
    go_loopg [5] k (fun kq v5 w' => ∃ (x5_1 : Int), v5 = .int .i64 x5_1 ∧ Aside0 (laws_sameInts.l0 kq l0 l1 x5_1 = some r) ∧ Aside0 (kq ≤ k) ∧ Drawn0 w w')
    case atStart => exact ⟨(0), (by first | rfl | (simp; done) | (simp [*]; done)), H', ⟨Nat.le_refl _⟩, by repeat (first | exact Drawn0.refl _ | apply Drawn0.step)⟩
    case round =>
      clear H'
      try clear c1
      try clear p2
      try clear c3
      try clear c3b0
      try clear c3b1
      try clear c3b2
      obtain ⟨x5_1, rfl, HA, HK1, ⟨m1, rfl⟩⟩ := hrel
      cases gk with
      | zero => exact absurd HA.out (by simp [laws_sameInts.l0])
      | succ k1 =>
        have H := HA.out
        clear HA
        simp only [laws_sameInts.l0] at H
        by_cases c4 : x5_1 < (l0.length : Int)
        · rw [if_pos c4] at H
          have c4b0 : decide (x5_1 < (l0.length : Int)) = true := decide_eq_true c4
          clear c4
          by_cases c5 : 0 ≤ x5_1
          · rw [if_pos c5] at H
            have c5b0 : decide (0 ≤ x5_1) = true := decide_eq_true c5
            clear c5
            by_cases c6 : x5_1 < (l1.length : Int)
            · rw [if_pos c6] at H
              have c6b0 : decide (x5_1 < (l1.length : Int)) = true := decide_eq_true c6
              clear c6
              by_cases c7 : (rd l0 x5_1) = (rd l1 x5_1)
              · rw [if_pos c7] at H
                have c7b0 : ((rd l0 x5_1) == (rd l1 x5_1)) = true := beq_iff_eq.mpr c7
                have c7b1 : ((rd l0 x5_1) != (rd l1 x5_1)) = false := bne_eq_false_iff_eq.mpr c7
                clear c7
                have H' := Aside0.mk H
                clear H
                have p349 : 0 ≤ (x5_1 : Int) := of_decide_eq_true (by first | (with_reducible assumption) | assumption)
                have q349 : x5_1 < (l0.length : Int) := of_decide_eq_true (by first | (with_reducible assumption) | assumption)
                obtain ⟨ad349, e349, hx349_0⟩ := Kd.at_int HR0.out x5_1 p349 q349
                cases e349
                replace p349 := eq_true p349
                replace q349 := eq_true q349
                have p350 : 0 ≤ (x5_1 : Int) := of_decide_eq_true (by first | (with_reducible assumption) | assumption)
                have q350 : x5_1 < (l1.length : Int) := of_decide_eq_true (by first | (with_reducible assumption) | assumption)
                obtain ⟨ad350, e350, hx350_0⟩ := Kd.at_int HR1.out x5_1 p350 q350
                cases e350
                replace p350 := eq_true p350
                replace q350 := eq_true q350
                go_wp2
                repeat (go_quiet (fail); try go_wp2)
                go_roundg k1
                case measure => have := HK1.out; omega
                case rel => exact ⟨(wrap64 (x5_1 + 1)), (by first | rfl | (simp; done) | (simp [*]; done)), H', ⟨by have := HK1.out; omega⟩, by repeat (first | exact Drawn0.refl _ | apply Drawn0.step)⟩
              · rw [if_neg c7] at H
                have c7b0 : ((rd l0 x5_1) == (rd l1 x5_1)) = false := beq_eq_false_iff_ne.mpr c7
                have c7b1 : ((rd l0 x5_1) != (rd l1 x5_1)) = true := bne_iff_ne.mpr c7
                obtain rfl := Option.some.inj H
                have p349 : 0 ≤ (x5_1 : Int) := of_decide_eq_true (by first | (with_reducible assumption) | assumption)
                have q349 : x5_1 < (l0.length : Int) := of_decide_eq_true (by first | (with_reducible assumption) | assumption)
                obtain ⟨ad349, e349, hx349_0⟩ := Kd.at_int HR0.out x5_1 p349 q349
                cases e349
                replace p349 := eq_true p349
                replace q349 := eq_true q349
                have p350 : 0 ≤ (x5_1 : Int) := of_decide_eq_true (by first | (with_reducible assumption) | assumption)
                have q350 : x5_1 < (l1.length : Int) := of_decide_eq_true (by first | (with_reducible assumption) | assumption)
                obtain ⟨ad350, e350, hx350_0⟩ := Kd.at_int HR1.out x5_1 p350 q350
                cases e350
                replace p350 := eq_true p350
                replace q350 := eq_true q350
                go_wp2
                repeat (go_quiet (fail); try go_wp2)
                go_ret
                exact ⟨by first | rfl | (simp; done) | (simp [*]; done), by repeat (first | exact Drawn0.refl _ | apply Drawn0.step)⟩
            · rw [if_neg c6] at H
              exact absurd H (by simp)
          · rw [if_neg c5] at H
            exact absurd H (by simp)
        · rw [if_neg c4] at H
          have c4b0 : decide (x5_1 < (l0.length : Int)) = false := decide_eq_false c4
          clear c4
          obtain rfl := Option.some.inj H
          go_wp2
          repeat (go_quiet (fail); try go_wp2)
          go_ret
          exact ⟨by first | rfl | (simp; done) | (simp [*]; done), by repeat (first | exact Drawn0.refl _ | apply Drawn0.step)⟩
  · rw [if_neg c3] at H
    have c3b0 : ((l0.length : Int) == (l1.length : Int)) = false := beq_eq_false_iff_ne.mpr c3
    have c3b1 : ((l0.length : Int) != (l1.length : Int)) = true := bne_iff_ne.mpr c3
    have c3b2 : (l0.length == l1.length) = false := by first | simpa using c3 | (simp at c3 ⊢; omega)
    obtain rfl := Option.some.inj H
    go_enter Try.func31, Try.ntmps31
    go_wp2
    repeat (go_quiet (fail); try go_wp2)
    go_ret
    exact ⟨by first | rfl | (simp; done) | (simp [*]; done), by repeat (first | exact Drawn0.refl _ | apply Drawn0.step)⟩

end Go.Proofs.Ytfoadgbffidgaaa.P

set_option linter.unusedVariables false
set_option linter.unusedSimpArgs false
namespace Go.Proofs.Ytfoadgbffidgaaa.X
open Go.RowKit Go.Proofs.YtfoadgbffidgaaaW.PrintWords Go.Proofs.YtfoadgbffidgaaaW.PrintLast Go.Proofs.Ytfoadgbffidgaaa.P

theorem sameInts_loop (a b : List Int) (hl : a.length ≤ 1048576) (hab : a.length = b.length) (d : Nat) : ∀ (i : Int), 0 ≤ i → i + d = a.length → (∀ j : Nat, (j : Int) < i → rd a (j : Int) = rd b (j : Int)) → Ev (fun k => laws_sameInts.l0 k a b i) (decide (a = b)) := by
  induction d with
  | zero =>
    intro i h0 h1 h
    refine Ev.step (fun k => by rw [laws_sameInts.l0]) ?_
    refine Ev.neg (by omega) (Ev.done ?_)
    rw [decide_eq_true (ext_rd hab fun j hj => h j (by omega))]
  | succ d ih =>
    intro i h0 h1 h
    refine Ev.step (fun k => by rw [laws_sameInts.l0]) ?_
    simp (disch := omega) only [w64]
    refine Ev.pos (by omega) (Ev.pos (by omega) (Ev.pos (by omega) ?_))
    by_cases e : rd a i = rd b i
    · refine Ev.pos e (ih (i + 1) (by omega) (by omega) fun j hj => ?_)
      by_cases ej : (j : Int) = i
      · rw [ej]; exact e
      · exact h j (by omega)
    · refine Ev.neg e (Ev.done ?_)
      rw [decide_eq_false (fun hab => e (by rw [hab]))]
theorem sameInts_ev (a b : List Int) (hl : a.length ≤ 1048576) : Ev (fun k => laws_sameInts.f k a b) (decide (a = b)) := by
  unfold laws_sameInts.f
  by_cases h : a.length = b.length
  · exact Ev.pos (by omega) (sameInts_loop a b hl h a.length 0 (by omega) (by omega) fun j hj => by omega)
  · refine Ev.neg (by omega) (Ev.done ?_)
    rw [decide_eq_false (fun hab => h (by rw [hab]))]
theorem sqOfR_len81 (t : List Int) (m : Int) : (sqOfR t m).1.length ≤ 81 := by
  unfold sqOfR
  by_cases hs : (sysB t && isM m) = true
  · rw [if_pos hs]; show (mapI _ _).length ≤ _; rw [mapI_length]; omega
  · rw [if_neg hs]; exact Nat.zero_le _
theorem square_ev {s : List Int} (hs : RdS s) {p : Int} (h0 : 0 ≤ p) (h1 : p ≤ 1099510000000) : ∃ l q, l.length ≤ 81 ∧ (p ≤ q ∧ q ≤ p + 9) ∧ Ev (fun k => spec_l91Square.f k s p) (l, q) := by
  obtain ⟨t, q, ht, hq, et⟩ := system_ev hs h0 (by omega)
  obtain ⟨m, hm, em⟩ := pick_ev hs (p := q) (by omega) (by omega) (n := 8) (by omega) (by omega)
  obtain ⟨a, ha, ea⟩ := pick_ev hs (p := q + 1) (by omega) (by omega) (n := 20) (by omega) (by omega)
  obtain ⟨i, hi, ei⟩ := pick_ev hs (p := q + 1 + 1) (by omega) (by omega) (n := 81) (by omega) (by omega)
  obtain ⟨v, hv, ev⟩ := pick_ev hs (p := q + 1 + 1 + 1) (by omega) (by omega) (n := 9) (by omega) (by omega)
  have htl := ht.len
  have esq := specSqOf_ev t (by omega) (1 + m)
  have hrl := sqOfR_len81 t (1 + m)
  have hr2 : (sqOfR t (1 + m)).2 = true → (sqOfR t (1 + m)).1.length = 81 := by
    unfold sqOfR
    split
    · intro _; exact mapI_length _ _
    · intro h; exact absurd h (by decide)
  generalize sqOfR t (1 + m) = r at *
  have ew : wrap64 (1 + m) = 1 + m := w64 (by omega) (by omega)
  by_cases er : r.2 = true
  · by_cases e : a = 0
    · refine ⟨r.1.set i.toNat v, q + 1 + 1 + 1 + 1, by rw [List.length_set]; exact hrl, by omega, ?_⟩
      unfold spec_l91Square.f
      refine Ev.bind et (Ev.bind em ?_)
      dsimp only
      rw [ew]
      refine Ev.bind esq (Ev.pos er (Ev.bind ea (Ev.step (fun k => by rw [spec_l91Square.j0]) (Ev.pos (by rw [e]; rfl) (Ev.bind ei (Ev.bind ev ?_))))))
      exact Ev.pos (by omega) (Ev.pos (by have := hr2 er; omega) (Ev.done rfl))
    · refine ⟨r.1, q + 1 + 1, hrl, by omega, ?_⟩
      unfold spec_l91Square.f
      refine Ev.bind et (Ev.bind em ?_)
      dsimp only
      rw [ew]
      exact Ev.bind esq (Ev.pos er (Ev.bind ea (Ev.step (fun k => by rw [spec_l91Square.j0]) (Ev.neg (by simp; exact e) (Ev.done rfl)))))
  · refine ⟨r.1, q + 1, hrl, by omega, ?_⟩
    unfold spec_l91Square.f
    refine Ev.bind et (Ev.bind em ?_)
    dsimp only
    rw [ew]
    exact Ev.bind esq (Ev.neg er (Ev.step (fun k => by rw [spec_l91Square.j0]) (Ev.neg (by decide) (Ev.done rfl))))

end Go.Proofs.Ytfoadgbffidgaaa.X

set_option linter.unusedVariables false
set_option linter.unusedSimpArgs false
namespace Go.Proofs.Ytfoadgbffidgaaa.X
open Go.RowKit Go.Proofs.YtfoadgbffidgaaaW.PrintWords Go.Proofs.YtfoadgbffidgaaaW.PrintLast Go.Proofs.Ytfoadgbffidgaaa.P

theorem SquareApart_l0 (a b : List Int) (ha : ninesB a 81 = true) (hb : ninesB b 81 = true) (n : Nat) :
    ∀ (i : Int), 0 ≤ i → i + n = 81 → (∀ x y : Int, 0 ≤ x → x < y → y < i → pairI a b x ≠ pairI a b y) →
      Ev (fun k => spec_SquareApart.l0 k a b (bL 81 (seenO (pairI a b) i)) i) (onceN 81 (pairI a b)) := by
  have hla := (ninesB_iff.1 ha).1
  have hlb := (ninesB_iff.1 hb).1
  induction n with
  | zero =>
    intro i h0 h1 h
    refine Ev.step (fun k => by rw [spec_SquareApart.l0]) ?_
    refine Ev.neg (by omega) (Ev.done ?_)
    rw [onceN_iff.2 fun x y x0 xy y9 => h x y x0 xy (by omega)]
  | succ n ih =>
    intro i h0 h1 h
    obtain ⟨r0, r1⟩ := nines_rd ha (i := i) (by omega) (by omega)
    obtain ⟨c0, c1⟩ := nines_rd hb (i := i) (by omega) (by omega)
    have hp : pairI a b i = 9 * rd a i + rd b i := rfl
    have hs1 := bL_seen (n := 81) (pairI a b) i h0 (9 * rd a i + rd b i) (by omega) rfl
    refine Ev.step (fun k => by rw [spec_SquareApart.l0]) ?_
    simp (disch := omega) only [w64, bL_length, bL_rd, hs1]
    refine Ev.pos (by omega) (Ev.pos (by omega) (Ev.pos (by omega) (Ev.pos (by omega) (Ev.pos (by omega) (Ev.pos (by omega) ?_)))))
    by_cases e1 : seenO (pairI a b) i (9 * rd a i + rd b i).toNat = true
    case pos =>
      refine Ev.pos e1 (Ev.done ?_)
      rw [seenO_dup (n := 81) (p := pairI a b) h0 (by omega) (by omega) e1]
    refine Ev.neg e1 (ih (i + 1) (by omega) (by omega) ?_)
    exact seenO_new (p := pairI a b) h0 (by omega) (Bool.eq_false_iff.2 e1) h
theorem SquareApart_ev (a b : List Int) (hl : a.length ≤ 1048576) (hl2 : b.length ≤ 1048576) : Ev (fun k => spec_SquareApart.f k a b) (apartB a b) := by
  unfold spec_SquareApart.f apartB
  refine Ev.bind (SquareIn_ev a hl) ?_
  by_cases ha : squareB a = true
  case neg =>
    rw [Bool.eq_false_iff.2 ha]
    refine Ev.neg (by simp) ?_
    refine Ev.step (fun k => by rw [spec_SquareApart.j0]) ?_
    exact Ev.pos rfl (Ev.done rfl)
  refine Ev.pos ha (Ev.bind (SquareIn_ev b hl2) ?_)
  rw [ha]
  by_cases hb : squareB b = true
  case neg =>
    rw [Bool.eq_false_iff.2 hb]
    refine Ev.step (fun k => by rw [spec_SquareApart.j0]) ?_
    exact Ev.pos rfl (Ev.done rfl)
  rw [hb]
  refine Ev.step (fun k => by rw [spec_SquareApart.j0]) ?_
  refine Ev.neg (by simp) (Ev.pos (by omega) ?_)
  rw [bL_replicate]
  exact SquareApart_l0 a b (squareB_nines ha) (squareB_nines hb) 81 0 (by omega) (by omega) (fun x y h0 h1 h2 => by omega)

end Go.Proofs.Ytfoadgbffidgaaa.X

set_option linter.unusedVariables false
set_option linter.unusedSimpArgs false
namespace Go.Proofs.Ytfoadgbffidgaaa.Pure
open Go.RowKit Go.Proofs.Ytfoadgbffidgaaa.P Go.Proofs.YtfoadgbffidgaaaW.PrintWords Go.Proofs.YtfoadgbffidgaaaW.PrintLast Go.Proofs.Ytfoadgbffidgaaa.X

theorem drawApart_ev (l0 : List Int) (hu : ∀ x ∈ l0, (Lit.int .u8 x).wf = true) : ∃ a b : List Int, a.length ≤ 81 ∧ b.length ≤ 81 ∧ Ev (fun k => spec_DrawSquareApart.f k l0) (a, b) := by
  obtain ⟨s, hs, eo⟩ := open_ev l0 hu
  obtain ⟨t, q, ht, hq, et⟩ := system_ev hs (p := 0) (by omega) (by omega)
  obtain ⟨m, hm, em⟩ := pick_ev hs (p := q) (by omega) (by omega) (n := 8) (by omega) (by omega)
  obtain ⟨n, hn, en⟩ := pick_ev hs (p := q + 1) (by omega) (by omega) (n := 8) (by omega) (by omega)
  obtain ⟨c, hc, ec⟩ := pick_ev hs (p := q + 1 + 1) (by omega) (by omega) (n := 4) (by omega) (by omega)
  have htl := ht.len
  have esm := specSqOf_ev t (by omega) (1 + m)
  have esn := specSqOf_ev t (by omega) (1 + n)
  have hrm := sqOfR_len81 t (1 + m)
  have hrn := sqOfR_len81 t (1 + n)
  have wm : wrap64 (1 + m) = 1 + m := w64 (by omega) (by omega)
  have wn : wrap64 (1 + n) = 1 + n := w64 (by omega) (by omega)
  generalize sqOfR t (1 + m) = x at *
  generalize sqOfR t (1 + n) = y at *
  have pre : ∀ r, Ev (fun k => if x.2 = true then (if y.2 = true then ((spec_l6Rd_pick.f k s (q + 1 + 1) 4).bind fun bt435 => (spec_DrawSquareApart.j0 k x.1 y.1 (decide (bt435.1 > 0)) s bt435.2)) else (spec_DrawSquareApart.j0 k x.1 y.1 false s (q + 1 + 1))) else (spec_DrawSquareApart.j0 k x.1 y.1 false s (q + 1 + 1))) r → Ev (fun k => spec_DrawSquareApart.f k l0) r := by
    intro r h
    unfold spec_DrawSquareApart.f
    refine Ev.fix eo (Ev.bind et (Ev.bind em ?_))
    dsimp only
    rw [wm]
    refine Ev.bind esm (Ev.bind en ?_)
    dsimp only
    rw [wn]
    exact Ev.bind esn h
  have late : ∀ p : Int, 0 ≤ p → p ≤ 1000 → ∃ a b : List Int, a.length ≤ 81 ∧ b.length ≤ 81 ∧ Ev (fun k => spec_DrawSquareApart.j0 k x.1 y.1 false s p) (a, b) := by
    intro p p0 p1
    obtain ⟨l, q1, hl, hq1, e1⟩ := square_ev hs p0 (by omega)
    obtain ⟨l2, q2, hl2, hq2, e2⟩ := square_ev hs (p := q1) (by omega) (by omega)
    refine ⟨l, l2, hl, hl2, Ev.step (fun k => by rw [spec_DrawSquareApart.j0]) (Ev.neg (by decide) (Ev.bind e1 ?_))⟩
    refine Ev.bind e2 ?_
    exact Ev.done rfl
  by_cases hx : x.2 = true
  · by_cases hy : y.2 = true
    · by_cases h : c > 0
      · exact ⟨x.1, y.1, hrm, hrn, pre _ (Ev.pos hx (Ev.pos hy (Ev.bind ec (Ev.step (fun k => by rw [spec_DrawSquareApart.j0]) (Ev.pos (decide_eq_true h) (Ev.done rfl))))))⟩
      · obtain ⟨a, b, ha, hb, e⟩ := late (q + 1 + 1 + 1) (by omega) (by omega)
        refine ⟨a, b, ha, hb, pre _ (Ev.pos hx (Ev.pos hy (Ev.bind ec ?_)))⟩
        dsimp only
        rw [decide_eq_false h]
        exact e
    · obtain ⟨a, b, ha, hb, e⟩ := late (q + 1 + 1) (by omega) (by omega)
      exact ⟨a, b, ha, hb, pre _ (Ev.pos hx (Ev.neg hy e))⟩
  · obtain ⟨a, b, ha, hb, e⟩ := late (q + 1 + 1) (by omega) (by omega)
    exact ⟨a, b, ha, hb, pre _ (Ev.neg hx e)⟩
theorem FnSquareApart : laws_FnSquareApart.Pure := by
  intro l0 _ _ hu
  refine Ev.rounds ?_
  unfold laws_FnSquareApart.f
  by_cases hb : (l0.length : Int) > 1048576
  · exact Ev.pos hb (Ev.done rfl)
  refine Ev.neg hb ?_
  obtain ⟨a, b, ha, hb, e⟩ := drawApart_ev l0 hu
  refine Ev.bind e ?_
  refine Ev.fix (show impl_SquareApart.f a b = some (apartB a b) from rfl) (Ev.bind (SquareApart_ev a b (by omega) (by omega)) ?_)
  refine Ev.neg (by simp) (Ev.step (fun k => by rw [laws_FnSquareApart.j0]) ?_)
  by_cases e : apartB a b = true
  · obtain ⟨sa, sb, _⟩ := apart_iff.1 e
    have e1 : turnedR a = (turnedL a, true) := if_pos sa
    have e2 : turnedR b = (turnedL b, true) := if_pos sb
    refine Ev.neg (by rw [e]; decide) (Ev.bind (implTurned_ev a) (Ev.bind (implTurned_ev b) ?_))
    rw [e1, e2]
    refine Ev.pos rfl (Ev.pos rfl ?_)
    refine Ev.fix (show impl_SquareApart.f b a = some (apartB b a) from rfl) (Ev.pos (apart_comm e) ?_)
    refine Ev.fix (show impl_SquareApart.f (turnedL a) (turnedL b) = some (apartB (turnedL a) (turnedL b)) from rfl) (Ev.done ?_)
    rw [apart_turned e]
  · have e := Bool.eq_false_iff.2 e
    rw [e]
    exact Ev.pos (by decide) (Ev.done rfl)

end Go.Proofs.Ytfoadgbffidgaaa.Pure

namespace Go.Proofs.Ytfoadgbffidgaaa.fnSquareApart
open Go.ChangeShapes Go.WideShapes Go.ChangeAt Go.RowKit
open Go.ChangeMaps (open_string shut_string)
set_option linter.unusedVariables false
theorem own : ownKnob Try.prog.godebug = none := by kernel_rfl
theorem laidOut : laidOutB Try.prog = true := by kernel_rfl
def IsRow (k : IntKind) (w : World) (a : Option Addr) (len cap : Nat) (zs : List Int) : Prop :=
  (a = none ∧ len = 0 ∧ cap = 0 ∧ zs = []) ∨
  ∃ x, a = some x ∧ len ≤ cap ∧ cap ≤ maxLen ∧ zs.length = cap ∧ (∀ i, i < zs.length → w.cell? (x.add i) = some (.int k (zs.getD i 0))) ∧ ∀ n ∈ zs, (Lit.int k n).wf = true
set_option maxRecDepth 100000 in
theorem lifted (os : Os) (started : os.Started) (H : Type) (enc : TypeId × Value → H) :
    ReturnsInHanded {} Try.checked os 9 .any (Rows.fnSquareApartSpec.pre6 enc Try.prog Try.f9 Rows.fnSquareApartRow.domain false) (Rows.fnSquareApartSpec.post enc Try.prog Try.f9 false true false false) := by
  refine returnsInHanded_of_change_sized (C := Try.checked) own started (by kernel_rfl) Try.func9
    (ChangeSpec.witness6 (enc := enc) (C := Try.checked) false ⟨#[], #[.slice none 0 0], []⟩ 8 (by kernel_rfl) (by kernel_rfl) (by kernel_rfl) (by kernel_rfl)) ?_
  intro W base args ds gs before hval0 hW hcnd hsz0 _
  have hsz : (DataW.weightsEach Try.prog (Try.f9.params.toList ++ Rows.fnSquareApartSpec.plain.varTypes Try.prog) (ds ++ gs)).all (· ≤ reachBytes) = true := hsz0
  have hval : ∀ (j : Nat) t v, Try.f9.params[j]? = some t → args[j]? = some v → Value.okWide Try.prog W .any base t v := hval0
  have hW' := hW
  obtain ⟨p, q, hA0, hV, rfl, hfz, hnd⟩ := hW
  have hA : DataW.TrodAll enc Try.prog W 0 (fun _ => true) true Try.f9.params.toList args.toList ds p := hA0
  rw [Try.params9] at hA hval hsz
  obtain ⟨v0, vs0, d0, ds0, p0, q0, hargs, rfl, rfl, h0, r0⟩ := trodAll_cons hA
  obtain ⟨rfl, rfl, rfl⟩ := trodAll_nil r0
  obtain rfl : args = #[v0] := by cases args; simp_all
  obtain ⟨rfl, rfl⟩ := trodVars_none hV
  obtain ⟨a0, len0, cap0, rfl⟩ := okWide_slice Try.underlying37 (hval 0 37 v0 rfl rfl)
  have k0 := h0
  have lt0 : ∀ x ∈ p0, x.block < W.heap.size := by obtain ⟨m, hm⟩ := k0; exact DataW.trod_lt m _ _ _ hm
  obtain ⟨z0, w0⟩ : ∃ zs, IsRow .u8 W a0 len0 cap0 zs := by
    obtain ⟨fuel, hf⟩ := h0
    rcases open_ints Try.underlying37 Try.underlying5 (by kernel_rfl) hf with ⟨hcs, _⟩ | ⟨x, l, c, zs, hcs, _, hl, hm, hz, _, hcell, hwz⟩
    · simp [Value.cells] at hcs
      obtain ⟨rfl, rfl, rfl⟩ := hcs
      exact ⟨[], .inl ⟨rfl, rfl, rfl, rfl⟩⟩
    · simp [Value.cells] at hcs
      obtain ⟨rfl, rfl, rfl⟩ := hcs
      exact ⟨zs, .inr ⟨_, rfl, hl, hm, by simpa using hz, hcell, hwz⟩⟩
  have y0 : len0 * 1 ≤ 140737488351232 := Go.Proofs.YtfoadgbffidgaaaW.PrintWords.sized_ints hsz (j := 0) (t := 37) rfl rfl Try.underlying37 Try.underlying5 (by kernel_rfl) (by kernel_rfl) h0
  clear hA0 hval0 hsz0 hsz
  refine (P.laws_FnSquareApart.walk Pure.FnSquareApart a0 len0 cap0 z0 W w0 y0).mono fun e W' ⟨he, bel⟩ => ?_
  subst he
  exact ⟨_, rfl, _, _, _, [], _, [], hW', trodAll_mk1 (shut_bool Try.underlying4 _), (trodAll_cons_mk (Below.trod laidOut (by kernel_rfl) (of_decide_eq_true (by kernel_rfl)) k0 bel lt0) trodAll_mk0), rfl, bel.frame _, fun h => by cases h⟩
theorem over : Rows.fnSquareApartRow.holds Try.pinned (OpenSpec.ofChange Rows.fnSquareApartSpec) :=
  OpenClaim.holds_of_wide 9 Try.f9 rfl rfl rfl rfl rfl rfl rfl ⟨rfl, rfl, rfl, rfl, rfl⟩ rfl rfl rfl rfl rfl (by kernel_rfl) Try.func9 (by kernel_rfl)
    (of_decide_eq_true (by kernel_rfl)) (by unfold Func.isWrapper; first | (rw [if_pos (by decide +kernel)]; kernel_rfl) | (rw [if_neg (by decide +kernel)]; exact ⟨rfl, rfl⟩))
    (fun os started H enc _ => lifted os started H enc)
theorem proved : Rows.FnSquareApartSaid := over
#print axioms proved
end Go.Proofs.Ytfoadgbffidgaaa.fnSquareApart
namespace Go.Proofs.Ytfoadgbffidgaaa
/-- The row, under a short name, for the claim. -/
theorem fnSquareApart_holds : Rows.FnSquareApartSaid := fnSquareApart.proved
end Go.Proofs.Ytfoadgbffidgaaa
