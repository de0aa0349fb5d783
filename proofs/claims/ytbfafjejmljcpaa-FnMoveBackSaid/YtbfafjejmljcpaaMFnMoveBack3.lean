/- The law FnMoveBack of the given program: for every input the call returns true, and each argument reads afterwards as it read before. No conditions. (Part 4 of 4; the last part holds the theorem.) -/
import Derived.Test.YtbfafjejmljcpaaMFnMoveBack2
import Derived.Test.YtbfafjejmljcpaaMFnMoveBack0
import Derived.Test.YtbfafjejmljcpaaMFnMoveBack1
import Derived.Test.YtbfafjejmljcpaaRows
import Derived.WalkKit
import Derived.ProofKit
import Derived.OpenShut
import Derived.ShutString
import Derived.ChangeOld
import Derived.Below
import Derived.SizedLaws
import Derived.Test.YtbfafjejmljcpaaWSized
set_option linter.unusedVariables false
set_option linter.unusedSimpArgs false
namespace Go.Proofs.Ytbfafjejmljcpaa.X
open Go.RowKit Go.Proofs.YtbfafjejmljcpaaW.PrintWords Go.Proofs.YtbfafjejmljcpaaW.PrintLast Go.Proofs.Ytbfafjejmljcpaa.P

def backR (t m : List Int) : List Int × Bool := if moveB t m = true then (backL m, true) else ([], false)
theorem backR_length (t m : List Int) : (backR t m).1.length ≤ 1048576 := by
  unfold backR
  by_cases h : moveB t m = true
  · rw [if_pos h]; dsimp only; rw [backL_length]; omega
  · rw [if_neg h]; exact Nat.zero_le _
theorem implBack_l0 {m : List Int} (hm : permB m = true) (d : Nat) : ∀ n : Nat, n + d = 91 → Ev (fun k => impl_MoveBack.l0 k (backN m n) m 91 (n : Int)) (backL m, true) := by
  induction d with
  | zero =>
    intro n h1
    have e : n = 91 := by omega
    subst e
    refine Ev.step (fun k => by rw [impl_MoveBack.l0]) ?_
    exact Ev.neg (by omega) (Ev.done rfl)
  | succ d ih =>
    intro n h1
    obtain ⟨a0, a1⟩ := perm_rd hm (p := (n : Int)) ⟨by omega, by omega⟩
    have hl := permB_len hm
    have hb := backN_length m n
    have nx := ih (n + 1) (by omega)
    have z : wrap64 ((n : Int) + 1) = ((n + 1 : Nat) : Int) := by rw [w64 (by omega) (by omega)]; rfl
    refine Ev.step (fun k => by rw [impl_MoveBack.l0]) ?_
    rw [z]
    exact Ev.pos (by omega) (Ev.pos (by omega) (Ev.pos (by omega) (Ev.pos a0 (Ev.pos (by omega) nx))))
theorem implBack_ev {t m : List Int} (hm : m.length ≤ 1048576) : Ev (fun k => impl_MoveBack.f k t m) (backR t m) := by
  unfold impl_MoveBack.f backR
  refine Ev.fix (show impl_isMove.f t m = some (moveB t m) from if_pos hm) ?_
  by_cases hs : moveB t m = true
  · rw [if_pos hs]
    have hp := (moveB_parts hs).2.1
    have hl := permB_len hp
    refine Ev.pos hs (Ev.pos (by omega) ?_)
    rw [hl]
    exact implBack_l0 hp 91 0 (by omega)
  · rw [if_neg hs]
    exact Ev.neg hs (Ev.done rfl)
theorem specBack_l0 {m : List Int} (hm : permB m = true) (d : Nat) : ∀ n : Nat, n + d = 91 → Ev (fun k => spec_MoveBack.l0 k m (backN m n) (n : Int)) (backL m, true) := by
  induction d with
  | zero =>
    intro n h1
    have e : n = 91 := by omega
    subst e
    refine Ev.step (fun k => by rw [spec_MoveBack.l0]) ?_
    exact Ev.neg (by omega) (Ev.done rfl)
  | succ d ih =>
    intro n h1
    obtain ⟨a0, a1⟩ := perm_rd hm (p := (n : Int)) ⟨by omega, by omega⟩
    have hl := permB_len hm
    have hb := backN_length m n
    have nx := ih (n + 1) (by omega)
    have z : wrap64 ((n : Int) + 1) = ((n + 1 : Nat) : Int) := by rw [w64 (by omega) (by omega)]; rfl
    refine Ev.step (fun k => by rw [spec_MoveBack.l0]) ?_
    rw [z]
    exact Ev.pos (by omega) (Ev.pos (by omega) (Ev.pos (by omega) (Ev.pos a0 (Ev.pos (by omega) nx))))
theorem specBack_ev {t m : List Int} (ht : t.length ≤ 1048576) (hm : m.length ≤ 1048576) : Ev (fun k => spec_MoveBack.f k t m) (backR t m) := by
  unfold spec_MoveBack.f backR
  refine Ev.bind (MoveIn_ev ht hm) ?_
  by_cases hs : moveB t m = true
  · rw [if_pos hs]
    exact Ev.pos hs (Ev.pos (by omega) (specBack_l0 (moveB_parts hs).2.1 91 0 (by omega)))
  · rw [if_neg hs]
    exact Ev.neg hs (Ev.done rfl)
end Go.Proofs.Ytbfafjejmljcpaa.X

set_option linter.unusedVariables false
set_option linter.unusedSimpArgs false
namespace Go.Proofs.Ytbfafjejmljcpaa.X
open Go.RowKit Go.Proofs.YtbfafjejmljcpaaW.PrintWords

theorem least_ex {P : Nat → Prop} (h : ∃ n, P n) : ∃ n, P n ∧ ∀ k, P k → n ≤ k := by
  obtain ⟨n, hn⟩ := h
  induction n using Nat.strongRecOn with
  | ind n ih =>
    by_cases e : ∃ k, k < n ∧ P k
    · obtain ⟨k, hk, hp⟩ := e
      exact ih k hk hp
    · exact ⟨n, hn, fun k hk => Nat.le_of_not_lt fun hlt => e ⟨k, hlt, hk⟩⟩
def itI (m : List Int) : Nat → Int → Int
  | 0, p => p
  | k + 1, p => rd m (itI m k p)
theorem itI_in {m : List Int} (hm : permB m = true) (k : Nat) {p : Int} (hp : In91 p) : In91 (itI m k p) := by
  induction k with
  | zero => exact hp
  | succ k ih => exact perm_rd hm ih
theorem itI_add (m : List Int) (j k : Nat) (p : Int) : itI m (j + k) p = itI m j (itI m k p) := by
  induction j with
  | zero => rw [Nat.zero_add]; rfl
  | succ j ih => rw [Nat.succ_add]; show rd m (itI m (j + k) p) = rd m (itI m j (itI m k p)); rw [ih]
theorem itI_inj {m : List Int} (hm : permB m = true) (k : Nat) {p q : Int} (hp : In91 p) (hq : In91 q) (e : itI m k p = itI m k q) : p = q := by
  induction k with
  | zero => exact e
  | succ k ih => exact ih (perm_inj hm (itI_in hm k hp) (itI_in hm k hq) e)
theorem itI_mul (m : List Int) (n : Nat) {p : Int} (h : itI m n p = p) (j : Nat) : itI m (n * j) p = p := by
  induction j with
  | zero => rfl
  | succ j ih => rw [Nat.mul_succ, itI_add, h, ih]
theorem itI_mod {m : List Int} (n : Nat) {p : Int} (h : itI m n p = p) (k : Nat) : itI m k p = itI m (k % n) p := by
  have e : k = k % n + n * (k / n) := by rw [Nat.mod_add_div]
  calc itI m k p = itI m (k % n + n * (k / n)) p := by rw [← e]
    _ = itI m (k % n) p := by rw [itI_add, itI_mul m n h]
def IdN (m : List Int) (n : Nat) : Prop := ∀ p, In91 p → itI m n p = p
def IsOrd (m : List Int) (n : Nat) : Prop := 1 ≤ n ∧ IdN m n ∧ ∀ k, 1 ≤ k → IdN m k → n ≤ k
theorem IsOrd.dvd {m : List Int} {n k : Nat} (h : IsOrd m n) (hk : IdN m k) : n ∣ k := by
  refine Nat.dvd_of_mod_eq_zero ?_
  rcases Nat.eq_zero_or_pos (k % n) with e | e
  · exact e
  · have h1 := h.2.2 (k % n) e fun p hp => by rw [← itI_mod n (h.2.1 p hp) k]; exact hk p hp
    have h2 := Nat.mod_lt k (show 0 < n from h.1)
    omega
def IsCyc (m : List Int) (p : Int) (n : Nat) : Prop := 1 ≤ n ∧ itI m n p = p ∧ ∀ k, 1 ≤ k → itI m k p = p → n ≤ k
theorem cyc_ex {m : List Int} (hm : permB m = true) {p : Int} (hp : In91 p) : ∃ n, n ≤ 91 ∧ IsCyc m p n := by
  have hret : ∃ n, 1 ≤ n ∧ n ≤ 91 ∧ itI m n p = p := by
    rcases Classical.em (∃ i j, i < j ∧ j < 92 ∧ itI m i p = itI m j p) with ⟨i, j, hij, hj, e⟩ | hno
    · refine ⟨j - i, by omega, by omega, ?_⟩
      have e2 : itI m j p = itI m i (itI m (j - i) p) := by rw [← itI_add, show i + (j - i) = j by omega]
      exact (itI_inj hm i hp (itI_in hm _ hp) (e.trans e2)).symm
    · exfalso
      obtain ⟨i, hi, he⟩ := pigeon 92 (fun i => (itI m i p).toNat) (fun i h => by have := (itI_in hm i hp).2; show (itI m i p).toNat < 92; omega)
        (fun i j h h' e => hno ⟨i, j, h, h', by
          have a := itI_in hm i hp
          have b := itI_in hm j hp
          have a0 := a.1; have b0 := b.1
          have e : (itI m i p).toNat = (itI m j p).toNat := e
          omega⟩) 91 (by omega)
      have := (itI_in hm i hp).2
      have he : (itI m i p).toNat = 91 := he
      omega
  obtain ⟨k, k1, k2, k3⟩ := hret
  obtain ⟨n, ⟨a, b⟩, c⟩ := least_ex (P := fun n => 1 ≤ n ∧ itI m n p = p) ⟨k, k1, k3⟩
  exact ⟨n, Nat.le_trans (c k ⟨k1, k3⟩) k2, a, b, fun j h1 hj => c j ⟨h1, hj⟩⟩
theorem IsCyc.dvd {m : List Int} {p : Int} {n k : Nat} (h : IsCyc m p n) (hk : itI m k p = p) : n ∣ k := by
  refine Nat.dvd_of_mod_eq_zero ?_
  rcases Nat.eq_zero_or_pos (k % n) with e | e
  · exact e
  · have h1 := h.2.2 (k % n) e (by rw [← itI_mod n h.2.1 k]; exact hk)
    have h2 := Nat.mod_lt k (show 0 < n from h.1)
    omega
theorem IsCyc.ne {m : List Int} (hm : permB m = true) {p : Int} (hp : In91 p) {n i j : Nat} (h : IsCyc m p n) (hij : i < j) (hj : j < n) : itI m i p ≠ itI m j p := fun e => by
  have e2 : itI m j p = itI m i (itI m (j - i) p) := by rw [← itI_add, show i + (j - i) = j by omega]
  have := h.2.2 (j - i) (by omega) (itI_inj hm i hp (itI_in hm _ hp) (e.trans e2)).symm
  omega
def powL (m : List Int) (k : Nat) : List Int := mapI 91 (itI m k)
theorem powL_rd (m : List Int) (k : Nat) {p : Int} (hp : In91 p) : rd (powL m k) p = itI m k p := rd_mapI hp.1 hp.2
theorem powL_one {m : List Int} (hm : permB m = true) : powL m 1 = m := by
  have hl := permB_len hm
  refine ext_rd (by unfold powL; rw [mapI_length, hl]) fun i hi => ?_
  unfold powL at hi
  rw [mapI_length] at hi
  rw [powL_rd m 1 ⟨by omega, by omega⟩]; rfl
theorem powL_perm {m : List Int} (hm : permB m = true) (k : Nat) : permB (powL m k) = true :=
  permB_of (mapI_length _ _) (fun p hp => by rw [powL_rd m k hp]; exact itI_in hm k hp) fun p q hp hq e => by
    rw [powL_rd m k hp, powL_rd m k hq] at e
    exact itI_inj hm k hp hq e
theorem powL_beh (m : List Int) (k : Nat) : behL (powL m k) m = powL m (k + 1) := by
  unfold behL
  refine mapI_congr (n := 91) fun i hi => ?_
  rw [powL_rd m k ⟨by omega, by omega⟩]; rfl
theorem asc_id (f : Int → Int) (n : Nat) (hr : ∀ i : Int, 0 ≤ i → i < n → 0 ≤ f i ∧ f i < n) (ha : ∀ i : Int, 0 ≤ i → i + 1 < n → f i < f (i + 1)) : ∀ i : Int, 0 ≤ i → i < n → f i = i := by
  have up : ∀ d : Nat, (d : Int) < n → (d : Int) ≤ f d := by
    intro d
    induction d with
    | zero => intro h; exact (hr 0 (by omega) h).1
    | succ d ih =>
      intro h
      have h1 := ih (by omega)
      have h2 := ha d (by omega) (by omega)
      have e : ((d + 1 : Nat) : Int) = (d : Int) + 1 := by omega
      rw [e]; omega
  have down : ∀ (d : Nat) (i : Int), 0 ≤ i → i + d + 1 = n → f i ≤ i := by
    intro d
    induction d with
    | zero => intro i i0 h; have := (hr i i0 (by omega)).2; omega
    | succ d ih =>
      intro i i0 h
      have h1 := ih (i + 1) (by omega) (by omega)
      have h2 := ha i i0 (by omega)
      omega
  intro i i0 i1
  have h1 := up i.toNat (by omega)
  rw [Int.toNat_of_nonneg i0] at h1
  have h2 := down (n - 1 - i.toNat) i i0 (by omega)
  omega
def sortB (l : List Int) : Bool := allI l.length fun i => decide (i ≤ 0) || !decide (rd l i < rd l (i - 1))
theorem sortB_iff {l : List Int} : sortB l = true ↔ ∀ i : Int, 0 < i → i < l.length → rd l (i - 1) ≤ rd l i := by
  unfold sortB
  rw [allI_int_iff]
  constructor
  · intro h i i0 i1
    have := h i (by omega) i1
    rw [decide_eq_false (by omega : ¬ i ≤ 0), Bool.false_or, Bool.not_eq_true', decide_eq_false_iff_not] at this
    omega
  · intro h i i0 i1
    by_cases e : i ≤ 0
    · rw [decide_eq_true e, Bool.true_or]
    · rw [decide_eq_false e, Bool.false_or, Bool.not_eq_true', decide_eq_false_iff_not]
      have := h i (by omega) i1
      omega
theorem sort_pow {m : List Int} (hm : permB m = true) (k : Nat) : sortB (powL m k) = true ↔ IdN m k := by
  have hlen : (powL m k).length = 91 := mapI_length _ _
  rw [sortB_iff, hlen]
  constructor
  · intro h
    have := asc_id (itI m k) 91 (fun i i0 i1 => itI_in hm k ⟨i0, i1⟩) (fun i i0 i1 => by
      have h1 := h (i + 1) (by omega) (by omega)
      rw [show i + 1 - 1 = i by omega, powL_rd m k ⟨i0, by omega⟩, powL_rd m k (p := i + 1) ⟨by omega, by omega⟩] at h1
      rcases Int.lt_or_eq_of_le h1 with hlt | he
      · exact hlt
      · have := itI_inj hm k ⟨i0, by omega⟩ ⟨by omega, by omega⟩ he; omega)
    exact fun p hp => this p hp.1 hp.2
  · intro h i i0 i1
    rw [powL_rd m k (p := i - 1) ⟨by omega, by omega⟩, powL_rd m k (p := i) ⟨by omega, by omega⟩, h (i - 1) ⟨by omega, by omega⟩, h i ⟨by omega, by omega⟩]
    omega
end Go.Proofs.Ytbfafjejmljcpaa.X

set_option linter.unusedVariables false
set_option linter.unusedSimpArgs false
namespace Go.Proofs.Ytbfafjejmljcpaa.X
open Go.RowKit Go.Proofs.YtbfafjejmljcpaaW.PrintWords

def ptsS (s : Nat → Bool) : List Int := filI 91 fun p => s p.toNat
def sizeS (s : Nat → Bool) : Nat := (ptsS s).length
theorem filI_mono {n : Nat} {p q : Int → Bool} (h : ∀ i : Nat, i < n → p (i : Int) = true → q (i : Int) = true) : (filI n p).length ≤ (filI n q).length := by
  induction n with
  | zero => exact Nat.le_refl _
  | succ n ih =>
    rw [filI_succ, filI_succ, List.length_append, List.length_append]
    have h1 := ih fun i hi => h i (by omega)
    by_cases hp : p (n : Int) = true
    · rw [if_pos hp, if_pos (h n (by omega) hp)]; omega
    · rw [if_neg hp]; simp; omega
theorem filI_less {n : Nat} {p q : Int → Bool} (h : ∀ i : Nat, i < n → p (i : Int) = true → q (i : Int) = true) {j : Nat} (hj : j < n) (hq : q (j : Int) = true) (hp : p (j : Int) = false) : (filI n p).length < (filI n q).length := by
  induction n with
  | zero => omega
  | succ n ih =>
    rw [filI_succ, filI_succ, List.length_append, List.length_append]
    by_cases e : j = n
    · subst e
      have h1 := filI_mono (n := j) (p := p) (q := q) fun i hi => h i (by omega)
      rw [if_pos hq, if_neg (by rw [hp]; decide)]
      simp; omega
    · have h1 := ih (fun i hi => h i (by omega)) (by omega)
      by_cases hpn : p (n : Int) = true
      · rw [if_pos hpn, if_pos (h n (by omega) hpn)]; simp; omega
      · rw [if_neg hpn]; simp; omega
theorem sizeS_le (s : Nat → Bool) : sizeS s ≤ 91 := filI_length_le _ _
theorem sizeS_less {s s' : Nat → Bool} (h : ∀ x, x < 91 → s x = true → s' x = true) {j : Nat} (hj : j < 91) (h1 : s' j = true) (h0 : s j = false) : sizeS s < sizeS s' :=
  filI_less (fun i hi => by rw [Int.toNat_natCast]; exact h i hi) hj (by rw [Int.toNat_natCast]; exact h1) (by rw [Int.toNat_natCast]; exact h0)
end Go.Proofs.Ytbfafjejmljcpaa.X

set_option linter.unusedVariables false
set_option linter.unusedSimpArgs false
namespace Go.Proofs.Ytbfafjejmljcpaa.X
open Go.RowKit Go.Proofs.YtbfafjejmljcpaaW.PrintWords Go.Proofs.YtbfafjejmljcpaaW.PrintLast Go.Proofs.Ytbfafjejmljcpaa.P

theorem cmpNan_eq (x : Int) : cmp_isNaN_int.f x = some false := by
  unfold cmp_isNaN_int.f
  simp
theorem cmpLess_eq (x y : Int) : cmp_Less_int.f x y = some (decide (x < y)) := by
  unfold cmp_Less_int.f
  rw [cmpNan_eq]; rfl
theorem sorted_l0 {l : List Int} (hl : l.length ≤ 1048576) (d : Nat) : ∀ i : Int, i = d → i < l.length → (∀ j : Int, i < j → j < l.length → rd l (j - 1) ≤ rd l j) → Ev (fun k => slices_IsSorted_int_int.l0 k l i) (sortB l) := by
  induction d with
  | zero =>
    intro i i0 i1 h
    refine Ev.step (fun k => by rw [slices_IsSorted_int_int.l0]) ?_
    refine Ev.neg (by omega) (Ev.done ?_)
    rw [sortB_iff.2 fun j j0 j1 => h j (by omega) j1]
  | succ d ih =>
    intro i i0 i1 h
    refine Ev.step (fun k => by rw [slices_IsSorted_int_int.l0]) ?_
    rw [w64 (x := i - 1) (by omega) (by omega), cmpLess_eq]
    refine Ev.pos (by omega) (Ev.pos (by omega) (Ev.pos i1 (Ev.pos (by omega) (Ev.pos (by omega) (Ev.fix rfl ?_)))))
    by_cases e : rd l i < rd l (i - 1)
    · refine Ev.pos (decide_eq_true e) (Ev.done ?_)
      have : sortB l = false := Bool.eq_false_iff.2 fun hs => by have := sortB_iff.1 hs i (by omega) i1; omega
      rw [this]
    · refine Ev.neg (by simpa using e) (ih (i - 1) (by omega) (by omega) fun j j0 j1 => ?_)
      by_cases ej : j = i
      · rw [ej]; omega
      · exact h j (by omega) j1
theorem sorted_ev {l : List Int} (hl : l.length ≤ 1048576) (h0 : 0 < l.length) : Ev (fun k => slices_IsSorted_int_int.f k l) (sortB l) := by
  unfold slices_IsSorted_int_int.f
  rw [w64 (by omega) (by omega)]
  exact sorted_l0 hl (l.length - 1) _ (by omega) (by omega) (fun j j0 j1 => by omega)
theorem implOrd_l0 {m : List Int} (hm : permB m = true) {N : Nat} (hN : IsOrd m N) (hb : N ≤ 1000000000000000) (d : Nat) : ∀ n : Nat, 1 ≤ n → n + d = N → Ev (fun k => impl_MoveOrder.l0 k m (n : Int) (powL m n)) ((N : Int), true) := by
  have hlen : ∀ n, (powL m n).length = 91 := fun n => mapI_length _ _
  induction d with
  | zero =>
    intro n n1 n2
    have e : n = N := by omega
    subst e
    refine Ev.step (fun k => by rw [impl_MoveOrder.l0]) ?_
    exact Ev.bind (sorted_ev (by rw [hlen]; omega) (by rw [hlen]; omega)) (Ev.pos ((sort_pow hm n).2 hN.2.1) (Ev.done rfl))
  | succ d ih =>
    intro n n1 n2
    have nx := ih (n + 1) (by omega) (by omega)
    refine Ev.step (fun k => by rw [impl_MoveOrder.l0]) ?_
    refine Ev.bind (sorted_ev (by rw [hlen]; omega) (by rw [hlen]; omega)) (Ev.neg (fun h => ?_) ?_)
    · have := hN.2.2 n n1 ((sort_pow hm n).1 h); omega
    · refine Ev.bind (behind_ev (powL_perm hm n) hm) ?_
      rw [powL_beh, w64 (by omega) (by omega)]
      exact nx
theorem implOrd_ev {t m : List Int} (hs : moveB t m = true) (hl : m.length ≤ 1048576) {N : Nat} (hN : IsOrd m N) (hb : N ≤ 1000000000000000) : Ev (fun k => impl_MoveOrder.f k t m) ((N : Int), true) := by
  have hm := (moveB_parts hs).2.1
  unfold impl_MoveOrder.f
  refine Ev.fix (show impl_isMove.f t m = some (moveB t m) from if_pos hl) (Ev.pos hs ?_)
  have := implOrd_l0 hm hN hb (N - 1) 1 (by omega) (by have := hN.1; omega)
  rw [powL_one hm] at this
  exact this
end Go.Proofs.Ytbfafjejmljcpaa.X

namespace Go.Proofs.Ytbfafjejmljcpaa.P
open Go.RowKit Go.Proofs.YtbfafjejmljcpaaW.PrintWords Go.Proofs.YtbfafjejmljcpaaW.PrintLast
set_option linter.unusedVariables false
set_option linter.unusedSimpArgs false

def spec_l5Gcd.l0 : Nat → Int → Int → Option (Int)
 | 0, _, _ => none
 | k + 1, x0, x1 => if x1 = 0 then (some x0) else (spec_l5Gcd.l0 k x1 (Int.tmod x0 x1))
def spec_l5Gcd.f (k : Nat) (a0 : Int) (a1 : Int) : Option (Int) := spec_l5Gcd.l0 k a0 a1
set_option maxHeartbeats 8000000 in
set_option maxRecDepth 100000 in
theorem spec_l5Gcd.calls (k : Nat) (a0 : Int) (a1 : Int) (r : Int) (w : World) (h : spec_l5Gcd.f k a0 a1 = some r) :
  Calls Try.prog 48 #[.int .i64 a0, .int .i64 a1] w fun e w' => e = .returned (.int .i64 r) ∧ Drawn0 w w' := by
 have H : (spec_l5Gcd.l0 k a0 a1) = some r := h
 clear h
 have H' := Aside0.mk H
 clear H
 go_enter Try.func48, Try.ntmps48
 go_wp2
 go_loopg [0, 1] k (fun kq v0 v1 w' => ∃ (x0_1 : Int) (x1_1 : Int), v0 = .int .i64 x0_1 ∧ v1 = .int .i64 x1_1 ∧ Aside0 (spec_l5Gcd.l0 kq x0_1 x1_1 = some r) ∧ Aside0 (kq ≤ k) ∧ Drawn0 w w')
 case atStart => exact ⟨(a0), (a1), (by first | rfl | (simp; done) | (simp [*]; done)), (by first | rfl | (simp; done) | (simp [*]; done)), H', ⟨Nat.le_refl _⟩, by repeat (first | exact Drawn0.refl _ | apply Drawn0.step)⟩
 case round =>
  clear H'
  try clear p2
  obtain ⟨x0_1, x1_1, rfl, rfl, HA, HK1, ⟨m1, rfl⟩⟩ := hrel
  cases gk with
  | zero => exact absurd HA.out (by simp [spec_l5Gcd.l0])
  | succ k1 =>
   have H := HA.out
   clear HA
   simp only [spec_l5Gcd.l0] at H
   by_cases c3 : x1_1 = 0
   ·rw [if_pos c3] at H
    have c3b0 : (x1_1 == 0) = true := beq_iff_eq.mpr c3
    have c3b1 : (x1_1 != 0) = false := bne_eq_false_iff_eq.mpr c3
    clear c3
    obtain rfl := Option.some.inj H
    go_wp2
    go_ret
    exact ⟨by first | rfl | (simp; done) | (simp [*]; done), by repeat (first | exact Drawn0.refl _ | apply Drawn0.step)⟩
   ·rw [if_neg c3] at H
    have c3b0 : (x1_1 == 0) = false := beq_eq_false_iff_ne.mpr c3
    have c3b1 : (x1_1 != 0) = true := bne_iff_ne.mpr c3
    have H' := Aside0.mk H
    clear H
    go_wp2
    go_roundg k1
    case measure => have := HK1.out; omega
    case rel => exact ⟨(x1_1), (Int.tmod x0_1 x1_1), (by first | rfl | (simp; done) | (simp [*]; done)), (by first | rfl | (simp; done) | (simp [*]; done)), H', ⟨by have := HK1.out; omega⟩, by repeat (first | exact Drawn0.refl _ | apply Drawn0.step)⟩
end Go.Proofs.Ytbfafjejmljcpaa.P

namespace Go.Proofs.Ytbfafjejmljcpaa.P
open Go.RowKit Go.Proofs.YtbfafjejmljcpaaW.PrintWords Go.Proofs.YtbfafjejmljcpaaW.PrintLast
set_option linter.unusedVariables false
set_option linter.unusedSimpArgs false

mutual
def spec_MoveOrder.l0 : Nat → List Int → Int → List Bool → Int → Option (Int × Bool)
 | 0, _, _, _, _ => none
 | k + 1, x1, x6, x7, x8 => if x8 < 91 then (spec_MoveOrder.l1 k x1 x6 x7 x8 0 x8) else (some (x6, true))
def spec_MoveOrder.l1 : Nat → List Int → Int → List Bool → Int → Int → Int → Option (Int × Bool)
 | 0, _, _, _, _, _, _ => none
 | k + 1, x1, x6, x7, x8, x9, x10 => if 0 ≤ x10 then (if x10 < (x7.length : Int) then (if rdOf false x7 x10 = true then (if x9 > 0 then ((spec_l5Gcd.f k x6 x9).bind fun t326 => (if t326 = 0 then (none) else (spec_MoveOrder.l0 k x1 (wrap64 ((wrap64 (Int.tdiv x6 t326)) * x9)) x7 (wrap64 (x8 + 1))))) else (spec_MoveOrder.l0 k x1 x6 x7 (wrap64 (x8 + 1)))) else (if x10 < (x1.length : Int) then (spec_MoveOrder.l1 k x1 x6 (x7.set (x10 : Int).toNat true) x8 (wrap64 (x9 + 1)) (rd x1 x10)) else (none))) else (none)) else (none)
end
def spec_MoveOrder.f (k : Nat) (l0 : List Int) (l1 : List Int) : Option (Int × Bool) := (spec_MoveIn.f k l0 l1).bind fun t321 => (if t321 = true then (if 91 ≤ 281474976710656 then (spec_MoveOrder.l0 k l1 1 (List.replicate 91 false) 0) else (none)) else (some (0, false)))
set_option maxHeartbeats 8000000 in
set_option maxRecDepth 100000 in
theorem spec_MoveOrder.calls (k : Nat) (A0 : Option Addr) (c0 : Nat) (l0 : List Int) (A1 : Option Addr) (c1 : Nat) (l1 : List Int) (r1 : Int) (r2 : Bool) (w : World) (hr0 : Kd.C (Kd.int .i64) w A0 l0.length l0) (hc0 : l0.length ≤ c0) (hr1 : Kd.C (Kd.int .i64) w A1 l1.length l1) (hc1 : l1.length ≤ c1) (h : spec_MoveOrder.f k l0 l1 = some (r1, r2)) :
  Calls Try.prog 13 #[.slice A0 l0.length c0, .slice A1 l1.length c1] w fun e w' => e = .returned (.tuple #[.int .i64 r1, .bool r2]) ∧ Below w.heap.size w w' := by
 have HR0 := Aside0.mk hr0
 have HC0 := Aside0.mk hc0
 clear hr0 hc0
 have HR1 := Aside0.mk hr1
 have HC1 := Aside0.mk hc1
 clear hr1 hc1
 have HB := Aside0.mk (Below.refl w.heap.size w)
 have H : ((spec_MoveIn.f k l0 l1).bind fun t321 => (if t321 = true then (if 91 ≤ 281474976710656 then (spec_MoveOrder.l0 k l1 1 (List.replicate 91 false) 0) else (none)) else (some (0, false)))) = some (r1, r2) := h
 clear h
 replace H := Option.bind_eq_some_iff.mp H
 obtain ⟨t321, A30, H⟩ := H
 replace H : (if t321 = true then (if 91 ≤ 281474976710656 then (spec_MoveOrder.l0 k l1 1 (List.replicate 91 false) 0) else (none)) else (some (0, false))) = some (r1, r2) := H
 have A3 := Aside0.mk A30
 clear A30
 by_cases c4 : t321 = true
 ·subst c4
  have H1 : (if 91 ≤ 281474976710656 then (spec_MoveOrder.l0 k l1 1 (List.replicate 91 false) 0) else (none)) = some (r1, r2) := by rw [if_pos rfl] at H; exact H
  clear H
  have H := H1
  clear H1
  by_cases c5 : 91 ≤ 281474976710656
  ·rw [if_pos c5] at H
   have c5b0 := eq_true c5
   have c5b1 : decide (91 ≤ 281474976710656) = true := decide_eq_true c5
   clear c5
   obtain ⟨y322, hy322⟩ : ∃ y_ : List Bool, y_ = (List.replicate 91 false) := ⟨_, rfl⟩
   replace H : (spec_MoveOrder.l0 k l1 1 y322 0) = some (r1, r2) := by first | (rw [hy322]; with_reducible exact H) | (have H2_ := (Option.bind_some _ _).symm.trans H; rw [hy322]; with_reducible exact H2_) | (have H2_ := (Option.bind_some _ _).symm.trans H; with_reducible exact H2_) | with_reducible exact H | (rw [hy322]; exact H) | exact H
   have Ny322 := Aside0.mk hy322
   clear hy322
   have H' := Aside0.mk H
   clear H
   go_enter Try.func13, Try.ntmps13
   go_wp2_with (first | (refine goesL_ (some 13) rfl rfl Try.func47 (by kernel_rfl) rfl #[.slice A0 l0.length c0, .slice A1 l1.length c1] rfl ll_ ?_; (with_reducible refine (spec_MoveIn.calls k _ _ l0 _ _ l1 true _ ?side1 ?side2 ?side3 ?side4 A3.out).mono ?_); (case side1 => exact ss_ HR0); (case side2 => exact HC0.out); (case side3 => exact ss_ HR1); (case side4 => exact HC1.out); rintro e w6 ⟨rfl, hb⟩; refine ⟨_, rfl, ?_⟩; have n0_ := Aside0.mk (below_step (bb_ HB) hb); clear HB; have HB := n0_; clear n0_; (try clear hb); (try clear hb2); (try clear hk); (try clear hi)) | ((with_reducible refine gate_dst (N := 15) rfl ?_); refine Kd.R_make Kd.bool _ 4 rfl (N := 15) rfl 52 _ _ rfl 91 rfl rfl Try.underlying52 (.bool false) 1 info4 rfl (by decide) (by omega) false (ok := fun _ => True) (okp := fun _ => True) rfl (fun _ hk => hk) trivial (by omega) (by omega) (Below.refl _ _) (Nat.le_refl _) ?_; intro v323 w7 ho8 hb hg_ hnew_; clear hg_ hnew_; (first | rw [← Ny322.out] at ho8 | (simp only [Int.reduceToNat] at ho8; rw [← Ny322.out] at ho8)); have n0_ := Aside0.mk (Kd.R_lower ho8 (below_size (bb_ HB))); have n1_ := Aside0.mk (below_step (bb_ HB) hb); clear HB; have HO324 := n0_; have HB := n1_; clear n0_ n1_; clear hb ho8))
   go_loopg [6, 8] k (fun kq v6 v8 w' => ∃ (x6_1 : Int) (x7_1 : List Bool) (x8_1 : Int), v6 = .int .i64 x6_1 ∧ v8 = .int .i64 x8_1 ∧ Aside0 (spec_MoveOrder.l0 kq l1 x6_1 x7_1 x8_1 = some (r1, r2)) ∧ Aside0 (kq ≤ k) ∧ Aside0 (Kd.R Kd.bool 4 w' w.heap.size (fun _ => True) v323 x7_1) ∧ Aside0 (Below w.heap.size w w'))
   case atStart => exact ⟨(1), (y322), (0), (by first | rfl | (simp; done) | (simp [*]; done)), (by first | rfl | (simp; done) | (simp [*]; done)), H', ⟨Nat.le_refl _⟩, ⟨rr_ HO324⟩, ⟨by repeat (first | (with_reducible first | exact HB.out | apply below_alloc | apply pw_below_drewN | apply below_drew1) | exact HB.out)⟩⟩
   case round =>
    clear H'
    try clear c1
    try clear p2
    try clear c4
    try clear c5
    try clear c5b0
    try clear c5b1
    obtain ⟨x6_1, x7_1, x8_1, rfl, rfl, HA, HK1, HO_7, HB⟩ := hrel
    cases gk with
    | zero => exact absurd HA.out (by simp [spec_MoveOrder.l0])
    | succ k1 =>
     have H := HA.out
     clear HA
     simp only [spec_MoveOrder.l0] at H
     by_cases c9 : x8_1 < 91
     ·rw [if_pos c9] at H
      have c9b0 : decide (x8_1 < 91) = true := decide_eq_true c9
      clear c9
      have H' := Aside0.mk H
      clear H
      go_wp2
      go_loopg [9, 10] k1 (fun kq v9 v10 w' => ∃ (x7_2 : List Bool) (x9_2 : Int) (x10_2 : Int), v9 = .int .i64 x9_2 ∧ v10 = .int .i64 x10_2 ∧ Aside0 (spec_MoveOrder.l1 kq l1 x6_1 x7_2 x8_1 x9_2 x10_2 = some (r1, r2)) ∧ Aside0 (kq ≤ k1) ∧ Aside0 (Kd.R Kd.bool 4 w' w.heap.size (fun _ => True) v323 x7_2) ∧ Aside0 (Below w.heap.size w w'))
      case atStart => exact ⟨(x7_1), (0), (x8_1), (by first | rfl | (simp; done) | (simp [*]; done)), (by first | rfl | (simp; done) | (simp [*]; done)), H', ⟨Nat.le_refl _⟩, ⟨rr_ HO_7⟩, ⟨by repeat (first | (with_reducible first | exact HB.out | apply below_alloc | apply pw_below_drewN | apply below_drew1) | exact HB.out)⟩⟩
      case round =>
       clear H'
       try clear c1
       try clear p2
       try clear c4
       try clear c5
       try clear c5b0
       try clear c5b1
       try clear c9
       try clear c9b0
       try clear p2
       obtain ⟨x7_2, x9_2, x10_2, rfl, rfl, HA, HK2, HO_7, HB⟩ := hrel
       cases gk with
       | zero => exact absurd HA.out (by simp [spec_MoveOrder.l1])
       | succ k2 =>
        have H := HA.out
        clear HA
        simp only [spec_MoveOrder.l1] at H
        by_cases c10 : 0 ≤ x10_2
        ·rw [if_pos c10] at H
         have c10b0 : decide (0 ≤ x10_2) = true := decide_eq_true c10
         clear c10
         by_cases c11 : x10_2 < (x7_2.length : Int)
         ·rw [if_pos c11] at H
          have c11b0 : decide (x10_2 < (x7_2.length : Int)) = true := decide_eq_true c11
          clear c11
          obtain ⟨bq12, hbq12⟩ : ∃ b_ : Bool, b_ = (rdOf false x7_2 x10_2) := ⟨_, rfl⟩
          replace H : (if bq12 = true then (if x9_2 > 0 then ((spec_l5Gcd.f k2 x6_1 x9_2).bind fun t326 => (if t326 = 0 then (none) else (spec_MoveOrder.l0 k2 l1 (wrap64 ((wrap64 (Int.tdiv x6_1 t326)) * x9_2)) x7_2 (wrap64 (x8_1 + 1))))) else (spec_MoveOrder.l0 k2 l1 x6_1 x7_2 (wrap64 (x8_1 + 1)))) else (if x10_2 < (l1.length : Int) then (spec_MoveOrder.l1 k2 l1 x6_1 (x7_2.set (x10_2 : Int).toNat true) x8_1 (wrap64 (x9_2 + 1)) (rd l1 x10_2)) else (none))) = some (r1, r2) := by rw [← hbq12] at H; exact H
          have Nbq12 := Aside0.mk hbq12
          clear hbq12
          by_cases c13 : bq12 = true
          ·subst c13
           have H1 : (if x9_2 > 0 then ((spec_l5Gcd.f k2 x6_1 x9_2).bind fun t326 => (if t326 = 0 then (none) else (spec_MoveOrder.l0 k2 l1 (wrap64 ((wrap64 (Int.tdiv x6_1 t326)) * x9_2)) x7_2 (wrap64 (x8_1 + 1))))) else (spec_MoveOrder.l0 k2 l1 x6_1 x7_2 (wrap64 (x8_1 + 1)))) = some (r1, r2) := by rw [if_pos rfl] at H; exact H
           clear H
           have H := H1
           clear H1
           by_cases c14 : x9_2 > 0
           ·rw [if_pos c14] at H
            have c14b0 : decide (0 < x9_2) = true := decide_eq_true c14
            clear c14
            replace H := Option.bind_eq_some_iff.mp H
            obtain ⟨t326, A150, H⟩ := H
            replace H : (if t326 = 0 then (none) else (spec_MoveOrder.l0 k2 l1 (wrap64 ((wrap64 (Int.tdiv x6_1 t326)) * x9_2)) x7_2 (wrap64 (x8_1 + 1)))) = some (r1, r2) := H
            have A15 := Aside0.mk A150
            clear A150
            by_cases c16 : t326 = 0
            ·rw [if_pos c16] at H
             exact absurd H (by simp)
            ·rw [if_neg c16] at H
             have c16b0 : (t326 == 0) = false := beq_eq_false_iff_ne.mpr c16
             have c16b1 : (t326 != 0) = true := bne_iff_ne.mpr c16
             have H' := Aside0.mk H
             clear H
             obtain ⟨Ao17, co17, eo17⟩ := Kd.R_slice HO_7.out
             subst eo17
             have p325 : 0 ≤ (x10_2 : Int) := dd_
             have q325 : x10_2 < (x7_2.length : Int) := dd_
             obtain ⟨ad325, e325, hx325_0⟩ := Kd.at_bool (Kd.R_reads' HO_7.out).2.2 x10_2 p325 q325
             (try rw [← Nbq12.out] at hx325_0)
             cases e325
             replace p325 := eq_true p325
             replace q325 := eq_true q325
             go_wp2_with (first | (refine goesL_ (some 40) rfl rfl Try.func48 (by kernel_rfl) rfl #[.int .i64 x6_1, .int .i64 x9_2] rfl ll_ ?_; (with_reducible refine (spec_l5Gcd.calls k2 x6_1 x9_2 t326 _ A15.out).mono ?_); rintro e w' ⟨rfl, ⟨nd, rfl⟩⟩; refine ⟨_, rfl, ?_⟩))
             go_roundg k2
             case measure => have := HK1.out; have := HK2.out; omega
             case rel => exact ⟨(wrap64 ((wrap64 (Int.tdiv x6_1 t326)) * x9_2)), (x7_2), (wrap64 (x8_1 + 1)), (by first | rfl | (simp; done) | (simp [*]; done)), (by first | rfl | (simp; done) | (simp [*]; done)), H', ⟨by have := HK1.out; have := HK2.out; omega⟩, ⟨rr_ HO_7⟩, ⟨by repeat (first | (with_reducible first | exact HB.out | apply below_alloc | apply pw_below_drewN | apply below_drew1) | exact HB.out)⟩⟩
           ·rw [if_neg c14] at H
            have c14b0 : decide (0 < x9_2) = false := decide_eq_false c14
            clear c14
            have H' := Aside0.mk H
            clear H
            obtain ⟨Ao18, co18, eo18⟩ := Kd.R_slice HO_7.out
            subst eo18
            have p325 : 0 ≤ (x10_2 : Int) := dd_
            have q325 : x10_2 < (x7_2.length : Int) := dd_
            obtain ⟨ad325, e325, hx325_0⟩ := Kd.at_bool (Kd.R_reads' HO_7.out).2.2 x10_2 p325 q325
            (try rw [← Nbq12.out] at hx325_0)
            cases e325
            replace p325 := eq_true p325
            replace q325 := eq_true q325
            go_wp2
            go_roundg k2
            case measure => have := HK1.out; have := HK2.out; omega
            case rel => exact ⟨(x6_1), (x7_2), (wrap64 (x8_1 + 1)), (by first | rfl | (simp; done) | (simp [*]; done)), (by first | rfl | (simp; done) | (simp [*]; done)), H', ⟨by have := HK1.out; have := HK2.out; omega⟩, ⟨rr_ HO_7⟩, ⟨by repeat (first | (with_reducible first | exact HB.out | apply below_alloc | apply pw_below_drewN | apply below_drew1) | exact HB.out)⟩⟩
          ·replace c13 := Bool.eq_false_iff.mpr c13
           subst c13
           have H1 : (if x10_2 < (l1.length : Int) then (spec_MoveOrder.l1 k2 l1 x6_1 (x7_2.set (x10_2 : Int).toNat true) x8_1 (wrap64 (x9_2 + 1)) (rd l1 x10_2)) else (none)) = some (r1, r2) := by rw [if_neg (show ¬ (false = true) by decide)] at H; exact H
           clear H
           have H := H1
           clear H1
           obtain ⟨y327, hy327⟩ : ∃ y_ : List Bool, y_ = (x7_2.set (x10_2 : Int).toNat true) := ⟨_, rfl⟩
           replace H : (if x10_2 < (l1.length : Int) then (spec_MoveOrder.l1 k2 l1 x6_1 y327 x8_1 (wrap64 (x9_2 + 1)) (rd l1 x10_2)) else (none)) = some (r1, r2) := by first | (rw [hy327]; with_reducible exact H) | (have H2_ := (Option.bind_some _ _).symm.trans H; rw [hy327]; with_reducible exact H2_) | (have H2_ := (Option.bind_some _ _).symm.trans H; with_reducible exact H2_) | with_reducible exact H | (rw [hy327]; exact H) | exact H
           have Ny327 := Aside0.mk hy327
           clear hy327
           by_cases c20 : x10_2 < (l1.length : Int)
           ·rw [if_pos c20] at H
            have c20b0 : decide (x10_2 < (l1.length : Int)) = true := decide_eq_true c20
            clear c20
            have H' := Aside0.mk H
            clear H
            obtain ⟨Ao21, co21, eo21⟩ := Kd.R_slice HO_7.out
            subst eo21
            have p325 : 0 ≤ (x10_2 : Int) := dd_
            have q325 : x10_2 < (x7_2.length : Int) := dd_
            obtain ⟨ad325, e325, hx325_0⟩ := Kd.at_bool (Kd.R_reads' HO_7.out).2.2 x10_2 p325 q325
            (try rw [← Nbq12.out] at hx325_0)
            cases e325
            replace p325 := eq_true p325
            replace q325 := eq_true q325
            have p19 : 0 ≤ (x10_2 : Int) := dd_
            have q19 : (x10_2 : Int) < ((x7_2.length : Int) : Int) := dd_
            obtain ⟨go19, co19, eo19, gb19, gl19, cl19, HG19⟩ := Kd.R_form HO_7.out (by omega)
            (first | cases eo19 | (injection eo19 with ea_ en_ ec_; (first | subst ea_ | (injection ea_ with ea_; subst ea_)); subst ec_; clear en_))
            have GB19 := Aside0.mk gb19
            have GG19 := Aside0.mk HG19
            clear gb19 gl19 HG19
            (first | simp only [add_plain] at hx325_0 | skip)
            obtain ⟨hx19_0, hf19_0⟩ := Kd.R_celln false HO_7.out (x10_2 : Int) p19 q19
            replace p19 := eq_true p19
            replace q19 := eq_true q19
            have HP22 := Kd.R_putg HO_7.out (x10_2 : Int) true
            go_wp2_with (first | ((with_reducible refine gate_store (t := 4) (p := 28) rfl ?_); refine store_event (t := 4) (p := 28) (v := ?vo_w23) (w1 := (wr.setCell ⟨go19, (x10_2 : Int).toNat, none⟩ (.bool true))) ?hg ?ho ?hn ?hr ?_; (case ho => rfl); (case hg => rfl); (case hn => rfl); (case hr => first | (go_simp; done) | (go_simp; rfl)); intro w23 hw; have hg : wr.grownBy w23 (some go19) := (by rw [hw]; exact HP22.2); have hp_ : Kd.R Kd.bool 4 w23 w.heap.size (fun _ => True) (.slice (some ⟨go19, 0, none⟩) x7_2.length co21) y327 := (by rw [hw, Ny327.out]; exact HP22.1); clear HP22; have n0_ := Aside0.mk (hp_); have n1_ := Aside0.mk ((by rw [hw]; exact below_set (HB.out) GB19.out : Below w.heap.size w w23)); clear HO_7; clear HB; have HO_7 := n0_; have HB := n1_; clear n0_ n1_; clear hg hw hp_; have p328 : 0 ≤ (x10_2 : Int) := dd_; have q328 : x10_2 < (l1.length : Int) := dd_; obtain ⟨ad328, e328, hx328_0⟩ := Kd.at_int HR1.out x10_2 p328 q328; cases e328; replace hx328_0 := hc_ HB hx328_0; replace p328 := eq_true p328; replace q328 := eq_true q328))
            go_roundg k2
            case measure => have := HK1.out; have := HK2.out; omega
            case rel => exact ⟨(y327), (wrap64 (x9_2 + 1)), (rd l1 x10_2), (by first | rfl | (simp; done) | (simp [*]; done)), (by first | rfl | (simp; done) | (simp [*]; done)), H', ⟨by have := HK1.out; have := HK2.out; omega⟩, ⟨rr_ HO_7⟩, ⟨by repeat (first | (with_reducible first | exact HB.out | apply below_alloc | apply pw_below_drewN | apply below_drew1) | exact HB.out)⟩⟩
           ·rw [if_neg c20] at H
            exact absurd H (by simp)
         ·rw [if_neg c11] at H
          exact absurd H (by simp)
        ·rw [if_neg c10] at H
         exact absurd H (by simp)
     ·rw [if_neg c9] at H
      have c9b0 : decide (x8_1 < 91) = false := decide_eq_false c9
      clear c9
      simp only [Option.some.injEq, Prod.mk.injEq] at H
      obtain ⟨rfl, rfl⟩ := H
      go_wp2
      go_ret2
      exact ⟨ee_, bb_ HB⟩
  ·rw [if_neg c5] at H
   exact absurd H (by simp)
 ·replace c4 := Bool.eq_false_iff.mpr c4
  subst c4
  have H1 : (some (0, false)) = some (r1, r2) := by rw [if_neg (show ¬ (false = true) by decide)] at H; exact H
  clear H
  have H := H1
  clear H1
  simp only [Option.some.injEq, Prod.mk.injEq] at H
  obtain ⟨rfl, rfl⟩ := H
  go_enter Try.func13, Try.ntmps13
  go_wp2_with (first | (refine goesL_ (some 13) rfl rfl Try.func47 (by kernel_rfl) rfl #[.slice A0 l0.length c0, .slice A1 l1.length c1] rfl ll_ ?_; (with_reducible refine (spec_MoveIn.calls k _ _ l0 _ _ l1 false _ ?side1 ?side2 ?side3 ?side4 A3.out).mono ?_); (case side1 => exact ss_ HR0); (case side2 => exact HC0.out); (case side3 => exact ss_ HR1); (case side4 => exact HC1.out); rintro e w24 ⟨rfl, hb⟩; refine ⟨_, rfl, ?_⟩; have n0_ := Aside0.mk (below_step (bb_ HB) hb); clear HB; have HB := n0_; clear n0_; (try clear hb); (try clear hb2); (try clear hk); (try clear hi)))
  go_ret2
  exact ⟨ee_, bb_ HB⟩
end Go.Proofs.Ytbfafjejmljcpaa.P

set_option linter.unusedVariables false
set_option linter.unusedSimpArgs false
namespace Go.Proofs.Ytbfafjejmljcpaa.X
open Go.RowKit Go.Proofs.YtbfafjejmljcpaaW.PrintWords Go.Proofs.YtbfafjejmljcpaaW.PrintLast Go.Proofs.Ytbfafjejmljcpaa.P

theorem gcd_l0 (b : Nat) : ∀ a : Nat, Ev (fun k => spec_l5Gcd.l0 k (a : Int) (b : Int)) ((Nat.gcd a b : Nat) : Int) := by
  induction b using Nat.strongRecOn with
  | ind b ih =>
    intro a
    refine Ev.step (fun k => by rw [spec_l5Gcd.l0]) ?_
    by_cases e : b = 0
    · subst e
      exact Ev.pos rfl (Ev.done (by rw [Nat.gcd_zero_right]))
    · refine Ev.neg (by omega) ?_
      have h1 := ih (a % b) (Nat.mod_lt a (by omega)) b
      have e2 : Int.tmod (a : Int) (b : Int) = ((a % b : Nat) : Int) := by rw [tmod_nn (by omega)]; rfl
      have e3 : Nat.gcd a b = Nat.gcd b (a % b) := by rw [Nat.gcd_comm a b, Nat.gcd_rec b a, Nat.gcd_comm]
      rw [e2, e3]
      exact h1
theorem gcd_ev (a b : Nat) : Ev (fun k => spec_l5Gcd.f k (a : Int) (b : Int)) ((Nat.gcd a b : Nat) : Int) := gcd_l0 b a
def sN (s : Nat → Bool) (m : List Int) (p : Int) : Nat → (Nat → Bool)
  | 0 => s
  | n + 1 => fun x => if x = (itI m n p).toNat then true else sN s m p n x
theorem sN_iff {s : Nat → Bool} {m : List Int} {p : Int} (n x : Nat) : sN s m p n x = true ↔ s x = true ∨ ∃ j, j < n ∧ x = (itI m j p).toNat := by
  induction n with
  | zero => exact ⟨.inl, fun h => h.elim id fun ⟨j, hj, _⟩ => absurd hj (by omega)⟩
  | succ n ih =>
    show (if x = (itI m n p).toNat then true else sN s m p n x) = true ↔ _
    by_cases e : x = (itI m n p).toNat
    · rw [if_pos e]; exact ⟨fun _ => .inr ⟨n, by omega, e⟩, fun _ => rfl⟩
    · rw [if_neg e, ih]
      refine or_congr_right ⟨fun ⟨j, hj, h⟩ => ⟨j, by omega, h⟩, fun ⟨j, hj, h⟩ => ⟨j, ?_, h⟩⟩
      rcases Nat.lt_or_eq_of_le (Nat.le_of_lt_succ hj) with h2 | h2
      · exact h2
      · rw [h2] at h; exact absurd h e
def Closed (m : List Int) (s : Nat → Bool) : Prop := ∀ x, In91 x → s (rd m x).toNat = s x.toNat
theorem closed_it {m : List Int} (hm : permB m = true) {s : Nat → Bool} (hc : Closed m s) {p : Int} (hp : In91 p) (n : Nat) : s (itI m n p).toNat = s p.toNat := by
  induction n with
  | zero => rfl
  | succ n ih => exact (hc _ (itI_in hm n hp)).trans ih
theorem sN_new {m : List Int} (hm : permB m = true) {s : Nat → Bool} (hc : Closed m s) {p : Int} (hp : In91 p) (hs : s p.toNat = false) {c n : Nat} (h : IsCyc m p c) (hn : n < c) : sN s m p n (itI m n p).toNat = false := by
  refine Bool.eq_false_iff.2 fun hh => ?_
  rcases (sN_iff n _).1 hh with h1 | ⟨j, hj, e⟩
  · rw [closed_it hm hc hp, hs] at h1; exact absurd h1 (by decide)
  · have a := itI_in hm n hp
    have b := itI_in hm j hp
    have a0 := a.1; have b0 := b.1
    exact h.ne hm hp hj hn (by omega)
theorem sN_size {m : List Int} (hm : permB m = true) {s : Nat → Bool} (hc : Closed m s) {p : Int} (hp : In91 p) (hs : s p.toNat = false) {c : Nat} (h : IsCyc m p c) (n : Nat) (hn : n ≤ c) : sizeS s + n ≤ sizeS (sN s m p n) := by
  induction n with
  | zero => exact Nat.le_refl _
  | succ n ih =>
    have h1 := ih (by omega)
    have a := itI_in hm n hp
    have h2 := sizeS_less (s := sN s m p n) (s' := sN s m p (n + 1)) (fun x _ hx => (sN_iff _ _).2 (by
      rcases (sN_iff _ _).1 hx with h | ⟨j, hj, e⟩
      · exact .inl h
      · exact .inr ⟨j, by omega, e⟩)) (j := (itI m n p).toNat) (by have := a.1; have := a.2; omega) ((sN_iff _ _).2 (.inr ⟨n, by omega, rfl⟩)) (sN_new hm hc hp hs h (by omega))
    omega
theorem sN_closed {m : List Int} (hm : permB m = true) {s : Nat → Bool} (hc : Closed m s) {p : Int} (hp : In91 p) {c : Nat} (h : IsCyc m p c) : Closed m (sN s m p c) := by
  intro x hx
  have hx2 := perm_rd hm hx
  have key : sN s m p c (rd m x).toNat = true ↔ sN s m p c x.toNat = true := by
    rw [sN_iff, sN_iff, hc x hx]
    refine or_congr_right ⟨fun ⟨j, hj, e⟩ => ?_, fun ⟨j, hj, e⟩ => ?_⟩
    · have b := itI_in hm j hp
      have e2 : rd m x = itI m j p := by have := hx2.1; have := b.1; omega
      cases j with
      | zero =>
        refine ⟨c - 1, by have := h.1; omega, ?_⟩
        have e3 : rd m (itI m (c - 1) p) = p := by
          have : itI m ((c - 1) + 1) p = p := by rw [show c - 1 + 1 = c by have := h.1; omega]; exact h.2.1
          exact this
        rw [perm_inj hm hx (itI_in hm (c - 1) hp) (e2.trans e3.symm)]
      | succ j =>
        refine ⟨j, by omega, ?_⟩
        rw [perm_inj hm hx (itI_in hm j hp) e2]
    · have b := itI_in hm j hp
      have e2 : x = itI m j p := by have := hx.1; have := b.1; omega
      by_cases ej : j + 1 = c
      · refine ⟨0, by omega, ?_⟩
        have e3 : rd m x = p := by rw [e2]; show itI m (j + 1) p = p; rw [ej]; exact h.2.1
        rw [e3]; rfl
      · refine ⟨j + 1, by omega, ?_⟩
        rw [e2]; rfl
  cases e : sN s m p c x.toNat with
  | true => exact key.2 e
  | false => exact Bool.eq_false_iff.2 fun h => by rw [key.1 h] at e; exact absurd e (by decide)
theorem cube_pow : ∀ c : Fin 92, c.val ^ 3 ≤ 3 ^ c.val := by decide +kernel
theorem cube_le {n : Nat} (h : n ^ 3 ≤ 3 ^ 91) : n ≤ 1000000000000000 := by
  rcases Nat.lt_or_ge 1000000000000000 n with hlt | hge
  · exfalso
    have h1 : 1000000000000000 ^ 3 ≤ n ^ 3 := Nat.pow_le_pow_left (Nat.le_of_lt hlt) 3
    have h2 : (3 : Nat) ^ 91 < 1000000000000000 ^ 3 := by decide +kernel
    omega
  · exact hge
structure OInv (m : List Int) (s : Nat → Bool) (o : Nat) : Prop where
  cl : Closed m s
  all : ∀ x, In91 x → s x.toNat = true → itI m o x = x
  dv : ∀ K, (∀ x, In91 x → s x.toNat = true → itI m K x = x) → o ∣ K
  cu : o ^ 3 ≤ 3 ^ sizeS s
  one : 1 ≤ o
theorem OInv.next {m : List Int} (hm : permB m = true) {s : Nat → Bool} {o : Nat} (I : OInv m s o) {p : Int} (hp : In91 p) (hs : s p.toNat = false) {c : Nat} (h : IsCyc m p c) (hc91 : c ≤ 91) : OInv m (sN s m p c) (Nat.lcm o c) where
  cl := sN_closed hm I.cl hp h
  all := by
    intro x hx hsx
    rcases (sN_iff _ _).1 hsx with h1 | ⟨j, hj, e⟩
    · obtain ⟨q, hq⟩ := Nat.dvd_lcm_left o c
      rw [hq]; exact itI_mul m o (I.all x hx h1) q
    · have b := itI_in hm j hp
      have e2 : x = itI m j p := by have := hx.1; have := b.1; omega
      obtain ⟨q, hq⟩ := Nat.dvd_lcm_right o c
      rw [hq]
      refine itI_mul m c ?_ q
      rw [e2, ← itI_add, Nat.add_comm, itI_add, h.2.1]
  dv := by
    intro K hK
    refine Nat.lcm_dvd (I.dv K fun x hx hsx => hK x hx ((sN_iff _ _).2 (.inl hsx))) ?_
    exact h.dvd (hK p hp ((sN_iff _ _).2 (.inr ⟨0, h.1, rfl⟩)))
  cu := by
    have h1 := sN_size hm I.cl hp hs h c (Nat.le_refl _)
    have h2 : Nat.lcm o c ≤ o * c := Nat.le_of_dvd (Nat.mul_pos I.one h.1) (Nat.lcm_dvd (Nat.dvd_mul_right _ _) (Nat.dvd_mul_left _ _))
    have h3 : c ^ 3 ≤ 3 ^ c := cube_pow ⟨c, by omega⟩
    calc Nat.lcm o c ^ 3 ≤ (o * c) ^ 3 := Nat.pow_le_pow_left h2 3
      _ = o ^ 3 * c ^ 3 := Nat.mul_pow o c 3
      _ ≤ 3 ^ sizeS s * 3 ^ c := Nat.mul_le_mul I.cu h3
      _ = 3 ^ (sizeS s + c) := (Nat.pow_add 3 (sizeS s) c).symm
      _ ≤ 3 ^ sizeS (sN s m p c) := Nat.pow_le_pow_right (by omega) h1
  one := Nat.lcm_pos I.one h.1
theorem OInv.le {m : List Int} {s : Nat → Bool} {o : Nat} (I : OInv m s o) : o ^ 3 ≤ 3 ^ 91 := Nat.le_trans I.cu (Nat.pow_le_pow_right (by omega) (sizeS_le s))
theorem specOrd_l1 {m : List Int} (hm : permB m = true) {s : Nat → Bool} {o : Nat} (I : OInv m s o) {p : Int} (hp : In91 p) (hs : s p.toNat = false) {c : Nat} (h : IsCyc m p c) (hc91 : c ≤ 91) {r : Int × Bool}
    (hr : Ev (fun k => spec_MoveOrder.l0 k m ((Nat.lcm o c : Nat) : Int) (bL 91 (sN s m p c)) (p + 1)) r) (d : Nat) : ∀ n : Nat, n + d = c → Ev (fun k => spec_MoveOrder.l1 k m (o : Int) (bL 91 (sN s m p n)) p (n : Int) (itI m n p)) r := by
  have hl := permB_len hm
  induction d with
  | zero =>
    intro n hn
    have e : n = c := by omega
    subst e
    have hp0 := hp.1
    have hp1 := hp.2
    refine Ev.step (fun k => by rw [spec_MoveOrder.l1]) ?_
    rw [h.2.1, bL_length, bL_rd p hp.1 hp.2, w64 (x := p + 1) (by omega) (by omega)]
    refine Ev.pos hp.1 (Ev.pos hp.2 (Ev.pos ((sN_iff _ _).2 (.inr ⟨0, h.1, rfl⟩)) (Ev.pos (by have := h.1; omega) (Ev.bind (gcd_ev o n) ?_))))
    have hg : 0 < Nat.gcd o n := Nat.gcd_pos_of_pos_left _ I.one
    have hle := cube_le I.le
    have hlc := cube_le (I.next hm hp hs h hc91).le
    have ed : Int.tdiv (o : Int) ((Nat.gcd o n : Nat) : Int) = ((o / Nat.gcd o n : Nat) : Int) := by rw [tdiv_nn (by omega)]; rfl
    have hd : o / Nat.gcd o n ≤ o := Nat.div_le_self _ _
    have el : o / Nat.gcd o n * n = Nat.lcm o n := by
      show _ = o * n / Nat.gcd o n
      rw [Nat.div_mul_right_comm (Nat.gcd_dvd_left o n)]
    have ee : wrap64 (wrap64 (Int.tdiv (o : Int) ((Nat.gcd o n : Nat) : Int)) * (n : Int)) = ((Nat.lcm o n : Nat) : Int) := by
      rw [ed]
      generalize o / Nat.gcd o n = u at hd el ⊢
      rw [w64 (x := (u : Int)) (by omega) (by omega), ← Int.natCast_mul, el]
      exact w64 (by omega) (by omega)
    rw [ee]
    exact Ev.neg (by omega) hr
  | succ d ih =>
    intro n hn
    have nx := ih (n + 1) (by omega)
    obtain ⟨q0, q1⟩ := itI_in hm n hp
    refine Ev.step (fun k => by rw [spec_MoveOrder.l1]) ?_
    rw [bL_length, bL_rd (itI m n p) q0 q1, sN_new hm I.cl hp hs h (by omega), w64 (x := (n : Int) + 1) (by omega) (by omega), bL_set]
    refine Ev.pos q0 (Ev.pos q1 (Ev.neg (by decide) (Ev.pos (by omega) ?_)))
    exact nx
theorem specOrd_l0 {m : List Int} (hm : permB m = true) (d : Nat) : ∀ (p : Int) (s : Nat → Bool) (o : Nat), 0 ≤ p → p + d = 91 → OInv m s o → (∀ r : Int, 0 ≤ r → r < p → s r.toNat = true) → ∃ n : Nat, IsOrd m n ∧ n ≤ 1000000000000000 ∧ Ev (fun k => spec_MoveOrder.l0 k m (o : Int) (bL 91 s) p) ((n : Int), true) := by
  induction d with
  | zero =>
    intro p s o p0 p1 I h
    have hall : ∀ x, In91 x → s x.toNat = true := fun x hx => h x hx.1 (by have := hx.2; omega)
    refine ⟨o, ⟨I.one, fun x hx => I.all x hx (hall x hx), fun k k1 hk => Nat.le_of_dvd k1 (I.dv k fun x hx _ => hk x hx)⟩, cube_le I.le, ?_⟩
    refine Ev.step (fun k => by rw [spec_MoveOrder.l0]) ?_
    exact Ev.neg (by omega) (Ev.done rfl)
  | succ d ih =>
    intro p s o p0 p1 I h
    have hp : In91 p := ⟨p0, by omega⟩
    by_cases e : s p.toNat = true
    · obtain ⟨n, hn, hb, hev⟩ := ih (p + 1) s o (by omega) (by omega) I (fun r r0 r1 => by
        by_cases er : r = p
        · rw [er]; exact e
        · exact h r r0 (by omega))
      refine ⟨n, hn, hb, ?_⟩
      refine Ev.step (fun k => by rw [spec_MoveOrder.l0]) ?_
      refine Ev.pos (by omega) ?_
      refine Ev.step (fun k => by rw [spec_MoveOrder.l1]) ?_
      rw [bL_length, bL_rd p p0 (by omega), e, w64 (x := p + 1) (by omega) (by omega)]
      exact Ev.pos p0 (Ev.pos (by omega) (Ev.pos rfl (Ev.neg (by omega) hev)))
    · have e := Bool.eq_false_iff.2 e
      obtain ⟨c, hc91, hc⟩ := cyc_ex hm hp
      obtain ⟨n, hn, hb, hev⟩ := ih (p + 1) (sN s m p c) (Nat.lcm o c) (by omega) (by omega) (I.next hm hp e hc hc91) (fun r r0 r1 => (sN_iff _ _).2 (by
        by_cases er : r = p
        · rw [er]; exact .inr ⟨0, hc.1, rfl⟩
        · exact .inl (h r r0 (by omega))))
      refine ⟨n, hn, hb, ?_⟩
      refine Ev.step (fun k => by rw [spec_MoveOrder.l0]) ?_
      exact Ev.pos (by omega) (specOrd_l1 hm I hp e hc hc91 hev c 0 (by omega))
theorem specOrd_ev {t m : List Int} (ht : t.length ≤ 1048576) (hl : m.length ≤ 1048576) (hs : moveB t m = true) : ∃ n : Nat, IsOrd m n ∧ n ≤ 1000000000000000 ∧ Ev (fun k => spec_MoveOrder.f k t m) ((n : Int), true) := by
  have hm := (moveB_parts hs).2.1
  obtain ⟨n, hn, hb, hev⟩ := specOrd_l0 hm 91 0 (fun _ => false) 1 (by omega) (by omega) ⟨fun _ _ => rfl, fun _ _ h => absurd h (by decide), fun K _ => Nat.one_dvd K, Nat.one_le_pow _ _ (by omega), Nat.le_refl _⟩ (fun r r0 r1 => by omega)
  refine ⟨n, hn, hb, ?_⟩
  unfold spec_MoveOrder.f
  refine Ev.bind (MoveIn_ev ht hl) (Ev.pos hs (Ev.pos (by omega) ?_))
  rw [bL_replicate]
  exact hev
end Go.Proofs.Ytbfafjejmljcpaa.X

set_option linter.unusedVariables false
set_option linter.unusedSimpArgs false
namespace Go.Proofs.Ytbfafjejmljcpaa.X
open Go.RowKit Go.Proofs.YtbfafjejmljcpaaW.PrintWords Go.Proofs.YtbfafjejmljcpaaW.PrintLast Go.Proofs.Ytbfafjejmljcpaa.P

theorem sameInts_loop (a b : List Int) (hl : a.length ≤ 1048576) (hab : a.length = b.length) (d : Nat) : ∀ (i : Int), 0 ≤ i → i + d = a.length → (∀ j : Nat, (j : Int) < i → rd a (j : Int) = rd b (j : Int)) → Ev (fun k => laws_sameInts.l0 k a b i) (decide (a = b)) := by
  induction d with
  | zero =>
    intro i h0 h1 h
    refine Ev.step (fun k => by rw [laws_sameInts.l0]) ?_
    refine Ev.neg (by omega) (Ev.done ?_)
    rw [decide_eq_true (ext_rd hab fun j hj => h j (by omega))]
  | succ d ih =>
    intro i h0 h1 h
    refine Ev.step (fun k => by rw [laws_sameInts.l0]) ?_
    simp (disch := omega) only [w64]
    refine Ev.pos (by omega) (Ev.pos (by omega) (Ev.pos (by omega) ?_))
    by_cases e : rd a i = rd b i
    · refine Ev.pos e (ih (i + 1) (by omega) (by omega) fun j hj => ?_)
      by_cases ej : (j : Int) = i
      · rw [ej]; exact e
      · exact h j (by omega)
    · refine Ev.neg e (Ev.done ?_)
      rw [decide_eq_false (fun hab => e (by rw [hab]))]
theorem sameInts_ev (a b : List Int) (hl : a.length ≤ 1048576) : Ev (fun k => laws_sameInts.f k a b) (decide (a = b)) := by
  unfold laws_sameInts.f
  by_cases h : a.length = b.length
  · exact Ev.pos (by omega) (sameInts_loop a b hl h a.length 0 (by omega) (by omega) fun j hj => by omega)
  · refine Ev.neg (by omega) (Ev.done ?_)
    rw [decide_eq_false (fun hab => h (by rw [hab]))]
end Go.Proofs.Ytbfafjejmljcpaa.X

set_option linter.unusedVariables false
set_option linter.unusedSimpArgs false
namespace Go.Proofs.Ytbfafjejmljcpaa.X
open Go.RowKit Go.Proofs.YtbfafjejmljcpaaW.PrintWords

theorem itI_one (m : List Int) (p : Int) : itI m 1 p = rd m p := rfl
theorem itI_back {m : List Int} (hm : permB m = true) (n : Nat) : ∀ p, In91 p → itI (backL m) n (itI m n p) = p := by
  induction n with
  | zero => intro p _; rfl
  | succ n ih =>
    intro p hp
    have h1 : itI m (n + 1) p = rd m (itI m n p) := by rw [Nat.add_comm, itI_add m 1 n p]; rfl
    rw [itI_add (backL m) n 1, h1, itI_one, back_rd hm (itI_in hm n hp)]
    exact ih p hp
theorem id_back {m : List Int} (hm : permB m = true) (n : Nat) : IdN (backL m) n ↔ IdN m n := by
  constructor
  · intro h p hp
    have hq := itI_in hm n hp
    have a := itI_back hm n p hp
    rw [h _ hq] at a
    exact a
  · intro h p hp
    have a := itI_back hm n p hp
    rw [h p hp] at a
    exact a
theorem ord_back {m : List Int} (hm : permB m = true) {n : Nat} (h : IsOrd m n) : IsOrd (backL m) n :=
  ⟨h.1, (id_back hm n).2 h.2.1, fun k k1 hk => h.2.2 k k1 ((id_back hm k).1 hk)⟩
theorem ext_rdP {a b : List Int} (hl : a.length = b.length) (h : ∀ i : Int, 0 ≤ i → i < a.length → rd a i = rd b i) : a = b := by
  apply List.ext_getElem hl
  intro i h1 h2
  rw [← rd_cast a i h1, ← rd_cast b i h2]
  exact h (i : Int) (by omega) (by omega)
theorem back_back {m : List Int} (hm : permB m = true) : backL (backL m) = m := by
  have hb := back_perm hm
  have hl := permB_len hm
  refine ext_rdP ?_ fun i i0 i1 => ?_
  · rw [backL_length, hl]
  · have hi : In91 i := ⟨i0, by rw [backL_length] at i1; omega⟩
    have h1 := back_rd hb (perm_rd hm hi)
    rw [back_rd hm hi] at h1
    exact h1
end Go.Proofs.Ytbfafjejmljcpaa.X

set_option linter.unusedVariables false
set_option linter.unusedSimpArgs false
namespace Go.Proofs.Ytbfafjejmljcpaa.Pure
open Go.RowKit Go.Proofs.Ytbfafjejmljcpaa.P Go.Proofs.YtbfafjejmljcpaaW.PrintWords Go.Proofs.YtbfafjejmljcpaaW.PrintLast Go.Proofs.Ytbfafjejmljcpaa.X

theorem back_no {t m : List Int} (h : ¬ moveB t m = true) : backR t m = ([], false) := if_neg h
theorem back_yes {t m : List Int} (h : moveB t m = true) : backR t m = (backL m, true) := if_pos h
theorem back_facts {t m : List Int} (h : moveB t m = true) (ht : t.length ≤ 1048576) : ∃ (b : List Int) (N : Nat), backL m = b ∧ b.length = 91 ∧ m.length = 91 ∧ Ev (fun k => impl_MoveBack.f k t b) (m, true) ∧ Ev (fun k => impl_MoveOrder.f k t b) ((N : Int), true) ∧ Ev (fun k => impl_MoveOrder.f k t m) ((N : Int), true) := by
  have pm := (moveB_parts h).2.1
  have hl := permB_len pm
  have hbm := back_move h
  have hbl := backL_length m
  obtain ⟨N, hN, hb2, _⟩ := specOrd_ev (t := t) (m := m) ht (by omega) h
  have e1 := implBack_ev (t := t) (m := backL m) (by omega)
  rw [back_yes hbm, back_back pm] at e1
  exact ⟨backL m, N, rfl, hbl, hl, e1, implOrd_ev hbm (by omega) (ord_back pm hN) hb2, implOrd_ev h (by omega) hN hb2⟩
theorem FnMoveBack : laws_FnMoveBack.Pure := by
  intro l0 _ _ hu
  refine Ev.rounds ?_
  unfold laws_FnMoveBack.f
  by_cases hb : (l0.length : Int) > 1048576
  · exact Ev.pos hb (Ev.done rfl)
  refine Ev.neg hb ?_
  obtain ⟨t, m, ht, hm, e⟩ := moved_ev l0 hu
  have htl := ht.len
  have hml := hm.len
  refine Ev.bind (Ev.bind e (Ev.done rfl) : Ev (fun k => spec_DrawMoveBack.f k l0) (t, m)) ?_
  dsimp only
  refine Ev.bind (implBack_ev (t := t) (m := m) (by omega)) (Ev.bind (specBack_ev (t := t) (m := m) (by omega) (by omega)) ?_)
  refine Ev.neg (by simp) (Ev.bind (sameInts_ev _ _ (backR_length t m)) (Ev.pos (by simp) ?_))
  refine Ev.step (fun k => by rw [laws_FnMoveBack.j0]) ?_
  by_cases h : moveB t m = true
  case neg =>
    rw [back_no h]
    exact Ev.pos (by decide) (Ev.pos (by decide) (Ev.bind (sameInts_ev [] [] (by decide)) (Ev.done (by simp))))
  rw [back_yes h]
  obtain ⟨b, N, hbe, hbl, hl, e1, e2, e3⟩ := back_facts h (by omega)
  rw [hbe]
  refine Ev.neg (by simp) (Ev.bind e1 (Ev.bind e2 (Ev.bind e3 ?_)))
  exact Ev.pos rfl (Ev.pos rfl (Ev.pos rfl (Ev.bind (sameInts_ev m m (by omega)) (Ev.pos (by simp) (Ev.done (by simp))))))
end Go.Proofs.Ytbfafjejmljcpaa.Pure

namespace Go.Proofs.Ytbfafjejmljcpaa.fnMoveBack
open Go.ChangeShapes Go.WideShapes Go.ChangeAt Go.RowKit
open Go.ChangeMaps (open_string shut_string)
set_option linter.unusedVariables false
theorem own : ownKnob Try.prog.godebug = none := by kernel_rfl
theorem laidOut : laidOutB Try.prog = true := by kernel_rfl
def IsRow (k : IntKind) (w : World) (a : Option Addr) (len cap : Nat) (zs : List Int) : Prop :=
  (a = none ∧ len = 0 ∧ cap = 0 ∧ zs = []) ∨
  ∃ x, a = some x ∧ len ≤ cap ∧ cap ≤ maxLen ∧ zs.length = cap ∧ (∀ i, i < zs.length → w.cell? (x.add i) = some (.int k (zs.getD i 0))) ∧ ∀ n ∈ zs, (Lit.int k n).wf = true
set_option maxRecDepth 100000 in
theorem lifted (os : Os) (started : os.Started) (H : Type) (enc : TypeId × Value → H) :
    ReturnsInHanded {} Try.checked os 4 .any (Rows.fnMoveBackSpec.pre6 enc Try.prog Try.f4 Rows.fnMoveBackRow.domain false) (Rows.fnMoveBackSpec.post enc Try.prog Try.f4 false true false false) := by
  refine returnsInHanded_of_change_sized (C := Try.checked) own started (by kernel_rfl) Try.func4
    (ChangeSpec.witness6 (enc := enc) (C := Try.checked) false ⟨#[], #[.slice none 0 0], []⟩ 8 (by kernel_rfl) (by kernel_rfl) (by kernel_rfl) (by kernel_rfl)) ?_
  intro W base args ds gs before hval0 hW hcnd hsz0 _
  have hsz : (DataW.weightsEach Try.prog (Try.f4.params.toList ++ Rows.fnMoveBackSpec.plain.varTypes Try.prog) (ds ++ gs)).all (· ≤ reachBytes) = true := hsz0
  have hval : ∀ (j : Nat) t v, Try.f4.params[j]? = some t → args[j]? = some v → Value.okWide Try.prog W .any base t v := hval0
  have hW' := hW
  obtain ⟨p, q, hA0, hV, rfl, hfz, hnd⟩ := hW
  have hA : DataW.TrodAll enc Try.prog W 0 (fun _ => true) true Try.f4.params.toList args.toList ds p := hA0
  rw [Try.params4] at hA hval hsz
  obtain ⟨v0, vs0, d0, ds0, p0, q0, hargs, rfl, rfl, h0, r0⟩ := trodAll_cons hA
  obtain ⟨rfl, rfl, rfl⟩ := trodAll_nil r0
  obtain rfl : args = #[v0] := by cases args; simp_all
  obtain ⟨rfl, rfl⟩ := trodVars_none hV
  obtain ⟨a0, len0, cap0, rfl⟩ := okWide_slice Try.underlying22 (hval 0 22 v0 rfl rfl)
  have k0 := h0
  have lt0 : ∀ x ∈ p0, x.block < W.heap.size := by obtain ⟨m, hm⟩ := k0; exact DataW.trod_lt m _ _ _ hm
  obtain ⟨z0, w0⟩ : ∃ zs, IsRow .u8 W a0 len0 cap0 zs := by
    obtain ⟨fuel, hf⟩ := h0
    rcases open_ints Try.underlying22 Try.underlying5 (by kernel_rfl) hf with ⟨hcs, _⟩ | ⟨x, l, c, zs, hcs, _, hl, hm, hz, _, hcell, hwz⟩
    · simp [Value.cells] at hcs
      obtain ⟨rfl, rfl, rfl⟩ := hcs
      exact ⟨[], .inl ⟨rfl, rfl, rfl, rfl⟩⟩
    · simp [Value.cells] at hcs
      obtain ⟨rfl, rfl, rfl⟩ := hcs
      exact ⟨zs, .inr ⟨_, rfl, hl, hm, by simpa using hz, hcell, hwz⟩⟩
  have y0 : len0 * 1 ≤ 140737488351232 := Go.Proofs.YtbfafjejmljcpaaW.PrintWords.sized_ints hsz (j := 0) (t := 22) rfl rfl Try.underlying22 Try.underlying5 (by kernel_rfl) (by kernel_rfl) h0
  clear hA0 hval0 hsz0 hsz
  refine (P.laws_FnMoveBack.walk Pure.FnMoveBack a0 len0 cap0 z0 W w0 y0).mono fun e W' ⟨he, bel⟩ => ?_
  subst he
  exact ⟨_, rfl, _, _, _, [], _, [], hW', trodAll_mk1 (shut_bool Try.underlying4 _), (trodAll_cons_mk (Below.trod laidOut (by kernel_rfl) (of_decide_eq_true (by kernel_rfl)) k0 bel lt0) trodAll_mk0), rfl, bel.frame _, fun h => by cases h⟩
theorem over : Rows.fnMoveBackRow.holds Try.pinned (OpenSpec.ofChange Rows.fnMoveBackSpec) :=
  OpenClaim.holds_of_wide 4 Try.f4 rfl rfl rfl rfl rfl rfl rfl ⟨rfl, rfl, rfl, rfl, rfl⟩ rfl rfl rfl rfl rfl (by kernel_rfl) Try.func4 (by kernel_rfl)
    (of_decide_eq_true (by kernel_rfl)) (by unfold Func.isWrapper; first | (rw [if_pos (by decide +kernel)]; kernel_rfl) | (rw [if_neg (by decide +kernel)]; exact ⟨rfl, rfl⟩))
    (fun os started H enc _ => lifted os started H enc)
theorem proved : Rows.FnMoveBackSaid := over
#print axioms proved
end Go.Proofs.Ytbfafjejmljcpaa.fnMoveBack
namespace Go.Proofs.Ytbfafjejmljcpaa
theorem fnMoveBack_holds : Rows.FnMoveBackSaid := fnMoveBack.proved
end Go.Proofs.Ytbfafjejmljcpaa
