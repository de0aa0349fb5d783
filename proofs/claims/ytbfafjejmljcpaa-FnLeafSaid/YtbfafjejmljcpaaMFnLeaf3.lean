/- The law FnLeaf of the given program: for every input the call returns true, and each argument reads afterwards as it read before. No conditions. (Part 4 of 4; the last part holds the theorem.) -/
import Derived.Test.YtbfafjejmljcpaaMFnLeaf1
import Derived.Test.YtbfafjejmljcpaaMFnLeaf0
import Derived.Test.YtbfafjejmljcpaaMFnLeaf2
import Derived.Test.YtbfafjejmljcpaaRows
import Derived.WalkKit
import Derived.ProofKit
import Derived.OpenShut
import Derived.ShutString
import Derived.ChangeOld
import Derived.Below
import Derived.SizedLaws
import Derived.Test.YtbfafjejmljcpaaWSized
set_option linter.unusedVariables false
set_option linter.unusedSimpArgs false
namespace Go.Proofs.Ytbfafjejmljcpaa.X
open Go.RowKit Go.Proofs.YtbfafjejmljcpaaW.PrintWords Go.Proofs.YtbfafjejmljcpaaW.PrintLast Go.Proofs.Ytbfafjejmljcpaa.P

def putS (s : Nat → Bool) (v : Int) (x : Nat) : Bool := if x = v.toNat then true else s x
def oneS (s : Nat → Bool) (p q : Int) : Nat → Bool := if s p.toNat = true ∧ s q.toNat = true then putS s (addF p q) else s
def rowS (s : Nat → Bool) (p : Int) : Nat → (Nat → Bool)
  | 0 => s
  | n + 1 => oneS (rowS s p n) p (n : Int)
def passS (s : Nat → Bool) : Nat → (Nat → Bool)
  | 0 => s
  | n + 1 => rowS (passS s n) (n : Int) 81
def timesS (s : Nat → Bool) : Nat → (Nat → Bool)
  | 0 => s
  | n + 1 => passS (timesS s n) 81
def startS (l : List Int) (x : Nat) : Bool := decide (x = 0) || decide ((x : Int) ∈ l)
def sumS (l : List Int) : Nat → Bool := timesS (startS l) 5
def setL (s : Nat → Bool) : List Int := filI 81 fun p => s p.toNat
def nineR (s : Nat → Bool) : List Int × Bool := if (setL s).length = 9 then (setL s, true) else ([], false)
def sumR (l : List Int) : List Int × Bool := if l.all nearB = true then nineR (sumS l) else ([], false)
theorem sum_l4 (s : Nat → Bool) (d : Nat) : ∀ i : Nat, i + d = 81 → Ev (fun k => spec_SpreadSum.l4 k (bL 81 s) (filI i fun p => s p.toNat) (i : Int)) (nineR s) := by
  induction d with
  | zero =>
    intro i hi
    obtain rfl : i = 81 := by omega
    refine Ev.step (fun k => by rw [spec_SpreadSum.l4]) ?_
    refine Ev.neg (by omega) ?_
    unfold nineR
    by_cases h : (setL s).length = 9
    · rw [if_pos h]
      exact Ev.pos (by unfold setL at h; omega) (Ev.done rfl)
    · rw [if_neg h]
      exact Ev.neg (by unfold setL at h; omega) (Ev.done rfl)
  | succ d ih =>
    intro i hi
    have nx := ih (i + 1) (by omega)
    rw [filI_succ, Int.toNat_natCast] at nx
    have hlen : (filI i fun p => s p.toNat).length ≤ i := filI_length_le _ _
    refine Ev.step (fun k => by rw [spec_SpreadSum.l4]) ?_
    rw [w64 (x := (i : Int) + 1) (by omega) (by omega), bL_rd (i : Int) (by omega) (by omega), Int.toNat_natCast]
    refine Ev.pos (by omega) (Ev.pos (by omega) (Ev.pos (by rw [bL_length]; omega) ?_))
    by_cases h : s i = true
    · rw [if_pos h] at nx
      exact Ev.pos h (Ev.pos (by omega) nx)
    · rw [if_neg h, List.append_nil] at nx
      exact Ev.neg h nx
theorem sum_l3 {s : Nat → Bool} (c : Int) {p : Nat} (hp : p < 81) {r : List Int × Bool} (hr : Ev (fun k => spec_SpreadSum.l2 k (bL 81 (rowS s (p : Int) 81)) c ((p : Int) + 1)) r) (d : Nat) :
    ∀ q : Nat, q + d = 81 → Ev (fun k => spec_SpreadSum.l3 k (bL 81 (rowS s (p : Int) q)) c (p : Int) (q : Int)) r := by
  induction d with
  | zero =>
    intro q hq
    obtain rfl : q = 81 := by omega
    refine Ev.step (fun k => by rw [spec_SpreadSum.l3]) ?_
    rw [w64 (x := (p : Int) + 1) (by omega) (by omega)]
    exact Ev.neg (by omega) hr
  | succ d ih =>
    intro q hq
    have nx := ih (q + 1) (by omega)
    have eR : rowS s (p : Int) (q + 1) = oneS (rowS s (p : Int) q) (p : Int) (q : Int) := rfl
    rw [eR] at nx
    generalize rowS s (p : Int) q = s1 at nx ⊢
    refine Ev.step (fun k => by rw [spec_SpreadSum.l3]) ?_
    rw [w64 (x := (q : Int) + 1) (by omega) (by omega), bL_rd (p : Int) (by omega) (by omega), bL_rd (q : Int) (by omega) (by omega), Int.toNat_natCast, Int.toNat_natCast]
    refine Ev.pos (by omega) (Ev.pos (by omega) (Ev.pos (by rw [bL_length]; omega) ?_))
    unfold oneS at nx
    rw [Int.toNat_natCast, Int.toNat_natCast] at nx
    by_cases h1 : s1 p = true
    · refine Ev.pos h1 (Ev.pos (by omega) (Ev.pos (by rw [bL_length]; omega) ?_))
      by_cases h2 : s1 q = true
      · rw [if_pos ⟨h1, h2⟩] at nx
        have hr := addF_range (p : Int) (q : Int)
        refine Ev.pos h2 (Ev.fix (l6lAdd_eq (nearB_iff.2 ⟨by omega, by omega⟩) (nearB_iff.2 ⟨by omega, by omega⟩)) (Ev.pos hr.1 (Ev.pos (by rw [bL_length]; exact hr.2) ?_)))
        rw [bL_set]
        exact nx
      · rw [if_neg (fun h => h2 h.2)] at nx
        exact Ev.neg h2 nx
    · rw [if_neg (fun h => h1 h.1)] at nx
      exact Ev.neg h1 nx
theorem sum_l2 {s : Nat → Bool} (c : Int) (c0 : 0 ≤ c) (c1 : c < 5) {r : List Int × Bool} (hr : Ev (fun k => spec_SpreadSum.l1 k (bL 81 (passS s 81)) (c + 1)) r) (d : Nat) :
    ∀ p : Nat, p + d = 81 → Ev (fun k => spec_SpreadSum.l2 k (bL 81 (passS s p)) c (p : Int)) r := by
  induction d with
  | zero =>
    intro p hp
    obtain rfl : p = 81 := by omega
    refine Ev.step (fun k => by rw [spec_SpreadSum.l2]) ?_
    rw [w64 (x := c + 1) (by omega) (by omega)]
    exact Ev.neg (by omega) hr
  | succ d ih =>
    intro p hp
    refine Ev.step (fun k => by rw [spec_SpreadSum.l2]) ?_
    exact Ev.pos (by omega) (sum_l3 c (by omega) (ih (p + 1) (by omega)) 81 0 (by omega))
theorem sum_l1 (s : Nat → Bool) (d : Nat) : ∀ c : Nat, c + d = 5 → Ev (fun k => spec_SpreadSum.l1 k (bL 81 (timesS s c)) (c : Int)) (nineR (timesS s 5)) := by
  induction d with
  | zero =>
    intro c hc
    obtain rfl : c = 5 := by omega
    refine Ev.step (fun k => by rw [spec_SpreadSum.l1]) ?_
    exact Ev.neg (by omega) (sum_l4 _ 81 0 (by omega))
  | succ d ih =>
    intro c hc
    refine Ev.step (fun k => by rw [spec_SpreadSum.l1]) ?_
    exact Ev.pos (by omega) (sum_l2 (c : Int) (by omega) (by omega) (ih (c + 1) (by omega)) 81 0 (by omega))
theorem sum_l0 {l : List Int} (hl : l.length ≤ 1048576) (d : Nat) : ∀ i : Int, 0 ≤ i → i + d = l.length → (∀ x ∈ l.take i.toNat, nearB x = true) → Ev (fun k => spec_SpreadSum.l0 k l (bL 81 (startS (l.take i.toNat))) i) (sumR l) := by
  induction d with
  | zero =>
    intro i i0 i1 h
    rw [List.take_of_length_le (by omega)] at h ⊢
    refine Ev.step (fun k => by rw [spec_SpreadSum.l0]) ?_
    refine Ev.neg (by omega) ?_
    unfold sumR
    rw [if_pos (List.all_eq_true.2 h)]
    exact sum_l1 (startS l) 5 0 (by omega)
  | succ d ih =>
    intro i i0 i1 h
    refine Ev.step (fun k => by rw [spec_SpreadSum.l0]) ?_
    rw [w64 (x := i + 1) (by omega) (by omega)]
    refine Ev.pos (by omega) (Ev.pos i0 (Ev.fix (l6In80 _) ?_))
    have et : l.take (i + 1).toNat = l.take i.toNat ++ [rd l i] := by
      rw [show (i + 1).toNat = i.toNat + 1 by omega, List.take_add_one, List.getElem?_eq_getElem (by omega), Option.toList_some]
      rw [show l[i.toNat]'(by omega) = rd l i from (rd_getElem i0 (by omega)).symm]
    by_cases hn : nearB (rd l i) = true
    · obtain ⟨r0, r1⟩ := nearB_iff.1 hn
      refine Ev.pos hn (Ev.pos r0 (Ev.pos (by rw [bL_length]; exact r1) ?_))
      have nx := ih (i + 1) (by omega) (by omega) fun x hx => by
        rw [et] at hx
        rcases List.mem_append.1 hx with hx | hx
        · exact h x hx
        · rw [List.mem_singleton.1 hx]; exact hn
      rw [bL_set]
      have eB : bL 81 (fun x => if x = (rd l i).toNat then true else startS (l.take i.toNat) x) = bL 81 (startS (l.take (i + 1).toNat)) := bL_congr fun x _ => by
        unfold startS
        rw [et]
        by_cases e : x = (rd l i).toNat
        · rw [if_pos e, decide_eq_true (show (x : Int) ∈ l.take i.toNat ++ [rd l i] from List.mem_append.2 (.inr (List.mem_singleton.2 (by omega)))), Bool.or_true]
        · rw [if_neg e]
          refine congrArg _ (decide_eq_decide.2 ?_)
          rw [List.mem_append, List.mem_singleton]
          exact ⟨.inl, fun h => h.elim id fun h => absurd h (by omega)⟩
      rw [eB]
      exact nx
    · refine Ev.neg hn (Ev.done ?_)
      unfold sumR
      rw [if_neg]
      intro ha
      exact hn (List.all_eq_true.1 ha _ (rd_mem (by omega) i0))
theorem specSum_ev {l : List Int} (hl : l.length ≤ 1048576) : Ev (fun k => spec_SpreadSum.f k l) (sumR l) := by
  unfold spec_SpreadSum.f
  refine Ev.pos (by decide) ?_
  rw [bL_replicate]
  refine Ev.fix rfl (Ev.pos (by rw [bL_length]; omega) ?_)
  have e0 : (bL 81 fun _ => false).set (0 : Int).toNat true = bL 81 (startS (l.take (0 : Int).toNat)) := by
    rw [bL_set]
    exact bL_congr fun x _ => by unfold startS; simp
  rw [e0]
  exact sum_l0 hl l.length 0 (by omega) (by omega) (fun x hx => by simp at hx)
theorem nineR_length (s : Nat → Bool) : (nineR s).1.length ≤ 9 := by
  unfold nineR
  by_cases h2 : (setL s).length = 9
  · rw [if_pos h2]; exact Nat.le_of_eq h2
  · rw [if_neg h2]; exact Nat.zero_le _
theorem nineR_nine {s : Nat → Bool} (h : (nineR s).2 = true) : (nineR s).1.length = 9 := by
  unfold nineR at h ⊢
  by_cases h2 : (setL s).length = 9
  · rw [if_pos h2]; exact h2
  · rw [if_neg h2] at h; exact absurd h (by decide)
theorem sumR_length (l : List Int) : (sumR l).1.length ≤ 9 := by
  unfold sumR
  by_cases h : l.all nearB = true
  · rw [if_pos h]; exact nineR_length _
  · rw [if_neg h]; exact Nat.zero_le _
theorem sumR_nine {l : List Int} (h : (sumR l).2 = true) : (sumR l).1.length = 9 := by
  unfold sumR at h ⊢
  by_cases h1 : l.all nearB = true
  · rw [if_pos h1] at h ⊢; exact nineR_nine h
  · rw [if_neg h1] at h; exact absurd h (by decide)
end Go.Proofs.Ytbfafjejmljcpaa.X

set_option linter.unusedVariables false
set_option linter.unusedSimpArgs false
namespace Go.Proofs.Ytbfafjejmljcpaa.X
open Go.RowKit Go.Proofs.YtbfafjejmljcpaaW.PrintWords Go.Proofs.YtbfafjejmljcpaaW.PrintLast Go.Proofs.Ytbfafjejmljcpaa.P

theorem leaf_ev {s : List Int} (hs : RdS s) {p : Int} (h0 : 0 ≤ p) (h1 : p ≤ 1099511000000) : ∃ l q, l.length ≤ 9 ∧ (p ≤ q ∧ q ≤ p + 3) ∧ Ev (fun k => spec_l91Leaf.f k s p) (l, q) := by
  obtain ⟨a, ha, ea⟩ := pick_ev hs h0 (by omega) (n := 81) (by omega) (by omega)
  obtain ⟨b, hb, eb⟩ := pick_ev hs (p := p + 1) (by omega) (by omega) (n := 81) (by omega) (by omega)
  obtain ⟨c, hc, ec⟩ := pick_ev hs (p := p + 1 + 1) (by omega) (by omega) (n := 16) (by omega) (by omega)
  obtain ⟨d, hd, ed⟩ := pick_ev hs (p := p + 1 + 1) (by omega) (by omega) (n := 8) (by omega) (by omega)
  have es := specSum_ev (l := [a, b]) (show 2 ≤ 1048576 by omega)
  have hlen := sumR_length [a, b]
  have h9 : (sumR [a, b]).2 = true → (sumR [a, b]).1.length = 9 := sumR_nine
  generalize sumR [a, b] = R at es hlen h9
  by_cases hk : R.2 = true
  · have h9 := h9 hk
    by_cases c0 : c = 0
    · refine ⟨[] ++ R.1.drop 1, p + 1 + 1 + 1, by rw [List.nil_append, List.length_drop]; omega, by omega, ?_⟩
      unfold spec_l91Leaf.f
      exact Ev.bind ea (Ev.bind eb (Ev.bind es (Ev.pos hk (Ev.bind ec (Ev.pos c0 (Ev.fix rfl (Ev.pos (by omega) (Ev.fix rfl (Ev.pos (by rw [List.length_nil, List.length_drop]; omega) (Ev.done rfl))))))))))
    · refine ⟨R.1, p + 1 + 1 + 1, hlen, by omega, ?_⟩
      unfold spec_l91Leaf.f
      exact Ev.bind ea (Ev.bind eb (Ev.bind es (Ev.pos hk (Ev.bind ec (Ev.neg c0 (Ev.done rfl))))))
  · refine ⟨otherL (1 + d), p + 1 + 1 + 1, Nat.le_of_eq (other_len _ (by omega) (by omega)), by omega, ?_⟩
    unfold spec_l91Leaf.f
    refine Ev.bind ea (Ev.bind eb (Ev.bind es (Ev.neg hk (Ev.bind ed ?_))))
    dsimp only
    rw [w64 (x := 1 + d) (by omega) (by omega)]
    exact Ev.bind (other_ev _ (by omega) (by omega)) (Ev.done rfl)
end Go.Proofs.Ytbfafjejmljcpaa.X

set_option linter.unusedVariables false
set_option linter.unusedSimpArgs false
namespace Go.Proofs.Ytbfafjejmljcpaa.X
open Go.RowKit Go.Proofs.YtbfafjejmljcpaaW.PrintWords

theorem filI_mono {n : Nat} {p q : Int → Bool} (h : ∀ i : Nat, i < n → p (i : Int) = true → q (i : Int) = true) : (filI n p).length ≤ (filI n q).length := by
  induction n with
  | zero => exact Nat.le_refl _
  | succ n ih =>
    rw [filI_succ, filI_succ, List.length_append, List.length_append]
    have h1 := ih fun i hi => h i (by omega)
    by_cases hp : p (n : Int) = true
    · rw [if_pos hp, if_pos (h n (by omega) hp)]; omega
    · rw [if_neg hp]; simp; omega
theorem filI_less {n : Nat} {p q : Int → Bool} (h : ∀ i : Nat, i < n → p (i : Int) = true → q (i : Int) = true) {j : Nat} (hj : j < n) (hq : q (j : Int) = true) (hp : p (j : Int) = false) : (filI n p).length < (filI n q).length := by
  induction n with
  | zero => omega
  | succ n ih =>
    rw [filI_succ, filI_succ, List.length_append, List.length_append]
    by_cases e : j = n
    · subst e
      have h1 := filI_mono (n := j) (p := p) (q := q) fun i hi => h i (by omega)
      rw [if_pos hq, if_neg (by rw [hp]; decide)]
      simp; omega
    · have h1 := ih (fun i hi => h i (by omega)) (by omega)
      by_cases hpn : p (n : Int) = true
      · rw [if_pos hpn, if_pos (h n (by omega) hpn)]; simp; omega
      · rw [if_neg hpn]; simp; omega
end Go.Proofs.Ytbfafjejmljcpaa.X

set_option linter.unusedVariables false
set_option linter.unusedSimpArgs false
namespace Go.Proofs.Ytbfafjejmljcpaa.X
open Go.RowKit Go.Proofs.YtbfafjejmljcpaaW.PrintWords Go.Proofs.YtbfafjejmljcpaaW.PrintLast Go.Proofs.Ytbfafjejmljcpaa.P

def Nr (x : Int) : Prop := 0 ≤ x ∧ x < 81
theorem addF_nr (p q : Int) : Nr (addF p q) := addF_range p q
theorem addF_div (p q : Int) : addF p q / 9 = addN (p / 9) (q / 9) := by
  have := addN_range (p / 9) (q / 9)
  have := addN_range (p % 9) (q % 9)
  unfold addF; omega
theorem addF_mod (p q : Int) : addF p q % 9 = addN (p % 9) (q % 9) := by
  have := addN_range (p / 9) (q / 9)
  have := addN_range (p % 9) (q % 9)
  unfold addF; omega
theorem nr_ext {p q : Int} (h1 : p / 9 = q / 9) (h2 : p % 9 = q % 9) : p = q := by omega
theorem addF_zero {p : Int} (hp : Nr p) : addF p 0 = p := by
  obtain ⟨p0, p1⟩ := hp
  refine nr_ext ?_ ?_
  · rw [addF_div]; exact addN_zero (by omega) (by omega)
  · rw [addF_mod]; exact addN_zero (by omega) (by omega)
theorem addF_comm (p q : Int) : addF p q = addF q p := by unfold addF; rw [addN_comm (p / 9), addN_comm (p % 9)]
theorem addF_assoc {p q r : Int} (hp : Nr p) (hq : Nr q) (hr : Nr r) : addF (addF p q) r = addF p (addF q r) := by
  obtain ⟨p0, p1⟩ := hp
  obtain ⟨q0, q1⟩ := hq
  obtain ⟨r0, r1⟩ := hr
  refine nr_ext ?_ ?_
  · rw [addF_div, addF_div, addF_div, addF_div]; exact addN_assoc (by omega) (by omega) (by omega) (by omega) (by omega) (by omega)
  · rw [addF_mod, addF_mod, addF_mod, addF_mod]; exact addN_assoc (by omega) (by omega) (by omega) (by omega) (by omega) (by omega)
def Cl (T : Int → Prop) : Prop := T 0 ∧ ∀ p q, Nr p → Nr q → T p → T q → T (addF p q)
theorem putS_mono {s : Nat → Bool} {v : Int} {x : Nat} (h : s x = true) : putS s v x = true := by
  unfold putS
  by_cases e : x = v.toNat
  · rw [if_pos e]
  · rw [if_neg e]; exact h
theorem oneS_mono {s : Nat → Bool} {p q : Int} {x : Nat} (h : s x = true) : oneS s p q x = true := by
  unfold oneS
  by_cases c : s p.toNat = true ∧ s q.toNat = true
  · rw [if_pos c]; exact putS_mono h
  · rw [if_neg c]; exact h
theorem rowS_mono {s : Nat → Bool} {p : Int} {x : Nat} (h : s x = true) (n : Nat) : rowS s p n x = true := by
  induction n with
  | zero => exact h
  | succ n ih => exact oneS_mono ih
theorem rowS_le {s : Nat → Bool} {p : Int} {x : Nat} {n m : Nat} (hnm : n ≤ m) (h : rowS s p n x = true) : rowS s p m x = true := by
  induction m with
  | zero => obtain rfl : n = 0 := by omega
            exact h
  | succ m ih =>
    by_cases e : n = m + 1
    · rw [← e]; exact h
    · exact oneS_mono (ih (by omega))
theorem passS_mono {s : Nat → Bool} {x : Nat} (h : s x = true) (n : Nat) : passS s n x = true := by
  induction n with
  | zero => exact h
  | succ n ih => exact rowS_mono ih 81
theorem passS_le {s : Nat → Bool} {x : Nat} {n m : Nat} (hnm : n ≤ m) (h : passS s n x = true) : passS s m x = true := by
  induction m with
  | zero => obtain rfl : n = 0 := by omega
            exact h
  | succ m ih =>
    by_cases e : n = m + 1
    · rw [← e]; exact h
    · exact rowS_mono (ih (by omega)) 81
theorem passS_has {s : Nat → Bool} {p q : Int} (hp : Nr p) (hq : Nr q) (sp : s p.toNat = true) (sq : s q.toNat = true) : passS s 81 (addF p q).toNat = true := by
  have h1 : passS s (p.toNat + 1) (addF p q).toNat = true := by
    show rowS (passS s p.toNat) (p.toNat : Int) 81 (addF p q).toNat = true
    rw [Int.toNat_of_nonneg hp.1]
    refine rowS_le (n := q.toNat + 1) (by have := hq.2; have := hq.1; omega) ?_
    show oneS (rowS (passS s p.toNat) p q.toNat) p (q.toNat : Int) (addF p q).toNat = true
    rw [Int.toNat_of_nonneg hq.1]
    have a := rowS_mono (passS_mono sp p.toNat) (p := p) q.toNat
    have b := rowS_mono (passS_mono sq p.toNat) (p := p) q.toNat
    unfold oneS
    rw [if_pos ⟨a, b⟩]
    unfold putS
    rw [if_pos rfl]
  exact passS_le (by have := hp.2; have := hp.1; omega) h1
theorem timesS_sub {T : Int → Prop} (hT : Cl T) {s : Nat → Bool} (h : ∀ x : Nat, s x = true → T (x : Int)) (n : Nat) : ∀ x : Nat, timesS s n x = true → T (x : Int) := by
  have one : ∀ (s : Nat → Bool) (p q : Int), Nr p → Nr q → (∀ x : Nat, s x = true → T (x : Int)) → ∀ x : Nat, oneS s p q x = true → T (x : Int) := by
    intro s p q hp hq hs x hx
    unfold oneS at hx
    by_cases c : s p.toNat = true ∧ s q.toNat = true
    · rw [if_pos c] at hx
      unfold putS at hx
      by_cases e : x = (addF p q).toNat
      · have a := hs _ c.1
        have b := hs _ c.2
        rw [Int.toNat_of_nonneg hp.1] at a
        rw [Int.toNat_of_nonneg hq.1] at b
        rw [e, Int.toNat_of_nonneg (addF_nr p q).1]
        exact hT.2 p q hp hq a b
      · rw [if_neg e] at hx; exact hs x hx
    · rw [if_neg c] at hx; exact hs x hx
  have row : ∀ (p : Nat), p < 81 → ∀ (s : Nat → Bool), (∀ x : Nat, s x = true → T (x : Int)) → ∀ n, n ≤ 81 → ∀ x : Nat, rowS s (p : Int) n x = true → T (x : Int) := by
    intro p hp s hs n
    induction n with
    | zero => intro _; exact hs
    | succ n ih => intro hn; exact one _ _ _ ⟨by omega, by omega⟩ ⟨by omega, by omega⟩ (ih (by omega))
  have pass : ∀ (s : Nat → Bool), (∀ x : Nat, s x = true → T (x : Int)) → ∀ n, n ≤ 81 → ∀ x : Nat, passS s n x = true → T (x : Int) := by
    intro s hs n
    induction n with
    | zero => intro _; exact hs
    | succ n ih => intro hn; exact row n (by omega) _ (ih (by omega)) 81 (by omega)
  induction n with
  | zero => exact h
  | succ n ih => exact pass _ ih 81 (by omega)
def Es (l : List Int) : Nat → Int → Prop
  | 0, x => x = 0
  | k + 1, x => Es l k x ∨ ∃ y g, Es l k y ∧ g ∈ l ∧ x = addF y g
theorem Es_nr {l : List Int} (k : Nat) : ∀ x, Es l k x → Nr x := by
  induction k with
  | zero => intro x h; rw [show x = 0 from h]; exact ⟨by omega, by omega⟩
  | succ k ih =>
    rintro x (h | ⟨y, g, _, _, rfl⟩)
    · exact ih x h
    · exact addF_nr y g
theorem Es_le {l : List Int} {j k : Nat} (hjk : j ≤ k) {x : Int} (h : Es l j x) : Es l k x := by
  induction k with
  | zero => obtain rfl : j = 0 := by omega
            exact h
  | succ k ih =>
    by_cases e : j = k + 1
    · rw [← e]; exact h
    · exact .inl (ih (by omega))
theorem Es_zero (l : List Int) (k : Nat) : Es l k 0 := Es_le (Nat.zero_le k) (show Es l 0 0 from rfl)
theorem Es_add {l : List Int} (hl : ∀ g ∈ l, Nr g) {a : Nat} {y : Int} (hy : Es l a y) (b : Nat) : ∀ z, Es l b z → Es l (a + b) (addF y z) := by
  induction b with
  | zero => intro z e; rw [show z = 0 from e, addF_zero (Es_nr a y hy)]; exact hy
  | succ b ih =>
    rintro z (e | ⟨u, g, hu, hg, rfl⟩)
    · exact .inl (ih z e)
    · exact .inr ⟨addF y u, g, ih u hu, hg, (addF_assoc (Es_nr a y hy) (Es_nr b u hu) (hl g hg)).symm⟩
theorem Es_split {l : List Int} (hl : ∀ g ∈ l, Nr g) {a : Nat} (b : Nat) : ∀ x, Es l (a + b) x → ∃ y z, Es l a y ∧ Es l b z ∧ x = addF y z := by
  induction b with
  | zero => intro x h; exact ⟨x, 0, h, rfl, (addF_zero (Es_nr _ x h)).symm⟩
  | succ b ih =>
    rintro x (h | ⟨w, g, hw, hg, rfl⟩)
    · obtain ⟨y, z, hy, hz, e⟩ := ih x h
      exact ⟨y, z, hy, .inl hz, e⟩
    · obtain ⟨y, z, hy, hz, rfl⟩ := ih w hw
      exact ⟨y, addF z g, hy, .inr ⟨z, g, hz, hg, rfl⟩, addF_assoc (Es_nr a y hy) (Es_nr b z hz) (hl g hg)⟩
theorem startS_iff {l : List Int} {x : Nat} : startS l x = true ↔ x = 0 ∨ (x : Int) ∈ l := by unfold startS; rw [Bool.or_eq_true, decide_eq_true_iff, decide_eq_true_iff]
theorem times_Es {l : List Int} (hl : ∀ g ∈ l, Nr g) (n : Nat) : ∀ x, Es l (2 ^ n) x → timesS (startS l) n x.toNat = true := by
  induction n with
  | zero =>
    intro x h
    show startS l x.toNat = true
    rw [startS_iff]
    rcases (h : Es l 1 x) with h | ⟨y, g, hy, hg, rfl⟩
    · left; rw [show x = 0 from h]; rfl
    · right
      rw [show y = 0 from hy, addF_comm, addF_zero (hl g hg), Int.toNat_of_nonneg (hl g hg).1]
      exact hg
  | succ n ih =>
    intro x h
    rw [show 2 ^ (n + 1) = 2 ^ n + 2 ^ n by rw [Nat.pow_succ]; omega] at h
    obtain ⟨y, z, hy, hz, rfl⟩ := Es_split hl _ x h
    exact passS_has (Es_nr _ y hy) (Es_nr _ z hz) (ih y hy) (ih z hz)
def StE (l : List Int) (k : Nat) : Prop := ∀ x, Es l (k + 1) x → Es l k x
theorem StE_all {l : List Int} {k : Nat} (h : StE l k) (j : Nat) : ∀ x, Es l (k + j) x → Es l k x := by
  induction j with
  | zero => intro x e; exact e
  | succ j ih =>
    rintro x (e | ⟨y, g, hy, hg, rfl⟩)
    · exact ih x e
    · exact h _ (.inr ⟨y, g, ih y hy, hg, rfl⟩)
theorem StE_cl {l : List Int} (hl : ∀ g ∈ l, Nr g) {k : Nat} (h : StE l k) : Cl (Es l k) ∧ ∀ g ∈ l, Es l k g := by
  refine ⟨⟨Es_zero l k, fun p q _ _ hp hq => StE_all h k _ (Es_add hl hp k q hq)⟩, fun g hg => ?_⟩
  refine h g (.inr ⟨0, g, Es_zero l k, hg, ?_⟩)
  rw [addF_comm, addF_zero (hl g hg)]
noncomputable def sizeE (l : List Int) (k : Nat) : Nat := by
  classical exact (filI 81 fun x => decide (Es l k x)).length
theorem sizeE_def (l : List Int) (k : Nat) [inst : DecidablePred (Es l k)] : sizeE l k = (filI 81 fun x => decide (Es l k x)).length := by
  unfold sizeE
  exact congrArg (fun f => (filI 81 f).length) (funext fun x => decide_eq_decide.2 Iff.rfl)
theorem sizeE_or {l : List Int} (n : Nat) : (∃ m, m < n ∧ StE l m) ∨ n + 1 ≤ sizeE l n := by
  classical
  induction n with
  | zero =>
    right
    rw [sizeE_def]
    exact List.length_pos_of_mem (mem_filI.2 ⟨Int.le_refl 0, by omega, decide_eq_true (Es_zero l 0)⟩)
  | succ n ih =>
    rcases ih with ⟨m, hm, h⟩ | h
    · exact .inl ⟨m, by omega, h⟩
    · by_cases hs : StE l n
      · exact .inl ⟨n, by omega, hs⟩
      · right
        have : ∃ x, Es l (n + 1) x ∧ ¬ Es l n x := by
          apply Classical.byContradiction
          intro hc
          exact hs fun x hx => Classical.byContradiction fun h2 => hc ⟨x, hx, h2⟩
        obtain ⟨x, hx, hn⟩ := this
        have hr := Es_nr (n + 1) x hx
        rw [sizeE_def] at h ⊢
        have := filI_less (n := 81) (p := fun x => decide (Es l n x)) (q := fun x => decide (Es l (n + 1) x)) (fun i _ hi => decide_eq_true (Es_le (Nat.le_succ n) (of_decide_eq_true hi))) (j := x.toNat) (by have := hr.1; have := hr.2; omega) (by rw [Int.toNat_of_nonneg hr.1]; exact decide_eq_true hx) (by rw [Int.toNat_of_nonneg hr.1]; exact decide_eq_false hn)
        omega
structure Hull (l : List Int) (K : Nat → Bool) : Prop where
  cl : Cl fun x => K x.toNat = true
  has : ∀ g ∈ l, K g.toNat = true
  least : ∀ T : Int → Prop, Cl T → (∀ g ∈ l, T g) → ∀ x : Nat, x < 81 → K x = true → T (x : Int)
theorem setL_congr {s s' : Nat → Bool} (h : ∀ x, x < 81 → s x = s' x) : setL s = setL s' := filI_congr fun i hi => by rw [Int.toNat_natCast]; exact h i hi
theorem nine_hull {l : List Int} (hl : ∀ g ∈ l, Nr g) {K : Nat → Bool} (H : Hull l K) : nineR (sumS l) = nineR K := by
  have sub : ∀ x : Nat, sumS l x = true → K x = true := by
    intro x hx
    have := timesS_sub H.cl (s := startS l) (fun y hy => by
      rcases startS_iff.1 hy with h | h
      · rw [h]; exact H.cl.1
      · have := H.has _ h; rwa [Int.toNat_natCast] at this ⊢) 5 x hx
    rwa [Int.toNat_natCast] at this
  have big : ∀ x, Es l 32 x → sumS l x.toNat = true := times_Es hl 5
  rcases sizeE_or (l := l) 9 with ⟨m, hm, h⟩ | h
  · obtain ⟨c1, c2⟩ := StE_cl hl h
    have e : setL (sumS l) = setL K := setL_congr fun x hx => by
      cases hk : K x with
      | true =>
        have := big _ (Es_le (by omega : m ≤ 32) (H.least _ c1 c2 x hx hk))
        rwa [Int.toNat_natCast] at this
      | false =>
        cases hs : sumS l x with
        | false => rfl
        | true => rw [sub x hs] at hk; exact absurd hk (by decide)
    unfold nineR
    rw [e]
  · classical
    rw [sizeE_def] at h
    have a : (filI 81 fun x => decide (Es l 9 x)).length ≤ (setL (sumS l)).length := filI_mono fun i _ hi => big _ (Es_le (by omega) (of_decide_eq_true hi))
    have b : (setL (sumS l)).length ≤ (setL K).length := filI_mono fun i _ hi => by
      rw [Int.toNat_natCast] at hi ⊢
      exact sub _ hi
    unfold nineR
    rw [if_neg (by omega), if_neg (by omega)]
end Go.Proofs.Ytbfafjejmljcpaa.X

set_option linter.unusedVariables false
set_option linter.unusedSimpArgs false
namespace Go.Proofs.Ytbfafjejmljcpaa.X
open Go.RowKit Go.Proofs.YtbfafjejmljcpaaW.PrintWords Go.Proofs.YtbfafjejmljcpaaW.PrintLast Go.Proofs.Ytbfafjejmljcpaa.P

theorem lessInt_eq (x y : Int) : cmp_Less_int.f x y = some (decide (x < y)) := by
  unfold cmp_Less_int.f cmp_isNaN_int.f
  simp
theorem asc_extI : ∀ a b : List Int, a.Pairwise (· < ·) → b.Pairwise (· < ·) → (∀ x, x ∈ a ↔ x ∈ b) → a = b := by
  intro a
  induction a with
  | nil =>
    intro b _ _ h
    cases b with
    | nil => rfl
    | cons y b => exact absurd ((h y).2 List.mem_cons_self) (by simp)
  | cons x a ih =>
    intro b ha hb h
    cases b with
    | nil => exact absurd ((h x).1 List.mem_cons_self) (by simp)
    | cons y b =>
      have ha := List.pairwise_cons.1 ha
      have hb := List.pairwise_cons.1 hb
      have e : x = y := by
        rcases List.mem_cons.1 ((h x).1 List.mem_cons_self) with e | e
        · exact e
        · rcases List.mem_cons.1 ((h y).2 List.mem_cons_self) with e2 | e2
          · exact e2.symm
          · have := hb.1 x e; have := ha.1 y e2; omega
      subst e
      rw [ih b ha.2 hb.2 fun z => ⟨fun hz => ?_, fun hz => ?_⟩]
      · rcases List.mem_cons.1 ((h z).1 (List.mem_cons_of_mem _ hz)) with e | e
        · have := ha.1 z hz; omega
        · exact e
      · rcases List.mem_cons.1 ((h z).2 (List.mem_cons_of_mem _ hz)) with e | e
        · have := hb.1 z hz; omega
        · exact e
def swI (j a : Int) : Int := if a = j then j - 1 else if a = j - 1 then j else a
def swapL (l : List Int) (j : Int) : List Int := (l.set j.toNat (rd l (j - 1))).set (j - 1).toNat (rd l j)
theorem rd_set {l : List Int} {i j v : Int} (i0 : 0 ≤ i) (i1 : i < l.length) (j0 : 0 ≤ j) : rd (l.set i.toNat v) j = if j = i then v else rd l j := by
  unfold rd
  rw [List.getD_eq_getElem?_getD, List.getD_eq_getElem?_getD, List.getElem?_set]
  by_cases e : j = i
  · rw [if_pos e, if_pos (by omega), if_pos (by omega)]; rfl
  · rw [if_neg e, if_neg (by omega)]
theorem swapL_rd {l : List Int} {j : Int} (j0 : 0 < j) (j1 : j < l.length) {a : Int} (a0 : 0 ≤ a) : rd (swapL l j) a = rd l (swI j a) := by
  unfold swapL swI
  rw [rd_set (by omega) (by rw [List.length_set]; omega) a0, rd_set (by omega) j1 a0]
  by_cases e1 : a = j - 1
  · rw [if_pos e1, if_neg (by omega), if_pos e1]
  · by_cases e2 : a = j
    · rw [if_neg e1, if_pos e2, if_pos e2]
    · rw [if_neg e1, if_neg e2, if_neg e2, if_neg e1]
theorem swapL_length (l : List Int) (j : Int) : (swapL l j).length = l.length := by unfold swapL; rw [List.length_set, List.length_set]
theorem mem_rdI {l : List Int} {v : Int} : v ∈ l ↔ ∃ i : Int, 0 ≤ i ∧ i < l.length ∧ rd l i = v := by
  constructor
  · intro h
    obtain ⟨i, hi, e⟩ := List.mem_iff_getElem.1 h
    exact ⟨i, by omega, by omega, by rw [rd_cast l i hi, e]⟩
  · rintro ⟨i, i0, i1, e⟩
    rw [← e]; exact rd_mem i1 i0
theorem swapL_mem {l : List Int} {j : Int} (j0 : 0 < j) (j1 : j < l.length) {v : Int} : v ∈ swapL l j ↔ v ∈ l := by
  rw [mem_rdI, mem_rdI]
  have rng : ∀ a : Int, 0 ≤ a → a < l.length → 0 ≤ swI j a ∧ swI j a < l.length := fun a a0 a1 => by unfold swI; split <;> (try split) <;> omega
  have inv : ∀ a : Int, swI j (swI j a) = a := fun a => by unfold swI; split <;> (try split) <;> (try split) <;> omega
  constructor
  · rintro ⟨a, a0, a1, e⟩
    rw [swapL_length] at a1
    rw [swapL_rd j0 j1 a0] at e
    exact ⟨swI j a, (rng a a0 a1).1, (rng a a0 a1).2, e⟩
  · rintro ⟨a, a0, a1, e⟩
    refine ⟨swI j a, (rng a a0 a1).1, by rw [swapL_length]; exact (rng a a0 a1).2, ?_⟩
    rw [swapL_rd j0 j1 (rng a a0 a1).1, inv]; exact e
def Dif (l : List Int) : Prop := ∀ a b : Int, 0 ≤ a → a < l.length → 0 ≤ b → b < l.length → a ≠ b → rd l a ≠ rd l b
theorem swapL_dif {l : List Int} (h : Dif l) {j : Int} (j0 : 0 < j) (j1 : j < l.length) : Dif (swapL l j) := by
  intro a b a0 a1 b0 b1 hne
  rw [swapL_length] at a1 b1
  rw [swapL_rd j0 j1 a0, swapL_rd j0 j1 b0]
  refine h _ _ ?_ ?_ ?_ ?_ ?_ <;> (unfold swI; split <;> (try split) <;> (try split) <;> (try split) <;> omega)
def Near1 (l : List Int) (i j : Int) : Prop := (∀ a b : Int, 0 ≤ a → a < b → b ≤ i → a ≠ j → b ≠ j → rd l a < rd l b) ∧ ∀ b : Int, j < b → b ≤ i → rd l j < rd l b
def SortR (l r : List Int) : Prop := r.length = l.length ∧ (∀ v, v ∈ r ↔ v ∈ l) ∧ r.Pairwise (· < ·)
theorem ins_l1 {l0 : List Int} {n : Int} (hn : n ≤ 1000) {i : Int} (i0 : 0 ≤ i) (i1 : i < n) (hr : ∀ l : List Int, (l.length : Int) = n → (∀ v, v ∈ l ↔ v ∈ l0) → Dif l → (∀ a b : Int, 0 ≤ a → a < b → b ≤ i → rd l a < rd l b) → ∃ r, SortR l0 r ∧ Ev (fun k => slices_insertionSortOrdered_int.l0 k l 0 n (i + 1)) r) (d : Nat) :
    ∀ (j : Int) (l : List Int), j = d → j ≤ i → (l.length : Int) = n → (∀ v, v ∈ l ↔ v ∈ l0) → Dif l → Near1 l i j → ∃ r, SortR l0 r ∧ Ev (fun k => slices_insertionSortOrdered_int.l1 k l 0 n i j) r := by
  induction d with
  | zero =>
    intro j l hj ji hl hm hd hN
    have hj : j = 0 := hj
    subst hj
    obtain ⟨r, h1, h2⟩ := hr l hl hm hd fun a b a0 ab b1 => by
      by_cases e : a = 0
      · subst e; exact hN.2 b (by omega) b1
      · exact hN.1 a b a0 ab b1 e (by omega)
    refine ⟨r, h1, ?_⟩
    refine Ev.step (fun k => by rw [slices_insertionSortOrdered_int.l1]) ?_
    rw [w64 (x := i + 1) (by omega) (by omega)]
    exact Ev.neg (by omega) h2
  | succ d ih =>
    intro j l hj ji hl hm hd hN
    have e1 : wrap64 (j - 1) = j - 1 := w64 (by omega) (by omega)
    have e2 : wrap64 (i + 1) = i + 1 := w64 (by omega) (by omega)
    by_cases hc : rd l j < rd l (j - 1)
    · have hlen := swapL_length l j
      have R := fun (a : Int) (a0 : 0 ≤ a) => swapL_rd (l := l) (j := j) (by omega) (by omega) a0
      obtain ⟨r, h1, h2⟩ := ih (j - 1) (swapL l j) (by omega) (by omega) (by rw [hlen]; exact hl) (fun v => (swapL_mem (by omega) (by omega)).trans (hm v)) (swapL_dif hd (by omega) (by omega)) ⟨fun a b a0 ab b1 na nb => by
          rw [R a a0, R b (by omega)]
          unfold swI
          by_cases ea : a = j
          · rw [if_pos ea, if_neg (by omega), if_neg nb]
            exact hN.1 (j - 1) b (by omega) (by omega) b1 (by omega) (by omega)
          · rw [if_neg ea, if_neg na]
            by_cases eb : b = j
            · rw [if_pos eb]
              exact hN.1 a (j - 1) a0 (by omega) (by omega) ea (by omega)
            · rw [if_neg eb, if_neg nb]
              exact hN.1 a b a0 ab b1 ea eb, fun b jb b1 => by
          rw [R (j - 1) (by omega), R b (by omega)]
          unfold swI
          rw [if_neg (by omega), if_pos rfl]
          by_cases eb : b = j
          · rw [if_pos eb]; exact hc
          · rw [if_neg eb, if_neg (by omega)]
            exact hN.2 b (by omega) b1⟩
      refine ⟨r, h1, ?_⟩
      refine Ev.step (fun k => by rw [slices_insertionSortOrdered_int.l1]) ?_
      rw [e1, e2, lessInt_eq]
      exact Ev.pos (by omega) (Ev.pos (by omega) (Ev.pos (by omega) (Ev.pos (by omega) (Ev.pos (by omega) (Ev.fix rfl (Ev.pos (decide_eq_true hc) h2))))))
    · have hlt : rd l (j - 1) < rd l j := by
        have := hd (j - 1) j (by omega) (by omega) (by omega) (by omega) (by omega)
        omega
      obtain ⟨r, h1, h2⟩ := hr l hl hm hd fun a b a0 ab b1 => by
        by_cases ea : a = j
        · subst ea; exact hN.2 b ab b1
        · by_cases eb : b = j
          · subst eb
            by_cases e : a = b - 1
            · rw [e]; exact hlt
            · have := hN.1 a (b - 1) a0 (by omega) (by omega) ea (by omega)
              omega
          · exact hN.1 a b a0 ab b1 ea eb
      refine ⟨r, h1, ?_⟩
      refine Ev.step (fun k => by rw [slices_insertionSortOrdered_int.l1]) ?_
      rw [e1, e2, lessInt_eq]
      exact Ev.pos (by omega) (Ev.pos (by omega) (Ev.pos (by omega) (Ev.pos (by omega) (Ev.pos (by omega) (Ev.fix rfl (Ev.neg (by simpa using hc) h2))))))
theorem ins_l0 {l0 : List Int} {n : Int} (hn : n ≤ 1000) (d : Nat) : ∀ (i : Int) (l : List Int), 1 ≤ i → i + d = n → (l.length : Int) = n → (∀ v, v ∈ l ↔ v ∈ l0) → Dif l → (∀ a b : Int, 0 ≤ a → a < b → b < i → rd l a < rd l b) → (l0.length : Int) = n → ∃ r, SortR l0 r ∧ Ev (fun k => slices_insertionSortOrdered_int.l0 k l 0 n i) r := by
  induction d with
  | zero =>
    intro i l i0 hi hl hm hd ha h0
    refine ⟨l, ⟨by omega, hm, List.pairwise_iff_getElem.2 fun a b h1 h2 hab => ?_⟩, ?_⟩
    · have := ha (a : Int) (b : Int) (by omega) (by omega) (by omega)
      rwa [rd_cast l a h1, rd_cast l b h2] at this
    · refine Ev.step (fun k => by rw [slices_insertionSortOrdered_int.l0]) ?_
      exact Ev.neg (by omega) (Ev.done rfl)
  | succ d ih =>
    intro i l i0 hi hl hm hd ha h0
    obtain ⟨r, h1, h2⟩ := ins_l1 (l0 := l0) hn (i := i) (by omega) (by omega) (fun l hl hm hd ha => ih (i + 1) l (by omega) (by omega) hl hm hd (fun a b a0 ab b1 => ha a b a0 ab (by omega)) h0) i.toNat i l (by omega) (by omega) hl hm hd
      ⟨fun a b a0 ab b1 na nb => ha a b a0 ab (by omega), fun b ib b1 => by omega⟩
    refine ⟨r, h1, ?_⟩
    refine Ev.step (fun k => by rw [slices_insertionSortOrdered_int.l0]) ?_
    exact Ev.pos (by omega) h2
theorem sort_ev {l : List Int} (h9 : l.length = 9) (hd : l.Nodup) : ∃ r, SortR l r ∧ Ev (fun k => slices_Sort_int_int.f k l) r := by
  have hD : Dif l := fun a b a0 a1 b0 b1 hne e => by
    rw [rd_getElem a0 a1, rd_getElem b0 b1] at e
    have := (List.getElem_inj hd).1 e
    omega
  obtain ⟨r, h1, h2⟩ := ins_l0 (l0 := l) (n := 9) (by omega) 8 1 l (by omega) (by omega) (by omega) (fun v => Iff.rfl) hD (fun a b a0 ab b1 => by omega) (by omega)
  refine ⟨r, h1, ?_⟩
  unfold slices_Sort_int_int.f
  rw [show (l.length : Int) = 9 by omega]
  refine Ev.fix (a := 4) (by unfold bits_Len.f; rw [show IntKind.u64.wrap 9 = 9 by decide]; rfl) ?_
  refine Ev.bind (a := r) ?_ (Ev.done rfl)
  unfold slices_pdqsortOrdered_int.f
  refine Ev.pos (by omega) ?_
  unfold slices_insertionSortOrdered_int.f
  rw [show wrap64 (0 + 1) = 1 from w64 (by omega) (by omega)]
  exact h2
end Go.Proofs.Ytbfafjejmljcpaa.X

set_option linter.unusedVariables false
set_option linter.unusedSimpArgs false
namespace Go.Proofs.Ytbfafjejmljcpaa.X
open Go.RowKit Go.Proofs.YtbfafjejmljcpaaW.PrintWords Go.Proofs.YtbfafjejmljcpaaW.PrintLast Go.Proofs.Ytbfafjejmljcpaa.P

theorem len_leI : ∀ A B : List Int, A.Nodup → (∀ a ∈ A, a ∈ B) → A.length ≤ B.length := by
  intro A
  induction A with
  | nil => intro B _ _; exact Nat.zero_le _
  | cons a A ih =>
    intro B hA hf
    have hA' := List.nodup_cons.1 hA
    have ha := hf a List.mem_cons_self
    have h1 := ih (B.erase a) hA'.2 (fun b hb => (List.mem_erase_of_ne (fun e : b = a => hA'.1 (by rw [← e]; exact hb))).2 (hf b (List.mem_cons_of_mem _ hb)))
    have h2 := List.length_erase_of_mem ha
    have h3 := List.length_pos_of_mem ha
    rw [List.length_cons]; omega
structure Grow (l o : List Int) : Prop where
  nd : o.Nodup
  nr : ∀ x ∈ o, Nr x
  z : (0 : Int) ∈ o
  has : ∀ g ∈ l, g ∈ o
  least : ∀ T : Int → Prop, Cl T → (∀ g ∈ l, T g) → ∀ x ∈ o, T x
theorem Grow.len {l o : List Int} (G : Grow l o) : o.length ≤ 81 := by
  have := len_leI o (filI 81 fun _ => true) G.nd fun x hx => mem_filI.2 ⟨(G.nr x hx).1, (G.nr x hx).2, rfl⟩
  exact Nat.le_trans this (filI_length_le _ _)
theorem Grow.put {l o : List Int} (G : Grow l o) {p q : Int} (hp : p ∈ o) (hq : q ∈ o) (hn : addF p q ∉ o) : Grow l (o ++ [addF p q]) where
  nd := List.nodup_append.2 ⟨G.nd, by simp, fun a ha b hb e => hn (by rw [← List.mem_singleton.1 hb, ← e]; exact ha)⟩
  nr := fun x hx => (List.mem_append.1 hx).elim (G.nr x) fun h => by rw [List.mem_singleton.1 h]; exact addF_nr p q
  z := List.mem_append.2 (.inl G.z)
  has := fun g hg => List.mem_append.2 (.inl (G.has g hg))
  least := fun T hT h x hx => (List.mem_append.1 hx).elim (G.least T hT h x) fun e => by
    rw [List.mem_singleton.1 e]
    exact hT.2 p q (G.nr p hp) (G.nr q hq) (G.least T hT h p hp) (G.least T hT h q hq)
def Upto (o : List Int) (i : Int) : Prop := ∀ a b : Int, 0 ≤ a → a < i → 0 ≤ b → b < i → addF (rd o a) (rd o b) ∈ o
theorem rd_app {o : List Int} {v a : Int} (a0 : 0 ≤ a) (a1 : a < o.length) : rd (o ++ [v]) a = rd o a := by
  rw [rd_getElem a0 a1, rd_getElem a0 (by rw [List.length_append]; omega), List.getElem_append_left]
theorem Upto.put {o : List Int} {i v : Int} (h : Upto o i) (hi : i ≤ o.length) : Upto (o ++ [v]) i := fun a b a0 a1 b0 b1 => by
  rw [rd_app a0 (by omega), rd_app b0 (by omega)]
  exact List.mem_append.2 (.inl (h a b a0 a1 b0 b1))
theorem Grow.end {l o : List Int} (hl : ∀ g ∈ l, Nr g) (G : Grow l o) (h : Upto o o.length) : nineR (sumS l) = nineR fun x => decide ((x : Int) ∈ o) := by
  refine nine_hull hl ⟨⟨decide_eq_true G.z, fun p q hp hq a b => ?_⟩, fun g hg => ?_, fun T hT h x _ hx => G.least T hT h _ (of_decide_eq_true hx)⟩
  · have a := of_decide_eq_true a
    have b := of_decide_eq_true b
    rw [Int.toNat_of_nonneg hp.1] at a
    rw [Int.toNat_of_nonneg hq.1] at b
    obtain ⟨i, i0, i1, ei⟩ := mem_rdI.1 a
    obtain ⟨j, j0, j1, ej⟩ := mem_rdI.1 b
    have := h i j i0 i1 j0 j1
    rw [ei, ej] at this
    refine decide_eq_true ?_
    rw [Int.toNat_of_nonneg (addF_nr p q).1]
    exact this
  · refine decide_eq_true ?_
    rw [Int.toNat_of_nonneg (hl g hg).1]
    exact G.has g hg
theorem setL_mem {o : List Int} (ho : ∀ x ∈ o, Nr x) {x : Int} : x ∈ setL (fun x => decide ((x : Int) ∈ o)) ↔ x ∈ o := by
  unfold setL
  rw [mem_filI]
  constructor
  · rintro ⟨h0, h1, h2⟩
    have := of_decide_eq_true h2
    rwa [Int.toNat_of_nonneg h0] at this
  · intro h
    refine ⟨(ho x h).1, (ho x h).2, decide_eq_true ?_⟩
    rw [Int.toNat_of_nonneg (ho x h).1]; exact h
theorem filI_nd (n : Nat) (p : Int → Bool) : (filI n p).Nodup := (filI_asc n p).imp fun h => by omega
theorem isum_end {l o : List Int} (hl : ∀ g ∈ l, Nr g) (G : Grow l o) (h : Upto o o.length) : Ev (fun k => impl_SpreadSum.l1 k o (o.length : Int)) (nineR (sumS l)) := by
  rw [G.end hl h]
  have M := fun x => setL_mem G.nr (x := x)
  have hlen : (setL fun x => decide ((x : Int) ∈ o)).length = o.length :=
    Nat.le_antisymm (len_leI _ _ (filI_nd 81 _) fun x hx => (M x).1 hx) (len_leI _ _ G.nd fun x hx => (M x).2 hx)
  refine Ev.step (fun k => by rw [impl_SpreadSum.l1]) ?_
  refine Ev.neg (by omega) ?_
  unfold nineR
  by_cases h9 : o.length = 9
  · rw [if_pos (by omega)]
    obtain ⟨r, ⟨r1, r2, r3⟩, er⟩ := sort_ev h9 G.nd
    have e : r = setL fun x => decide ((x : Int) ∈ o) := asc_extI _ _ r3 (filI_asc 81 _) fun x => (r2 x).trans (M x).symm
    rw [e] at er
    exact Ev.pos (by omega) (Ev.bind er (Ev.done rfl))
  · rw [if_neg (by omega)]
    exact Ev.neg (by omega) (Ev.done rfl)
theorem isum_l2 {l : List Int} {i : Int} (i0 : 0 ≤ i) (hr : ∀ o : List Int, Grow l o → i < o.length → Upto o (i + 1) → Ev (fun k => impl_SpreadSum.l1 k o (i + 1)) (nineR (sumS l))) (d : Nat) :
    ∀ (c : Int) (o : List Int), 0 ≤ c → c + d = i + 1 → Grow l o → i < o.length → Upto o i → (∀ b : Int, 0 ≤ b → b < c → addF (rd o i) (rd o b) ∈ o) → Ev (fun k => impl_SpreadSum.l2 k o i c) (nineR (sumS l)) := by
  induction d with
  | zero =>
    intro c o c0 c1 G hi hU hc
    have hle := G.len
    refine Ev.step (fun k => by rw [impl_SpreadSum.l2]) ?_
    rw [w64 (x := i + 1) (by omega) (by omega)]
    refine Ev.neg (by omega) (hr o G hi fun a b a0 a1 b0 b1 => ?_)
    by_cases ea : a = i
    · rw [ea]; exact hc b b0 (by omega)
    · by_cases eb : b = i
      · rw [eb, addF_comm]; exact hc a a0 (by omega)
      · exact hU a b a0 (by omega) b0 (by omega)
  | succ d ih =>
    intro c o c0 c1 G hi hU hc
    have hle := G.len
    have mi : rd o i ∈ o := rd_mem hi i0
    have mc : rd o c ∈ o := rd_mem (by omega) c0
    have ni := G.nr _ mi
    have nc := G.nr _ mc
    refine Ev.step (fun k => by rw [impl_SpreadSum.l2]) ?_
    rw [w64 (x := c + 1) (by omega) (by omega)]
    refine Ev.pos (by omega) (Ev.pos i0 (Ev.pos hi (Ev.pos c0 (Ev.pos (by omega) (Ev.fix (addNear_eq (nearB_iff.2 ni) (nearB_iff.2 nc)) (Ev.bind (contains_ev o (by omega) _) ?_))))))
    by_cases hm : addF (rd o i) (rd o c) ∈ o
    · refine Ev.pos (decide_eq_true hm) (ih (c + 1) o (by omega) (by omega) G hi hU fun b b0 b1 => ?_)
      by_cases e : b = c
      · rw [e]; exact hm
      · exact hc b b0 (by omega)
    · have G2 := G.put mi mc hm
      refine Ev.neg (by simpa using hm) (Ev.pos (by omega) (ih (c + 1) _ (by omega) (by omega) G2 (by rw [List.length_append]; omega) (hU.put (by omega)) fun b b0 b1 => ?_))
      rw [rd_app i0 hi, rd_app b0 (by omega)]
      by_cases e : b = c
      · rw [e]; exact List.mem_append.2 (.inr (List.mem_singleton.2 rfl))
      · exact List.mem_append.2 (.inl (hc b b0 (by omega)))
theorem isum_l1 {l : List Int} (hl : ∀ g ∈ l, Nr g) (d : Nat) : ∀ (i : Int) (o : List Int), 0 ≤ i → i + d = 81 → Grow l o → i ≤ o.length → Upto o i → Ev (fun k => impl_SpreadSum.l1 k o i) (nineR (sumS l)) := by
  induction d with
  | zero =>
    intro i o i0 i1 G hi hU
    have hle := G.len
    obtain rfl : i = o.length := by omega
    exact isum_end hl G hU
  | succ d ih =>
    intro i o i0 i1 G hi hU
    by_cases e : i = o.length
    · subst e; exact isum_end hl G hU
    · refine Ev.step (fun k => by rw [impl_SpreadSum.l1]) ?_
      refine Ev.pos (by omega) (isum_l2 i0 (fun o G hi hU => ih (i + 1) o (by omega) (by omega) G (by omega) hU) (i + 1).toNat 0 o (by omega) (by omega) G (by omega) hU fun b b0 b1 => by omega)
theorem isum_l0 {l : List Int} (hl : l.length ≤ 1048576) (d : Nat) : ∀ (i : Int) (o : List Int), 0 ≤ i → i + d = l.length → Grow (l.take i.toNat) o → (∀ x ∈ l.take i.toNat, nearB x = true) → Ev (fun k => impl_SpreadSum.l0 k o l (l.length : Int) i) (sumR l) := by
  induction d with
  | zero =>
    intro i o i0 i1 G hn
    rw [List.take_of_length_le (by omega)] at G hn
    refine Ev.step (fun k => by rw [impl_SpreadSum.l0]) ?_
    unfold sumR
    rw [if_pos (List.all_eq_true.2 hn)]
    exact Ev.neg (by omega) (isum_l1 (fun g hg => nearB_iff.1 (hn g hg)) 81 0 o (by omega) (by omega) G (by omega) fun a b a0 a1 => by omega)
  | succ d ih =>
    intro i o i0 i1 G hn
    have hle := G.len
    have et : l.take (i + 1).toNat = l.take i.toNat ++ [rd l i] := by
      rw [show (i + 1).toNat = i.toNat + 1 by omega, List.take_add_one, List.getElem?_eq_getElem (by omega), Option.toList_some]
      rw [show l[i.toNat]'(by omega) = rd l i from (rd_getElem i0 (by omega)).symm]
    refine Ev.step (fun k => by rw [impl_SpreadSum.l0]) ?_
    rw [w64 (x := i + 1) (by omega) (by omega)]
    refine Ev.pos (by omega) (Ev.pos i0 (Ev.pos (by omega) (Ev.fix (isNear_eq (rd l i)) ?_)))
    by_cases hc : nearB (rd l i) = true
    · have hn' : ∀ x ∈ l.take (i + 1).toNat, nearB x = true := fun x hx => by
        rw [et] at hx
        rcases List.mem_append.1 hx with h | h
        · exact hn x h
        · rw [List.mem_singleton.1 h]; exact hc
      have nr := nearB_iff.1 hc
      refine Ev.pos hc (Ev.bind (contains_ev o (by omega) _) ?_)
      have sub : ∀ T : Int → Prop, (∀ g ∈ l.take (i + 1).toNat, T g) → ∀ g ∈ l.take i.toNat, T g := fun T h g hg => h g (by rw [et]; exact List.mem_append.2 (.inl hg))
      by_cases hm : rd l i ∈ o
      · refine Ev.pos (decide_eq_true hm) (ih (i + 1) o (by omega) (by omega) ⟨G.nd, G.nr, G.z, fun g hg => ?_, fun T hT h => G.least T hT (sub T h)⟩ hn')
        rw [et] at hg
        rcases List.mem_append.1 hg with h | h
        · exact G.has g h
        · rw [List.mem_singleton.1 h]; exact hm
      · refine Ev.neg (by simpa using hm) (Ev.pos (by omega) (ih (i + 1) _ (by omega) (by omega) ⟨?_, ?_, List.mem_append.2 (.inl G.z), fun g hg => ?_, fun T hT h x hx => ?_⟩ hn'))
        · exact List.nodup_append.2 ⟨G.nd, by simp, fun a ha b hb e => hm (by rw [← List.mem_singleton.1 hb, ← e]; exact ha)⟩
        · intro x hx
          rcases List.mem_append.1 hx with h | h
          · exact G.nr x h
          · rw [List.mem_singleton.1 h]; exact nr
        · rw [et] at hg
          rcases List.mem_append.1 hg with h | h
          · exact List.mem_append.2 (.inl (G.has g h))
          · exact List.mem_append.2 (.inr h)
        · rcases List.mem_append.1 hx with h2 | h2
          · exact G.least T hT (sub T h) x h2
          · rw [List.mem_singleton.1 h2]
            exact h _ (by rw [et]; exact List.mem_append.2 (.inr (List.mem_singleton.2 rfl)))
    · refine Ev.neg hc (Ev.done ?_)
      unfold sumR
      rw [if_neg]
      intro ha
      exact hc (List.all_eq_true.1 ha _ (rd_mem (by omega) i0))
theorem implSum_ev {l : List Int} (hl : l.length ≤ 1048576) : Ev (fun k => impl_SpreadSum.f k l) (sumR l) := by
  unfold impl_SpreadSum.f
  refine isum_l0 hl l.length 0 [0] (by omega) (by omega) ⟨by simp, fun x hx => ?_, by simp, fun g hg => ?_, fun T hT _ x hx => ?_⟩ fun x hx => ?_
  · rw [List.mem_singleton.1 hx]; exact ⟨by omega, by omega⟩
  · simp at hg
  · rw [List.mem_singleton.1 hx]; exact hT.1
  · simp at hx
end Go.Proofs.Ytbfafjejmljcpaa.X

set_option linter.unusedVariables false
set_option linter.unusedSimpArgs false
namespace Go.Proofs.Ytbfafjejmljcpaa.X
open Go.RowKit Go.Proofs.YtbfafjejmljcpaaW.PrintWords Go.Proofs.YtbfafjejmljcpaaW.PrintLast Go.Proofs.Ytbfafjejmljcpaa.P

theorem sameInts_loop (a b : List Int) (hl : a.length ≤ 1048576) (hab : a.length = b.length) (d : Nat) : ∀ (i : Int), 0 ≤ i → i + d = a.length → (∀ j : Nat, (j : Int) < i → rd a (j : Int) = rd b (j : Int)) → Ev (fun k => laws_sameInts.l0 k a b i) (decide (a = b)) := by
  induction d with
  | zero =>
    intro i h0 h1 h
    refine Ev.step (fun k => by rw [laws_sameInts.l0]) ?_
    refine Ev.neg (by omega) (Ev.done ?_)
    rw [decide_eq_true (ext_rd hab fun j hj => h j (by omega))]
  | succ d ih =>
    intro i h0 h1 h
    refine Ev.step (fun k => by rw [laws_sameInts.l0]) ?_
    simp (disch := omega) only [w64]
    refine Ev.pos (by omega) (Ev.pos (by omega) (Ev.pos (by omega) ?_))
    by_cases e : rd a i = rd b i
    · refine Ev.pos e (ih (i + 1) (by omega) (by omega) fun j hj => ?_)
      by_cases ej : (j : Int) = i
      · rw [ej]; exact e
      · exact h j (by omega)
    · refine Ev.neg e (Ev.done ?_)
      rw [decide_eq_false (fun hab => e (by rw [hab]))]
theorem sameInts_ev (a b : List Int) (hl : a.length ≤ 1048576) : Ev (fun k => laws_sameInts.f k a b) (decide (a = b)) := by
  unfold laws_sameInts.f
  by_cases h : a.length = b.length
  · exact Ev.pos (by omega) (sameInts_loop a b hl h a.length 0 (by omega) (by omega) fun j hj => by omega)
  · refine Ev.neg (by omega) (Ev.done ?_)
    rw [decide_eq_false (fun hab => h (by rw [hab]))]
end Go.Proofs.Ytbfafjejmljcpaa.X

set_option linter.unusedVariables false
set_option linter.unusedSimpArgs false
namespace Go.Proofs.Ytbfafjejmljcpaa.Pure
open Go.RowKit Go.Proofs.Ytbfafjejmljcpaa.P Go.Proofs.YtbfafjejmljcpaaW.PrintWords Go.Proofs.YtbfafjejmljcpaaW.PrintLast Go.Proofs.Ytbfafjejmljcpaa.X

theorem leaf_sumR {l : List Int} (h : leafB l = true) : sumR l = (l, true) := by
  have h9 := (leafB_parts h).1
  have hn : ∀ x ∈ l, Nr x := fun x hx => by
    obtain ⟨i, i0, i1, e⟩ := mem_rdI.1 hx
    have := leaf_near h i0 (by omega)
    rw [e] at this; exact this
  have hz : (0 : Int) ∈ l := by
    have := rd_mem (t := l) (i := 0) (by omega) (by omega)
    rwa [leaf_zero h] at this
  have ha : l.Pairwise (· < ·) := List.pairwise_iff_getElem.2 fun a b h1 h2 hab => by
    have := leaf_asc h (i := (a : Int)) (j := (b : Int)) (by omega) (by omega) (by omega)
    rwa [rd_cast l a h1, rd_cast l b h2] at this
  have e := nine_hull hn (K := fun x => decide ((x : Int) ∈ l)) ⟨⟨decide_eq_true hz, fun p q hp hq a b => ?_⟩, fun g hg => ?_, fun T _ hT x _ hx => hT _ (of_decide_eq_true hx)⟩
  · have es : setL (fun x => decide ((x : Int) ∈ l)) = l := asc_extI _ _ (filI_asc 81 _) ha fun x => setL_mem hn
    unfold sumR
    rw [if_pos (List.all_eq_true.2 fun x hx => nearB_iff.2 (hn x hx)), e]
    unfold nineR
    rw [es, if_pos h9]
  · have a := of_decide_eq_true a
    have b := of_decide_eq_true b
    rw [Int.toNat_of_nonneg hp.1] at a
    rw [Int.toNat_of_nonneg hq.1] at b
    refine decide_eq_true ?_
    rw [Int.toNat_of_nonneg (addF_nr p q).1]
    exact leaf_sum h a b
  · refine decide_eq_true ?_
    rw [Int.toNat_of_nonneg (hn g hg).1]; exact hg
theorem FnLeaf : laws_FnLeaf.Pure := by
  intro l0 _ _ hu
  refine Ev.rounds ?_
  unfold laws_FnLeaf.f
  by_cases hb : (l0.length : Int) > 1048576
  · exact Ev.pos hb (Ev.done rfl)
  refine Ev.neg hb ?_
  obtain ⟨s, hs, eo⟩ := open_ev l0 hu
  obtain ⟨l, q, hl, hq, el⟩ := leaf_ev hs (p := 0) (by omega) (by omega)
  refine Ev.bind (Ev.fix eo (Ev.bind el (Ev.done rfl)) : Ev (fun k => spec_DrawLeafIn.f k l0) l) ?_
  refine Ev.bind (Ev.bind (implLeaf_ev l) (Ev.done rfl) : Ev (fun k => impl_LeafIn.f k l) (leafB l)) (Ev.bind (specLeaf_ev l) (Ev.neg (by simp) ?_))
  refine Ev.step (fun k => by rw [laws_FnLeaf.j0]) ?_
  by_cases h : leafB l = true
  case neg =>
    rw [Bool.eq_false_iff.2 h]
    exact Ev.pos (by decide) (Ev.done rfl)
  have e := implSum_ev (l := l) (by omega)
  rw [leaf_sumR h] at e
  have h9 := (leafB_parts h).1
  exact Ev.neg (by rw [h]; decide) (Ev.bind e (Ev.pos rfl (Ev.bind (sameInts_ev l l (by omega)) (Ev.pos (by simp) (Ev.pos (by omega) (Ev.done (by rw [leaf_zero h]; rfl)))))))
end Go.Proofs.Ytbfafjejmljcpaa.Pure

namespace Go.Proofs.Ytbfafjejmljcpaa.fnLeaf
open Go.ChangeShapes Go.WideShapes Go.ChangeAt Go.RowKit
open Go.ChangeMaps (open_string shut_string)
set_option linter.unusedVariables false
theorem own : ownKnob Try.prog.godebug = none := by kernel_rfl
theorem laidOut : laidOutB Try.prog = true := by kernel_rfl
def IsRow (k : IntKind) (w : World) (a : Option Addr) (len cap : Nat) (zs : List Int) : Prop :=
  (a = none ∧ len = 0 ∧ cap = 0 ∧ zs = []) ∨
  ∃ x, a = some x ∧ len ≤ cap ∧ cap ≤ maxLen ∧ zs.length = cap ∧ (∀ i, i < zs.length → w.cell? (x.add i) = some (.int k (zs.getD i 0))) ∧ ∀ n ∈ zs, (Lit.int k n).wf = true
set_option maxRecDepth 100000 in
theorem lifted (os : Os) (started : os.Started) (H : Type) (enc : TypeId × Value → H) :
    ReturnsInHanded {} Try.checked os 6 .any (Rows.fnLeafSpec.pre6 enc Try.prog Try.f6 Rows.fnLeafRow.domain false) (Rows.fnLeafSpec.post enc Try.prog Try.f6 false true false false) := by
  refine returnsInHanded_of_change_sized (C := Try.checked) own started (by kernel_rfl) Try.func6
    (ChangeSpec.witness6 (enc := enc) (C := Try.checked) false ⟨#[], #[.slice none 0 0], []⟩ 8 (by kernel_rfl) (by kernel_rfl) (by kernel_rfl) (by kernel_rfl)) ?_
  intro W base args ds gs before hval0 hW hcnd hsz0 _
  have hsz : (DataW.weightsEach Try.prog (Try.f6.params.toList ++ Rows.fnLeafSpec.plain.varTypes Try.prog) (ds ++ gs)).all (· ≤ reachBytes) = true := hsz0
  have hval : ∀ (j : Nat) t v, Try.f6.params[j]? = some t → args[j]? = some v → Value.okWide Try.prog W .any base t v := hval0
  have hW' := hW
  obtain ⟨p, q, hA0, hV, rfl, hfz, hnd⟩ := hW
  have hA : DataW.TrodAll enc Try.prog W 0 (fun _ => true) true Try.f6.params.toList args.toList ds p := hA0
  rw [Try.params6] at hA hval hsz
  obtain ⟨v0, vs0, d0, ds0, p0, q0, hargs, rfl, rfl, h0, r0⟩ := trodAll_cons hA
  obtain ⟨rfl, rfl, rfl⟩ := trodAll_nil r0
  obtain rfl : args = #[v0] := by cases args; simp_all
  obtain ⟨rfl, rfl⟩ := trodVars_none hV
  obtain ⟨a0, len0, cap0, rfl⟩ := okWide_slice Try.underlying22 (hval 0 22 v0 rfl rfl)
  have k0 := h0
  have lt0 : ∀ x ∈ p0, x.block < W.heap.size := by obtain ⟨m, hm⟩ := k0; exact DataW.trod_lt m _ _ _ hm
  obtain ⟨z0, w0⟩ : ∃ zs, IsRow .u8 W a0 len0 cap0 zs := by
    obtain ⟨fuel, hf⟩ := h0
    rcases open_ints Try.underlying22 Try.underlying5 (by kernel_rfl) hf with ⟨hcs, _⟩ | ⟨x, l, c, zs, hcs, _, hl, hm, hz, _, hcell, hwz⟩
    · simp [Value.cells] at hcs
      obtain ⟨rfl, rfl, rfl⟩ := hcs
      exact ⟨[], .inl ⟨rfl, rfl, rfl, rfl⟩⟩
    · simp [Value.cells] at hcs
      obtain ⟨rfl, rfl, rfl⟩ := hcs
      exact ⟨zs, .inr ⟨_, rfl, hl, hm, by simpa using hz, hcell, hwz⟩⟩
  have y0 : len0 * 1 ≤ 140737488351232 := Go.Proofs.YtbfafjejmljcpaaW.PrintWords.sized_ints hsz (j := 0) (t := 22) rfl rfl Try.underlying22 Try.underlying5 (by kernel_rfl) (by kernel_rfl) h0
  clear hA0 hval0 hsz0 hsz
  refine (P.laws_FnLeaf.walk Pure.FnLeaf a0 len0 cap0 z0 W w0 y0).mono fun e W' ⟨he, bel⟩ => ?_
  subst he
  exact ⟨_, rfl, _, _, _, [], _, [], hW', trodAll_mk1 (shut_bool Try.underlying4 _), (trodAll_cons_mk (Below.trod laidOut (by kernel_rfl) (of_decide_eq_true (by kernel_rfl)) k0 bel lt0) trodAll_mk0), rfl, bel.frame _, fun h => by cases h⟩
theorem over : Rows.fnLeafRow.holds Try.pinned (OpenSpec.ofChange Rows.fnLeafSpec) :=
  OpenClaim.holds_of_wide 6 Try.f6 rfl rfl rfl rfl rfl rfl rfl ⟨rfl, rfl, rfl, rfl, rfl⟩ rfl rfl rfl rfl rfl (by kernel_rfl) Try.func6 (by kernel_rfl)
    (of_decide_eq_true (by kernel_rfl)) (by unfold Func.isWrapper; first | (rw [if_pos (by decide +kernel)]; kernel_rfl) | (rw [if_neg (by decide +kernel)]; exact ⟨rfl, rfl⟩))
    (fun os started H enc _ => lifted os started H enc)
theorem proved : Rows.FnLeafSaid := over
#print axioms proved
end Go.Proofs.Ytbfafjejmljcpaa.fnLeaf
namespace Go.Proofs.Ytbfafjejmljcpaa
theorem fnLeaf_holds : Rows.FnLeafSaid := fnLeaf.proved
end Go.Proofs.Ytbfafjejmljcpaa
