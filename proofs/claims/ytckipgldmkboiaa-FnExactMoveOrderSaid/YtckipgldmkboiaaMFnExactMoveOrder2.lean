/- The law FnExactMoveOrder of the given program: for every input the call returns true, and each argument reads afterwards as it read before. No conditions. (Part 3 of 3; the last part holds the theorem.) -/
import Derived.Test.YtckipgldmkboiaaMFnExactMoveOrder0
import Derived.Test.YtckipgldmkboiaaMFnExactMoveOrder1
import Derived.Test.YtckipgldmkboiaaRows
import Derived.WalkKit
import Derived.ProofKit
import Derived.OpenShut
import Derived.ShutString
import Derived.ChangeOld
import Derived.Below
import Derived.SizedLaws
import Derived.Test.YtckipgldmkboiaaWSized
set_option linter.unusedVariables false
set_option linter.unusedSimpArgs false
namespace Go.Proofs.Ytckipgldmkboiaa.X
open Go.RowKit Go.Proofs.YtckipgldmkboiaaW.PrintWords Go.Proofs.YtckipgldmkboiaaW.PrintLast Go.Proofs.Ytckipgldmkboiaa.P

theorem l3In_eq (p : Int) : spec_l3In.f p = some (ptB p) := by
  unfold spec_l3In.f ptB
  rw [l6In_eq]
  show some _ = _
  rw [show decide (p ≤ 90) = decide (p < 91) from decide_eq_decide.2 (by omega)]
theorem l3On_eq {t : List Int} (hn : ninesB t 81 = true) {p l : Int} (hp : In91 p) (hl : In91 l) : spec_l3On.f t p l = some (onB t p l) := by
  obtain ⟨p0, p1⟩ := hp
  obtain ⟨l0, l1⟩ := hl
  have hlen := (ninesB_iff.1 hn).1
  unfold spec_l3On.f onB
  by_cases h90 : l = 90
  · rw [if_pos h90, if_pos h90]
  rw [if_neg h90, if_neg h90]
  by_cases h81 : l ≥ 81
  · rw [if_pos h81, if_pos h81]
    by_cases hp90 : p = 90
    · rw [if_pos hp90, decide_eq_true hp90]; rfl
    · rw [if_neg hp90, decide_eq_false hp90, Bool.false_or]
      by_cases hpn : p < 81
      · rw [if_pos hpn, decide_eq_true hpn, Bool.true_and]
        simp (disch := omega) only [w64, tdiv_nn]
        rfl
      · rw [if_neg hpn, decide_eq_false hpn, Bool.false_and]
  · rw [if_neg h81, if_neg h81]
    by_cases hpf : p ≥ 81
    · rw [if_pos hpf, if_pos hpf]
      simp (disch := omega) only [w64, tdiv_nn]
      refine congrArg some ?_
      rw [show decide (p = 81 + l / 9) = decide (p - 81 = l / 9) from decide_eq_decide.2 (by omega)]
      rfl
    · rw [if_neg hpf, if_neg hpf]
      have hr := nines_rd hn (i := 9 * (p / 9) + l / 9) (by omega) (by omega)
      have ha := spec_l1Add_eq (rd t (9 * (p / 9) + l / 9)) (l % 9) hr ⟨by omega, by omega⟩
      simp (disch := omega) only [w64, tdiv_nn, tmod_nn]
      rw [show p / 9 * 9 = 9 * (p / 9) by omega, if_pos (by omega), if_pos (by omega), ha]
      rfl
theorem l3Points_loop {t : List Int} (hn : ninesB t 81 = true) {l : Int} (hl : In91 l) (d : Nat) : ∀ (i : Nat), i + d = 91 → Ev (fun k => spec_l3Points.l0 k t l (filI i fun p => onB t p l) (i : Int)) (pointsL t l) := by
  induction d with
  | zero =>
    intro i h1
    have e : i = 91 := by omega
    subst e
    refine Ev.step (fun k => by rw [spec_l3Points.l0]) ?_
    exact Ev.neg (by omega) (Ev.done rfl)
  | succ d ih =>
    intro i h1
    have hlen := filI_length_le i fun p => onB t p l
    have e1 := l3On_eq hn (p := (i : Int)) ⟨by omega, by omega⟩ hl
    have nx := ih (i + 1) (by omega)
    rw [filI_succ] at nx
    have z : wrap64 ((i : Int) + 1) = ((i + 1 : Nat) : Int) := by rw [w64 (by omega) (by omega)]; rfl
    refine Ev.step (fun k => by rw [spec_l3Points.l0]) ?_
    rw [z]
    refine Ev.pos (by omega) (Ev.fix e1 ?_)
    by_cases a : onB t (i : Int) l = true
    · rw [if_pos a] at nx
      exact Ev.pos a (Ev.pos (by omega) nx)
    · rw [if_neg a, List.append_nil] at nx
      exact Ev.neg a nx
theorem l3Points_ev {t : List Int} (hn : ninesB t 81 = true) {l : Int} (hl : In91 l) : Ev (fun k => spec_l3Points.f k t l) (pointsL t l) :=
  l3Points_loop hn hl 91 0 (by omega)
theorem l3Join_loop {t : List Int} (hn : ninesB t 81 = true) {p q : Int} (hp : In91 p) (hq : In91 q) (hj : ∃ l : Int, 0 ≤ l ∧ l < 91 ∧ onB t p l = true ∧ onB t q l = true) (d : Nat) : ∀ (i : Int), 0 ≤ i → i + d = 91 → (∀ l : Int, 0 ≤ l → l < i → (onB t p l && onB t q l) = false) → Ev (fun k => spec_l3Join.l0 k t p q i) (joinI t p q) := by
  induction d with
  | zero =>
    intro i h0 h1 h
    obtain ⟨l, l0, l1, a, b⟩ := hj
    have := h l l0 (by omega)
    rw [a, b] at this; exact absurd this (by decide)
  | succ d ih =>
    intro i h0 h1 h
    have e1 := l3On_eq hn hp (l := i) ⟨h0, by omega⟩
    have e2 := l3On_eq hn hq (l := i) ⟨h0, by omega⟩
    refine Ev.step (fun k => by rw [spec_l3Join.l0]) ?_
    simp (disch := omega) only [w64, e1, e2, Option.bind_some]
    refine Ev.pos (by omega) ?_
    have next : (onB t p i && onB t q i) = false → Ev (fun k => spec_l3Join.l0 k t p q (i + 1)) (joinI t p q) := fun hb => ih (i + 1) (by omega) (by omega) fun l l0 l1 => by
      by_cases e : l = i
      · rw [e]; exact hb
      · exact h l l0 (by omega)
    by_cases a : onB t p i = true
    · refine Ev.pos a ?_
      by_cases b : onB t q i = true
      · refine Ev.pos b (Ev.done ?_)
        unfold joinI
        rw [firstI_some i h0 (by omega) (by rw [a, b]; rfl) h]
      · exact Ev.neg b (next (by rw [Bool.eq_false_iff.2 b, Bool.and_false]))
    · exact Ev.neg a (next (by rw [Bool.eq_false_iff.2 a, Bool.false_and]))
/-- The join of two different points of a system's plane. -/
theorem l3Join_ev {t : List Int} (h : sysB t = true) {p q : Int} (hp : In91 p) (hq : In91 q) (hne : p ≠ q) : Ev (fun k => spec_l3Join.f k t p q) (joinI t p q) :=
  l3Join_loop (sysB_parts h).1 hp hq (join_ex h hp.1 hp.2 hq.1 hq.2 hne) 91 0 (by omega) (by omega) (fun l h0 h1 => by omega)

/-! ### l5Perm -/
theorem seen_take {l : List Int} {i : Int} (h0 : 0 ≤ i) (h1 : i ≤ l.length) {v : Int} (hv : 0 ≤ v) : seenO (rd l) i v.toNat = true ↔ v ∈ l.take i.toNat := by
  unfold seenO
  simp only [List.any_eq_true, List.mem_range, decide_eq_true_eq]
  rw [List.mem_take_iff_getElem]
  constructor
  · rintro ⟨z, hz, e⟩
    refine ⟨z, by omega, ?_⟩
    rw [← rd_cast l z (by omega), e]; omega
  · rintro ⟨z, hz, e⟩
    refine ⟨z, by omega, ?_⟩
    rw [rd_cast l z (by omega), e]; omega
theorem l5Perm_loop (m : List Int) (hl : m.length ≤ 1048576) (d : Nat) : ∀ (i : Int), 0 ≤ i → i + d = m.length → (∀ j : Int, 0 ≤ j → j < i → newB m j = true) → Ev (fun k => spec_l5Perm.l0 k m (bL 91 (seenO (rd m) i)) i) (permB m) := by
  induction d with
  | zero =>
    intro i h0 h1 h
    refine Ev.step (fun k => by rw [spec_l5Perm.l0]) ?_
    refine Ev.neg (by omega) (Ev.done ?_)
    unfold permB
    rw [diffB_all fun j j0 j1 => h j j0 (by omega), Bool.and_true]
    refine congrArg some ?_
    by_cases e : m.length = 91
    · rw [decide_eq_true e, e]; rfl
    · rw [decide_eq_false e]
      exact beq_eq_false_iff_ne.2 (by omega)
  | succ d ih =>
    intro i h0 h1 h
    refine Ev.step (fun k => by rw [spec_l5Perm.l0]) ?_
    have z : wrap64 (i + 1) = i + 1 := w64 (by omega) (by omega)
    rw [z, l3In_eq]
    refine Ev.pos (by omega) (Ev.pos h0 (Ev.fix rfl ?_))
    by_cases hp : ptB (rd m i) = true
    case neg =>
      refine Ev.neg hp (Ev.done ?_)
      have hnb : newB m i = false := by unfold newB; rw [Bool.eq_false_iff.2 hp, Bool.false_and]
      unfold permB
      rw [diffB_hit h0 (by omega) hnb, Bool.and_false]
    obtain ⟨v0, v1⟩ := ptB_iff.1 hp
    have z4 := bL_rd (n := 91) (s := seenO (rd m) i) (rd m i) v0 v1
    have hs := bL_seen (n := 91) (rd m) i h0 (rd m i) v0 rfl
    rw [z4, bL_length, hs]
    refine Ev.pos hp (Ev.pos v0 (Ev.pos v1 ?_))
    have hst := seen_take (l := m) (i := i) h0 (by omega) v0
    by_cases e : seenO (rd m) i (rd m i).toNat = true
    · refine Ev.pos e (Ev.done ?_)
      have hnb : newB m i = false := by unfold newB; rw [decide_eq_true (hst.1 e), Bool.not_true, Bool.and_false]
      unfold permB
      rw [diffB_hit h0 (by omega) hnb, Bool.and_false]
    · refine Ev.neg e (ih (i + 1) (by omega) (by omega) fun j j0 j1 => ?_)
      by_cases ej : j = i
      · rw [ej]; unfold newB; rw [hp, decide_eq_false (fun hm => e (hst.2 hm))]; rfl
      · exact h j j0 (by omega)
theorem l5Perm_ev (m : List Int) (hl : m.length ≤ 1048576) : Ev (fun k => spec_l5Perm.f k m) (permB m) := by
  unfold spec_l5Perm.f
  rw [bL_replicate]
  exact Ev.pos (by omega) (l5Perm_loop m hl m.length 0 (by omega) (by omega) (fun j h0 h1 => by omega))

/-! ### l5Line, l5In -/
def lineR (t m : List Int) (l : Int) : Int × Bool := if lineOk t m l = true then (toLine t m l, true) else (0, false)
theorem l5Line_loop {t m : List Int} (hs : sysB t = true) (hm : permB m = true) {l : Int} (hl : In91 l) (d : Nat) : ∀ (i : Int), 0 ≤ i → i + d = (pointsL t l).length → (∀ j : Int, 0 ≤ j → j < i → onB t (rd m (rd (pointsL t l) j)) (toLine t m l) = true) → Ev (fun k => spec_l5Line.l0 k t m (pointsL t l) (toLine t m l) i) (lineR t m l) := by
  have hlen := permB_len hm
  have h91 : (pointsL t l).length ≤ 91 := filI_length_le _ _
  obtain ⟨_, _, _, htl⟩ := toLine_spec hs hm hl
  induction d with
  | zero =>
    intro i h0 h1 h
    refine Ev.step (fun k => by rw [spec_l5Line.l0]) ?_
    refine Ev.neg (by omega) (Ev.done ?_)
    have : lineOk t m l = true := by
      unfold lineOk
      rw [Bool.not_eq_true', List.any_eq_false]
      intro p hp
      obtain ⟨j, hj, rfl⟩ := List.mem_iff_getElem.1 hp
      have := h (j : Int) (by omega) (by omega)
      rw [rd_cast _ j hj] at this
      rw [this]; decide
    unfold lineR; rw [if_pos this]
  | succ d ih =>
    intro i h0 h1 h
    obtain ⟨⟨a0, a1⟩, _⟩ := pointsL_rd (t := t) (l := l) (i := i) h0 (by omega)
    have hv := diffB_pt (permB_diff hm) a0 (by omega)
    have e1 := l3On_eq (sysB_parts hs).1 hv htl
    refine Ev.step (fun k => by rw [spec_l5Line.l0]) ?_
    rw [w64 (x := i + 1) (by omega) (by omega)]
    refine Ev.pos (by omega) (Ev.pos h0 (Ev.pos a0 (Ev.pos (by omega) (Ev.fix e1 ?_))))
    by_cases e : onB t (rd m (rd (pointsL t l) i)) (toLine t m l) = true
    · refine Ev.pos e (ih (i + 1) (by omega) (by omega) fun j j0 j1 => ?_)
      by_cases ej : j = i
      · rw [ej]; exact e
      · exact h j j0 (by omega)
    · refine Ev.neg e (Ev.done ?_)
      have : lineOk t m l = false := by
        unfold lineOk
        rw [Bool.not_eq_false', List.any_eq_true]
        exact ⟨_, rd_mem (by omega) h0, by rw [Bool.eq_false_iff.2 e]; rfl⟩
      unfold lineR; rw [this]; rfl
theorem l5Line_ev {t m : List Int} (hs : sysB t = true) (hm : permB m = true) {l : Int} (hl : In91 l) : Ev (fun k => spec_l5Line.f k t m l) (lineR t m l) := by
  have hn := (sysB_parts hs).1
  have hlen := permB_len hm
  have h2 := pointsL_two hs hl.1 hl.2
  obtain ⟨p0, p1, hne, htl⟩ := toLine_spec hs hm hl
  obtain ⟨⟨a0, a1⟩, _⟩ := pointsL_rd (t := t) (l := l) (i := 0) (by omega) (by omega)
  obtain ⟨⟨b0, b1⟩, _⟩ := pointsL_rd (t := t) (l := l) (i := 1) (by omega) (by omega)
  obtain ⟨j0, j1, j2, j3⟩ := joinI_spec hs p0.1 p0.2 p1.1 p1.2 hne
  unfold spec_l5Line.f
  refine Ev.bind (l3Points_ev hn hl) ?_
  refine Ev.pos (by omega) (Ev.pos a0 (Ev.pos (by omega) (Ev.pos (by omega) (Ev.pos b0 (Ev.pos (by omega) (Ev.bind (l3Join_ev hs p0 p1 hne) ?_))))))
  refine l5Line_loop hs hm hl ((pointsL t l).length - 2) 2 (by omega) (by omega) fun j j0' j1' => ?_
  have : j = 0 ∨ j = 1 := by omega
  rcases this with rfl | rfl
  · exact j2
  · exact j3
theorem l5In_loop {t m : List Int} (hs : sysB t = true) (hm : permB m = true) (d : Nat) : ∀ (i : Int), 0 ≤ i → i + d = 91 → (∀ l : Int, 0 ≤ l → l < i → lineOk t m l = true) → Ev (fun k => spec_l5In.l0 k t m i) (moveB t m) := by
  induction d with
  | zero =>
    intro i h0 h1 h
    refine Ev.step (fun k => by rw [spec_l5In.l0]) ?_
    refine Ev.neg (by omega) (Ev.done ?_)
    rw [moveB_all hs hm fun l l0 l1 => h l l0 (by omega)]
  | succ d ih =>
    intro i h0 h1 h
    refine Ev.step (fun k => by rw [spec_l5In.l0]) ?_
    rw [w64 (x := i + 1) (by omega) (by omega)]
    refine Ev.pos (by omega) (Ev.bind (l5Line_ev hs hm (l := i) ⟨h0, by omega⟩) ?_)
    unfold lineR
    by_cases e : lineOk t m i = true
    · rw [if_pos e]
      refine Ev.pos rfl (ih (i + 1) (by omega) (by omega) fun l l0 l1 => ?_)
      by_cases el : l = i
      · rw [el]; exact e
      · exact h l l0 (by omega)
    · rw [if_neg e]
      refine Ev.neg (by decide) (Ev.done ?_)
      rw [moveB_hit h0 (by omega) (Bool.eq_false_iff.2 e)]
theorem l5In_ev {t m : List Int} (hs : sysB t = true) (hl : m.length ≤ 1048576) : Ev (fun k => spec_l5In.f k t m) (moveB t m) := by
  unfold spec_l5In.f
  refine Ev.bind (l5Perm_ev m hl) ?_
  by_cases hm : permB m = true
  · exact Ev.pos hm (l5In_loop hs hm 91 0 (by omega) (by omega) fun l h0 h1 => by omega)
  · refine Ev.neg hm (Ev.done ?_)
    unfold moveB; rw [Bool.eq_false_iff.2 hm]; simp
theorem MoveIn_ev {t m : List Int} (ht : t.length ≤ 1048576) (hl : m.length ≤ 1048576) : Ev (fun k => spec_MoveIn.f k t m) (moveB t m) := by
  unfold spec_MoveIn.f
  refine Ev.bind (SystemIn_ev t ht) ?_
  by_cases hs : sysB t = true
  · exact Ev.pos hs (Ev.bind (l5In_ev hs hl) (Ev.done rfl))
  · refine Ev.neg hs (Ev.done ?_)
    unfold moveB; rw [Bool.eq_false_iff.2 hs]; rfl

end Go.Proofs.Ytckipgldmkboiaa.X

set_option linter.unusedVariables false
set_option linter.unusedSimpArgs false
namespace Go.Proofs.Ytckipgldmkboiaa.X
open Go.RowKit Go.Proofs.YtckipgldmkboiaaW.PrintWords Go.Proofs.YtckipgldmkboiaaW.PrintLast Go.Proofs.Ytckipgldmkboiaa.P

theorem gcd_l0 (b : Nat) : ∀ a : Nat, Ev (fun k => spec_l5Gcd.l0 k (a : Int) (b : Int)) ((Nat.gcd a b : Nat) : Int) := by
  induction b using Nat.strongRecOn with
  | ind b ih =>
    intro a
    refine Ev.step (fun k => by rw [spec_l5Gcd.l0]) ?_
    by_cases e : b = 0
    · subst e
      exact Ev.pos rfl (Ev.done (by rw [Nat.gcd_zero_right]))
    · refine Ev.neg (by omega) ?_
      have h1 := ih (a % b) (Nat.mod_lt a (by omega)) b
      have e2 : Int.tmod (a : Int) (b : Int) = ((a % b : Nat) : Int) := by rw [tmod_nn (by omega)]; rfl
      have e3 : Nat.gcd a b = Nat.gcd b (a % b) := by rw [Nat.gcd_comm a b, Nat.gcd_rec b a, Nat.gcd_comm]
      rw [e2, e3]
      exact h1
theorem gcd_ev (a b : Nat) : Ev (fun k => spec_l5Gcd.f k (a : Int) (b : Int)) ((Nat.gcd a b : Nat) : Int) := gcd_l0 b a
/-- What is seen, with the first n points of a way round. -/
def sN (s : Nat → Bool) (m : List Int) (p : Int) : Nat → (Nat → Bool)
  | 0 => s
  | n + 1 => fun x => if x = (itI m n p).toNat then true else sN s m p n x
theorem sN_iff {s : Nat → Bool} {m : List Int} {p : Int} (n x : Nat) : sN s m p n x = true ↔ s x = true ∨ ∃ j, j < n ∧ x = (itI m j p).toNat := by
  induction n with
  | zero => exact ⟨.inl, fun h => h.elim id fun ⟨j, hj, _⟩ => absurd hj (by omega)⟩
  | succ n ih =>
    show (if x = (itI m n p).toNat then true else sN s m p n x) = true ↔ _
    by_cases e : x = (itI m n p).toNat
    · rw [if_pos e]; exact ⟨fun _ => .inr ⟨n, by omega, e⟩, fun _ => rfl⟩
    · rw [if_neg e, ih]
      refine or_congr_right ⟨fun ⟨j, hj, h⟩ => ⟨j, by omega, h⟩, fun ⟨j, hj, h⟩ => ⟨j, ?_, h⟩⟩
      rcases Nat.lt_or_eq_of_le (Nat.le_of_lt_succ hj) with h2 | h2
      · exact h2
      · rw [h2] at h; exact absurd h e
def Closed (m : List Int) (s : Nat → Bool) : Prop := ∀ x, In91 x → s (rd m x).toNat = s x.toNat
theorem closed_it {m : List Int} (hm : permB m = true) {s : Nat → Bool} (hc : Closed m s) {p : Int} (hp : In91 p) (n : Nat) : s (itI m n p).toNat = s p.toNat := by
  induction n with
  | zero => rfl
  | succ n ih => exact (hc _ (itI_in hm n hp)).trans ih
theorem sN_new {m : List Int} (hm : permB m = true) {s : Nat → Bool} (hc : Closed m s) {p : Int} (hp : In91 p) (hs : s p.toNat = false) {c n : Nat} (h : IsCyc m p c) (hn : n < c) : sN s m p n (itI m n p).toNat = false := by
  refine Bool.eq_false_iff.2 fun hh => ?_
  rcases (sN_iff n _).1 hh with h1 | ⟨j, hj, e⟩
  · rw [closed_it hm hc hp, hs] at h1; exact absurd h1 (by decide)
  · have a := itI_in hm n hp
    have b := itI_in hm j hp
    have a0 := a.1; have b0 := b.1
    exact h.ne hm hp hj hn (by omega)
theorem sN_size {m : List Int} (hm : permB m = true) {s : Nat → Bool} (hc : Closed m s) {p : Int} (hp : In91 p) (hs : s p.toNat = false) {c : Nat} (h : IsCyc m p c) (n : Nat) (hn : n ≤ c) : sizeS s + n ≤ sizeS (sN s m p n) := by
  induction n with
  | zero => exact Nat.le_refl _
  | succ n ih =>
    have h1 := ih (by omega)
    have a := itI_in hm n hp
    have h2 := sizeS_less (s := sN s m p n) (s' := sN s m p (n + 1)) (fun x _ hx => (sN_iff _ _).2 (by
      rcases (sN_iff _ _).1 hx with h | ⟨j, hj, e⟩
      · exact .inl h
      · exact .inr ⟨j, by omega, e⟩)) (j := (itI m n p).toNat) (by have := a.1; have := a.2; omega) ((sN_iff _ _).2 (.inr ⟨n, by omega, rfl⟩)) (sN_new hm hc hp hs h (by omega))
    omega
theorem sN_closed {m : List Int} (hm : permB m = true) {s : Nat → Bool} (hc : Closed m s) {p : Int} (hp : In91 p) {c : Nat} (h : IsCyc m p c) : Closed m (sN s m p c) := by
  intro x hx
  have hx2 := perm_rd hm hx
  have key : sN s m p c (rd m x).toNat = true ↔ sN s m p c x.toNat = true := by
    rw [sN_iff, sN_iff, hc x hx]
    refine or_congr_right ⟨fun ⟨j, hj, e⟩ => ?_, fun ⟨j, hj, e⟩ => ?_⟩
    · have b := itI_in hm j hp
      have e2 : rd m x = itI m j p := by have := hx2.1; have := b.1; omega
      cases j with
      | zero =>
        refine ⟨c - 1, by have := h.1; omega, ?_⟩
        have e3 : rd m (itI m (c - 1) p) = p := by
          have : itI m ((c - 1) + 1) p = p := by rw [show c - 1 + 1 = c by have := h.1; omega]; exact h.2.1
          exact this
        rw [perm_inj hm hx (itI_in hm (c - 1) hp) (e2.trans e3.symm)]
      | succ j =>
        refine ⟨j, by omega, ?_⟩
        rw [perm_inj hm hx (itI_in hm j hp) e2]
    · have b := itI_in hm j hp
      have e2 : x = itI m j p := by have := hx.1; have := b.1; omega
      by_cases ej : j + 1 = c
      · refine ⟨0, by omega, ?_⟩
        have e3 : rd m x = p := by rw [e2]; show itI m (j + 1) p = p; rw [ej]; exact h.2.1
        rw [e3]; rfl
      · refine ⟨j + 1, by omega, ?_⟩
        rw [e2]; rfl
  cases e : sN s m p c x.toNat with
  | true => exact key.2 e
  | false => exact Bool.eq_false_iff.2 fun h => by rw [key.1 h] at e; exact absurd e (by decide)
theorem cube_pow : ∀ c : Fin 92, c.val ^ 3 ≤ 3 ^ c.val := by decide +kernel
theorem cube_le {n : Nat} (h : n ^ 3 ≤ 3 ^ 91) : n ≤ 1000000000000000 := by
  rcases Nat.lt_or_ge 1000000000000000 n with hlt | hge
  · exfalso
    have h1 : 1000000000000000 ^ 3 ≤ n ^ 3 := Nat.pow_le_pow_left (Nat.le_of_lt hlt) 3
    have h2 : (3 : Nat) ^ 91 < 1000000000000000 ^ 3 := by decide +kernel
    omega
  · exact hge
structure OInv (m : List Int) (s : Nat → Bool) (o : Nat) : Prop where
  cl : Closed m s
  all : ∀ x, In91 x → s x.toNat = true → itI m o x = x
  dv : ∀ K, (∀ x, In91 x → s x.toNat = true → itI m K x = x) → o ∣ K
  cu : o ^ 3 ≤ 3 ^ sizeS s
  one : 1 ≤ o
theorem OInv.next {m : List Int} (hm : permB m = true) {s : Nat → Bool} {o : Nat} (I : OInv m s o) {p : Int} (hp : In91 p) (hs : s p.toNat = false) {c : Nat} (h : IsCyc m p c) (hc91 : c ≤ 91) : OInv m (sN s m p c) (Nat.lcm o c) where
  cl := sN_closed hm I.cl hp h
  all := by
    intro x hx hsx
    rcases (sN_iff _ _).1 hsx with h1 | ⟨j, hj, e⟩
    · obtain ⟨q, hq⟩ := Nat.dvd_lcm_left o c
      rw [hq]; exact itI_mul m o (I.all x hx h1) q
    · have b := itI_in hm j hp
      have e2 : x = itI m j p := by have := hx.1; have := b.1; omega
      obtain ⟨q, hq⟩ := Nat.dvd_lcm_right o c
      rw [hq]
      refine itI_mul m c ?_ q
      rw [e2, ← itI_add, Nat.add_comm, itI_add, h.2.1]
  dv := by
    intro K hK
    refine Nat.lcm_dvd (I.dv K fun x hx hsx => hK x hx ((sN_iff _ _).2 (.inl hsx))) ?_
    exact h.dvd (hK p hp ((sN_iff _ _).2 (.inr ⟨0, h.1, rfl⟩)))
  cu := by
    have h1 := sN_size hm I.cl hp hs h c (Nat.le_refl _)
    have h2 : Nat.lcm o c ≤ o * c := Nat.le_of_dvd (Nat.mul_pos I.one h.1) (Nat.lcm_dvd (Nat.dvd_mul_right _ _) (Nat.dvd_mul_left _ _))
    have h3 : c ^ 3 ≤ 3 ^ c := cube_pow ⟨c, by omega⟩
    calc Nat.lcm o c ^ 3 ≤ (o * c) ^ 3 := Nat.pow_le_pow_left h2 3
      _ = o ^ 3 * c ^ 3 := Nat.mul_pow o c 3
      _ ≤ 3 ^ sizeS s * 3 ^ c := Nat.mul_le_mul I.cu h3
      _ = 3 ^ (sizeS s + c) := (Nat.pow_add 3 (sizeS s) c).symm
      _ ≤ 3 ^ sizeS (sN s m p c) := Nat.pow_le_pow_right (by omega) h1
  one := Nat.lcm_pos I.one h.1
theorem OInv.le {m : List Int} {s : Nat → Bool} {o : Nat} (I : OInv m s o) : o ^ 3 ≤ 3 ^ 91 := Nat.le_trans I.cu (Nat.pow_le_pow_right (by omega) (sizeS_le s))
theorem specOrd_l1 {m : List Int} (hm : permB m = true) {s : Nat → Bool} {o : Nat} (I : OInv m s o) {p : Int} (hp : In91 p) (hs : s p.toNat = false) {c : Nat} (h : IsCyc m p c) (hc91 : c ≤ 91) {r : Int × Bool}
    (hr : Ev (fun k => spec_MoveOrder.l0 k m ((Nat.lcm o c : Nat) : Int) (bL 91 (sN s m p c)) (p + 1)) r) (d : Nat) : ∀ n : Nat, n + d = c → Ev (fun k => spec_MoveOrder.l1 k m (o : Int) (bL 91 (sN s m p n)) p (n : Int) (itI m n p)) r := by
  have hl := permB_len hm
  induction d with
  | zero =>
    intro n hn
    have e : n = c := by omega
    subst e
    have hp0 := hp.1
    have hp1 := hp.2
    refine Ev.step (fun k => by rw [spec_MoveOrder.l1]) ?_
    rw [h.2.1, bL_length, bL_rd p hp.1 hp.2, w64 (x := p + 1) (by omega) (by omega)]
    refine Ev.pos hp.1 (Ev.pos hp.2 (Ev.pos ((sN_iff _ _).2 (.inr ⟨0, h.1, rfl⟩)) (Ev.pos (by have := h.1; omega) (Ev.bind (gcd_ev o n) ?_))))
    have hg : 0 < Nat.gcd o n := Nat.gcd_pos_of_pos_left _ I.one
    have hle := cube_le I.le
    have hlc := cube_le (I.next hm hp hs h hc91).le
    have ed : Int.tdiv (o : Int) ((Nat.gcd o n : Nat) : Int) = ((o / Nat.gcd o n : Nat) : Int) := by rw [tdiv_nn (by omega)]; rfl
    have hd : o / Nat.gcd o n ≤ o := Nat.div_le_self _ _
    have el : o / Nat.gcd o n * n = Nat.lcm o n := by
      show _ = o * n / Nat.gcd o n
      rw [Nat.div_mul_right_comm (Nat.gcd_dvd_left o n)]
    have ee : wrap64 (wrap64 (Int.tdiv (o : Int) ((Nat.gcd o n : Nat) : Int)) * (n : Int)) = ((Nat.lcm o n : Nat) : Int) := by
      rw [ed]
      generalize o / Nat.gcd o n = u at hd el ⊢
      rw [w64 (x := (u : Int)) (by omega) (by omega), ← Int.natCast_mul, el]
      exact w64 (by omega) (by omega)
    rw [ee]
    exact Ev.neg (by omega) hr
  | succ d ih =>
    intro n hn
    have nx := ih (n + 1) (by omega)
    obtain ⟨q0, q1⟩ := itI_in hm n hp
    refine Ev.step (fun k => by rw [spec_MoveOrder.l1]) ?_
    rw [bL_length, bL_rd (itI m n p) q0 q1, sN_new hm I.cl hp hs h (by omega), w64 (x := (n : Int) + 1) (by omega) (by omega), bL_set]
    refine Ev.pos q0 (Ev.pos q1 (Ev.neg (by decide) (Ev.pos (by omega) ?_)))
    exact nx
theorem specOrd_l0 {m : List Int} (hm : permB m = true) (d : Nat) : ∀ (p : Int) (s : Nat → Bool) (o : Nat), 0 ≤ p → p + d = 91 → OInv m s o → (∀ r : Int, 0 ≤ r → r < p → s r.toNat = true) → ∃ n : Nat, IsOrd m n ∧ n ≤ 1000000000000000 ∧ Ev (fun k => spec_MoveOrder.l0 k m (o : Int) (bL 91 s) p) ((n : Int), true) := by
  induction d with
  | zero =>
    intro p s o p0 p1 I h
    have hall : ∀ x, In91 x → s x.toNat = true := fun x hx => h x hx.1 (by have := hx.2; omega)
    refine ⟨o, ⟨I.one, fun x hx => I.all x hx (hall x hx), fun k k1 hk => Nat.le_of_dvd k1 (I.dv k fun x hx _ => hk x hx)⟩, cube_le I.le, ?_⟩
    refine Ev.step (fun k => by rw [spec_MoveOrder.l0]) ?_
    exact Ev.neg (by omega) (Ev.done rfl)
  | succ d ih =>
    intro p s o p0 p1 I h
    have hp : In91 p := ⟨p0, by omega⟩
    by_cases e : s p.toNat = true
    · obtain ⟨n, hn, hb, hev⟩ := ih (p + 1) s o (by omega) (by omega) I (fun r r0 r1 => by
        by_cases er : r = p
        · rw [er]; exact e
        · exact h r r0 (by omega))
      refine ⟨n, hn, hb, ?_⟩
      refine Ev.step (fun k => by rw [spec_MoveOrder.l0]) ?_
      refine Ev.pos (by omega) ?_
      refine Ev.step (fun k => by rw [spec_MoveOrder.l1]) ?_
      rw [bL_length, bL_rd p p0 (by omega), e, w64 (x := p + 1) (by omega) (by omega)]
      exact Ev.pos p0 (Ev.pos (by omega) (Ev.pos rfl (Ev.neg (by omega) hev)))
    · have e := Bool.eq_false_iff.2 e
      obtain ⟨c, hc91, hc⟩ := cyc_ex hm hp
      obtain ⟨n, hn, hb, hev⟩ := ih (p + 1) (sN s m p c) (Nat.lcm o c) (by omega) (by omega) (I.next hm hp e hc hc91) (fun r r0 r1 => (sN_iff _ _).2 (by
        by_cases er : r = p
        · rw [er]; exact .inr ⟨0, hc.1, rfl⟩
        · exact .inl (h r r0 (by omega))))
      refine ⟨n, hn, hb, ?_⟩
      refine Ev.step (fun k => by rw [spec_MoveOrder.l0]) ?_
      exact Ev.pos (by omega) (specOrd_l1 hm I hp e hc hc91 hev c 0 (by omega))
theorem specOrd_ev {t m : List Int} (ht : t.length ≤ 1048576) (hl : m.length ≤ 1048576) (hs : moveB t m = true) : ∃ n : Nat, IsOrd m n ∧ n ≤ 1000000000000000 ∧ Ev (fun k => spec_MoveOrder.f k t m) ((n : Int), true) := by
  have hm := (moveB_parts hs).2.1
  obtain ⟨n, hn, hb, hev⟩ := specOrd_l0 hm 91 0 (fun _ => false) 1 (by omega) (by omega) ⟨fun _ _ => rfl, fun _ _ h => absurd h (by decide), fun K _ => Nat.one_dvd K, Nat.one_le_pow _ _ (by omega), Nat.le_refl _⟩ (fun r r0 r1 => by omega)
  refine ⟨n, hn, hb, ?_⟩
  unfold spec_MoveOrder.f
  refine Ev.bind (MoveIn_ev ht hl) (Ev.pos hs (Ev.pos (by omega) ?_))
  rw [bL_replicate]
  exact hev
theorem specOrd_no {t m : List Int} (ht : t.length ≤ 1048576) (hl : m.length ≤ 1048576) (hs : moveB t m = false) : Ev (fun k => spec_MoveOrder.f k t m) (0, false) := by
  unfold spec_MoveOrder.f
  refine Ev.bind (MoveIn_ev ht hl) ?_
  rw [hs]
  exact Ev.neg (by decide) (Ev.done rfl)

end Go.Proofs.Ytckipgldmkboiaa.X

set_option linter.unusedVariables false
set_option linter.unusedSimpArgs false
namespace Go.Proofs.Ytckipgldmkboiaa.Pure
open Go.RowKit Go.Proofs.Ytckipgldmkboiaa.P Go.Proofs.YtckipgldmkboiaaW.PrintWords Go.Proofs.YtckipgldmkboiaaW.PrintLast Go.Proofs.Ytckipgldmkboiaa.X

theorem FnExactMoveOrder : laws_FnExactMoveOrder.Pure := by
  intro l0 l1 _ _ _ _ _ _
  refine Ev.rounds ?_
  unfold laws_FnExactMoveOrder.f
  by_cases hb_l0 : (l0.length : Int) > 1048576
  · exact Ev.pos hb_l0 (Ev.done rfl)
  refine Ev.neg hb_l0 ?_
  have h_l0 : l0.length ≤ 1048576 := by omega
  by_cases hb_l1 : (l1.length : Int) > 1048576
  · exact Ev.pos hb_l1 (Ev.done rfl)
  refine Ev.neg hb_l1 ?_
  have h_l1 : l1.length ≤ 1048576 := by omega
  refine Ev.bind (toIntS_ev l0 h_l0) ?_
  refine Ev.bind (toIntS_ev l1 h_l1) ?_
  obtain ⟨r, h1, h2⟩ : ∃ r : Int × Bool, Ev (fun k => spec_MoveOrder.f k l0 l1) r ∧ Ev (fun k => impl_MoveOrder.f k l0 l1) r := by
    by_cases hs : moveB l0 l1 = true
    · obtain ⟨n, hn, hb, hev⟩ := specOrd_ev h_l0 h_l1 hs
      exact ⟨_, hev, implOrd_ev hs h_l1 hn hb⟩
    · have hs := Bool.eq_false_iff.2 hs
      exact ⟨_, specOrd_no h_l0 h_l1 hs, implOrd_no hs h_l1⟩
  refine Ev.bind h1 ?_
  refine Ev.bind (toIntS_ev l0 h_l0) ?_
  refine Ev.bind (toIntS_ev l1 h_l1) ?_
  refine Ev.bind h2 ?_
  refine Ev.pos rfl ?_
  refine Ev.step (fun k => by rw [laws_FnExactMoveOrder.j0]) ?_
  refine Ev.neg (by simp) ?_
  refine Ev.bind (toIntS_ev l0 h_l0) (Ev.bind (eqIntS_ev l0 l0 h_l0) (Ev.pos (by simp) ?_))
  refine Ev.bind (toIntS_ev l1 h_l1) (Ev.bind (eqIntS_ev l1 l1 h_l1) (Ev.pos (by simp) (Ev.done rfl)))

end Go.Proofs.Ytckipgldmkboiaa.Pure

namespace Go.Proofs.Ytckipgldmkboiaa.fnExactMoveOrder
open Go.ChangeShapes Go.WideShapes Go.ChangeAt Go.RowKit
open Go.ChangeMaps (open_string shut_string)
set_option linter.unusedVariables false
theorem own : ownKnob Try.prog.godebug = none := by kernel_rfl
theorem laidOut : laidOutB Try.prog = true := by kernel_rfl
def IsRow (k : IntKind) (w : World) (a : Option Addr) (len cap : Nat) (zs : List Int) : Prop :=
  (a = none ∧ len = 0 ∧ cap = 0 ∧ zs = []) ∨
  ∃ x, a = some x ∧ len ≤ cap ∧ cap ≤ maxLen ∧ zs.length = cap ∧ (∀ i, i < zs.length → w.cell? (x.add i) = some (.int k (zs.getD i 0))) ∧ ∀ n ∈ zs, (Lit.int k n).wf = true
set_option maxRecDepth 100000 in
theorem lifted (os : Os) (started : os.Started) (H : Type) (enc : TypeId × Value → H) :
    ReturnsInHanded {} Try.checked os 6 .any (Rows.fnExactMoveOrderSpec.pre6 enc Try.prog Try.f6 Rows.fnExactMoveOrderRow.domain false) (Rows.fnExactMoveOrderSpec.post enc Try.prog Try.f6 false true false false) := by
  refine returnsInHanded_of_change_sized (C := Try.checked) own started (by kernel_rfl) Try.func6
    (ChangeSpec.witness6 (enc := enc) (C := Try.checked) false ⟨#[], #[.slice none 0 0, .slice none 0 0], []⟩ 8 (by kernel_rfl) (by kernel_rfl) (by kernel_rfl) (by kernel_rfl)) ?_
  intro W base args ds gs before hval0 hW hcnd hsz0 _
  have hsz : (DataW.weightsEach Try.prog (Try.f6.params.toList ++ Rows.fnExactMoveOrderSpec.plain.varTypes Try.prog) (ds ++ gs)).all (· ≤ reachBytes) = true := hsz0
  have hval : ∀ (j : Nat) t v, Try.f6.params[j]? = some t → args[j]? = some v → Value.okWide Try.prog W .any base t v := hval0
  have hW' := hW
  obtain ⟨p, q, hA0, hV, rfl, hfz, hnd⟩ := hW
  have hA : DataW.TrodAll enc Try.prog W 0 (fun _ => true) true Try.f6.params.toList args.toList ds p := hA0
  rw [Try.params6] at hA hval hsz
  obtain ⟨v0, vs0, d0, ds0, p0, q0, hargs, rfl, rfl, h0, r0⟩ := trodAll_cons hA
  obtain ⟨v1, vs1, d1, ds1, p1, q1, rfl, rfl, rfl, h1, r1⟩ := trodAll_cons r0
  obtain ⟨rfl, rfl, rfl⟩ := trodAll_nil r1
  obtain rfl : args = #[v0, v1] := by cases args; simp_all
  obtain ⟨rfl, rfl⟩ := trodVars_none hV
  obtain ⟨a0, len0, cap0, rfl⟩ := okWide_slice Try.underlying22 (hval 0 22 v0 rfl rfl)
  have k0 := h0
  have lt0 : ∀ x ∈ p0, x.block < W.heap.size := by obtain ⟨m, hm⟩ := k0; exact DataW.trod_lt m _ _ _ hm
  obtain ⟨z0, w0⟩ : ∃ zs, IsRow .i64 W a0 len0 cap0 zs := by
    obtain ⟨fuel, hf⟩ := h0
    rcases open_ints Try.underlying22 Try.underlying3 (by kernel_rfl) hf with ⟨hcs, _⟩ | ⟨x, l, c, zs, hcs, _, hl, hm, hz, _, hcell, hwz⟩
    · simp [Value.cells] at hcs
      obtain ⟨rfl, rfl, rfl⟩ := hcs
      exact ⟨[], .inl ⟨rfl, rfl, rfl, rfl⟩⟩
    · simp [Value.cells] at hcs
      obtain ⟨rfl, rfl, rfl⟩ := hcs
      exact ⟨zs, .inr ⟨_, rfl, hl, hm, by simpa using hz, hcell, hwz⟩⟩
  have y0 : len0 * 8 ≤ 140737488351232 := Go.Proofs.YtckipgldmkboiaaW.PrintWords.sized_ints hsz (j := 0) (t := 22) rfl rfl Try.underlying22 Try.underlying3 (by kernel_rfl) (by kernel_rfl) h0
  obtain ⟨a1, len1, cap1, rfl⟩ := okWide_slice Try.underlying22 (hval 1 22 v1 rfl rfl)
  have k1 := h1
  have lt1 : ∀ x ∈ p1, x.block < W.heap.size := by obtain ⟨m, hm⟩ := k1; exact DataW.trod_lt m _ _ _ hm
  obtain ⟨z1, w1⟩ : ∃ zs, IsRow .i64 W a1 len1 cap1 zs := by
    obtain ⟨fuel, hf⟩ := h1
    rcases open_ints Try.underlying22 Try.underlying3 (by kernel_rfl) hf with ⟨hcs, _⟩ | ⟨x, l, c, zs, hcs, _, hl, hm, hz, _, hcell, hwz⟩
    · simp [Value.cells] at hcs
      obtain ⟨rfl, rfl, rfl⟩ := hcs
      exact ⟨[], .inl ⟨rfl, rfl, rfl, rfl⟩⟩
    · simp [Value.cells] at hcs
      obtain ⟨rfl, rfl, rfl⟩ := hcs
      exact ⟨zs, .inr ⟨_, rfl, hl, hm, by simpa using hz, hcell, hwz⟩⟩
  have y1 : len1 * 8 ≤ 140737488351232 := Go.Proofs.YtckipgldmkboiaaW.PrintWords.sized_ints hsz (j := 1) (t := 22) rfl rfl Try.underlying22 Try.underlying3 (by kernel_rfl) (by kernel_rfl) h1
  clear hA0 hval0 hsz0 hsz
  refine (P.laws_FnExactMoveOrder.walk Pure.FnExactMoveOrder a0 len0 cap0 z0 a1 len1 cap1 z1 W w0 y0 w1 y1).mono fun e W' ⟨he, bel⟩ => ?_
  subst he
  exact ⟨_, rfl, _, _, _, [], _, [], hW', trodAll_mk1 (shut_bool Try.underlying4 _), (trodAll_cons_mk (Below.trod laidOut (by kernel_rfl) (of_decide_eq_true (by kernel_rfl)) k0 bel lt0) (trodAll_cons_mk (Below.trod laidOut (by kernel_rfl) (of_decide_eq_true (by kernel_rfl)) k1 bel lt1) trodAll_mk0)), rfl, bel.frame _, fun h => by cases h⟩
theorem over : Rows.fnExactMoveOrderRow.holds Try.pinned (OpenSpec.ofChange Rows.fnExactMoveOrderSpec) :=
  OpenClaim.holds_of_wide 6 Try.f6 rfl rfl rfl rfl rfl rfl rfl ⟨rfl, rfl, rfl, rfl, rfl⟩ rfl rfl rfl rfl rfl (by kernel_rfl) Try.func6 (by kernel_rfl)
    (of_decide_eq_true (by kernel_rfl)) (by unfold Func.isWrapper; first | (rw [if_pos (by decide +kernel)]; kernel_rfl) | (rw [if_neg (by decide +kernel)]; exact ⟨rfl, rfl⟩))
    (fun os started H enc _ => lifted os started H enc)
theorem proved : Rows.FnExactMoveOrderSaid := over
#print axioms proved
end Go.Proofs.Ytckipgldmkboiaa.fnExactMoveOrder
namespace Go.Proofs.Ytckipgldmkboiaa
/-- The row, under a short name, for the claim. -/
theorem fnExactMoveOrder_holds : Rows.FnExactMoveOrderSaid := fnExactMoveOrder.proved
end Go.Proofs.Ytckipgldmkboiaa
