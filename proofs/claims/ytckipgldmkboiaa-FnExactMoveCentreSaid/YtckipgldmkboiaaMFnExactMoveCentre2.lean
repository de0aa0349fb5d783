/- The law FnExactMoveCentre of the given program: for every input the call returns true, and each argument reads afterwards as it read before. No conditions. (Part 3 of 3; the last part holds the theorem.) -/
import Derived.Test.YtckipgldmkboiaaMFnExactMoveCentre1
import Derived.Test.YtckipgldmkboiaaMFnExactMoveCentre0
import Derived.Test.YtckipgldmkboiaaRows
import Derived.WalkKit
import Derived.ProofKit
import Derived.OpenShut
import Derived.ShutString
import Derived.ChangeOld
import Derived.Below
import Derived.SizedLaws
import Derived.Test.YtckipgldmkboiaaWSized
set_option linter.unusedVariables false
set_option linter.unusedSimpArgs false
namespace Go.Proofs.Ytckipgldmkboiaa.X
open Go.RowKit Go.Proofs.YtckipgldmkboiaaW.PrintWords Go.Proofs.YtckipgldmkboiaaW.PrintLast Go.Proofs.Ytckipgldmkboiaa.P

theorem l3In_eq (p : Int) : spec_l3In.f p = some (ptB p) := by
  unfold spec_l3In.f ptB
  rw [l6In_eq]
  show some _ = _
  rw [show decide (p ≤ 90) = decide (p < 91) from decide_eq_decide.2 (by omega)]
theorem l3On_eq {t : List Int} (hn : ninesB t 81 = true) {p l : Int} (hp : In91 p) (hl : In91 l) : spec_l3On.f t p l = some (onB t p l) := by
  obtain ⟨p0, p1⟩ := hp
  obtain ⟨l0, l1⟩ := hl
  have hlen := (ninesB_iff.1 hn).1
  unfold spec_l3On.f onB
  by_cases h90 : l = 90
  · rw [if_pos h90, if_pos h90]
  rw [if_neg h90, if_neg h90]
  by_cases h81 : l ≥ 81
  · rw [if_pos h81, if_pos h81]
    by_cases hp90 : p = 90
    · rw [if_pos hp90, decide_eq_true hp90]; rfl
    · rw [if_neg hp90, decide_eq_false hp90, Bool.false_or]
      by_cases hpn : p < 81
      · rw [if_pos hpn, decide_eq_true hpn, Bool.true_and]
        simp (disch := omega) only [w64, tdiv_nn]
        rfl
      · rw [if_neg hpn, decide_eq_false hpn, Bool.false_and]
  · rw [if_neg h81, if_neg h81]
    by_cases hpf : p ≥ 81
    · rw [if_pos hpf, if_pos hpf]
      simp (disch := omega) only [w64, tdiv_nn]
      refine congrArg some ?_
      rw [show decide (p = 81 + l / 9) = decide (p - 81 = l / 9) from decide_eq_decide.2 (by omega)]
      rfl
    · rw [if_neg hpf, if_neg hpf]
      have hr := nines_rd hn (i := 9 * (p / 9) + l / 9) (by omega) (by omega)
      have ha := spec_l1Add_eq (rd t (9 * (p / 9) + l / 9)) (l % 9) hr ⟨by omega, by omega⟩
      simp (disch := omega) only [w64, tdiv_nn, tmod_nn]
      rw [show p / 9 * 9 = 9 * (p / 9) by omega, if_pos (by omega), if_pos (by omega), ha]
      rfl
theorem l3Points_loop {t : List Int} (hn : ninesB t 81 = true) {l : Int} (hl : In91 l) (d : Nat) : ∀ (i : Nat), i + d = 91 → Ev (fun k => spec_l3Points.l0 k t l (filI i fun p => onB t p l) (i : Int)) (pointsL t l) := by
  induction d with
  | zero =>
    intro i h1
    have e : i = 91 := by omega
    subst e
    refine Ev.step (fun k => by rw [spec_l3Points.l0]) ?_
    exact Ev.neg (by omega) (Ev.done rfl)
  | succ d ih =>
    intro i h1
    have hlen := filI_length_le i fun p => onB t p l
    have e1 := l3On_eq hn (p := (i : Int)) ⟨by omega, by omega⟩ hl
    have nx := ih (i + 1) (by omega)
    rw [filI_succ] at nx
    have z : wrap64 ((i : Int) + 1) = ((i + 1 : Nat) : Int) := by rw [w64 (by omega) (by omega)]; rfl
    refine Ev.step (fun k => by rw [spec_l3Points.l0]) ?_
    rw [z]
    refine Ev.pos (by omega) (Ev.fix e1 ?_)
    by_cases a : onB t (i : Int) l = true
    · rw [if_pos a] at nx
      exact Ev.pos a (Ev.pos (by omega) nx)
    · rw [if_neg a, List.append_nil] at nx
      exact Ev.neg a nx
theorem l3Points_ev {t : List Int} (hn : ninesB t 81 = true) {l : Int} (hl : In91 l) : Ev (fun k => spec_l3Points.f k t l) (pointsL t l) :=
  l3Points_loop hn hl 91 0 (by omega)
theorem l3Join_loop {t : List Int} (hn : ninesB t 81 = true) {p q : Int} (hp : In91 p) (hq : In91 q) (hj : ∃ l : Int, 0 ≤ l ∧ l < 91 ∧ onB t p l = true ∧ onB t q l = true) (d : Nat) : ∀ (i : Int), 0 ≤ i → i + d = 91 → (∀ l : Int, 0 ≤ l → l < i → (onB t p l && onB t q l) = false) → Ev (fun k => spec_l3Join.l0 k t p q i) (joinI t p q) := by
  induction d with
  | zero =>
    intro i h0 h1 h
    obtain ⟨l, l0, l1, a, b⟩ := hj
    have := h l l0 (by omega)
    rw [a, b] at this; exact absurd this (by decide)
  | succ d ih =>
    intro i h0 h1 h
    have e1 := l3On_eq hn hp (l := i) ⟨h0, by omega⟩
    have e2 := l3On_eq hn hq (l := i) ⟨h0, by omega⟩
    refine Ev.step (fun k => by rw [spec_l3Join.l0]) ?_
    simp (disch := omega) only [w64, e1, e2, Option.bind_some]
    refine Ev.pos (by omega) ?_
    have next : (onB t p i && onB t q i) = false → Ev (fun k => spec_l3Join.l0 k t p q (i + 1)) (joinI t p q) := fun hb => ih (i + 1) (by omega) (by omega) fun l l0 l1 => by
      by_cases e : l = i
      · rw [e]; exact hb
      · exact h l l0 (by omega)
    by_cases a : onB t p i = true
    · refine Ev.pos a ?_
      by_cases b : onB t q i = true
      · refine Ev.pos b (Ev.done ?_)
        unfold joinI
        rw [firstI_some i h0 (by omega) (by rw [a, b]; rfl) h]
      · exact Ev.neg b (next (by rw [Bool.eq_false_iff.2 b, Bool.and_false]))
    · exact Ev.neg a (next (by rw [Bool.eq_false_iff.2 a, Bool.false_and]))
/-- The join of two different points of a system's plane. -/
theorem l3Join_ev {t : List Int} (h : sysB t = true) {p q : Int} (hp : In91 p) (hq : In91 q) (hne : p ≠ q) : Ev (fun k => spec_l3Join.f k t p q) (joinI t p q) :=
  l3Join_loop (sysB_parts h).1 hp hq (join_ex h hp.1 hp.2 hq.1 hq.2 hne) 91 0 (by omega) (by omega) (fun l h0 h1 => by omega)

/-! ### l5Perm -/
theorem seen_take {l : List Int} {i : Int} (h0 : 0 ≤ i) (h1 : i ≤ l.length) {v : Int} (hv : 0 ≤ v) : seenO (rd l) i v.toNat = true ↔ v ∈ l.take i.toNat := by
  unfold seenO
  simp only [List.any_eq_true, List.mem_range, decide_eq_true_eq]
  rw [List.mem_take_iff_getElem]
  constructor
  · rintro ⟨z, hz, e⟩
    refine ⟨z, by omega, ?_⟩
    rw [← rd_cast l z (by omega), e]; omega
  · rintro ⟨z, hz, e⟩
    refine ⟨z, by omega, ?_⟩
    rw [rd_cast l z (by omega), e]; omega
theorem l5Perm_loop (m : List Int) (hl : m.length ≤ 1048576) (d : Nat) : ∀ (i : Int), 0 ≤ i → i + d = m.length → (∀ j : Int, 0 ≤ j → j < i → newB m j = true) → Ev (fun k => spec_l5Perm.l0 k m (bL 91 (seenO (rd m) i)) i) (permB m) := by
  induction d with
  | zero =>
    intro i h0 h1 h
    refine Ev.step (fun k => by rw [spec_l5Perm.l0]) ?_
    refine Ev.neg (by omega) (Ev.done ?_)
    unfold permB
    rw [diffB_all fun j j0 j1 => h j j0 (by omega), Bool.and_true]
    refine congrArg some ?_
    by_cases e : m.length = 91
    · rw [decide_eq_true e, e]; rfl
    · rw [decide_eq_false e]
      exact beq_eq_false_iff_ne.2 (by omega)
  | succ d ih =>
    intro i h0 h1 h
    refine Ev.step (fun k => by rw [spec_l5Perm.l0]) ?_
    have z : wrap64 (i + 1) = i + 1 := w64 (by omega) (by omega)
    rw [z, l3In_eq]
    refine Ev.pos (by omega) (Ev.pos h0 (Ev.fix rfl ?_))
    by_cases hp : ptB (rd m i) = true
    case neg =>
      refine Ev.neg hp (Ev.done ?_)
      have hnb : newB m i = false := by unfold newB; rw [Bool.eq_false_iff.2 hp, Bool.false_and]
      unfold permB
      rw [diffB_hit h0 (by omega) hnb, Bool.and_false]
    obtain ⟨v0, v1⟩ := ptB_iff.1 hp
    have z4 := bL_rd (n := 91) (s := seenO (rd m) i) (rd m i) v0 v1
    have hs := bL_seen (n := 91) (rd m) i h0 (rd m i) v0 rfl
    rw [z4, bL_length, hs]
    refine Ev.pos hp (Ev.pos v0 (Ev.pos v1 ?_))
    have hst := seen_take (l := m) (i := i) h0 (by omega) v0
    by_cases e : seenO (rd m) i (rd m i).toNat = true
    · refine Ev.pos e (Ev.done ?_)
      have hnb : newB m i = false := by unfold newB; rw [decide_eq_true (hst.1 e), Bool.not_true, Bool.and_false]
      unfold permB
      rw [diffB_hit h0 (by omega) hnb, Bool.and_false]
    · refine Ev.neg e (ih (i + 1) (by omega) (by omega) fun j j0 j1 => ?_)
      by_cases ej : j = i
      · rw [ej]; unfold newB; rw [hp, decide_eq_false (fun hm => e (hst.2 hm))]; rfl
      · exact h j j0 (by omega)
theorem l5Perm_ev (m : List Int) (hl : m.length ≤ 1048576) : Ev (fun k => spec_l5Perm.f k m) (permB m) := by
  unfold spec_l5Perm.f
  rw [bL_replicate]
  exact Ev.pos (by omega) (l5Perm_loop m hl m.length 0 (by omega) (by omega) (fun j h0 h1 => by omega))

/-! ### l5Line, l5In -/
def lineR (t m : List Int) (l : Int) : Int × Bool := if lineOk t m l = true then (toLine t m l, true) else (0, false)
theorem l5Line_loop {t m : List Int} (hs : sysB t = true) (hm : permB m = true) {l : Int} (hl : In91 l) (d : Nat) : ∀ (i : Int), 0 ≤ i → i + d = (pointsL t l).length → (∀ j : Int, 0 ≤ j → j < i → onB t (rd m (rd (pointsL t l) j)) (toLine t m l) = true) → Ev (fun k => spec_l5Line.l0 k t m (pointsL t l) (toLine t m l) i) (lineR t m l) := by
  have hlen := permB_len hm
  have h91 : (pointsL t l).length ≤ 91 := filI_length_le _ _
  obtain ⟨_, _, _, htl⟩ := toLine_spec hs hm hl
  induction d with
  | zero =>
    intro i h0 h1 h
    refine Ev.step (fun k => by rw [spec_l5Line.l0]) ?_
    refine Ev.neg (by omega) (Ev.done ?_)
    have : lineOk t m l = true := by
      unfold lineOk
      rw [Bool.not_eq_true', List.any_eq_false]
      intro p hp
      obtain ⟨j, hj, rfl⟩ := List.mem_iff_getElem.1 hp
      have := h (j : Int) (by omega) (by omega)
      rw [rd_cast _ j hj] at this
      rw [this]; decide
    unfold lineR; rw [if_pos this]
  | succ d ih =>
    intro i h0 h1 h
    obtain ⟨⟨a0, a1⟩, _⟩ := pointsL_rd (t := t) (l := l) (i := i) h0 (by omega)
    have hv := diffB_pt (permB_diff hm) a0 (by omega)
    have e1 := l3On_eq (sysB_parts hs).1 hv htl
    refine Ev.step (fun k => by rw [spec_l5Line.l0]) ?_
    rw [w64 (x := i + 1) (by omega) (by omega)]
    refine Ev.pos (by omega) (Ev.pos h0 (Ev.pos a0 (Ev.pos (by omega) (Ev.fix e1 ?_))))
    by_cases e : onB t (rd m (rd (pointsL t l) i)) (toLine t m l) = true
    · refine Ev.pos e (ih (i + 1) (by omega) (by omega) fun j j0 j1 => ?_)
      by_cases ej : j = i
      · rw [ej]; exact e
      · exact h j j0 (by omega)
    · refine Ev.neg e (Ev.done ?_)
      have : lineOk t m l = false := by
        unfold lineOk
        rw [Bool.not_eq_false', List.any_eq_true]
        exact ⟨_, rd_mem (by omega) h0, by rw [Bool.eq_false_iff.2 e]; rfl⟩
      unfold lineR; rw [this]; rfl
theorem l5Line_ev {t m : List Int} (hs : sysB t = true) (hm : permB m = true) {l : Int} (hl : In91 l) : Ev (fun k => spec_l5Line.f k t m l) (lineR t m l) := by
  have hn := (sysB_parts hs).1
  have hlen := permB_len hm
  have h2 := pointsL_two hs hl.1 hl.2
  obtain ⟨p0, p1, hne, htl⟩ := toLine_spec hs hm hl
  obtain ⟨⟨a0, a1⟩, _⟩ := pointsL_rd (t := t) (l := l) (i := 0) (by omega) (by omega)
  obtain ⟨⟨b0, b1⟩, _⟩ := pointsL_rd (t := t) (l := l) (i := 1) (by omega) (by omega)
  obtain ⟨j0, j1, j2, j3⟩ := joinI_spec hs p0.1 p0.2 p1.1 p1.2 hne
  unfold spec_l5Line.f
  refine Ev.bind (l3Points_ev hn hl) ?_
  refine Ev.pos (by omega) (Ev.pos a0 (Ev.pos (by omega) (Ev.pos (by omega) (Ev.pos b0 (Ev.pos (by omega) (Ev.bind (l3Join_ev hs p0 p1 hne) ?_))))))
  refine l5Line_loop hs hm hl ((pointsL t l).length - 2) 2 (by omega) (by omega) fun j j0' j1' => ?_
  have : j = 0 ∨ j = 1 := by omega
  rcases this with rfl | rfl
  · exact j2
  · exact j3
theorem l5In_loop {t m : List Int} (hs : sysB t = true) (hm : permB m = true) (d : Nat) : ∀ (i : Int), 0 ≤ i → i + d = 91 → (∀ l : Int, 0 ≤ l → l < i → lineOk t m l = true) → Ev (fun k => spec_l5In.l0 k t m i) (moveB t m) := by
  induction d with
  | zero =>
    intro i h0 h1 h
    refine Ev.step (fun k => by rw [spec_l5In.l0]) ?_
    refine Ev.neg (by omega) (Ev.done ?_)
    rw [moveB_all hs hm fun l l0 l1 => h l l0 (by omega)]
  | succ d ih =>
    intro i h0 h1 h
    refine Ev.step (fun k => by rw [spec_l5In.l0]) ?_
    rw [w64 (x := i + 1) (by omega) (by omega)]
    refine Ev.pos (by omega) (Ev.bind (l5Line_ev hs hm (l := i) ⟨h0, by omega⟩) ?_)
    unfold lineR
    by_cases e : lineOk t m i = true
    · rw [if_pos e]
      refine Ev.pos rfl (ih (i + 1) (by omega) (by omega) fun l l0 l1 => ?_)
      by_cases el : l = i
      · rw [el]; exact e
      · exact h l l0 (by omega)
    · rw [if_neg e]
      refine Ev.neg (by decide) (Ev.done ?_)
      rw [moveB_hit h0 (by omega) (Bool.eq_false_iff.2 e)]
theorem l5In_ev {t m : List Int} (hs : sysB t = true) (hl : m.length ≤ 1048576) : Ev (fun k => spec_l5In.f k t m) (moveB t m) := by
  unfold spec_l5In.f
  refine Ev.bind (l5Perm_ev m hl) ?_
  by_cases hm : permB m = true
  · exact Ev.pos hm (l5In_loop hs hm 91 0 (by omega) (by omega) fun l h0 h1 => by omega)
  · refine Ev.neg hm (Ev.done ?_)
    unfold moveB; rw [Bool.eq_false_iff.2 hm]; simp
theorem MoveIn_ev {t m : List Int} (ht : t.length ≤ 1048576) (hl : m.length ≤ 1048576) : Ev (fun k => spec_MoveIn.f k t m) (moveB t m) := by
  unfold spec_MoveIn.f
  refine Ev.bind (SystemIn_ev t ht) ?_
  by_cases hs : sysB t = true
  · exact Ev.pos hs (Ev.bind (l5In_ev hs hl) (Ev.done rfl))
  · refine Ev.neg hs (Ev.done ?_)
    unfold moveB; rw [Bool.eq_false_iff.2 hs]; rfl

end Go.Proofs.Ytckipgldmkboiaa.X

set_option linter.unusedVariables false
set_option linter.unusedSimpArgs false
namespace Go.Proofs.Ytckipgldmkboiaa.X
open Go.RowKit Go.Proofs.YtckipgldmkboiaaW.PrintWords Go.Proofs.YtckipgldmkboiaaW.PrintLast Go.Proofs.Ytckipgldmkboiaa.P

theorem centreB_iff {t m : List Int} {p : Int} : centreB t m p = true ↔ ∀ l : Int, 0 ≤ l → l < 91 → onB t p l = true → toLine t m l = l := by
  unfold centreB
  rw [beq_iff_eq]
  constructor
  · intro h l l0 l1 hl
    rcases Decidable.em (toLine t m l = l) with e | e
    · exact e
    · have hm : l ∈ offL t m p := mem_filI.2 ⟨l0, by omega, by unfold offB; rw [hl, beq_eq_false_iff_ne.2 e]; rfl⟩
      have := List.length_pos_of_mem hm
      omega
  · intro h
    have : offL t m p = [] := by
      rw [List.eq_nil_iff_forall_not_mem]
      intro l hl
      obtain ⟨l0, l1, ho⟩ := mem_filI.1 hl
      unfold offB at ho
      rw [Bool.and_eq_true] at ho
      rw [h l l0 (by omega) ho.1, beq_self_eq_true] at ho
      exact absurd ho.2 (by decide)
    rw [this]; rfl
theorem specCentre_l1 {t m : List Int} (h : moveB t m = true) {p : Int} (hp : In91 p) {r : Int} (hr : centreB t m p = false → Ev (fun k => spec_MoveCentre.l0 k t m (p + 1)) r) (hy : centreB t m p = true → r = p) (d : Nat) :
    ∀ (l : Int) (b : Bool), 0 ≤ l → l + d = 91 → (b = true ↔ ∀ q : Int, 0 ≤ q → q < l → onB t p q = true → toLine t m q = q) → Ev (fun k => spec_MoveCentre.l1 k t m p b l) r := by
  obtain ⟨hs, hm, hk⟩ := moveB_parts h
  have hn := (sysB_parts hs).1
  obtain ⟨p0, p1⟩ := hp
  have z : wrap64 (p + 1) = p + 1 := w64 (by omega) (by omega)
  have fin : ∀ (l : Int) (b : Bool), (b = true ↔ centreB t m p = true) → Ev (fun k => spec_MoveCentre.j2 k t m p b l false) r := by
    intro l b hb
    refine Ev.step (fun k => by rw [spec_MoveCentre.j2]) ?_
    refine Ev.neg (by decide) ?_
    rw [z]
    by_cases e : b = true
    · exact Ev.pos e (Ev.done (by rw [hy (hb.1 e)]))
    · exact Ev.neg e (hr (Bool.eq_false_iff.2 fun h => e (hb.2 h)))
  induction d with
  | zero =>
    intro l b h0 h1 h
    refine Ev.step (fun k => by rw [spec_MoveCentre.l1]) ?_
    refine Ev.neg (by omega) (fin l b ?_)
    rw [h, centreB_iff]
    exact ⟨fun h q q0 q1 => h q q0 (by omega), fun h q q0 q1 => h q q0 (by omega)⟩
  | succ d ih =>
    intro l b h0 h1 hb
    refine Ev.step (fun k => by rw [spec_MoveCentre.l1]) ?_
    refine Ev.pos (by omega) ?_
    by_cases e : b = true
    case neg =>
      have : centreB t m p = false := Bool.eq_false_iff.2 fun ha => e (hb.2 fun q q0 q1 => centreB_iff.1 ha q q0 (by omega))
      have e2 := Bool.eq_false_iff.2 e
      rw [e2]
      exact fin l false (by rw [this])
    rw [e]
    refine Ev.step (fun k => by rw [spec_MoveCentre.j2]) ?_
    refine Ev.pos rfl (Ev.fix (l3On_eq hn (p := p) (l := l) ⟨p0, p1⟩ ⟨h0, by omega⟩) ?_)
    rw [w64 (x := l + 1) (by omega) (by omega)]
    by_cases a : onB t p l = true
    · refine Ev.pos a (Ev.bind (l5Line_ev hs hm (l := l) ⟨h0, by omega⟩) (ih (l + 1) _ (by omega) (by omega) ?_))
      have e3 : lineR t m l = (toLine t m l, true) := if_pos (hk l h0 (by omega))
      rw [e3, beq_iff_eq]
      constructor
      · intro hq q q0 q1 ho
        by_cases eq : q = l
        · rw [eq]; exact hq
        · exact (hb.1 e) q q0 (by omega) ho
      · intro hq; exact hq l h0 (by omega) a
    · refine Ev.neg a (ih (l + 1) true (by omega) (by omega) ?_)
      refine ⟨fun _ q q0 q1 ho => ?_, fun _ => rfl⟩
      by_cases eq : q = l
      · rw [eq] at ho; exact absurd ho a
      · exact (hb.1 e) q q0 (by omega) ho
theorem specCentre_l0 {t m : List Int} (h : moveB t m = true) (d : Nat) : ∀ p : Int, 0 ≤ p → p + d = 91 → (∀ j : Int, 0 ≤ j → j < p → centreB t m j = false) → Ev (fun k => spec_MoveCentre.l0 k t m p) (centreI t m) := by
  induction d with
  | zero =>
    intro p h0 h1 hh
    refine Ev.step (fun k => by rw [spec_MoveCentre.l0]) ?_
    refine Ev.neg (by omega) (Ev.done ?_)
    unfold centreI
    rw [firstI_none fun j j0 j1 => hh j j0 (by omega)]
  | succ d ih =>
    intro p h0 h1 hh
    refine Ev.step (fun k => by rw [spec_MoveCentre.l0]) ?_
    refine Ev.pos (by omega) (specCentre_l1 h (p := p) ⟨h0, by omega⟩ (fun hf => ih (p + 1) (by omega) (by omega) fun j j0 j1 => ?_) (fun ht => ?_) 91 0 true (by omega) (by omega) ⟨fun _ q q0 q1 => by omega, fun _ => rfl⟩)
    · by_cases e : j = p
      · rw [e]; exact hf
      · exact hh j j0 (by omega)
    · unfold centreI
      rw [firstI_some p h0 (by omega) ht hh]
theorem specCentre_ev {t m : List Int} (ht : t.length ≤ 1048576) (hl : m.length ≤ 1048576) : Ev (fun k => spec_MoveCentre.f k t m) (centreR t m) := by
  unfold spec_MoveCentre.f centreR
  refine Ev.bind (MoveIn_ev ht hl) ?_
  by_cases hs : moveB t m = true
  · rw [if_pos hs]
    exact Ev.pos hs (specCentre_l0 hs 91 0 (by omega) (by omega) (fun j j0 j1 => by omega))
  · rw [if_neg hs]
    exact Ev.neg hs (Ev.done rfl)

end Go.Proofs.Ytckipgldmkboiaa.X

set_option linter.unusedVariables false
set_option linter.unusedSimpArgs false
namespace Go.Proofs.Ytckipgldmkboiaa.Pure
open Go.RowKit Go.Proofs.Ytckipgldmkboiaa.P Go.Proofs.YtckipgldmkboiaaW.PrintWords Go.Proofs.YtckipgldmkboiaaW.PrintLast Go.Proofs.Ytckipgldmkboiaa.X

theorem FnExactMoveCentre : laws_FnExactMoveCentre.Pure := by
  intro l0 l1 _ _ _ _ _ _
  refine Ev.rounds ?_
  unfold laws_FnExactMoveCentre.f
  by_cases hb_l0 : (l0.length : Int) > 1048576
  · exact Ev.pos hb_l0 (Ev.done rfl)
  refine Ev.neg hb_l0 ?_
  have h_l0 : l0.length ≤ 1048576 := by omega
  by_cases hb_l1 : (l1.length : Int) > 1048576
  · exact Ev.pos hb_l1 (Ev.done rfl)
  refine Ev.neg hb_l1 ?_
  have h_l1 : l1.length ≤ 1048576 := by omega
  refine Ev.bind (toIntS_ev l0 h_l0) ?_
  refine Ev.bind (toIntS_ev l1 h_l1) ?_
  refine Ev.bind (specCentre_ev h_l0 h_l1) ?_
  refine Ev.bind (toIntS_ev l0 h_l0) ?_
  refine Ev.bind (toIntS_ev l1 h_l1) ?_
  refine Ev.fix (show impl_MoveCentre.f l0 l1 = some (centreR l0 l1) from rfl) ?_
  refine Ev.pos rfl ?_
  refine Ev.bind (toIntS_ev l0 h_l0) (Ev.bind (eqIntS_ev l0 l0 h_l0) (Ev.pos (by simp) ?_))
  refine Ev.bind (toIntS_ev l1 h_l1) (Ev.bind (eqIntS_ev l1 l1 h_l1) (Ev.pos (by simp) (Ev.done rfl)))

end Go.Proofs.Ytckipgldmkboiaa.Pure

namespace Go.Proofs.Ytckipgldmkboiaa.fnExactMoveCentre
open Go.ChangeShapes Go.WideShapes Go.ChangeAt Go.RowKit
open Go.ChangeMaps (open_string shut_string)
set_option linter.unusedVariables false
theorem own : ownKnob Try.prog.godebug = none := by kernel_rfl
theorem laidOut : laidOutB Try.prog = true := by kernel_rfl
def IsRow (k : IntKind) (w : World) (a : Option Addr) (len cap : Nat) (zs : List Int) : Prop :=
  (a = none ∧ len = 0 ∧ cap = 0 ∧ zs = []) ∨
  ∃ x, a = some x ∧ len ≤ cap ∧ cap ≤ maxLen ∧ zs.length = cap ∧ (∀ i, i < zs.length → w.cell? (x.add i) = some (.int k (zs.getD i 0))) ∧ ∀ n ∈ zs, (Lit.int k n).wf = true
set_option maxRecDepth 100000 in
theorem lifted (os : Os) (started : os.Started) (H : Type) (enc : TypeId × Value → H) :
    ReturnsInHanded {} Try.checked os 4 .any (Rows.fnExactMoveCentreSpec.pre6 enc Try.prog Try.f4 Rows.fnExactMoveCentreRow.domain false) (Rows.fnExactMoveCentreSpec.post enc Try.prog Try.f4 false true false false) := by
  refine returnsInHanded_of_change_sized (C := Try.checked) own started (by kernel_rfl) Try.func4
    (ChangeSpec.witness6 (enc := enc) (C := Try.checked) false ⟨#[], #[.slice none 0 0, .slice none 0 0], []⟩ 8 (by kernel_rfl) (by kernel_rfl) (by kernel_rfl) (by kernel_rfl)) ?_
  intro W base args ds gs before hval0 hW hcnd hsz0 _
  have hsz : (DataW.weightsEach Try.prog (Try.f4.params.toList ++ Rows.fnExactMoveCentreSpec.plain.varTypes Try.prog) (ds ++ gs)).all (· ≤ reachBytes) = true := hsz0
  have hval : ∀ (j : Nat) t v, Try.f4.params[j]? = some t → args[j]? = some v → Value.okWide Try.prog W .any base t v := hval0
  have hW' := hW
  obtain ⟨p, q, hA0, hV, rfl, hfz, hnd⟩ := hW
  have hA : DataW.TrodAll enc Try.prog W 0 (fun _ => true) true Try.f4.params.toList args.toList ds p := hA0
  rw [Try.params4] at hA hval hsz
  obtain ⟨v0, vs0, d0, ds0, p0, q0, hargs, rfl, rfl, h0, r0⟩ := trodAll_cons hA
  obtain ⟨v1, vs1, d1, ds1, p1, q1, rfl, rfl, rfl, h1, r1⟩ := trodAll_cons r0
  obtain ⟨rfl, rfl, rfl⟩ := trodAll_nil r1
  obtain rfl : args = #[v0, v1] := by cases args; simp_all
  obtain ⟨rfl, rfl⟩ := trodVars_none hV
  obtain ⟨a0, len0, cap0, rfl⟩ := okWide_slice Try.underlying22 (hval 0 22 v0 rfl rfl)
  have k0 := h0
  have lt0 : ∀ x ∈ p0, x.block < W.heap.size := by obtain ⟨m, hm⟩ := k0; exact DataW.trod_lt m _ _ _ hm
  obtain ⟨z0, w0⟩ : ∃ zs, IsRow .i64 W a0 len0 cap0 zs := by
    obtain ⟨fuel, hf⟩ := h0
    rcases open_ints Try.underlying22 Try.underlying3 (by kernel_rfl) hf with ⟨hcs, _⟩ | ⟨x, l, c, zs, hcs, _, hl, hm, hz, _, hcell, hwz⟩
    · simp [Value.cells] at hcs
      obtain ⟨rfl, rfl, rfl⟩ := hcs
      exact ⟨[], .inl ⟨rfl, rfl, rfl, rfl⟩⟩
    · simp [Value.cells] at hcs
      obtain ⟨rfl, rfl, rfl⟩ := hcs
      exact ⟨zs, .inr ⟨_, rfl, hl, hm, by simpa using hz, hcell, hwz⟩⟩
  have y0 : len0 * 8 ≤ 140737488351232 := Go.Proofs.YtckipgldmkboiaaW.PrintWords.sized_ints hsz (j := 0) (t := 22) rfl rfl Try.underlying22 Try.underlying3 (by kernel_rfl) (by kernel_rfl) h0
  obtain ⟨a1, len1, cap1, rfl⟩ := okWide_slice Try.underlying22 (hval 1 22 v1 rfl rfl)
  have k1 := h1
  have lt1 : ∀ x ∈ p1, x.block < W.heap.size := by obtain ⟨m, hm⟩ := k1; exact DataW.trod_lt m _ _ _ hm
  obtain ⟨z1, w1⟩ : ∃ zs, IsRow .i64 W a1 len1 cap1 zs := by
    obtain ⟨fuel, hf⟩ := h1
    rcases open_ints Try.underlying22 Try.underlying3 (by kernel_rfl) hf with ⟨hcs, _⟩ | ⟨x, l, c, zs, hcs, _, hl, hm, hz, _, hcell, hwz⟩
    · simp [Value.cells] at hcs
      obtain ⟨rfl, rfl, rfl⟩ := hcs
      exact ⟨[], .inl ⟨rfl, rfl, rfl, rfl⟩⟩
    · simp [Value.cells] at hcs
      obtain ⟨rfl, rfl, rfl⟩ := hcs
      exact ⟨zs, .inr ⟨_, rfl, hl, hm, by simpa using hz, hcell, hwz⟩⟩
  have y1 : len1 * 8 ≤ 140737488351232 := Go.Proofs.YtckipgldmkboiaaW.PrintWords.sized_ints hsz (j := 1) (t := 22) rfl rfl Try.underlying22 Try.underlying3 (by kernel_rfl) (by kernel_rfl) h1
  clear hA0 hval0 hsz0 hsz
  refine (P.laws_FnExactMoveCentre.walk Pure.FnExactMoveCentre a0 len0 cap0 z0 a1 len1 cap1 z1 W w0 y0 w1 y1).mono fun e W' ⟨he, bel⟩ => ?_
  subst he
  exact ⟨_, rfl, _, _, _, [], _, [], hW', trodAll_mk1 (shut_bool Try.underlying4 _), (trodAll_cons_mk (Below.trod laidOut (by kernel_rfl) (of_decide_eq_true (by kernel_rfl)) k0 bel lt0) (trodAll_cons_mk (Below.trod laidOut (by kernel_rfl) (of_decide_eq_true (by kernel_rfl)) k1 bel lt1) trodAll_mk0)), rfl, bel.frame _, fun h => by cases h⟩
theorem over : Rows.fnExactMoveCentreRow.holds Try.pinned (OpenSpec.ofChange Rows.fnExactMoveCentreSpec) :=
  OpenClaim.holds_of_wide 4 Try.f4 rfl rfl rfl rfl rfl rfl rfl ⟨rfl, rfl, rfl, rfl, rfl⟩ rfl rfl rfl rfl rfl (by kernel_rfl) Try.func4 (by kernel_rfl)
    (of_decide_eq_true (by kernel_rfl)) (by unfold Func.isWrapper; first | (rw [if_pos (by decide +kernel)]; kernel_rfl) | (rw [if_neg (by decide +kernel)]; exact ⟨rfl, rfl⟩))
    (fun os started H enc _ => lifted os started H enc)
theorem proved : Rows.FnExactMoveCentreSaid := over
#print axioms proved
end Go.Proofs.Ytckipgldmkboiaa.fnExactMoveCentre
namespace Go.Proofs.Ytckipgldmkboiaa
/-- The row, under a short name, for the claim. -/
theorem fnExactMoveCentre_holds : Rows.FnExactMoveCentreSaid := fnExactMoveCentre.proved
end Go.Proofs.Ytckipgldmkboiaa
