/- The law FnMove of the given program: for every input the call returns true, and each argument reads afterwards as it read before. No conditions. (Part 4 of 4; the last part holds the theorem.) -/
import Derived.Test.YtcbkoecanldlpaaMFnMove2
import Derived.Test.YtcbkoecanldlpaaMFnMove1
import Derived.Test.YtcbkoecanldlpaaMFnMove0
import Derived.Test.YtcbkoecanldlpaaRows
import Derived.WalkKit
import Derived.ProofKit
import Derived.OpenShut
import Derived.ShutString
import Derived.ChangeOld
import Derived.Below
import Derived.SizedLaws
import Derived.Test.YtcbkoecanldlpaaWSized
set_option linter.unusedVariables false
set_option linter.unusedSimpArgs false
namespace Go.Proofs.Ytcbkoecanldlpaa.X
open Go.RowKit Go.Proofs.YtcbkoecanldlpaaW.PrintWords Go.Proofs.YtcbkoecanldlpaaW.PrintLast Go.Proofs.Ytcbkoecanldlpaa.P

theorem seen_take {l : List Int} {i : Int} (h0 : 0 ≤ i) (h1 : i ≤ l.length) {v : Int} (hv : 0 ≤ v) : seenO (rd l) i v.toNat = true ↔ v ∈ l.take i.toNat := by
  unfold seenO
  simp only [List.any_eq_true, List.mem_range, decide_eq_true_eq]
  rw [List.mem_take_iff_getElem]
  constructor
  · rintro ⟨z, hz, e⟩
    refine ⟨z, by omega, ?_⟩
    rw [← rd_cast l z (by omega), e]; omega
  · rintro ⟨z, hz, e⟩
    refine ⟨z, by omega, ?_⟩
    rw [rd_cast l z (by omega), e]; omega
theorem l5Perm_loop (m : List Int) (hl : m.length ≤ 1048576) (d : Nat) : ∀ (i : Int), 0 ≤ i → i + d = m.length → (∀ j : Int, 0 ≤ j → j < i → newB m j = true) → Ev (fun k => spec_l5Perm.l0 k m (bL 91 (seenO (rd m) i)) i) (permB m) := by
  induction d with
  | zero =>
    intro i h0 h1 h
    refine Ev.step (fun k => by rw [spec_l5Perm.l0]) ?_
    refine Ev.neg (by omega) (Ev.done ?_)
    unfold permB
    rw [diffB_all fun j j0 j1 => h j j0 (by omega), Bool.and_true]
    refine congrArg some ?_
    by_cases e : m.length = 91
    · rw [decide_eq_true e, e]; rfl
    · rw [decide_eq_false e]
      exact beq_eq_false_iff_ne.2 (by omega)
  | succ d ih =>
    intro i h0 h1 h
    refine Ev.step (fun k => by rw [spec_l5Perm.l0]) ?_
    have z : wrap64 (i + 1) = i + 1 := w64 (by omega) (by omega)
    rw [z, l3In_eq]
    refine Ev.pos (by omega) (Ev.pos h0 (Ev.fix rfl ?_))
    by_cases hp : ptB (rd m i) = true
    case neg =>
      refine Ev.neg hp (Ev.done ?_)
      have hnb : newB m i = false := by unfold newB; rw [Bool.eq_false_iff.2 hp, Bool.false_and]
      unfold permB
      rw [diffB_hit h0 (by omega) hnb, Bool.and_false]
    obtain ⟨v0, v1⟩ := ptB_iff.1 hp
    have z4 := bL_rd (n := 91) (s := seenO (rd m) i) (rd m i) v0 v1
    have hs := bL_seen (n := 91) (rd m) i h0 (rd m i) v0 rfl
    rw [z4, bL_length, hs]
    refine Ev.pos hp (Ev.pos v0 (Ev.pos v1 ?_))
    have hst := seen_take (l := m) (i := i) h0 (by omega) v0
    by_cases e : seenO (rd m) i (rd m i).toNat = true
    · refine Ev.pos e (Ev.done ?_)
      have hnb : newB m i = false := by unfold newB; rw [decide_eq_true (hst.1 e), Bool.not_true, Bool.and_false]
      unfold permB
      rw [diffB_hit h0 (by omega) hnb, Bool.and_false]
    · refine Ev.neg e (ih (i + 1) (by omega) (by omega) fun j j0 j1 => ?_)
      by_cases ej : j = i
      · rw [ej]; unfold newB; rw [hp, decide_eq_false (fun hm => e (hst.2 hm))]; rfl
      · exact h j j0 (by omega)
theorem l5Perm_ev (m : List Int) (hl : m.length ≤ 1048576) : Ev (fun k => spec_l5Perm.f k m) (permB m) := by
  unfold spec_l5Perm.f
  rw [bL_replicate]
  exact Ev.pos (by omega) (l5Perm_loop m hl m.length 0 (by omega) (by omega) (fun j h0 h1 => by omega))
def lineR (t m : List Int) (l : Int) : Int × Bool := if lineOk t m l = true then (toLine t m l, true) else (0, false)
theorem l5Line_loop {t m : List Int} (hs : sysB t = true) (hm : permB m = true) {l : Int} (hl : In91 l) (d : Nat) : ∀ (i : Int), 0 ≤ i → i + d = (pointsL t l).length → (∀ j : Int, 0 ≤ j → j < i → onB t (rd m (rd (pointsL t l) j)) (toLine t m l) = true) → Ev (fun k => spec_l5Line.l0 k t m (pointsL t l) (toLine t m l) i) (lineR t m l) := by
  have hlen := permB_len hm
  have h91 : (pointsL t l).length ≤ 91 := filI_length_le _ _
  obtain ⟨_, _, _, htl⟩ := toLine_spec hs hm hl
  induction d with
  | zero =>
    intro i h0 h1 h
    refine Ev.step (fun k => by rw [spec_l5Line.l0]) ?_
    refine Ev.neg (by omega) (Ev.done ?_)
    have : lineOk t m l = true := by
      unfold lineOk
      rw [Bool.not_eq_true', List.any_eq_false]
      intro p hp
      obtain ⟨j, hj, rfl⟩ := List.mem_iff_getElem.1 hp
      have := h (j : Int) (by omega) (by omega)
      rw [rd_cast _ j hj] at this
      rw [this]; decide
    unfold lineR; rw [if_pos this]
  | succ d ih =>
    intro i h0 h1 h
    obtain ⟨⟨a0, a1⟩, _⟩ := pointsL_rd (t := t) (l := l) (i := i) h0 (by omega)
    have hv := diffB_pt (permB_diff hm) a0 (by omega)
    have e1 := l3On_eq (sysB_parts hs).1 hv htl
    refine Ev.step (fun k => by rw [spec_l5Line.l0]) ?_
    rw [w64 (x := i + 1) (by omega) (by omega)]
    refine Ev.pos (by omega) (Ev.pos h0 (Ev.pos a0 (Ev.pos (by omega) (Ev.fix e1 ?_))))
    by_cases e : onB t (rd m (rd (pointsL t l) i)) (toLine t m l) = true
    · refine Ev.pos e (ih (i + 1) (by omega) (by omega) fun j j0 j1 => ?_)
      by_cases ej : j = i
      · rw [ej]; exact e
      · exact h j j0 (by omega)
    · refine Ev.neg e (Ev.done ?_)
      have : lineOk t m l = false := by
        unfold lineOk
        rw [Bool.not_eq_false', List.any_eq_true]
        exact ⟨_, rd_mem (by omega) h0, by rw [Bool.eq_false_iff.2 e]; rfl⟩
      unfold lineR; rw [this]; rfl
theorem l5Line_ev {t m : List Int} (hs : sysB t = true) (hm : permB m = true) {l : Int} (hl : In91 l) : Ev (fun k => spec_l5Line.f k t m l) (lineR t m l) := by
  have hn := (sysB_parts hs).1
  have hlen := permB_len hm
  have h2 := pointsL_two hs hl.1 hl.2
  obtain ⟨p0, p1, hne, htl⟩ := toLine_spec hs hm hl
  obtain ⟨⟨a0, a1⟩, _⟩ := pointsL_rd (t := t) (l := l) (i := 0) (by omega) (by omega)
  obtain ⟨⟨b0, b1⟩, _⟩ := pointsL_rd (t := t) (l := l) (i := 1) (by omega) (by omega)
  obtain ⟨j0, j1, j2, j3⟩ := joinI_spec hs p0.1 p0.2 p1.1 p1.2 hne
  unfold spec_l5Line.f
  refine Ev.bind (l3Points_ev hn hl) ?_
  refine Ev.pos (by omega) (Ev.pos a0 (Ev.pos (by omega) (Ev.pos (by omega) (Ev.pos b0 (Ev.pos (by omega) (Ev.bind (l3Join_ev hs p0 p1 hne) ?_))))))
  refine l5Line_loop hs hm hl ((pointsL t l).length - 2) 2 (by omega) (by omega) fun j j0' j1' => ?_
  have : j = 0 ∨ j = 1 := by omega
  rcases this with rfl | rfl
  · exact j2
  · exact j3
theorem l5In_loop {t m : List Int} (hs : sysB t = true) (hm : permB m = true) (d : Nat) : ∀ (i : Int), 0 ≤ i → i + d = 91 → (∀ l : Int, 0 ≤ l → l < i → lineOk t m l = true) → Ev (fun k => spec_l5In.l0 k t m i) (moveB t m) := by
  induction d with
  | zero =>
    intro i h0 h1 h
    refine Ev.step (fun k => by rw [spec_l5In.l0]) ?_
    refine Ev.neg (by omega) (Ev.done ?_)
    rw [moveB_all hs hm fun l l0 l1 => h l l0 (by omega)]
  | succ d ih =>
    intro i h0 h1 h
    refine Ev.step (fun k => by rw [spec_l5In.l0]) ?_
    rw [w64 (x := i + 1) (by omega) (by omega)]
    refine Ev.pos (by omega) (Ev.bind (l5Line_ev hs hm (l := i) ⟨h0, by omega⟩) ?_)
    unfold lineR
    by_cases e : lineOk t m i = true
    · rw [if_pos e]
      refine Ev.pos rfl (ih (i + 1) (by omega) (by omega) fun l l0 l1 => ?_)
      by_cases el : l = i
      · rw [el]; exact e
      · exact h l l0 (by omega)
    · rw [if_neg e]
      refine Ev.neg (by decide) (Ev.done ?_)
      rw [moveB_hit h0 (by omega) (Bool.eq_false_iff.2 e)]
theorem l5In_ev {t m : List Int} (hs : sysB t = true) (hl : m.length ≤ 1048576) : Ev (fun k => spec_l5In.f k t m) (moveB t m) := by
  unfold spec_l5In.f
  refine Ev.bind (l5Perm_ev m hl) ?_
  by_cases hm : permB m = true
  · exact Ev.pos hm (l5In_loop hs hm 91 0 (by omega) (by omega) fun l h0 h1 => by omega)
  · refine Ev.neg hm (Ev.done ?_)
    unfold moveB; rw [Bool.eq_false_iff.2 hm]; simp
theorem MoveIn_ev {t m : List Int} (ht : t.length ≤ 1048576) (hl : m.length ≤ 1048576) : Ev (fun k => spec_MoveIn.f k t m) (moveB t m) := by
  unfold spec_MoveIn.f
  refine Ev.bind (SystemIn_ev t ht) ?_
  by_cases hs : sysB t = true
  · exact Ev.pos hs (Ev.bind (l5In_ev hs hl) (Ev.done rfl))
  · refine Ev.neg hs (Ev.done ?_)
    unfold moveB; rw [Bool.eq_false_iff.2 hs]; rfl
end Go.Proofs.Ytcbkoecanldlpaa.X

set_option linter.unusedVariables false
set_option linter.unusedSimpArgs false
namespace Go.Proofs.Ytcbkoecanldlpaa.X
open Go.RowKit Go.Proofs.YtcbkoecanldlpaaW.PrintWords Go.Proofs.YtcbkoecanldlpaaW.PrintLast Go.Proofs.Ytcbkoecanldlpaa.P

def timesR (t m n : List Int) : List Int × Bool := if (moveB t m && moveB t n) = true then (behL m n, true) else ([], false)
theorem implTimes_ev {t m n : List Int} (hm : m.length ≤ 1048576) (hn : n.length ≤ 1048576) : Ev (fun k => impl_MoveTimes.f k t m n) (timesR t m n) := by
  unfold impl_MoveTimes.f timesR
  refine Ev.fix (show impl_isMove.f t m = some (moveB t m) from if_pos hm) ?_
  by_cases h1 : moveB t m = true
  case neg =>
    rw [Bool.eq_false_iff.2 h1]
    exact Ev.neg (by decide) (Ev.done rfl)
  rw [h1]
  refine Ev.pos rfl (Ev.fix (show impl_isMove.f t n = some (moveB t n) from if_pos hn) ?_)
  by_cases h2 : moveB t n = true
  case neg =>
    rw [Bool.eq_false_iff.2 h2]
    exact Ev.neg (by decide) (Ev.done rfl)
  rw [h2]
  exact Ev.pos rfl (Ev.bind (behind_ev (moveB_parts h1).2.1 (moveB_parts h2).2.1) (Ev.done rfl))
theorem specTimes_l0 {m n : List Int} (hm : permB m = true) (hn : permB n = true) (d : Nat) : ∀ i : Nat, i + d = 91 → Ev (fun k => spec_MoveTimes.l0 k m n (mapI i fun p => rd n (rd m p)) (i : Int)) (behL m n, true) := by
  have hl := permB_len hm
  have hl2 := permB_len hn
  induction d with
  | zero =>
    intro i h1
    have e : i = 91 := by omega
    subst e
    refine Ev.step (fun k => by rw [spec_MoveTimes.l0]) ?_
    exact Ev.neg (by omega) (Ev.done rfl)
  | succ d ih =>
    intro i h1
    obtain ⟨a0, a1⟩ := perm_rd hm (p := (i : Int)) ⟨by omega, by omega⟩
    have nx := ih (i + 1) (by omega)
    rw [mapI_succ] at nx
    have z : wrap64 ((i : Int) + 1) = ((i + 1 : Nat) : Int) := by rw [w64 (by omega) (by omega)]; rfl
    have hlm := mapI_length i fun p => rd n (rd m p)
    refine Ev.step (fun k => by rw [spec_MoveTimes.l0]) ?_
    rw [z]
    exact Ev.pos (by omega) (Ev.pos (by omega) (Ev.pos (by omega) (Ev.pos a0 (Ev.pos (by omega) (Ev.pos (by omega) nx)))))
theorem specTimes_ev {t m n : List Int} (ht : t.length ≤ 1048576) (hm : m.length ≤ 1048576) (hn : n.length ≤ 1048576) : Ev (fun k => spec_MoveTimes.f k t m n) (timesR t m n) := by
  unfold spec_MoveTimes.f timesR
  refine Ev.fix rfl (Ev.bind (MoveIn_ev ht hm) ?_)
  by_cases h1 : moveB t m = true
  case neg =>
    rw [Bool.eq_false_iff.2 h1]
    refine Ev.neg (by decide) ?_
    refine Ev.step (fun k => by rw [spec_MoveTimes.j0]) ?_
    exact Ev.pos rfl (Ev.done rfl)
  rw [h1]
  refine Ev.pos rfl (Ev.bind (MoveIn_ev ht hn) ?_)
  by_cases h2 : moveB t n = true
  case neg =>
    rw [Bool.eq_false_iff.2 h2]
    refine Ev.step (fun k => by rw [spec_MoveTimes.j0]) ?_
    exact Ev.pos rfl (Ev.done rfl)
  rw [h2]
  refine Ev.step (fun k => by rw [spec_MoveTimes.j0]) ?_
  exact Ev.neg (by decide) (specTimes_l0 (moveB_parts h1).2.1 (moveB_parts h2).2.1 91 0 (by omega))
end Go.Proofs.Ytcbkoecanldlpaa.X

set_option linter.unusedVariables false
set_option linter.unusedSimpArgs false
namespace Go.Proofs.Ytcbkoecanldlpaa.X
open Go.RowKit Go.Proofs.YtcbkoecanldlpaaW.PrintWords Go.Proofs.YtcbkoecanldlpaaW.PrintLast Go.Proofs.Ytcbkoecanldlpaa.P

def BaseM (t m : List Int) : Prop := (sysB t = false ∧ m = []) ∨ (sysB t = true ∧ ((∃ a b, In9 a ∧ In9 b ∧ m = shiftL a b) ∨ ∃ k, stretchOk t k = true ∧ m = stretchL t k))
def DrawnM (t m : List Int) : Prop := ∃ m', (BaseM t m' ∨ ∃ m0, BaseM t m0 ∧ moveB t m0 = true ∧ stretchOk t 2 = true ∧ m' = behL m0 (stretchL t 2)) ∧ (m = m' ∨ (sysB t = true ∧ m = m'.set 0 (rd m' 1)))
theorem moveL_length (f : Int → Int → Int) : (moveL f).length = 91 := mapI_length _ _
theorem BaseM.len {t m : List Int} (h : BaseM t m) : m.length = if sysB t = true then 91 else 0 := by
  rcases h with ⟨hs, rfl⟩ | ⟨hs, ⟨a, b, _, _, rfl⟩ | ⟨k, _, rfl⟩⟩
  · rw [hs]; rfl
  · rw [if_pos hs]; exact moveL_length _
  · rw [if_pos hs]; exact moveL_length _
theorem stretchOk_sys {t : List Int} {k : Int} (h : stretchOk t k = true) : sysB t = true := by
  unfold stretchOk at h
  exact (Bool.and_eq_true _ _ ▸ h : sysB t = true ∧ _).1
theorem midM_len {t m' : List Int} (h : BaseM t m' ∨ ∃ m0, BaseM t m0 ∧ moveB t m0 = true ∧ stretchOk t 2 = true ∧ m' = behL m0 (stretchL t 2)) : m'.length = if sysB t = true then 91 else 0 := by
  rcases h with h | ⟨m0, _, _, hs, rfl⟩
  · exact h.len
  · rw [if_pos (stretchOk_sys hs)]; exact mapI_length _ _
theorem DrawnM.len {t m : List Int} (h : DrawnM t m) : m.length ≤ 91 := by
  obtain ⟨m', h1, h2⟩ := h
  have hl := midM_len h1
  have : m'.length ≤ 91 := by rw [hl]; split <;> omega
  rcases h2 with rfl | ⟨_, rfl⟩
  · exact this
  · rw [List.length_set]; exact this
theorem mtail_ev {s : List Int} (hs : RdS s) {p : Int} (p0 : 0 ≤ p) (p1 : p ≤ 1099511000000) (m : List Int) (ok : Bool) (hl : ok = true → m.length = 91) : ∃ r q, (r = m ∨ (ok = true ∧ r = m.set 0 (rd m 1))) ∧ (p ≤ q ∧ q ≤ p + 1) ∧
    Ev (fun k => if ok = true then ((spec_l6Rd_pick.f k s p 20).bind fun b => (if b.1 = 0 then (if 1 < (m.length : Int) then (if 0 < (m.length : Int) then (some ((m.set (0 : Int).toNat (rd m 1)), b.2)) else (none)) else (none)) else (some (m, b.2)))) else (some (m, p))) (r, q) := by
  obtain ⟨a, ha, ea⟩ := pick_ev hs p0 (by omega) (n := 20) (by omega) (by omega)
  cases ok with
  | false => exact ⟨m, p, .inl rfl, by omega, Ev.neg (by decide) (Ev.done rfl)⟩
  | true =>
    have h91 := hl rfl
    by_cases e : a = 0
    · exact ⟨_, p + 1, .inr ⟨rfl, rfl⟩, by omega, Ev.pos rfl (Ev.bind ea (Ev.pos e (Ev.pos (by omega) (Ev.pos (by omega) (Ev.done rfl)))))⟩
    · exact ⟨m, p + 1, .inl rfl, by omega, Ev.pos rfl (Ev.bind ea (Ev.neg e (Ev.done rfl)))⟩
theorem mid_ev {s : List Int} (hs : RdS s) {p : Int} (p0 : 0 ≤ p) (p1 : p ≤ 1099510000000) {t : List Int} (ht : t.length ≤ 81) {m : List Int} (hm : BaseM t m) : ∃ r q, DrawnM t r ∧ (p ≤ q ∧ q ≤ p + 2) ∧ Ev (fun k => spec_l91Move.j0 k t m (sysB t) s p) (r, q) := by
  have hl := hm.len
  have hlok : sysB t = true → m.length = 91 := fun h => by rw [hl, if_pos h]
  have hml : m.length ≤ 1048576 := by rw [hl]; split <;> omega
  obtain ⟨a, ha, ea⟩ := pick_ev hs p0 (by omega) (n := 3) (by omega) (by omega)
  have j1f : ∀ p', 0 ≤ p' → p' ≤ 1099510000005 → ∃ r q, DrawnM t r ∧ (p' ≤ q ∧ q ≤ p' + 1) ∧ Ev (fun k => spec_l91Move.j1 k t m (sysB t) false s p') (r, q) := by
    intro p' q0 q1
    obtain ⟨r, q, hr, hq, e⟩ := mtail_ev hs q0 (by omega) m (sysB t) hlok
    refine ⟨r, q, ⟨m, .inl hm, hr⟩, hq, ?_⟩
    refine Ev.step (fun k => by rw [spec_l91Move.j1]) ?_
    exact Ev.neg (by decide) e
  by_cases hsy : sysB t = true
  case neg =>
    obtain ⟨r, q, hr, hq, e⟩ := j1f p p0 (by omega)
    refine ⟨r, q, hr, by omega, ?_⟩
    refine Ev.step (fun k => by rw [spec_l91Move.j0]) ?_
    exact Ev.neg hsy e
  by_cases ea0 : a = 0
  case neg =>
    obtain ⟨r, q, hr, hq, e⟩ := j1f (p + 1) (by omega) (by omega)
    refine ⟨r, q, hr, by omega, ?_⟩
    refine Ev.step (fun k => by rw [spec_l91Move.j0]) ?_
    refine Ev.pos hsy (Ev.bind ea ?_)
    dsimp only
    rw [beq_eq_false_iff_ne.2 ea0]
    exact e
  -- a stretch by 2 behind it
  have e2 := specStretch_ev t (by omega) 2
  have hR2 : (stretchR t 2).1.length ≤ 1048576 := by
    unfold stretchR
    by_cases h : stretchOk t 2 = true
    · rw [if_pos h]; show (moveL _).length ≤ _; rw [moveL_length]; omega
    · rw [if_neg h]; exact Nat.zero_le _
  have e3 := specTimes_ev (t := t) (m := m) (n := (stretchR t 2).1) (by omega) hml hR2
  have pre : ∀ r, Ev (fun k => if (stretchR t 2).2 = true then (spec_l91Move.j2 k m (sysB t) (timesR t m (stretchR t 2).1).1 (timesR t m (stretchR t 2).1).2 s (p + 1)) else (spec_l91Move.j2 k m (sysB t) (timesR t m (stretchR t 2).1).1 false s (p + 1))) r → Ev (fun k => spec_l91Move.j0 k t m (sysB t) s p) r := by
    intro r h
    refine Ev.step (fun k => by rw [spec_l91Move.j0]) ?_
    refine Ev.pos hsy (Ev.bind ea ?_)
    dsimp only
    rw [beq_iff_eq.2 ea0]
    refine Ev.step (fun k => by rw [spec_l91Move.j1]) ?_
    exact Ev.pos rfl (Ev.bind e2 (Ev.bind e3 h))
  have j2f : ∀ x, ∃ r q, DrawnM t r ∧ (p + 1 ≤ q ∧ q ≤ p + 1 + 1) ∧ Ev (fun k => spec_l91Move.j2 k m (sysB t) x false s (p + 1)) (r, q) := by
    intro x
    obtain ⟨r, q, hr, hq, e⟩ := mtail_ev hs (p := p + 1) (by omega) (by omega) m (sysB t) hlok
    refine ⟨r, q, ⟨m, .inl hm, hr⟩, hq, ?_⟩
    refine Ev.step (fun k => by rw [spec_l91Move.j2]) ?_
    exact Ev.neg (by decide) e
  by_cases hk : stretchOk t 2 = true
  case neg =>
    have eR : stretchR t 2 = ([], false) := if_neg hk
    obtain ⟨r, q, hr, hq, e⟩ := j2f (timesR t m (stretchR t 2).1).1
    refine ⟨r, q, hr, by omega, pre _ (Ev.neg (by rw [eR]; decide) e)⟩
  have eR : stretchR t 2 = (stretchL t 2, true) := if_pos hk
  rw [eR] at pre
  dsimp only at pre
  by_cases hmm : (moveB t m && moveB t (stretchL t 2)) = true
  case neg =>
    have eT : timesR t m (stretchL t 2) = ([], false) := if_neg hmm
    rw [eT] at pre
    obtain ⟨r, q, hr, hq, e⟩ := j2f []
    exact ⟨r, q, hr, by omega, pre _ (Ev.pos rfl e)⟩
  have eT : timesR t m (stretchL t 2) = (behL m (stretchL t 2), true) := if_pos hmm
  rw [eT] at pre
  obtain ⟨r, q, hr, hq, e⟩ := mtail_ev hs (p := p + 1) (by omega) (by omega) (behL m (stretchL t 2)) (sysB t) (fun _ => mapI_length _ _)
  refine ⟨r, q, ⟨_, .inr ⟨m, hm, (Bool.and_eq_true _ _ ▸ hmm : moveB t m = true ∧ _).1, hk, rfl⟩, hr⟩, by omega, pre _ (Ev.pos rfl ?_)⟩
  refine Ev.step (fun k => by rw [spec_l91Move.j2]) ?_
  exact Ev.pos rfl e
theorem move_ev {s : List Int} (hs : RdS s) {p : Int} (p0 : 0 ≤ p) (p1 : p ≤ 1099500000000) {t : List Int} (ht : t.length ≤ 81) : ∃ m q, DrawnM t m ∧ (p ≤ q ∧ q ≤ p + 6) ∧ Ev (fun k => spec_l91Move.f k s p t) (m, q) := by
  obtain ⟨a, ha, ea⟩ := pick_ev hs p0 (by omega) (n := 9) (by omega) (by omega)
  obtain ⟨b, hb, eb⟩ := pick_ev hs (p := p + 1) (by omega) (by omega) (n := 9) (by omega) (by omega)
  obtain ⟨c, hc, ec⟩ := pick_ev hs (p := p + 1 + 1) (by omega) (by omega) (n := 3) (by omega) (by omega)
  obtain ⟨d, hd, ed⟩ := pick_ev hs (p := p + 1 + 1 + 1) (by omega) (by omega) (n := 8) (by omega) (by omega)
  have e1 := specShift_ev t (by omega) a b
  have e2 := specStretch_ev t (by omega) (1 + d)
  have eS : shiftR t a b = (if sysB t = true then (shiftL a b, true) else ([], false)) := by
    unfold shiftR
    rw [isN_iff.2 ha, isN_iff.2 hb]; simp
  have hS : (shiftR t a b).2 = sysB t ∧ BaseM t (shiftR t a b).1 := by
    rw [eS]
    by_cases h : sysB t = true
    · rw [if_pos h, h]; exact ⟨rfl, .inr ⟨h, .inl ⟨a, b, ha, hb, rfl⟩⟩⟩
    · rw [if_neg h]; have h := Bool.eq_false_iff.2 h; rw [h]; exact ⟨rfl, .inl ⟨h, rfl⟩⟩
  have pre : ∀ r, Ev (fun k => if c = 0 then ((spec_l6Rd_pick.f k s (p + 1 + 1 + 1) 8).bind fun bt => ((spec_MoveStretch.f k t (wrap64 (1 + bt.1))).bind fun b2 => (if b2.2 = true then (spec_l91Move.j0 k t b2.1 true s bt.2) else (spec_l91Move.j0 k t (shiftR t a b).1 (shiftR t a b).2 s bt.2)))) else (spec_l91Move.j0 k t (shiftR t a b).1 (shiftR t a b).2 s (p + 1 + 1 + 1))) r → Ev (fun k => spec_l91Move.f k s p t) r := by
    intro r h
    unfold spec_l91Move.f
    exact Ev.bind ea (Ev.bind eb (Ev.bind e1 (Ev.bind ec h)))
  by_cases c0 : c = 0
  · by_cases hk : stretchOk t (1 + d) = true
    · have eR : stretchR t (1 + d) = (stretchL t (1 + d), true) := if_pos hk
      have hsy := stretchOk_sys hk
      obtain ⟨r, q, hr, hq, e⟩ := mid_ev hs (p := p + 1 + 1 + 1 + 1) (by omega) (by omega) ht (m := stretchL t (1 + d)) (.inr ⟨hsy, .inr ⟨_, hk, rfl⟩⟩)
      refine ⟨r, q, hr, by omega, pre _ (Ev.pos c0 (Ev.bind ed ?_))⟩
      dsimp only
      rw [w64 (x := 1 + d) (by omega) (by omega)]
      refine Ev.bind e2 ?_
      rw [eR]
      refine Ev.pos rfl ?_
      rw [hsy] at e
      exact e
    · have eR : stretchR t (1 + d) = ([], false) := if_neg hk
      obtain ⟨r, q, hr, hq, e⟩ := mid_ev hs (p := p + 1 + 1 + 1 + 1) (by omega) (by omega) ht hS.2
      refine ⟨r, q, hr, by omega, pre _ (Ev.pos c0 (Ev.bind ed ?_))⟩
      dsimp only
      rw [w64 (x := 1 + d) (by omega) (by omega)]
      refine Ev.bind e2 ?_
      rw [eR]
      refine Ev.neg (by decide) ?_
      rw [hS.1]
      exact e
  · obtain ⟨r, q, hr, hq, e⟩ := mid_ev hs (p := p + 1 + 1 + 1) (by omega) (by omega) ht hS.2
    refine ⟨r, q, hr, by omega, pre _ (Ev.neg c0 ?_)⟩
    rw [hS.1]
    exact e
theorem moved_ev (l0 : List Int) (hu : ∀ x ∈ l0, (Lit.int .u8 x).wf = true) : ∃ t m, DrawnT t ∧ DrawnM t m ∧ Ev (fun k => spec_l91Moved.f k l0) (t, m) := by
  obtain ⟨s, hs, eo⟩ := open_ev l0 hu
  obtain ⟨t, q, ht, hq, et⟩ := system_ev hs (p := 0) (by omega) (by omega)
  obtain ⟨m, q1, hm, hq1, em⟩ := move_ev hs (p := q) (by omega) (by omega) ht.len
  refine ⟨t, m, ht, hm, ?_⟩
  unfold spec_l91Moved.f
  exact Ev.fix eo (Ev.bind et (Ev.bind em (Ev.done rfl)))
end Go.Proofs.Ytcbkoecanldlpaa.X

set_option linter.unusedVariables false
set_option linter.unusedSimpArgs false
namespace Go.Proofs.Ytcbkoecanldlpaa.X
open Go.RowKit Go.Proofs.YtcbkoecanldlpaaW.PrintWords

def itI (m : List Int) : Nat → Int → Int
  | 0, p => p
  | k + 1, p => rd m (itI m k p)
end Go.Proofs.Ytcbkoecanldlpaa.X

set_option linter.unusedVariables false
set_option linter.unusedSimpArgs false
namespace Go.Proofs.Ytcbkoecanldlpaa.X
open Go.RowKit Go.Proofs.YtcbkoecanldlpaaW.PrintWords

def addP (p q : Int) : Int := 9 * addN (p / 9) (q / 9) + addN (p % 9) (q % 9)
def negP (p : Int) : Int := 9 * minusN (p / 9) + minusN (p % 9)
def nearP (p : Int) : Prop := 0 ≤ p ∧ p < 81
theorem addP_div (p q : Int) : addP p q / 9 = addN (p / 9) (q / 9) := by
  have a := addN_range (p / 9) (q / 9)
  have b := addN_range (p % 9) (q % 9)
  unfold addP; omega
theorem addP_mod (p q : Int) : addP p q % 9 = addN (p % 9) (q % 9) := by
  have a := addN_range (p / 9) (q / 9)
  have b := addN_range (p % 9) (q % 9)
  unfold addP; omega
theorem negP_div (p : Int) : negP p / 9 = minusN (p / 9) := by
  have a := minusN_range (p / 9)
  have b := minusN_range (p % 9)
  unfold negP; omega
theorem negP_mod (p : Int) : negP p % 9 = minusN (p % 9) := by
  have a := minusN_range (p / 9)
  have b := minusN_range (p % 9)
  unfold negP; omega
theorem near_ext {p q : Int} (h1 : p / 9 = q / 9) (h2 : p % 9 = q % 9) : p = q := by omega
theorem shift_line {t : List Int} (h : sysB t = true) {p q r f l : Int} (hp : nearP p) (hq : nearP q) (hr : nearP r) (hl : In91 l) (hf : 81 ≤ f) (hf1 : f < 91) (a : onB t p l = true) (b : onB t q l = true) (c : onB t f l = true) (hne : p ≠ q) :
    ∃ k, In91 k ∧ onB t r k = true ∧ onB t (addP r (addP q (negP p))) k = true ∧ onB t f k = true := by
  obtain ⟨p0, p1⟩ := hp
  obtain ⟨q0, q1⟩ := hq
  obtain ⟨r0, r1⟩ := hr
  obtain ⟨x, y, x0, x1, y0, y1, rfl⟩ : ∃ x y : Int, 0 ≤ x ∧ x < 9 ∧ 0 ≤ y ∧ y < 9 ∧ p = 9 * x + y := ⟨p / 9, p % 9, by omega, by omega, by omega, by omega, by omega⟩
  obtain ⟨u, v, u0, u1, v0, v1, rfl⟩ : ∃ x y : Int, 0 ≤ x ∧ x < 9 ∧ 0 ≤ y ∧ y < 9 ∧ q = 9 * x + y := ⟨q / 9, q % 9, by omega, by omega, by omega, by omega, by omega⟩
  obtain ⟨g, i, g0, g1, i0, i1, rfl⟩ : ∃ x y : Int, 0 ≤ x ∧ x < 9 ∧ 0 ≤ y ∧ y < 9 ∧ r = 9 * x + y := ⟨r / 9, r % 9, by omega, by omega, by omega, by omega, by omega⟩
  have es : addP (9 * g + i) (addP (9 * u + v) (negP (9 * x + y))) = 9 * addN g (addN u (minusN x)) + addN i (addN v (minusN y)) := by
    refine near_ext ?_ ?_
    · rw [addP_div, addP_div, negP_div, show (9 * g + i) / 9 = g by omega, show (9 * u + v) / 9 = u by omega, show (9 * x + y) / 9 = x by omega]
      have := addN_range i (addN v (minusN y)); omega
    · rw [addP_mod, addP_mod, negP_mod, show (9 * g + i) % 9 = i by omega, show (9 * u + v) % 9 = v by omega, show (9 * x + y) % 9 = y by omega]
      have := addN_range i (addN v (minusN y)); omega
  rw [es]
  have rX := addN_range g (addN u (minusN x))
  have rY := addN_range i (addN v (minusN y))
  have rD := addN_range u (minusN x)
  rcases line_cases hl.1 hl.2 with ⟨m, e, m0, m1, e0, e1, rfl⟩ | ⟨e, e0, e1, rfl⟩ | rfl
  · rw [on_near x0 x1 y0 y1 m0 m1 e0 e1] at a
    rw [on_near u0 u1 v0 v1 m0 m1 e0 e1] at b
    have c := (on_far hf m0 m1 e0 e1).1 c
    have rg := sys_range h g0 g1 m0 m1
    have rx := sys_range h x0 x1 m0 m1
    have ru := sys_range h u0 u1 m0 m1
    have rd' := sys_range h rD.1 rD.2 m0 m1
    have rE := addN_range i (minusN (rd t (9 * g + m)))
    refine ⟨9 * m + addN i (minusN (rd t (9 * g + m))), ⟨by omega, by omega⟩, (on_near g0 g1 i0 i1 m0 m1 rE.1 rE.2).2 (solve_b rg.1 rg.2 i0 i1), (on_near rX.1 rX.2 rY.1 rY.2 m0 m1 rE.1 rE.2).2 ?_, (on_far hf m0 m1 rE.1 rE.2).2 c⟩
    have s1 := sys_share h g0 g1 rD.1 rD.2 m0 m1
    have s2 := sys_share h rD.1 rD.2 x0 x1 m0 m1
    rw [minus_add u0 u1 x0 x1] at s2
    rw [s1]
    subst a
    subst b
    rw [s2]
    generalize rd t (9 * addN u (minusN x) + m) = D at rd' ⊢
    generalize rd t (9 * x + m) = X at rx ⊢
    generalize rd t (9 * g + m) = G at rg ⊢
    have k1 : addN (addN (addN D X) e) (minusN (addN X e)) = D := nine3 (P := fun D X e => addN (addN (addN D X) e) (minusN (addN X e)) = D) (by decide +kernel) D X e rd'.1 rd'.2 rx.1 rx.2 e0 e1
    rw [k1]
    exact nine3 (P := fun i D G => addN i D = addN (addN G D) (addN i (minusN G))) (by decide +kernel) i D G i0 i1 rd'.1 rd'.2 rg.1 rg.2
  · rw [on_vert x0 x1 y0 y1 e0 e1] at a
    rw [on_vert u0 u1 v0 v1 e0 e1] at b
    have c := (on_far_vert hf e0 e1).1 c
    have ed : addN u (minusN x) = 0 := by rw [a, b]; exact addN_minus e0 e1
    rw [ed, addN_zero g0 g1]
    exact ⟨81 + g, ⟨by omega, by omega⟩, (on_vert g0 g1 i0 i1 g0 g1).2 rfl, (on_vert g0 g1 rY.1 rY.2 g0 g1).2 rfl, (on_far_vert hf g0 g1).2 c⟩
  · have := on_inf.1 a; omega
theorem on90 {t : List Int} {p : Int} (h : 81 ≤ p) : onB t p 90 = true := on_inf.2 h
end Go.Proofs.Ytcbkoecanldlpaa.X

set_option linter.unusedVariables false
set_option linter.unusedSimpArgs false
namespace Go.Proofs.Ytcbkoecanldlpaa.X
open Go.RowKit Go.Proofs.YtcbkoecanldlpaaW.PrintWords

end Go.Proofs.Ytcbkoecanldlpaa.X

set_option linter.unusedVariables false
set_option linter.unusedSimpArgs false
namespace Go.Proofs.Ytcbkoecanldlpaa.X
open Go.RowKit Go.Proofs.YtcbkoecanldlpaaW.PrintWords

theorem moveL_near (f : Int → Int → Int) {x y : Int} (x0 : 0 ≤ x) (x1 : x < 9) (y0 : 0 ≤ y) (y1 : y < 9) : rd (moveL f) (9 * x + y) = f x y := by
  unfold moveL
  rw [rd_mapI (by omega) (by omega), if_pos (by omega), show (9 * x + y) / 9 = x by omega, show (9 * x + y) % 9 = y by omega]
theorem moveL_far (f : Int → Int → Int) {p : Int} (p0 : 81 ≤ p) (p1 : p < 91) : rd (moveL f) p = p := by
  unfold moveL
  rw [rd_mapI (by omega) (by omega), if_neg (by omega)]
theorem moveL_len (f : Int → Int → Int) : (moveL f).length = 91 := mapI_length _ _
theorem moveL_perm (g h : Int → Int) (hg : ∀ x, In9 x → In9 (g x)) (hh : ∀ x, In9 x → In9 (h x)) (ig : ∀ x y, In9 x → In9 y → g x = g y → x = y) (ih : ∀ x y, In9 x → In9 y → h x = h y → x = y) : permB (moveL fun x y => 9 * g x + h y) = true := by
  refine permB_of (moveL_len _) (fun p hp => ?_) fun p q hp hq e => ?_
  · rcases point_cases hp.1 hp.2 with ⟨x, y, x0, x1, y0, y1, rfl⟩ | h81
    · rw [moveL_near _ x0 x1 y0 y1]
      have a := hg x ⟨x0, x1⟩
      have b := hh y ⟨y0, y1⟩
      exact ⟨by have := a.1; have := b.1; omega, by have := a.2; have := b.2; omega⟩
    · rw [moveL_far _ h81 hp.2]; exact hp
  · rcases point_cases hp.1 hp.2 with ⟨x, y, x0, x1, y0, y1, rfl⟩ | h81 <;> rcases point_cases hq.1 hq.2 with ⟨u, v, u0, u1, v0, v1, rfl⟩ | h82
    · rw [moveL_near _ x0 x1 y0 y1, moveL_near _ u0 u1 v0 v1] at e
      have a := hg x ⟨x0, x1⟩
      have b := hh y ⟨y0, y1⟩
      have c := hg u ⟨u0, u1⟩
      have d := hh v ⟨v0, v1⟩
      obtain ⟨b0, b1⟩ := b
      obtain ⟨d0, d1⟩ := d
      rw [ig x u ⟨x0, x1⟩ ⟨u0, u1⟩ (by omega), ih y v ⟨y0, y1⟩ ⟨v0, v1⟩ (by omega)]
    · rw [moveL_near _ x0 x1 y0 y1, moveL_far _ h82 hq.2] at e
      have a := hg x ⟨x0, x1⟩
      have b := hh y ⟨y0, y1⟩
      have := a.2; have := b.2; omega
    · rw [moveL_far _ h81 hp.2, moveL_near _ u0 u1 v0 v1] at e
      have c := hg u ⟨u0, u1⟩
      have d := hh v ⟨v0, v1⟩
      have := c.2; have := d.2; omega
    · rw [moveL_far _ h81 hp.2, moveL_far _ h82 hq.2] at e; exact e
theorem shift_near {a b x y : Int} (x0 : 0 ≤ x) (x1 : x < 9) (y0 : 0 ≤ y) (y1 : y < 9) : rd (shiftL a b) (9 * x + y) = 9 * addN x a + addN y b := moveL_near _ x0 x1 y0 y1
theorem shift_far {a b p : Int} (p0 : 81 ≤ p) (p1 : p < 91) : rd (shiftL a b) p = p := moveL_far _ p0 p1
theorem add_inj {a x y : Int} (ha : In9 a) (hx : In9 x) (hy : In9 y) (e : addN x a = addN y a) : x = y := by
  rw [addN_comm x, addN_comm y] at e
  exact addN_cancel ha.1 ha.2 hx.1 hx.2 hy.1 hy.2 e
theorem shift_perm {a b : Int} (ha : In9 a) (hb : In9 b) : permB (shiftL a b) = true :=
  moveL_perm (fun x => addN x a) (fun y => addN y b) (fun x _ => addN_range _ _) (fun x _ => addN_range _ _) (fun x y hx hy e => add_inj ha hx hy e) (fun x y hx hy e => add_inj hb hx hy e)
def shiftLine (t : List Int) (a b l : Int) : Int := if l < 81 then 9 * (l / 9) + addN (addN (l % 9) b) (minusN (rd t (9 * a + l / 9))) else if l < 90 then 81 + addN (l - 81) a else l
theorem shift_move {t : List Int} (h : sysB t = true) {a b : Int} (ha : In9 a) (hb : In9 b) : moveB t (shiftL a b) = true := by
  refine move_of h (shift_perm ha hb) (shiftLine t a b) (fun l hl => ?_) fun p l hp hl ho => ?_
  · obtain ⟨l0, l1⟩ := hl
    have r1 := addN_range (addN (l % 9) b) (minusN (rd t (9 * a + l / 9)))
    have r2 := addN_range (l - 81) a
    unfold shiftLine
    split
    · exact ⟨by omega, by omega⟩
    · split
      · exact ⟨by omega, by omega⟩
      · exact ⟨by omega, by omega⟩
  · rcases line_cases hl.1 hl.2 with ⟨m, c, m0, m1, c0, c1, rfl⟩ | ⟨c, c0, c1, rfl⟩ | rfl
    · have ra := sys_range h ha.1 ha.2 m0 m1
      have rc := addN_range (addN c b) (minusN (rd t (9 * a + m)))
      have e : shiftLine t a b (9 * m + c) = 9 * m + addN (addN c b) (minusN (rd t (9 * a + m))) := by
        unfold shiftLine
        rw [if_pos (by omega), show (9 * m + c) / 9 = m by omega, show (9 * m + c) % 9 = c by omega]
      rw [e]
      rcases point_cases hp.1 hp.2 with ⟨x, y, x0, x1, y0, y1, rfl⟩ | h81
      · rw [on_near x0 x1 y0 y1 m0 m1 c0 c1] at ho
        have rx := sys_range h x0 x1 m0 m1
        rw [shift_near x0 x1 y0 y1]
        rw [on_near (addN_range _ _).1 (addN_range _ _).2 (addN_range _ _).1 (addN_range _ _).2 m0 m1 rc.1 rc.2, sys_share h x0 x1 ha.1 ha.2 m0 m1, ho]
        generalize rd t (9 * x + m) = X at rx ⊢
        generalize rd t (9 * a + m) = A at ra ⊢
        have key : addN (addN X A) (addN (addN c b) (minusN A)) = addN X (addN c b) := by
          have r3 := addN_range c b
          generalize addN c b = d at r3 ⊢
          exact nine3 (P := fun X A d => addN (addN X A) (addN d (minusN A)) = addN X d) (by decide +kernel) X A d rx.1 rx.2 ra.1 ra.2 r3.1 r3.2
        rw [key]
        exact addN_assoc rx.1 rx.2 c0 c1 hb.1 hb.2
      · rw [shift_far h81 hp.2]
        exact (on_far h81 m0 m1 rc.1 rc.2).2 ((on_far h81 m0 m1 c0 c1).1 ho)
    · have rc := addN_range c a
      have e : shiftLine t a b (81 + c) = 81 + addN c a := by
        unfold shiftLine
        rw [if_neg (by omega), if_pos (by omega), show 81 + c - 81 = c by omega]
      rw [e]
      rcases point_cases hp.1 hp.2 with ⟨x, y, x0, x1, y0, y1, rfl⟩ | h81
      · rw [on_vert x0 x1 y0 y1 c0 c1] at ho
        rw [shift_near x0 x1 y0 y1, on_vert (addN_range _ _).1 (addN_range _ _).2 (addN_range _ _).1 (addN_range _ _).2 rc.1 rc.2, ho]
      · rw [shift_far h81 hp.2]
        exact (on_far_vert h81 rc.1 rc.2).2 ((on_far_vert h81 c0 c1).1 ho)
    · have h81 := on_inf.1 ho
      have e : shiftLine t a b 90 = 90 := by unfold shiftLine; rw [if_neg (by omega), if_neg (by omega)]
      rw [e, shift_far h81 hp.2]; exact ho
theorem axis90 {t m : List Int} (hfar : ∀ p, 81 ≤ p → p < 91 → rd m p = p) : axisB t m 90 = true := axisB_iff.2 fun p p0 p1 ho => hfar p (on_inf.1 ho) p1
theorem near_on {t : List Int} (h : sysB t = true) {l : Int} (l0 : 0 ≤ l) (l1 : l < 90) : ∃ x y : Int, In9 x ∧ In9 y ∧ ¬ (x = 0 ∧ y = 0) ∧ onB t (9 * x + y) l = true := by
  rcases line_cases l0 (by omega : l < 91) with ⟨m, c, m0, m1, c0, c1, rfl⟩ | ⟨c, c0, c1, rfl⟩ | rfl
  · refine ⟨1, addN (rd t (9 * 1 + m)) c, ⟨by omega, by omega⟩, addN_range _ _, fun e => by omega, ?_⟩
    exact (on_near (by omega) (by omega) (addN_range _ _).1 (addN_range _ _).2 m0 m1 c0 c1).2 rfl
  · exact ⟨c, 1, ⟨c0, c1⟩, ⟨by omega, by omega⟩, fun e => by omega, (on_vert c0 c1 (by omega) (by omega) c0 c1).2 rfl⟩
  · omega
theorem negP_zero : negP 0 = 0 := by decide
theorem addP_zero {p : Int} (hp : nearP p) : addP p (negP 0) = p := by
  obtain ⟨p0, p1⟩ := hp
  refine near_ext ?_ ?_
  · rw [addP_div, negP_zero]; exact addN_zero (by omega) (by omega)
  · rw [addP_mod, negP_zero]; exact addN_zero (by omega) (by omega)
theorem shift_centre {t : List Int} (h : sysB t = true) {a b : Int} (ha : In9 a) (hb : In9 b) (hne : ¬ (a = 0 ∧ b = 0)) : ∃ f, 81 ≤ f ∧ f < 91 ∧ centreB t (shiftL a b) f = true := by
  have hm := shift_move h ha hb
  have hv : nearP (9 * a + b) := ⟨by have := ha.1; have := hb.1; omega, by have := ha.2; have := hb.2; omega⟩
  have hv0 : (0 : Int) ≠ 9 * a + b := fun e => hne (by have := ha.1; have := hb.1; omega)
  obtain ⟨j0, j1, j2, j3⟩ := joinI_spec h (by omega : (0 : Int) ≤ 0) (by omega) hv.1 (by have := hv.2; omega : 9 * a + b < 91) hv0
  have hn90 : joinI t 0 (9 * a + b) ≠ 90 := fun e => by rw [e] at j2; have := on_inf.1 j2; omega
  obtain ⟨f0, f1, f2, f3⟩ := meetI_spec h j0 j1 (by omega : (0 : Int) ≤ 90) (by omega) hn90
  have hf := on_inf.1 f3
  refine ⟨meetI t (joinI t 0 (9 * a + b)) 90, hf, f1, centreB_iff.2 fun l l0 l1 ho => ?_⟩
  have hl : In91 l := ⟨l0, l1⟩
  by_cases e90 : l = 90
  · subst e90
    exact toLine_eq hm hl hl (p := 81) (q := 90) ⟨by omega, by omega⟩ ⟨by omega, by omega⟩ (by omega) (on90 (by omega)) (on90 (by omega)) (by rw [shift_far (by omega) (by omega)]; exact on90 (by omega)) (by rw [shift_far (by omega) (by omega)]; exact on90 (by omega))
  · obtain ⟨x, y, hx, hy, _, hxy⟩ := near_on h l0 (by omega)
    have hr : nearP (9 * x + y) := ⟨by have := hx.1; have := hy.1; omega, by have := hx.2; have := hy.2; omega⟩
    obtain ⟨k, hk, k1, k2, k3⟩ := shift_line h (p := 0) (q := 9 * a + b) (r := 9 * x + y) ⟨by omega, by omega⟩ hv hr ⟨j0, j1⟩ hf f1 j2 j3 f2 hv0
    rw [addP_zero hv] at k2
    have e2 : addP (9 * x + y) (9 * a + b) = rd (shiftL a b) (9 * x + y) := by
      rw [shift_near hx.1 hx.2 hy.1 hy.2]
      have := ha.1; have := ha.2; have := hb.1; have := hb.2
      have := hx.1; have := hx.2; have := hy.1; have := hy.2
      unfold addP
      rw [show (9 * x + y) / 9 = x by omega, show (9 * a + b) / 9 = a by omega, show (9 * x + y) % 9 = y by omega, show (9 * a + b) % 9 = b by omega]
    rw [e2] at k2
    have ek : k = l := join_uniq h (p := 9 * x + y) (q := meetI t (joinI t 0 (9 * a + b)) 90) hr.1 (by have := hr.2; omega) f0 f1 (by have := hr.2; omega) hk.1 hk.2 hl.1 hl.2 k1 k3 hxy ho
    rw [ek] at k2
    exact toLine_eq hm hl hl (p := 9 * x + y) (q := meetI t (joinI t 0 (9 * a + b)) 90) ⟨hr.1, by have := hr.2; omega⟩ ⟨f0, f1⟩ (by have := hr.2; omega) hxy ho k2 (by rw [shift_far hf f1]; exact ho)
end Go.Proofs.Ytcbkoecanldlpaa.X

set_option linter.unusedVariables false
set_option linter.unusedSimpArgs false
namespace Go.Proofs.Ytcbkoecanldlpaa.X
open Go.RowKit Go.Proofs.YtcbkoecanldlpaaW.PrintWords Go.Proofs.YtcbkoecanldlpaaW.PrintLast Go.Proofs.Ytcbkoecanldlpaa.P

end Go.Proofs.Ytcbkoecanldlpaa.X

set_option linter.unusedVariables false
set_option linter.unusedSimpArgs false
namespace Go.Proofs.Ytcbkoecanldlpaa.X
open Go.RowKit Go.Proofs.YtcbkoecanldlpaaW.PrintWords Go.Proofs.YtcbkoecanldlpaaW.PrintLast Go.Proofs.Ytcbkoecanldlpaa.P

structure Ker (t : List Int) (k : Int) : Prop where
  sys : sysB t = true
  k0 : 0 < k
  k1 : k < 9
  mul : ∀ a b : Int, In9 a → In9 b → rd t (9 * k + rd t (9 * a + b)) = rd t (9 * rd t (9 * k + a) + b)
  add : ∀ a b : Int, In9 a → In9 b → rd t (9 * k + addN a b) = addN (rd t (9 * k + a)) (rd t (9 * k + b))
theorem ker_of {t : List Int} {k : Int} (h : stretchOk t k = true) : Ker t k := by
  unfold stretchOk at h
  simp only [Bool.and_eq_true, bne_iff_ne, ne_eq, decide_eq_true_eq] at h
  obtain ⟨hs, hk, hm⟩ := h
  obtain ⟨h0, h1, h2⟩ := mem_filI.1 hm
  have hk9 : k < 9 := h1
  have := all3_iff.1 h2
  refine ⟨hs, by omega, hk9, fun a b ha hb => ?_, fun a b ha hb => ?_⟩
  · have := this a b 0 ha hb ⟨by omega, by omega⟩
    unfold kerB at this
    rw [Bool.and_eq_true, beq_iff_eq, beq_iff_eq] at this
    exact this.1
  · have := this a b 0 ha hb ⟨by omega, by omega⟩
    unfold kerB at this
    rw [Bool.and_eq_true, beq_iff_eq, beq_iff_eq] at this
    exact this.2
section
variable {t : List Int} {k : Int}
def mulK (t : List Int) (k x : Int) : Int := rd t (9 * k + x)
theorem Ker.rng (h : Ker t k) {x : Int} (hx : In9 x) : In9 (mulK t k x) := sys_range h.sys (by have := h.k0; omega) h.k1 hx.1 hx.2
theorem Ker.inj (h : Ker t k) {x y : Int} (hx : In9 x) (hy : In9 y) (e : mulK t k x = mulK t k y) : x = y := row_inj h.sys h.k0 h.k1 hx.1 hx.2 hy.1 hy.2 e
theorem Ker.zero (h : Ker t k) : mulK t k 0 = 0 := by
  unfold mulK
  rw [show 9 * k + 0 = 9 * k by omega]
  exact (sys_units h.sys (by have := h.k0; omega) h.k1).2.1
theorem stretch_eq (t : List Int) (k : Int) : stretchL t k = moveL fun x y => 9 * mulK t k x + mulK t k y := rfl
theorem stretch_near {x y : Int} (hx : In9 x) (hy : In9 y) : rd (stretchL t k) (9 * x + y) = 9 * mulK t k x + mulK t k y := by
  rw [stretch_eq]; exact moveL_near _ hx.1 hx.2 hy.1 hy.2
theorem stretch_far {p : Int} (p0 : 81 ≤ p) (p1 : p < 91) : rd (stretchL t k) p = p := by rw [stretch_eq]; exact moveL_far _ p0 p1
theorem Ker.perm (h : Ker t k) : permB (stretchL t k) = true := by
  rw [stretch_eq]
  exact moveL_perm (mulK t k) (mulK t k) (fun x hx => h.rng hx) (fun x hx => h.rng hx) (fun x y hx hy e => h.inj hx hy e) (fun x y hx hy e => h.inj hx hy e)
def stretchLine (t : List Int) (k l : Int) : Int := if l < 81 then 9 * (l / 9) + mulK t k (l % 9) else if l < 90 then 81 + mulK t k (l - 81) else l
theorem Ker.move (h : Ker t k) : moveB t (stretchL t k) = true := by
  refine move_of h.sys h.perm (stretchLine t k) (fun l hl => ?_) fun p l hp hl ho => ?_
  · obtain ⟨l0, l1⟩ := hl
    unfold stretchLine
    split
    · have r := h.rng (x := l % 9) ⟨by omega, by omega⟩
      obtain ⟨r0, r1⟩ := r
      exact ⟨by omega, by omega⟩
    · split
      · have r := h.rng (x := l - 81) ⟨by omega, by omega⟩
        obtain ⟨r0, r1⟩ := r
        exact ⟨by omega, by omega⟩
      · exact ⟨by omega, by omega⟩
  · rcases line_cases hl.1 hl.2 with ⟨m, c, m0, m1, c0, c1, rfl⟩ | ⟨c, c0, c1, rfl⟩ | rfl
    · have rc := h.rng (x := c) ⟨c0, c1⟩
      have e : stretchLine t k (9 * m + c) = 9 * m + mulK t k c := by
        unfold stretchLine
        rw [if_pos (by omega), show (9 * m + c) / 9 = m by omega, show (9 * m + c) % 9 = c by omega]
      rw [e]
      rcases point_cases hp.1 hp.2 with ⟨x, y, x0, x1, y0, y1, rfl⟩ | h81
      · rw [on_near x0 x1 y0 y1 m0 m1 c0 c1] at ho
        have rx := h.rng (x := x) ⟨x0, x1⟩
        have ry := h.rng (x := y) ⟨y0, y1⟩
        rw [stretch_near ⟨x0, x1⟩ ⟨y0, y1⟩, on_near rx.1 rx.2 ry.1 ry.2 m0 m1 rc.1 rc.2, ho]
        have h1 := h.add (rd t (9 * x + m)) c (sys_range h.sys x0 x1 m0 m1) ⟨c0, c1⟩
        have h2 := h.mul x m ⟨x0, x1⟩ ⟨m0, m1⟩
        unfold mulK
        rw [h1, h2]
      · rw [stretch_far h81 hp.2]
        exact (on_far h81 m0 m1 rc.1 rc.2).2 ((on_far h81 m0 m1 c0 c1).1 ho)
    · have rc := h.rng (x := c) ⟨c0, c1⟩
      have e : stretchLine t k (81 + c) = 81 + mulK t k c := by
        unfold stretchLine
        rw [if_neg (by omega), if_pos (by omega), show 81 + c - 81 = c by omega]
      rw [e]
      rcases point_cases hp.1 hp.2 with ⟨x, y, x0, x1, y0, y1, rfl⟩ | h81
      · rw [on_vert x0 x1 y0 y1 c0 c1] at ho
        have rx := h.rng (x := x) ⟨x0, x1⟩
        have ry := h.rng (x := y) ⟨y0, y1⟩
        rw [stretch_near ⟨x0, x1⟩ ⟨y0, y1⟩, on_vert rx.1 rx.2 ry.1 ry.2 rc.1 rc.2, ho]
      · rw [stretch_far h81 hp.2]
        exact (on_far_vert h81 rc.1 rc.2).2 ((on_far_vert h81 c0 c1).1 ho)
    · have h81 := on_inf.1 ho
      have e : stretchLine t k 90 = 90 := by unfold stretchLine; rw [if_neg (by omega), if_neg (by omega)]
      rw [e, stretch_far h81 hp.2]; exact ho
theorem Ker.fix (h : Ker t k) (hk : k ≠ 1) {x : Int} (hx : In9 x) (e : mulK t k x = x) : x = 0 := by
  rcases Decidable.em (x = 0) with h0 | h0
  · exact h0
  · exfalso
    have u := sys_units h.sys hx.1 hx.2
    have rk := sys_range h.sys (x := k) (m := x) (by have := h.k0; omega) h.k1 hx.1 hx.2
    have := diff_inj h.sys (c := x) (d := 0) (x := k) (y := 1) hx.1 hx.2 (by omega) (by omega) h0 (by have := h.k0; omega) h.k1 (by omega) (by omega) (by
      unfold diffI
      have e1 : rd t (9 * k + x) = x := e
      have z1 : rd t (9 * k + 0) = 0 := h.zero
      have z2 : rd t (9 * 1 + 0) = 0 := by have := (sys_units h.sys (a := 1) (by omega) (by omega)).2.1; exact this
      have z3 : rd t (9 * 1 + x) = x := by have := u.2.2.1; rw [show 9 * (1 : Int) + x = 9 + x by omega]; exact this
      rw [e1, z1, z2, z3])
    exact hk this
theorem Ker.centre (h : Ker t k) : centreI t (stretchL t k) = 0 := by
  unfold centreI
  refine firstI_some 0 (by omega) (by omega) (centreB_iff.2 fun l l0 l1 ho => ?_) fun j j0 j1 => by omega
  have hl : In91 l := ⟨l0, l1⟩
  have z : rd (stretchL t k) 0 = 0 := by
    have := stretch_near (t := t) (k := k) (x := 0) (y := 0) ⟨by omega, by omega⟩ ⟨by omega, by omega⟩
    rw [h.zero] at this
    exact this
  have hn90 : l ≠ 90 := fun e => by rw [e] at ho; have := on_inf.1 ho; omega
  obtain ⟨f0, f1, f2, f3⟩ := meetI_spec h.sys l0 l1 (by omega : (0 : Int) ≤ 90) (by omega) hn90
  have hf := on_inf.1 f3
  exact toLine_eq h.move hl hl (p := 0) (q := meetI t l 90) ⟨by omega, by omega⟩ ⟨f0, f1⟩ (by omega) ho f2 (by rw [z]; exact ho) (by rw [stretch_far hf f1]; exact f2)
def powK (t : List Int) (k : Int) : Nat → Int → Int
  | 0, x => x
  | n + 1, x => mulK t k (powK t k n x)
theorem Ker.pow_in (h : Ker t k) (n : Nat) {x : Int} (hx : In9 x) : In9 (powK t k n x) := by
  induction n with
  | zero => exact hx
  | succ n ih => exact h.rng ih
theorem Ker.it (h : Ker t k) (n : Nat) {x y : Int} (hx : In9 x) (hy : In9 y) : itI (stretchL t k) n (9 * x + y) = 9 * powK t k n x + powK t k n y := by
  induction n with
  | zero => rfl
  | succ n ih =>
    show rd (stretchL t k) (itI (stretchL t k) n (9 * x + y)) = _
    rw [ih, stretch_near (h.pow_in n hx) (h.pow_in n hy)]; rfl
end
end Go.Proofs.Ytcbkoecanldlpaa.X

set_option linter.unusedVariables false
set_option linter.unusedSimpArgs false
namespace Go.Proofs.Ytcbkoecanldlpaa.X
open Go.RowKit Go.Proofs.YtcbkoecanldlpaaW.PrintWords Go.Proofs.YtcbkoecanldlpaaW.PrintLast Go.Proofs.Ytcbkoecanldlpaa.P

theorem line_far {t : List Int} {l : Int} (hl : In91 l) (h90 : l ≠ 90) : ∃ f, 81 ≤ f ∧ f < 91 ∧ onB t f l = true := by
  rcases line_cases hl.1 hl.2 with ⟨m, b, m0, m1, b0, b1, rfl⟩ | ⟨c, c0, c1, rfl⟩ | rfl
  · exact ⟨81 + m, by omega, by omega, (on_far (by omega) m0 m1 b0 b1).2 rfl⟩
  · exact ⟨90, by omega, by omega, (on_far_vert (by omega) c0 c1).2 rfl⟩
  · exact absurd rfl h90
theorem fix_centre {t m : List Int} (h : moveB t m = true) (hf : ∀ p, 81 ≤ p → p < 91 → rd m p = p) {c : Int} (c0 : 0 ≤ c) (c1 : c < 81) (hc : rd m c = c) : centreB t m c = true := by
  refine centreB_iff.2 fun l l0 l1 ho => ?_
  have hl : In91 l := ⟨l0, l1⟩
  have h90 : l ≠ 90 := fun e => by rw [e] at ho; have := on_inf.1 ho; omega
  obtain ⟨f, f0, f1, fo⟩ := line_far (t := t) hl h90
  exact toLine_eq h hl hl (p := c) (q := f) ⟨c0, by omega⟩ ⟨by omega, f1⟩ (by omega) ho fo (by rw [hc]; exact ho) (by rw [hf f f0 f1]; exact fo)
theorem first_pos {n : Nat} {p : Int → Bool} {i : Int} (i0 : 0 ≤ i) (i1 : i < n) (h : p i = true) : 0 ≤ firstI n p := (firstI_spec i i0 i1 h).1
theorem two_mul {t : List Int} (h : sysB t = true) {x : Int} (hx : In9 x) : mulK t 2 x = addN x x := by
  have hu := sys_units h hx.1 hx.2
  have := sys_share h (a := 1) (b := 1) (c := x) (by omega) (by omega) (by omega) (by omega) hx.1 hx.2
  have e : addN 1 1 = 2 := by decide
  rw [e] at this
  unfold mulK
  rw [this, show 9 * (1 : Int) + x = 9 + x by omega, hu.2.2.1]
theorem four_add {x : Int} (hx : In9 x) : addN (addN x x) (addN x x) = x := nine1 (P := fun x => addN (addN x x) (addN x x) = x) (by decide +kernel) x hx.1 hx.2
theorem base_far {t m : List Int} (h : BaseM t m) (hs : sysB t = true) : ∀ p, 81 ≤ p → p < 91 → rd m p = p := by
  rcases h with ⟨h, _⟩ | ⟨_, ⟨a, b, _, _, rfl⟩ | ⟨k, _, rfl⟩⟩
  · rw [hs] at h; exact absurd h (by decide)
  · exact fun p p0 p1 => shift_far p0 p1
  · exact fun p p0 p1 => stretch_far p0 p1
theorem drawn_both {t m : List Int} (hm : DrawnM t m) (h : moveB t m = true) : 0 ≤ centreI t m ∧ 0 ≤ axisI t m := by
  obtain ⟨hs, pm, _⟩ := moveB_parts h
  obtain ⟨m', h1, h2⟩ := hm
  have hl : m'.length = 91 := by rw [midM_len h1, if_pos hs]
  have e : m = m' := by
    rcases h2 with h2 | ⟨_, h2⟩
    · exact h2
    · exfalso
      have a := rd_setC (l := m') (i := 0) (j := 0) (v := rd m' 1) (by omega) (by omega) (by omega)
      have b := rd_setC (l := m') (i := 0) (j := 1) (v := rd m' 1) (by omega) (by omega) (by omega)
      rw [if_pos rfl] at a
      rw [if_neg (by omega)] at b
      have a : rd m 0 = rd m' 1 := by rw [h2]; exact a
      have b : rd m 1 = rd m' 1 := by rw [h2]; exact b
      have := perm_inj pm (p := 0) (q := 1) ⟨by omega, by omega⟩ ⟨by omega, by omega⟩ (a.trans b.symm)
      omega
  subst e
  have far : ∀ p, 81 ≤ p → p < 91 → rd m p = p := by
    rcases h1 with h1 | ⟨m0, b0, _, _, rfl⟩
    · exact base_far h1 hs
    · intro p p0 p1
      rw [behL_rd _ _ ⟨by omega, p1⟩, base_far b0 hs p p0 p1, stretch_far p0 p1]
  refine ⟨?_, first_pos (i := 90) (by omega) (by omega) (axis90 far)⟩
  unfold centreI
  rcases h1 with h1 | ⟨m0, b0, _, k2, rfl⟩
  · rcases h1 with ⟨h1, _⟩ | ⟨_, ⟨a, b, ha, hb, rfl⟩ | ⟨k, hk, rfl⟩⟩
    · rw [hs] at h1; exact absurd h1 (by decide)
    · by_cases hz : a = 0 ∧ b = 0
      · refine first_pos (i := 0) (by omega) (by omega) (fix_centre h far (by omega) (by omega) ?_)
        have := shift_near (a := a) (b := b) (x := 0) (y := 0) (by omega) (by omega) (by omega) (by omega)
        rw [hz.1, hz.2] at this ⊢
        exact this
      · obtain ⟨f, f0, f1, hf⟩ := shift_centre hs ha hb hz
        exact first_pos (i := f) (by omega) (by omega) hf
    · have := (ker_of hk).centre
      unfold centreI at this
      rw [this]; omega
  · have K := ker_of k2
    rcases b0 with ⟨b0, _⟩ | ⟨_, ⟨a, b, ha, hb, rfl⟩ | ⟨k, hk, rfl⟩⟩
    · rw [hs] at b0; exact absurd b0 (by decide)
    · refine first_pos (i := 9 * a + b) (by have := ha.1; have := hb.1; omega) (by have := ha.2; have := hb.2; omega) (fix_centre h far (by have := ha.1; have := hb.1; omega) (by have := ha.2; have := hb.2; omega) ?_)
      rw [behL_rd _ _ ⟨by have := ha.1; have := hb.1; omega, by have := ha.2; have := hb.2; omega⟩, shift_near ha.1 ha.2 hb.1 hb.2, stretch_near (addN_range a a) (addN_range b b), two_mul hs (addN_range a a), two_mul hs (addN_range b b), four_add ha, four_add hb]
    · refine first_pos (i := 0) (by omega) (by omega) (fix_centre h far (by omega) (by omega) ?_)
      have z : In9 0 := ⟨by omega, by omega⟩
      have e1 := stretch_near (t := t) (k := k) (x := 0) (y := 0) z z
      have e2 := stretch_near (t := t) (k := 2) (x := 0) (y := 0) z z
      rw [(ker_of hk).zero] at e1
      rw [K.zero] at e2
      rw [behL_rd _ _ ⟨by omega, by omega⟩]
      have e1 : rd (stretchL t k) 0 = 0 := e1
      have e2 : rd (stretchL t 2) 0 = 0 := e2
      rw [e1, e2]
end Go.Proofs.Ytcbkoecanldlpaa.X

set_option linter.unusedVariables false
set_option linter.unusedSimpArgs false
namespace Go.Proofs.Ytcbkoecanldlpaa.X
open Go.RowKit Go.Proofs.YtcbkoecanldlpaaW.PrintWords Go.Proofs.YtcbkoecanldlpaaW.PrintLast Go.Proofs.Ytcbkoecanldlpaa.P

def backR (t m : List Int) : List Int × Bool := if moveB t m = true then (backL m, true) else ([], false)
theorem implBack_l0 {m : List Int} (hm : permB m = true) (d : Nat) : ∀ n : Nat, n + d = 91 → Ev (fun k => impl_MoveBack.l0 k (backN m n) m 91 (n : Int)) (backL m, true) := by
  induction d with
  | zero =>
    intro n h1
    have e : n = 91 := by omega
    subst e
    refine Ev.step (fun k => by rw [impl_MoveBack.l0]) ?_
    exact Ev.neg (by omega) (Ev.done rfl)
  | succ d ih =>
    intro n h1
    obtain ⟨a0, a1⟩ := perm_rd hm (p := (n : Int)) ⟨by omega, by omega⟩
    have hl := permB_len hm
    have hb := backN_length m n
    have nx := ih (n + 1) (by omega)
    have z : wrap64 ((n : Int) + 1) = ((n + 1 : Nat) : Int) := by rw [w64 (by omega) (by omega)]; rfl
    refine Ev.step (fun k => by rw [impl_MoveBack.l0]) ?_
    rw [z]
    exact Ev.pos (by omega) (Ev.pos (by omega) (Ev.pos (by omega) (Ev.pos a0 (Ev.pos (by omega) nx))))
theorem implBack_ev {t m : List Int} (hm : m.length ≤ 1048576) : Ev (fun k => impl_MoveBack.f k t m) (backR t m) := by
  unfold impl_MoveBack.f backR
  refine Ev.fix (show impl_isMove.f t m = some (moveB t m) from if_pos hm) ?_
  by_cases hs : moveB t m = true
  · rw [if_pos hs]
    have hp := (moveB_parts hs).2.1
    have hl := permB_len hp
    refine Ev.pos hs (Ev.pos (by omega) ?_)
    rw [hl]
    exact implBack_l0 hp 91 0 (by omega)
  · rw [if_neg hs]
    exact Ev.neg hs (Ev.done rfl)
end Go.Proofs.Ytcbkoecanldlpaa.X

set_option linter.unusedVariables false
set_option linter.unusedSimpArgs false
namespace Go.Proofs.Ytcbkoecanldlpaa.Pure
open Go.RowKit Go.Proofs.Ytcbkoecanldlpaa.P Go.Proofs.YtcbkoecanldlpaaW.PrintWords Go.Proofs.YtcbkoecanldlpaaW.PrintLast Go.Proofs.Ytcbkoecanldlpaa.X

theorem move_l0 {t m : List Int} (h : moveB t m = true) (hm : DrawnM t m) (d : Nat) : ∀ i : Int, 0 ≤ i → i + d = 91 → Ev (fun k => laws_FnMove.l0 k t m true (behL m (backL m)) true i) true := by
  obtain ⟨hs, pm, _⟩ := moveB_parts h
  have hlen : (behL m (backL m)).length = 91 := mapI_length _ _
  induction d with
  | zero =>
    intro i i0 i1
    have hb := drawn_both hm h
    refine Ev.step (fun k => by rw [laws_FnMove.l0]) ?_
    refine Ev.neg (by omega) (Ev.pos rfl (Ev.pos rfl (Ev.pos (by omega) ?_)))
    refine Ev.fix (show impl_MoveCentre.f t m = some (centreR t m) from rfl) (Ev.fix (show impl_MoveAxis.f t m = some (axisR t m) from rfl) (Ev.done ?_))
    rw [show centreR t m = centreI t m from if_pos h, show axisR t m = axisI t m from if_pos h, decide_eq_true hb.1, decide_eq_true hb.2]
    rfl
  | succ d ih =>
    intro i i0 i1
    have hi : In91 i := ⟨i0, by omega⟩
    refine Ev.step (fun k => by rw [laws_FnMove.l0]) ?_
    rw [w64 (x := i + 1) (by omega) (by omega)]
    exact Ev.pos (by omega) (Ev.pos i0 (Ev.pos (by rw [behL_rd _ _ hi, back_rd pm hi]) (ih (i + 1) (by omega) (by omega))))
theorem FnMove : laws_FnMove.Pure := by
  intro l0 _ _ hu
  refine Ev.rounds ?_
  unfold laws_FnMove.f
  by_cases hb : (l0.length : Int) > 1048576
  · exact Ev.pos hb (Ev.done rfl)
  refine Ev.neg hb ?_
  obtain ⟨t, m, ht, hm, e⟩ := moved_ev l0 hu
  have htl := ht.len
  have hml := hm.len
  refine Ev.bind (Ev.bind e (Ev.done rfl) : Ev (fun k => spec_DrawMoveIn.f k l0) (t, m)) ?_
  dsimp only
  have hin : impl_MoveIn.f t m = some (moveB t m) := by
    unfold impl_MoveIn.f
    rw [show impl_isMove.f t m = some (moveB t m) from if_pos (by omega)]; rfl
  refine Ev.fix hin (Ev.bind (MoveIn_ev (t := t) (m := m) (by omega) (by omega)) (Ev.neg (by simp) ?_))
  refine Ev.step (fun k => by rw [laws_FnMove.j0]) ?_
  by_cases h : moveB t m = true
  case neg =>
    rw [Bool.eq_false_iff.2 h]
    exact Ev.pos (by decide) (Ev.done rfl)
  refine Ev.neg (by rw [h]; decide) ?_
  have hbl : (backL m).length ≤ 1048576 := by rw [backL_length]; omega
  have e1 := implBack_ev (t := t) (m := m) (by omega)
  rw [show backR t m = (backL m, true) from if_pos h] at e1
  have e2 := implTimes_ev (t := t) (m := m) (n := backL m) (by omega) hbl
  rw [show timesR t m (backL m) = (behL m (backL m), true) by unfold timesR; rw [h, back_move h]; rfl] at e2
  refine Ev.bind e1 ?_
  dsimp only
  refine Ev.bind e2 ?_
  dsimp only
  exact move_l0 h hm 91 0 (by omega) (by omega)
end Go.Proofs.Ytcbkoecanldlpaa.Pure

namespace Go.Proofs.Ytcbkoecanldlpaa.fnMove
open Go.ChangeShapes Go.WideShapes Go.ChangeAt Go.RowKit
open Go.ChangeMaps (open_string shut_string)
set_option linter.unusedVariables false
theorem own : ownKnob Try.prog.godebug = none := by kernel_rfl
theorem laidOut : laidOutB Try.prog = true := by kernel_rfl
def IsRow (k : IntKind) (w : World) (a : Option Addr) (len cap : Nat) (zs : List Int) : Prop :=
  (a = none ∧ len = 0 ∧ cap = 0 ∧ zs = []) ∨
  ∃ x, a = some x ∧ len ≤ cap ∧ cap ≤ maxLen ∧ zs.length = cap ∧ (∀ i, i < zs.length → w.cell? (x.add i) = some (.int k (zs.getD i 0))) ∧ ∀ n ∈ zs, (Lit.int k n).wf = true
set_option maxRecDepth 100000 in
theorem lifted (os : Os) (started : os.Started) (H : Type) (enc : TypeId × Value → H) :
    ReturnsInHanded {} Try.checked os 14 .any (Rows.fnMoveSpec.pre6 enc Try.prog Try.f14 Rows.fnMoveRow.domain false) (Rows.fnMoveSpec.post enc Try.prog Try.f14 false true false false) := by
  refine returnsInHanded_of_change_sized (C := Try.checked) own started (by kernel_rfl) Try.func14
    (ChangeSpec.witness6 (enc := enc) (C := Try.checked) false ⟨#[], #[.slice none 0 0], []⟩ 8 (by kernel_rfl) (by kernel_rfl) (by kernel_rfl) (by kernel_rfl)) ?_
  intro W base args ds gs before hval0 hW hcnd hsz0 _
  have hsz : (DataW.weightsEach Try.prog (Try.f14.params.toList ++ Rows.fnMoveSpec.plain.varTypes Try.prog) (ds ++ gs)).all (· ≤ reachBytes) = true := hsz0
  have hval : ∀ (j : Nat) t v, Try.f14.params[j]? = some t → args[j]? = some v → Value.okWide Try.prog W .any base t v := hval0
  have hW' := hW
  obtain ⟨p, q, hA0, hV, rfl, hfz, hnd⟩ := hW
  have hA : DataW.TrodAll enc Try.prog W 0 (fun _ => true) true Try.f14.params.toList args.toList ds p := hA0
  rw [Try.params14] at hA hval hsz
  obtain ⟨v0, vs0, d0, ds0, p0, q0, hargs, rfl, rfl, h0, r0⟩ := trodAll_cons hA
  obtain ⟨rfl, rfl, rfl⟩ := trodAll_nil r0
  obtain rfl : args = #[v0] := by cases args; simp_all
  obtain ⟨rfl, rfl⟩ := trodVars_none hV
  obtain ⟨a0, len0, cap0, rfl⟩ := okWide_slice Try.underlying22 (hval 0 22 v0 rfl rfl)
  have k0 := h0
  have lt0 : ∀ x ∈ p0, x.block < W.heap.size := by obtain ⟨m, hm⟩ := k0; exact DataW.trod_lt m _ _ _ hm
  obtain ⟨z0, w0⟩ : ∃ zs, IsRow .u8 W a0 len0 cap0 zs := by
    obtain ⟨fuel, hf⟩ := h0
    rcases open_ints Try.underlying22 Try.underlying5 (by kernel_rfl) hf with ⟨hcs, _⟩ | ⟨x, l, c, zs, hcs, _, hl, hm, hz, _, hcell, hwz⟩
    · simp [Value.cells] at hcs
      obtain ⟨rfl, rfl, rfl⟩ := hcs
      exact ⟨[], .inl ⟨rfl, rfl, rfl, rfl⟩⟩
    · simp [Value.cells] at hcs
      obtain ⟨rfl, rfl, rfl⟩ := hcs
      exact ⟨zs, .inr ⟨_, rfl, hl, hm, by simpa using hz, hcell, hwz⟩⟩
  have y0 : len0 * 1 ≤ 140737488351232 := Go.Proofs.YtcbkoecanldlpaaW.PrintWords.sized_ints hsz (j := 0) (t := 22) rfl rfl Try.underlying22 Try.underlying5 (by kernel_rfl) (by kernel_rfl) h0
  clear hA0 hval0 hsz0 hsz
  refine (P.laws_FnMove.walk Pure.FnMove a0 len0 cap0 z0 W w0 y0).mono fun e W' ⟨he, bel⟩ => ?_
  subst he
  exact ⟨_, rfl, _, _, _, [], _, [], hW', trodAll_mk1 (shut_bool Try.underlying4 _), (trodAll_cons_mk (Below.trod laidOut (by kernel_rfl) (of_decide_eq_true (by kernel_rfl)) k0 bel lt0) trodAll_mk0), rfl, bel.frame _, fun h => by cases h⟩
theorem over : Rows.fnMoveRow.holds Try.pinned (OpenSpec.ofChange Rows.fnMoveSpec) :=
  OpenClaim.holds_of_wide 14 Try.f14 rfl rfl rfl rfl rfl rfl rfl ⟨rfl, rfl, rfl, rfl, rfl⟩ rfl rfl rfl rfl rfl (by kernel_rfl) Try.func14 (by kernel_rfl)
    (of_decide_eq_true (by kernel_rfl)) (by unfold Func.isWrapper; first | (rw [if_pos (by decide +kernel)]; kernel_rfl) | (rw [if_neg (by decide +kernel)]; exact ⟨rfl, rfl⟩))
    (fun os started H enc _ => lifted os started H enc)
theorem proved : Rows.FnMoveSaid := over
#print axioms proved
end Go.Proofs.Ytcbkoecanldlpaa.fnMove
namespace Go.Proofs.Ytcbkoecanldlpaa
theorem fnMove_holds : Rows.FnMoveSaid := fnMove.proved
end Go.Proofs.Ytcbkoecanldlpaa
