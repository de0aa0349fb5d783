/- The law FnExactMoveBack of the given program: for every input the call returns true, and each argument reads afterwards as it read before. No conditions. (Part 3 of 3; the last part holds the theorem.) -/
import Derived.Test.YtckipgldmkboiaaMFnExactMoveBack0
import Derived.Test.YtckipgldmkboiaaMFnExactMoveBack1
import Derived.Test.YtckipgldmkboiaaRows
import Derived.WalkKit
import Derived.ProofKit
import Derived.OpenShut
import Derived.ShutString
import Derived.ChangeOld
import Derived.Below
import Derived.SizedLaws
import Derived.Test.YtckipgldmkboiaaWSized
set_option linter.unusedVariables false
set_option linter.unusedSimpArgs false
namespace Go.Proofs.Ytckipgldmkboiaa.X
open Go.RowKit Go.Proofs.YtckipgldmkboiaaW.PrintWords

theorem off_ex (t : List Int) {l : Int} (hl : In91 l) : ∃ q, In91 q ∧ onB t q l = false := by
  rcases line_cases hl.1 hl.2 with ⟨m, b, m0, m1, b0, b1, rfl⟩ | ⟨c, c0, c1, rfl⟩ | rfl
  · refine ⟨90, ⟨by omega, by omega⟩, Bool.eq_false_iff.2 fun h => ?_⟩
    have := (on_far (by omega) m0 m1 b0 b1).1 h; omega
  · refine ⟨81, ⟨by omega, by omega⟩, Bool.eq_false_iff.2 fun h => ?_⟩
    have := (on_far_vert (by omega) c0 c1).1 h; omega
  · refine ⟨0, ⟨by omega, by omega⟩, Bool.eq_false_iff.2 fun h => ?_⟩
    have := on_inf.1 h; omega
theorem perm_rd {m : List Int} (hm : permB m = true) {p : Int} (hp : In91 p) : In91 (rd m p) :=
  diffB_pt (permB_diff hm) hp.1 (by have := permB_len hm; have := hp.2; omega)
theorem perm_inj {m : List Int} (hm : permB m = true) {p q : Int} (hp : In91 p) (hq : In91 q) (e : rd m p = rd m q) : p = q :=
  diffB_inj (permB_diff hm) hp.1 (by have := permB_len hm; have := hp.2; omega) hq.1 (by have := permB_len hm; have := hq.2; omega) e
theorem perm_onto {m : List Int} (hm : permB m = true) {q : Int} (hq : In91 q) : ∃ p, In91 p ∧ rd m p = q := by
  obtain ⟨i, hi, he⟩ := pigeon 91 (fun i => (rd m (i : Int)).toNat) (fun i h => by obtain ⟨u0, u1⟩ := perm_rd hm (p := (i : Int)) ⟨by omega, by omega⟩; omega)
    (fun i j h h' e => by
      have a := perm_rd hm (p := (i : Int)) ⟨by omega, by omega⟩
      have b := perm_rd hm (p := (j : Int)) ⟨by omega, by omega⟩
      have a0 := a.1; have b0 := b.1
      have := perm_inj hm (p := (i : Int)) (q := (j : Int)) ⟨by omega, by omega⟩ ⟨by omega, by omega⟩ (by omega)
      omega) q.toNat (by have := hq.1; have := hq.2; omega)
  have a := (perm_rd hm (p := (i : Int)) ⟨by omega, by omega⟩).1
  have := hq.1
  exact ⟨i, ⟨by omega, by omega⟩, by omega⟩
theorem toLine_in {t m : List Int} (h : moveB t m = true) {l : Int} (hl : In91 l) : In91 (toLine t m l) := by
  obtain ⟨hs, hm, _⟩ := moveB_parts h
  exact (toLine_spec hs hm hl).2.2.2
theorem toLine_on {t m : List Int} (h : moveB t m = true) {l p : Int} (hl : In91 l) (hp : In91 p) (ho : onB t p l = true) : onB t (rd m p) (toLine t m l) = true := by
  obtain ⟨hs, hm, hk⟩ := moveB_parts h
  have := hk l hl.1 hl.2
  unfold lineOk at this
  rw [Bool.not_eq_true', List.any_eq_false] at this
  have := this p (mem_pointsL.2 ⟨hp.1, hp.2, ho⟩)
  simpa using this
/-- A line on which the images of two points of l are is the image of l. -/
theorem toLine_eq {t m : List Int} (h : moveB t m = true) {l k p q : Int} (hl : In91 l) (hk : In91 k) (hp : In91 p) (hq : In91 q) (hne : p ≠ q) (p1 : onB t p l = true) (q1 : onB t q l = true) (p2 : onB t (rd m p) k = true) (q2 : onB t (rd m q) k = true) : toLine t m l = k := by
  obtain ⟨hs, hm, _⟩ := moveB_parts h
  have a := perm_rd hm hp
  have b := perm_rd hm hq
  have c := toLine_in h hl
  exact join_uniq hs a.1 a.2 b.1 b.2 (fun e => hne (perm_inj hm hp hq e)) c.1 c.2 hk.1 hk.2 (toLine_on h hl hp p1) (toLine_on h hl hq q1) p2 q2
theorem two_pts {t : List Int} (h : sysB t = true) {l : Int} (hl : In91 l) : ∃ a b, In91 a ∧ In91 b ∧ a ≠ b ∧ onB t a l = true ∧ onB t b l = true := by
  have h2 := pointsL_two h hl.1 hl.2
  have a := pointsL_rd (t := t) (l := l) (i := 0) (by omega) (by omega)
  have b := pointsL_rd (t := t) (l := l) (i := 1) (by omega) (by omega)
  have hlt := filI_lt (n := 91) (p := fun p => onB t p l) (i := 0) (j := 1) (by omega) (by omega) (show (1 : Int) < (pointsL t l).length by omega)
  exact ⟨_, _, a.1, b.1, fun e => by have h3 : rd (pointsL t l) 0 < rd (pointsL t l) 1 := hlt; omega, a.2, b.2⟩
/-- A point is on a line exactly if its image is on the line's. -/
theorem toLine_iff {t m : List Int} (h : moveB t m = true) {l p : Int} (hl : In91 l) (hp : In91 p) : onB t (rd m p) (toLine t m l) = onB t p l := by
  obtain ⟨hs, hm, _⟩ := moveB_parts h
  cases e : onB t p l with
  | true => exact toLine_on h hl hp e
  | false =>
    refine Bool.eq_false_iff.2 fun hon => ?_
    have hL := toLine_in h hl
    obtain ⟨z, hz, hzo⟩ := off_ex t hL
    obtain ⟨q, hq, hqz⟩ := perm_onto hm hz
    by_cases hqp : q = p
    · rw [hqp] at hqz; rw [hqz, hzo] at hon; exact absurd hon (by decide)
    · obtain ⟨k0, k1, kq, kp⟩ := joinI_spec hs hq.1 hq.2 hp.1 hp.2 hqp
      have hkl : joinI t q p ≠ l := fun ee => by rw [ee, e] at kp; exact absurd kp (by decide)
      obtain ⟨a0, a1, ak, al⟩ := meetI_spec hs k0 k1 hl.1 hl.2 hkl
      have hap : meetI t (joinI t q p) l ≠ p := fun ee => by rw [ee, e] at al; exact absurd al (by decide)
      have e2 := toLine_eq h ⟨k0, k1⟩ hL ⟨a0, a1⟩ hp hap ak kp (toLine_on h hl ⟨a0, a1⟩ al) hon
      have := toLine_on h ⟨k0, k1⟩ hq kq
      rw [e2, hqz, hzo] at this
      exact absurd this (by decide)
theorem toLine_inj {t m : List Int} (h : moveB t m = true) {l k : Int} (hl : In91 l) (hk : In91 k) (e : toLine t m l = toLine t m k) : l = k := by
  obtain ⟨hs, hm, _⟩ := moveB_parts h
  obtain ⟨a, b, ha, hb, hne, al, bl⟩ := two_pts hs hl
  have h1 := toLine_iff h hk ha
  have h2 := toLine_iff h hk hb
  rw [← e, toLine_iff h hl ha, al] at h1
  rw [← e, toLine_iff h hl hb, bl] at h2
  exact join_uniq hs ha.1 ha.2 hb.1 hb.2 hne hl.1 hl.2 hk.1 hk.2 al bl h1.symm h2.symm
/-- What maps points one to one onto points, and lines into lines, is a move. -/
theorem move_of {t m : List Int} (hs : sysB t = true) (hm : permB m = true) (f : Int → Int) (hf : ∀ l, In91 l → In91 (f l)) (ho : ∀ p l, In91 p → In91 l → onB t p l = true → onB t (rd m p) (f l) = true) : moveB t m = true := by
  refine moveB_all hs hm fun l l0 l1 => ?_
  have hl : In91 l := ⟨l0, l1⟩
  obtain ⟨a, b, hne, hin⟩ := toLine_spec hs hm hl
  have h2 := pointsL_two hs l0 l1
  have p0 := pointsL_rd (t := t) (l := l) (i := 0) (by omega) (by omega)
  have p1 := pointsL_rd (t := t) (l := l) (i := 1) (by omega) (by omega)
  have e : toLine t m l = f l := joinI_eq hs a.1 a.2 b.1 b.2 hne (hf l hl).1 (hf l hl).2 (ho _ _ p0.1 hl p0.2) (ho _ _ p1.1 hl p1.2)
  unfold lineOk
  rw [Bool.not_eq_true', List.any_eq_false]
  intro p hp
  obtain ⟨p0, p1, hpo⟩ := mem_pointsL.1 hp
  rw [e, ho p l ⟨p0, p1⟩ hl hpo]; decide
theorem toLine_of {t m : List Int} (h : moveB t m = true) (f : Int → Int) (hf : ∀ l, In91 l → In91 (f l)) (ho : ∀ p l, In91 p → In91 l → onB t p l = true → onB t (rd m p) (f l) = true) {l : Int} (hl : In91 l) : toLine t m l = f l := by
  obtain ⟨hs, hm, _⟩ := moveB_parts h
  obtain ⟨a, b, ha, hb, hne, al, bl⟩ := two_pts hs hl
  exact toLine_eq h hl (hf l hl) ha hb hne al bl (ho _ _ ha hl al) (ho _ _ hb hl bl)
theorem permB_of {m : List Int} (hl : m.length = 91) (h : ∀ p, In91 p → In91 (rd m p)) (hi : ∀ p q, In91 p → In91 q → rd m p = rd m q → p = q) : permB m = true := by
  unfold permB
  rw [decide_eq_true hl, Bool.true_and]
  refine diffB_all fun i i0 i1 => ?_
  have hi91 : In91 i := ⟨i0, by omega⟩
  unfold newB
  rw [ptB_iff.2 (h i hi91), Bool.true_and, Bool.not_eq_true', decide_eq_false_iff_not]
  intro hm
  obtain ⟨j, hj, e⟩ := List.mem_take_iff_getElem.1 hm
  rw [← rd_cast m j (by omega)] at e
  have := hi (j : Int) i ⟨by omega, by omega⟩ hi91 e
  omega

/-! ### the way back, one move behind another -/
def backN (m : List Int) : Nat → List Int
  | 0 => List.replicate 91 0
  | n + 1 => (backN m n).set (rd m (n : Int)).toNat (n : Int)
def backL (m : List Int) : List Int := backN m 91
theorem backN_length (m : List Int) (n : Nat) : (backN m n).length = 91 := by
  induction n with
  | zero => simp [backN]
  | succ n ih => unfold backN; rw [List.length_set, ih]
theorem backL_length (m : List Int) : (backL m).length = 91 := by unfold backL; exact backN_length m 91
theorem rd_setC {l : List Int} {i j v : Int} (i0 : 0 ≤ i) (i1 : i < l.length) (j0 : 0 ≤ j) : rd (l.set i.toNat v) j = if j = i then v else rd l j := by
  unfold rd
  rw [List.getD_eq_getElem?_getD, List.getD_eq_getElem?_getD, List.getElem?_set]
  by_cases e : j = i
  · rw [if_pos e, if_pos (by omega), if_pos (by omega)]; rfl
  · rw [if_neg e, if_neg (by omega)]
theorem backN_rd {m : List Int} (hm : permB m = true) (n : Nat) (hn : n ≤ 91) : ∀ p : Int, 0 ≤ p → p < n → rd (backN m n) (rd m p) = p := by
  induction n with
  | zero => intro p h0 h1; omega
  | succ n ih =>
    intro p h0 h1
    have a := perm_rd hm (p := (n : Int)) ⟨by omega, by omega⟩
    have b := perm_rd hm (p := p) ⟨by omega, by omega⟩
    unfold backN
    rw [rd_setC a.1 (by rw [backN_length]; have := a.2; omega) b.1]
    by_cases e : p = n
    · rw [e, if_pos rfl]
    · rw [if_neg (fun ee => e (perm_inj hm ⟨by omega, by omega⟩ ⟨by omega, by omega⟩ ee))]
      exact ih (by omega) p h0 (by omega)
theorem back_rd {m : List Int} (hm : permB m = true) {p : Int} (hp : In91 p) : rd (backL m) (rd m p) = p := backN_rd hm 91 (by omega) p hp.1 hp.2
theorem back_rd2 {m : List Int} (hm : permB m = true) {q : Int} (hq : In91 q) : rd m (rd (backL m) q) = q := by
  obtain ⟨p, hp, rfl⟩ := perm_onto hm hq
  rw [back_rd hm hp]
def behL (m n : List Int) : List Int := mapI 91 fun p => rd n (rd m p)
theorem behL_rd (m n : List Int) {p : Int} (hp : In91 p) : rd (behL m n) p = rd n (rd m p) := rd_mapI hp.1 hp.2
theorem back_in {m : List Int} (hm : permB m = true) {q : Int} (hq : In91 q) : In91 (rd (backL m) q) := by
  obtain ⟨p, hp, rfl⟩ := perm_onto hm hq
  rw [back_rd hm hp]; exact hp
theorem back_perm {m : List Int} (hm : permB m = true) : permB (backL m) = true :=
  permB_of (backN_length m 91) (fun q hq => back_in hm hq) fun p q hp hq e => by
    have := congrArg (rd m) e
    rwa [back_rd2 hm hp, back_rd2 hm hq] at this
theorem beh_perm {m n : List Int} (hm : permB m = true) (hn : permB n = true) : permB (behL m n) = true :=
  permB_of (mapI_length _ _) (fun p hp => by rw [behL_rd _ _ hp]; exact perm_rd hn (perm_rd hm hp)) fun p q hp hq e => by
    rw [behL_rd _ _ hp, behL_rd _ _ hq] at e
    exact perm_inj hm hp hq (perm_inj hn (perm_rd hm hp) (perm_rd hm hq) e)
theorem beh_move {t m n : List Int} (hm : moveB t m = true) (hn : moveB t n = true) : moveB t (behL m n) = true := by
  obtain ⟨hs, pm, _⟩ := moveB_parts hm
  obtain ⟨_, pn, _⟩ := moveB_parts hn
  refine move_of hs (beh_perm pm pn) (fun l => toLine t n (toLine t m l)) (fun l hl => toLine_in hn (toLine_in hm hl)) fun p l hp hl ho => ?_
  rw [behL_rd _ _ hp]
  exact toLine_on hn (toLine_in hm hl) (perm_rd pm hp) (toLine_on hm hl hp ho)
theorem beh_line {t m n : List Int} (hm : moveB t m = true) (hn : moveB t n = true) {l : Int} (hl : In91 l) : toLine t (behL m n) l = toLine t n (toLine t m l) := by
  obtain ⟨hs, pm, _⟩ := moveB_parts hm
  refine toLine_of (beh_move hm hn) (fun l => toLine t n (toLine t m l)) (fun l hl => toLine_in hn (toLine_in hm hl)) (fun p l hp hl ho => ?_) hl
  rw [behL_rd _ _ hp]
  exact toLine_on hn (toLine_in hm hl) (perm_rd pm hp) (toLine_on hm hl hp ho)
/-- Lines are moved onto all lines. -/
theorem toLine_onto {t m : List Int} (h : moveB t m = true) {k : Int} (hk : In91 k) : ∃ l, In91 l ∧ toLine t m l = k := by
  obtain ⟨hs, hm, _⟩ := moveB_parts h
  obtain ⟨a, b, ha, hb, hne, al, bl⟩ := two_pts hs hk
  have ia := back_in hm ha
  have ib := back_in hm hb
  have hne' : rd (backL m) a ≠ rd (backL m) b := fun e => hne (by rw [← back_rd2 hm ha, e, back_rd2 hm hb])
  have hj := joinI_spec hs ia.1 ia.2 ib.1 ib.2 hne'
  exact ⟨_, ⟨hj.1, hj.2.1⟩, toLine_eq h ⟨hj.1, hj.2.1⟩ hk ia ib hne' hj.2.2.1 hj.2.2.2 (by rw [back_rd2 hm ha]; exact al) (by rw [back_rd2 hm hb]; exact bl)⟩
theorem back_move {t m : List Int} (h : moveB t m = true) : moveB t (backL m) = true := by
  obtain ⟨hs, hm, _⟩ := moveB_parts h
  refine moveB_all hs (back_perm hm) fun l l0 l1 => ?_
  obtain ⟨k, hk, e⟩ := toLine_onto h (k := l) ⟨l0, l1⟩
  have hin : ∀ p, In91 p → onB t p l = true → onB t (rd (backL m) p) k = true := fun p hp ho => by
    have := toLine_iff h hk (back_in hm hp)
    rw [back_rd2 hm hp, e, ho] at this
    exact this.symm
  obtain ⟨a, b, hne, _⟩ := toLine_spec hs (back_perm hm) (l := l) ⟨l0, l1⟩
  have h2 := pointsL_two hs l0 l1
  have p0 := pointsL_rd (t := t) (l := l) (i := 0) (by omega) (by omega)
  have p1 := pointsL_rd (t := t) (l := l) (i := 1) (by omega) (by omega)
  have e : toLine t (backL m) l = k := joinI_eq hs a.1 a.2 b.1 b.2 hne hk.1 hk.2 (hin _ p0.1 p0.2) (hin _ p1.1 p1.2)
  unfold lineOk
  rw [Bool.not_eq_true', List.any_eq_false]
  intro p hp
  obtain ⟨p0, p1, hpo⟩ := mem_pointsL.1 hp
  rw [e, hin p ⟨p0, p1⟩ hpo]; decide

end Go.Proofs.Ytckipgldmkboiaa.X

set_option linter.unusedVariables false
set_option linter.unusedSimpArgs false
namespace Go.Proofs.Ytckipgldmkboiaa.X
open Go.RowKit Go.Proofs.YtckipgldmkboiaaW.PrintWords Go.Proofs.YtckipgldmkboiaaW.PrintLast Go.Proofs.Ytckipgldmkboiaa.P

theorem l6In_eq (a b c : Int) : spec_l6In.f a b c = some (decide (b ≤ a) && decide (a ≤ c)) := by
  unfold spec_l6In.f
  by_cases h : a ≥ b
  · rw [if_pos h, decide_eq_true h]; simp
  · rw [if_neg h, decide_eq_false h]; simp
theorem l1In_eq (a : Int) : spec_l1In.f a = some (isN a) := by
  unfold spec_l1In.f isN
  rw [l6In_eq]
  show some _ = _
  rw [show decide (a ≤ 8) = decide (a < 9) from decide_eq_decide.2 (by omega)]
theorem l2Table_loop (l : List Int) (hl : l.length ≤ 1048576) (d : Nat) : ∀ (i : Int), 0 ≤ i → i + d = l.length → (∀ j : Nat, (j : Int) < i → isN (rd l j) = true) → Ev (fun k => spec_l2Table.l0 k l i) (ninesB l 81) := by
  induction d with
  | zero =>
    intro i h0 h1 h
    refine Ev.step (fun k => by rw [spec_l2Table.l0]) ?_
    refine Ev.neg (by omega) (Ev.done ?_)
    have ha : l.all isN = true := by
      rw [List.all_eq_true]
      intro x hx
      obtain ⟨j, hj, rfl⟩ := List.mem_iff_getElem.1 hx
      rw [← rd_cast l j hj]
      exact h j (by omega)
    unfold ninesB
    rw [ha, Bool.and_true]
    congr 1
    rw [Bool.eq_iff_iff]; simp; omega
  | succ d ih =>
    intro i h0 h1 h
    refine Ev.step (fun k => by rw [spec_l2Table.l0]) ?_
    simp (disch := omega) only [w64, l1In_eq, Option.bind_some]
    refine Ev.pos (by omega) (Ev.pos (by omega) ?_)
    by_cases e : isN (rd l i) = true
    · refine Ev.pos e (ih (i + 1) (by omega) (by omega) fun j hj => ?_)
      by_cases ej : (j : Int) = i
      · rw [ej]; exact e
      · exact h j (by omega)
    · refine Ev.neg e (Ev.done ?_)
      have : l.all isN = false := by
        rw [List.all_eq_false]
        exact ⟨rd l i, rd_mem (by omega) h0, e⟩
      unfold ninesB
      rw [this, Bool.and_false]
theorem l2Table_ev (l : List Int) (hl : l.length ≤ 1048576) : Ev (fun k => spec_l2Table.f k l) (ninesB l 81) :=
  l2Table_loop l hl l.length 0 (by omega) (by omega) (fun j h => by omega)
theorem l2Units_loop (t : List Int) (hl : t.length = 81) (d : Nat) : ∀ (i : Int), 0 ≤ i → i + d = 9 → (∀ x : Int, 0 ≤ x → x < i → unitB t x = true) → Ev (fun k => spec_l2Units.l0 k t i) (unitsB t) := by
  induction d with
  | zero =>
    intro i h0 h1 h
    refine Ev.step (fun k => by rw [spec_l2Units.l0]) ?_
    refine Ev.neg (by omega) (Ev.done ?_)
    rw [unitsB_iff.2 fun x x0 x1 => h x x0 (by omega)]
  | succ d ih =>
    intro i h0 h1 h
    have hu : unitB t i = (decide (rd t i = 0) && decide (rd t (9 * i) = 0) && decide (rd t (9 + i) = i) && decide (rd t (9 * i + 1) = i)) := rfl
    refine Ev.step (fun k => by rw [spec_l2Units.l0]) ?_
    have z1 : wrap64 (9 * i) = 9 * i := w64 (by omega) (by omega)
    have z2 : wrap64 (9 + i) = 9 + i := w64 (by omega) (by omega)
    have z3 : wrap64 (9 * i + 1) = 9 * i + 1 := w64 (by omega) (by omega)
    have z4 : wrap64 (i + 1) = i + 1 := w64 (by omega) (by omega)
    simp only [z1, z2, z3, z4]
    refine Ev.pos (by omega) (Ev.pos (by omega) (Ev.pos (by omega) ?_))
    by_cases e1 : rd t i = 0
    case neg => exact Ev.neg e1 (Ev.done (by rw [unitsB_hit h0 (by omega) (by rw [hu, decide_eq_false e1]; rfl)]))
    refine Ev.pos e1 (Ev.pos (by omega) (Ev.pos (by omega) ?_))
    by_cases e2 : rd t (9 * i) = 0
    case neg => exact Ev.neg e2 (Ev.done (by rw [unitsB_hit h0 (by omega) (by rw [hu, decide_eq_false e2, Bool.and_false]; rfl)]))
    refine Ev.pos e2 (Ev.pos (by omega) (Ev.pos (by omega) ?_))
    by_cases e3 : rd t (9 + i) = i
    case neg => exact Ev.neg e3 (Ev.done (by rw [unitsB_hit h0 (by omega) (by rw [hu, decide_eq_false e3, Bool.and_false]; rfl)]))
    refine Ev.pos e3 (Ev.pos (by omega) (Ev.pos (by omega) ?_))
    by_cases e4 : rd t (9 * i + 1) = i
    case neg => exact Ev.neg e4 (Ev.done (by rw [unitsB_hit h0 (by omega) (by rw [hu, decide_eq_false e4, Bool.and_false])]))
    refine Ev.pos e4 (ih (i + 1) (by omega) (by omega) fun x x0 x1 => ?_)
    by_cases e : x = i
    · rw [e, hu, decide_eq_true e1, decide_eq_true e2, decide_eq_true e3, decide_eq_true e4]; rfl
    · exact h x x0 (by omega)
theorem l2Units_ev (t : List Int) (hl : t.length = 81) : Ev (fun k => spec_l2Units.f k t) (unitsB t) :=
  l2Units_loop t hl 9 0 (by omega) (by omega) (fun x h0 h1 => by omega)
theorem SystemIn_l1 (t : List Int) (hn : ninesB t 81 = true) (c : Int) (hc : In9 c) (hr : (∀ d : Int, 0 ≤ d → d < c → gapsB t c d = true) → Ev (fun k => spec_SystemIn.l0 k t (c + 1)) (solvesB t)) (n : Nat) :
    ∀ (d : Int), 0 ≤ d → d + n = c → (∀ x : Int, 0 ≤ x → x < d → gapsB t c x = true) → Ev (fun k => spec_SystemIn.l1 k t c d) (solvesB t) := by
  obtain ⟨c0, c1⟩ := hc
  induction n with
  | zero =>
    intro d h0 h1 h
    refine Ev.step (fun k => by rw [spec_SystemIn.l1]) ?_
    simp (disch := omega) only [w64]
    exact Ev.neg (by omega) (hr fun x x0 x1 => h x x0 (by omega))
  | succ n ih =>
    intro d h0 h1 h
    refine Ev.step (fun k => by rw [spec_SystemIn.l1]) ?_
    have hs : spec_l2Solves.f t c d = some (gapsB t c d) := by unfold spec_l2Solves.f; exact if_pos ⟨hn, ⟨c0, c1⟩, ⟨h0, by omega⟩⟩
    simp (disch := omega) only [w64, hs, Option.bind_some]
    refine Ev.pos (by omega) ?_
    by_cases e : gapsB t c d = true
    · refine Ev.pos e (ih (d + 1) (by omega) (by omega) fun x x0 x1 => ?_)
      by_cases ex : x = d
      · rw [ex]; exact e
      · exact h x x0 (by omega)
    · refine Ev.neg e (Ev.done ?_)
      rw [solvesB_hit h0 (by omega) c1 (Bool.eq_false_iff.2 e)]
theorem SystemIn_l0 (t : List Int) (hn : ninesB t 81 = true) (n : Nat) : ∀ (c : Int), 0 ≤ c → c + n = 9 → (∀ x y : Int, 0 ≤ y → y < x → x < c → gapsB t x y = true) → Ev (fun k => spec_SystemIn.l0 k t c) (solvesB t) := by
  induction n with
  | zero =>
    intro c h0 h1 h
    refine Ev.step (fun k => by rw [spec_SystemIn.l0]) ?_
    refine Ev.neg (by omega) (Ev.done ?_)
    rw [solvesB_all fun x y y0 yx x9 => h x y y0 yx (by omega)]
  | succ n ih =>
    intro c h0 h1 h
    refine Ev.step (fun k => by rw [spec_SystemIn.l0]) ?_
    refine Ev.pos (by omega) ?_
    refine SystemIn_l1 t hn c ⟨h0, by omega⟩ (fun hg => ih (c + 1) (by omega) (by omega) fun x y y0 yx x1 => ?_) c.toNat 0 (by omega) (by omega) (fun x x0 x1 => by omega)
    by_cases e : x = c
    · subst e; exact hg y y0 yx
    · exact h x y y0 yx (by omega)
theorem SystemIn_ev (t : List Int) (hl : t.length ≤ 1048576) : Ev (fun k => spec_SystemIn.f k t) (sysB t) := by
  unfold spec_SystemIn.f
  refine Ev.bind (l2Table_ev t hl) ?_
  by_cases hn : ninesB t 81 = true
  case neg =>
    refine Ev.neg hn (Ev.step (fun k => by rw [spec_SystemIn.j0]) (Ev.pos rfl (Ev.done ?_)))
    unfold sysB; rw [Bool.eq_false_iff.2 hn]; rfl
  refine Ev.pos hn (Ev.bind (l2Units_ev t (ninesB_iff.1 hn).1) ?_)
  by_cases hu : unitsB t = true
  case neg =>
    refine Ev.neg hu (Ev.step (fun k => by rw [spec_SystemIn.j0]) (Ev.pos rfl (Ev.done ?_)))
    rw [sysB_of hn, Bool.eq_false_iff.2 hu]; rfl
  have hs : spec_l2Shares.f t = some (sharesB t) := by unfold spec_l2Shares.f; exact if_pos hn
  refine Ev.pos hu (Ev.fix hs ?_)
  rw [sysB_of hn, hu]
  by_cases h : sharesB t = true
  · rw [h]
    refine Ev.step (fun k => by rw [spec_SystemIn.j0]) ?_
    refine Ev.neg (by simp) ?_
    exact SystemIn_l0 t hn 9 0 (by omega) (by omega) (fun x y h0 h1 h2 => by omega)
  · rw [Bool.eq_false_iff.2 h]
    refine Ev.step (fun k => by rw [spec_SystemIn.j0]) ?_
    exact Ev.pos rfl (Ev.done rfl)

end Go.Proofs.Ytckipgldmkboiaa.X

set_option linter.unusedVariables false
set_option linter.unusedSimpArgs false
namespace Go.Proofs.Ytckipgldmkboiaa.X
open Go.RowKit Go.Proofs.YtckipgldmkboiaaW.PrintWords Go.Proofs.YtckipgldmkboiaaW.PrintLast Go.Proofs.Ytckipgldmkboiaa.P

/-! ### a list of bools -/
def bL (n : Nat) (s : Nat → Bool) : List Bool := (List.range n).map s
theorem bL_length (n : Nat) (s : Nat → Bool) : (bL n s).length = n := by simp [bL]
theorem bL_replicate (n : Nat) : List.replicate n false = bL n (fun _ => false) := by
  unfold bL; rw [List.map_const']; simp
theorem bL_rd {n : Nat} {s : Nat → Bool} (v : Int) (h0 : 0 ≤ v) (h1 : v < n) : rdOf false (bL n s) v = s v.toNat := by
  unfold rdOf bL
  rw [List.getD_eq_getElem?_getD, List.getElem?_map, List.getElem?_range (by omega)]
  rfl
theorem bL_set {n : Nat} {s : Nat → Bool} (v : Int) (b : Bool) : (bL n s).set v.toNat b = bL n (fun x => if x = v.toNat then b else s x) := by
  apply List.ext_getElem?
  intro i
  rw [List.getElem?_set]
  by_cases hi : i < n
  · by_cases hj : v.toNat = i
    · subst hj; simp [bL, hi]
    · simp [bL, hi, hj, Ne.symm hj]
  · by_cases hj : v.toNat = i
    · subst hj; simp [bL, hi]
    · simp [bL, hi, hj]
theorem bL_congr {n : Nat} {s s' : Nat → Bool} (h : ∀ j, j < n → s j = s' j) : bL n s = bL n s' := by
  unfold bL
  exact List.map_congr_left fun j hj => h j (List.mem_range.1 hj)
theorem bL_seen {n : Nat} (p : Int → Int) (i : Int) (h0 : 0 ≤ i) (v : Int) (hv0 : 0 ≤ v) (hv : p i = v) : (bL n (seenO p i)).set v.toNat true = bL n (seenO p (i + 1)) := by
  rw [bL_set]
  refine bL_congr fun j hj => ?_
  rw [seenO_succ p i h0 j, hv]
  by_cases e : j = v.toNat
  · subst e; rw [if_pos rfl, decide_eq_true (by omega), Bool.or_true]
  · rw [if_neg e, decide_eq_false (by omega), Bool.or_false]
theorem seenO_zero (p : Int → Int) (j : Nat) : seenO p 0 j = false := rfl

end Go.Proofs.Ytckipgldmkboiaa.X

set_option linter.unusedVariables false
set_option linter.unusedSimpArgs false
namespace Go.Proofs.Ytckipgldmkboiaa.X
open Go.RowKit Go.Proofs.YtckipgldmkboiaaW.PrintWords Go.Proofs.YtckipgldmkboiaaW.PrintLast Go.Proofs.Ytckipgldmkboiaa.P

theorem l3In_eq (p : Int) : spec_l3In.f p = some (ptB p) := by
  unfold spec_l3In.f ptB
  rw [l6In_eq]
  show some _ = _
  rw [show decide (p ≤ 90) = decide (p < 91) from decide_eq_decide.2 (by omega)]
theorem l3On_eq {t : List Int} (hn : ninesB t 81 = true) {p l : Int} (hp : In91 p) (hl : In91 l) : spec_l3On.f t p l = some (onB t p l) := by
  obtain ⟨p0, p1⟩ := hp
  obtain ⟨l0, l1⟩ := hl
  have hlen := (ninesB_iff.1 hn).1
  unfold spec_l3On.f onB
  by_cases h90 : l = 90
  · rw [if_pos h90, if_pos h90]
  rw [if_neg h90, if_neg h90]
  by_cases h81 : l ≥ 81
  · rw [if_pos h81, if_pos h81]
    by_cases hp90 : p = 90
    · rw [if_pos hp90, decide_eq_true hp90]; rfl
    · rw [if_neg hp90, decide_eq_false hp90, Bool.false_or]
      by_cases hpn : p < 81
      · rw [if_pos hpn, decide_eq_true hpn, Bool.true_and]
        simp (disch := omega) only [w64, tdiv_nn]
        rfl
      · rw [if_neg hpn, decide_eq_false hpn, Bool.false_and]
  · rw [if_neg h81, if_neg h81]
    by_cases hpf : p ≥ 81
    · rw [if_pos hpf, if_pos hpf]
      simp (disch := omega) only [w64, tdiv_nn]
      refine congrArg some ?_
      rw [show decide (p = 81 + l / 9) = decide (p - 81 = l / 9) from decide_eq_decide.2 (by omega)]
      rfl
    · rw [if_neg hpf, if_neg hpf]
      have hr := nines_rd hn (i := 9 * (p / 9) + l / 9) (by omega) (by omega)
      have ha := spec_l1Add_eq (rd t (9 * (p / 9) + l / 9)) (l % 9) hr ⟨by omega, by omega⟩
      simp (disch := omega) only [w64, tdiv_nn, tmod_nn]
      rw [show p / 9 * 9 = 9 * (p / 9) by omega, if_pos (by omega), if_pos (by omega), ha]
      rfl
theorem l3Points_loop {t : List Int} (hn : ninesB t 81 = true) {l : Int} (hl : In91 l) (d : Nat) : ∀ (i : Nat), i + d = 91 → Ev (fun k => spec_l3Points.l0 k t l (filI i fun p => onB t p l) (i : Int)) (pointsL t l) := by
  induction d with
  | zero =>
    intro i h1
    have e : i = 91 := by omega
    subst e
    refine Ev.step (fun k => by rw [spec_l3Points.l0]) ?_
    exact Ev.neg (by omega) (Ev.done rfl)
  | succ d ih =>
    intro i h1
    have hlen := filI_length_le i fun p => onB t p l
    have e1 := l3On_eq hn (p := (i : Int)) ⟨by omega, by omega⟩ hl
    have nx := ih (i + 1) (by omega)
    rw [filI_succ] at nx
    have z : wrap64 ((i : Int) + 1) = ((i + 1 : Nat) : Int) := by rw [w64 (by omega) (by omega)]; rfl
    refine Ev.step (fun k => by rw [spec_l3Points.l0]) ?_
    rw [z]
    refine Ev.pos (by omega) (Ev.fix e1 ?_)
    by_cases a : onB t (i : Int) l = true
    · rw [if_pos a] at nx
      exact Ev.pos a (Ev.pos (by omega) nx)
    · rw [if_neg a, List.append_nil] at nx
      exact Ev.neg a nx
theorem l3Points_ev {t : List Int} (hn : ninesB t 81 = true) {l : Int} (hl : In91 l) : Ev (fun k => spec_l3Points.f k t l) (pointsL t l) :=
  l3Points_loop hn hl 91 0 (by omega)
theorem l3Join_loop {t : List Int} (hn : ninesB t 81 = true) {p q : Int} (hp : In91 p) (hq : In91 q) (hj : ∃ l : Int, 0 ≤ l ∧ l < 91 ∧ onB t p l = true ∧ onB t q l = true) (d : Nat) : ∀ (i : Int), 0 ≤ i → i + d = 91 → (∀ l : Int, 0 ≤ l → l < i → (onB t p l && onB t q l) = false) → Ev (fun k => spec_l3Join.l0 k t p q i) (joinI t p q) := by
  induction d with
  | zero =>
    intro i h0 h1 h
    obtain ⟨l, l0, l1, a, b⟩ := hj
    have := h l l0 (by omega)
    rw [a, b] at this; exact absurd this (by decide)
  | succ d ih =>
    intro i h0 h1 h
    have e1 := l3On_eq hn hp (l := i) ⟨h0, by omega⟩
    have e2 := l3On_eq hn hq (l := i) ⟨h0, by omega⟩
    refine Ev.step (fun k => by rw [spec_l3Join.l0]) ?_
    simp (disch := omega) only [w64, e1, e2, Option.bind_some]
    refine Ev.pos (by omega) ?_
    have next : (onB t p i && onB t q i) = false → Ev (fun k => spec_l3Join.l0 k t p q (i + 1)) (joinI t p q) := fun hb => ih (i + 1) (by omega) (by omega) fun l l0 l1 => by
      by_cases e : l = i
      · rw [e]; exact hb
      · exact h l l0 (by omega)
    by_cases a : onB t p i = true
    · refine Ev.pos a ?_
      by_cases b : onB t q i = true
      · refine Ev.pos b (Ev.done ?_)
        unfold joinI
        rw [firstI_some i h0 (by omega) (by rw [a, b]; rfl) h]
      · exact Ev.neg b (next (by rw [Bool.eq_false_iff.2 b, Bool.and_false]))
    · exact Ev.neg a (next (by rw [Bool.eq_false_iff.2 a, Bool.false_and]))
/-- The join of two different points of a system's plane. -/
theorem l3Join_ev {t : List Int} (h : sysB t = true) {p q : Int} (hp : In91 p) (hq : In91 q) (hne : p ≠ q) : Ev (fun k => spec_l3Join.f k t p q) (joinI t p q) :=
  l3Join_loop (sysB_parts h).1 hp hq (join_ex h hp.1 hp.2 hq.1 hq.2 hne) 91 0 (by omega) (by omega) (fun l h0 h1 => by omega)

/-! ### l5Perm -/
theorem seen_take {l : List Int} {i : Int} (h0 : 0 ≤ i) (h1 : i ≤ l.length) {v : Int} (hv : 0 ≤ v) : seenO (rd l) i v.toNat = true ↔ v ∈ l.take i.toNat := by
  unfold seenO
  simp only [List.any_eq_true, List.mem_range, decide_eq_true_eq]
  rw [List.mem_take_iff_getElem]
  constructor
  · rintro ⟨z, hz, e⟩
    refine ⟨z, by omega, ?_⟩
    rw [← rd_cast l z (by omega), e]; omega
  · rintro ⟨z, hz, e⟩
    refine ⟨z, by omega, ?_⟩
    rw [rd_cast l z (by omega), e]; omega
theorem l5Perm_loop (m : List Int) (hl : m.length ≤ 1048576) (d : Nat) : ∀ (i : Int), 0 ≤ i → i + d = m.length → (∀ j : Int, 0 ≤ j → j < i → newB m j = true) → Ev (fun k => spec_l5Perm.l0 k m (bL 91 (seenO (rd m) i)) i) (permB m) := by
  induction d with
  | zero =>
    intro i h0 h1 h
    refine Ev.step (fun k => by rw [spec_l5Perm.l0]) ?_
    refine Ev.neg (by omega) (Ev.done ?_)
    unfold permB
    rw [diffB_all fun j j0 j1 => h j j0 (by omega), Bool.and_true]
    refine congrArg some ?_
    by_cases e : m.length = 91
    · rw [decide_eq_true e, e]; rfl
    · rw [decide_eq_false e]
      exact beq_eq_false_iff_ne.2 (by omega)
  | succ d ih =>
    intro i h0 h1 h
    refine Ev.step (fun k => by rw [spec_l5Perm.l0]) ?_
    have z : wrap64 (i + 1) = i + 1 := w64 (by omega) (by omega)
    rw [z, l3In_eq]
    refine Ev.pos (by omega) (Ev.pos h0 (Ev.fix rfl ?_))
    by_cases hp : ptB (rd m i) = true
    case neg =>
      refine Ev.neg hp (Ev.done ?_)
      have hnb : newB m i = false := by unfold newB; rw [Bool.eq_false_iff.2 hp, Bool.false_and]
      unfold permB
      rw [diffB_hit h0 (by omega) hnb, Bool.and_false]
    obtain ⟨v0, v1⟩ := ptB_iff.1 hp
    have z4 := bL_rd (n := 91) (s := seenO (rd m) i) (rd m i) v0 v1
    have hs := bL_seen (n := 91) (rd m) i h0 (rd m i) v0 rfl
    rw [z4, bL_length, hs]
    refine Ev.pos hp (Ev.pos v0 (Ev.pos v1 ?_))
    have hst := seen_take (l := m) (i := i) h0 (by omega) v0
    by_cases e : seenO (rd m) i (rd m i).toNat = true
    · refine Ev.pos e (Ev.done ?_)
      have hnb : newB m i = false := by unfold newB; rw [decide_eq_true (hst.1 e), Bool.not_true, Bool.and_false]
      unfold permB
      rw [diffB_hit h0 (by omega) hnb, Bool.and_false]
    · refine Ev.neg e (ih (i + 1) (by omega) (by omega) fun j j0 j1 => ?_)
      by_cases ej : j = i
      · rw [ej]; unfold newB; rw [hp, decide_eq_false (fun hm => e (hst.2 hm))]; rfl
      · exact h j j0 (by omega)
theorem l5Perm_ev (m : List Int) (hl : m.length ≤ 1048576) : Ev (fun k => spec_l5Perm.f k m) (permB m) := by
  unfold spec_l5Perm.f
  rw [bL_replicate]
  exact Ev.pos (by omega) (l5Perm_loop m hl m.length 0 (by omega) (by omega) (fun j h0 h1 => by omega))

/-! ### l5Line, l5In -/
def lineR (t m : List Int) (l : Int) : Int × Bool := if lineOk t m l = true then (toLine t m l, true) else (0, false)
theorem l5Line_loop {t m : List Int} (hs : sysB t = true) (hm : permB m = true) {l : Int} (hl : In91 l) (d : Nat) : ∀ (i : Int), 0 ≤ i → i + d = (pointsL t l).length → (∀ j : Int, 0 ≤ j → j < i → onB t (rd m (rd (pointsL t l) j)) (toLine t m l) = true) → Ev (fun k => spec_l5Line.l0 k t m (pointsL t l) (toLine t m l) i) (lineR t m l) := by
  have hlen := permB_len hm
  have h91 : (pointsL t l).length ≤ 91 := filI_length_le _ _
  obtain ⟨_, _, _, htl⟩ := toLine_spec hs hm hl
  induction d with
  | zero =>
    intro i h0 h1 h
    refine Ev.step (fun k => by rw [spec_l5Line.l0]) ?_
    refine Ev.neg (by omega) (Ev.done ?_)
    have : lineOk t m l = true := by
      unfold lineOk
      rw [Bool.not_eq_true', List.any_eq_false]
      intro p hp
      obtain ⟨j, hj, rfl⟩ := List.mem_iff_getElem.1 hp
      have := h (j : Int) (by omega) (by omega)
      rw [rd_cast _ j hj] at this
      rw [this]; decide
    unfold lineR; rw [if_pos this]
  | succ d ih =>
    intro i h0 h1 h
    obtain ⟨⟨a0, a1⟩, _⟩ := pointsL_rd (t := t) (l := l) (i := i) h0 (by omega)
    have hv := diffB_pt (permB_diff hm) a0 (by omega)
    have e1 := l3On_eq (sysB_parts hs).1 hv htl
    refine Ev.step (fun k => by rw [spec_l5Line.l0]) ?_
    rw [w64 (x := i + 1) (by omega) (by omega)]
    refine Ev.pos (by omega) (Ev.pos h0 (Ev.pos a0 (Ev.pos (by omega) (Ev.fix e1 ?_))))
    by_cases e : onB t (rd m (rd (pointsL t l) i)) (toLine t m l) = true
    · refine Ev.pos e (ih (i + 1) (by omega) (by omega) fun j j0 j1 => ?_)
      by_cases ej : j = i
      · rw [ej]; exact e
      · exact h j j0 (by omega)
    · refine Ev.neg e (Ev.done ?_)
      have : lineOk t m l = false := by
        unfold lineOk
        rw [Bool.not_eq_false', List.any_eq_true]
        exact ⟨_, rd_mem (by omega) h0, by rw [Bool.eq_false_iff.2 e]; rfl⟩
      unfold lineR; rw [this]; rfl
theorem l5Line_ev {t m : List Int} (hs : sysB t = true) (hm : permB m = true) {l : Int} (hl : In91 l) : Ev (fun k => spec_l5Line.f k t m l) (lineR t m l) := by
  have hn := (sysB_parts hs).1
  have hlen := permB_len hm
  have h2 := pointsL_two hs hl.1 hl.2
  obtain ⟨p0, p1, hne, htl⟩ := toLine_spec hs hm hl
  obtain ⟨⟨a0, a1⟩, _⟩ := pointsL_rd (t := t) (l := l) (i := 0) (by omega) (by omega)
  obtain ⟨⟨b0, b1⟩, _⟩ := pointsL_rd (t := t) (l := l) (i := 1) (by omega) (by omega)
  obtain ⟨j0, j1, j2, j3⟩ := joinI_spec hs p0.1 p0.2 p1.1 p1.2 hne
  unfold spec_l5Line.f
  refine Ev.bind (l3Points_ev hn hl) ?_
  refine Ev.pos (by omega) (Ev.pos a0 (Ev.pos (by omega) (Ev.pos (by omega) (Ev.pos b0 (Ev.pos (by omega) (Ev.bind (l3Join_ev hs p0 p1 hne) ?_))))))
  refine l5Line_loop hs hm hl ((pointsL t l).length - 2) 2 (by omega) (by omega) fun j j0' j1' => ?_
  have : j = 0 ∨ j = 1 := by omega
  rcases this with rfl | rfl
  · exact j2
  · exact j3
theorem l5In_loop {t m : List Int} (hs : sysB t = true) (hm : permB m = true) (d : Nat) : ∀ (i : Int), 0 ≤ i → i + d = 91 → (∀ l : Int, 0 ≤ l → l < i → lineOk t m l = true) → Ev (fun k => spec_l5In.l0 k t m i) (moveB t m) := by
  induction d with
  | zero =>
    intro i h0 h1 h
    refine Ev.step (fun k => by rw [spec_l5In.l0]) ?_
    refine Ev.neg (by omega) (Ev.done ?_)
    rw [moveB_all hs hm fun l l0 l1 => h l l0 (by omega)]
  | succ d ih =>
    intro i h0 h1 h
    refine Ev.step (fun k => by rw [spec_l5In.l0]) ?_
    rw [w64 (x := i + 1) (by omega) (by omega)]
    refine Ev.pos (by omega) (Ev.bind (l5Line_ev hs hm (l := i) ⟨h0, by omega⟩) ?_)
    unfold lineR
    by_cases e : lineOk t m i = true
    · rw [if_pos e]
      refine Ev.pos rfl (ih (i + 1) (by omega) (by omega) fun l l0 l1 => ?_)
      by_cases el : l = i
      · rw [el]; exact e
      · exact h l l0 (by omega)
    · rw [if_neg e]
      refine Ev.neg (by decide) (Ev.done ?_)
      rw [moveB_hit h0 (by omega) (Bool.eq_false_iff.2 e)]
theorem l5In_ev {t m : List Int} (hs : sysB t = true) (hl : m.length ≤ 1048576) : Ev (fun k => spec_l5In.f k t m) (moveB t m) := by
  unfold spec_l5In.f
  refine Ev.bind (l5Perm_ev m hl) ?_
  by_cases hm : permB m = true
  · exact Ev.pos hm (l5In_loop hs hm 91 0 (by omega) (by omega) fun l h0 h1 => by omega)
  · refine Ev.neg hm (Ev.done ?_)
    unfold moveB; rw [Bool.eq_false_iff.2 hm]; simp
theorem MoveIn_ev {t m : List Int} (ht : t.length ≤ 1048576) (hl : m.length ≤ 1048576) : Ev (fun k => spec_MoveIn.f k t m) (moveB t m) := by
  unfold spec_MoveIn.f
  refine Ev.bind (SystemIn_ev t ht) ?_
  by_cases hs : sysB t = true
  · exact Ev.pos hs (Ev.bind (l5In_ev hs hl) (Ev.done rfl))
  · refine Ev.neg hs (Ev.done ?_)
    unfold moveB; rw [Bool.eq_false_iff.2 hs]; rfl

end Go.Proofs.Ytckipgldmkboiaa.X

set_option linter.unusedVariables false
set_option linter.unusedSimpArgs false
namespace Go.Proofs.Ytckipgldmkboiaa.X
open Go.RowKit Go.Proofs.YtckipgldmkboiaaW.PrintWords Go.Proofs.YtckipgldmkboiaaW.PrintLast Go.Proofs.Ytckipgldmkboiaa.P

def backR (t m : List Int) : List Int × Bool := if moveB t m = true then (backL m, true) else ([], false)
theorem backR_length (t m : List Int) : (backR t m).1.length ≤ 1048576 := by
  unfold backR
  by_cases h : moveB t m = true
  · rw [if_pos h]; dsimp only; rw [backL_length]; omega
  · rw [if_neg h]; exact Nat.zero_le _
theorem implBack_l0 {m : List Int} (hm : permB m = true) (d : Nat) : ∀ n : Nat, n + d = 91 → Ev (fun k => impl_MoveBack.l0 k (backN m n) m 91 (n : Int)) (backL m, true) := by
  induction d with
  | zero =>
    intro n h1
    have e : n = 91 := by omega
    subst e
    refine Ev.step (fun k => by rw [impl_MoveBack.l0]) ?_
    exact Ev.neg (by omega) (Ev.done rfl)
  | succ d ih =>
    intro n h1
    obtain ⟨a0, a1⟩ := perm_rd hm (p := (n : Int)) ⟨by omega, by omega⟩
    have hl := permB_len hm
    have hb := backN_length m n
    have nx := ih (n + 1) (by omega)
    have z : wrap64 ((n : Int) + 1) = ((n + 1 : Nat) : Int) := by rw [w64 (by omega) (by omega)]; rfl
    refine Ev.step (fun k => by rw [impl_MoveBack.l0]) ?_
    rw [z]
    exact Ev.pos (by omega) (Ev.pos (by omega) (Ev.pos (by omega) (Ev.pos a0 (Ev.pos (by omega) nx))))
theorem implBack_ev {t m : List Int} (hm : m.length ≤ 1048576) : Ev (fun k => impl_MoveBack.f k t m) (backR t m) := by
  unfold impl_MoveBack.f backR
  refine Ev.fix (show impl_isMove.f t m = some (moveB t m) from if_pos hm) ?_
  by_cases hs : moveB t m = true
  · rw [if_pos hs]
    have hp := (moveB_parts hs).2.1
    have hl := permB_len hp
    refine Ev.pos hs (Ev.pos (by omega) ?_)
    rw [hl]
    exact implBack_l0 hp 91 0 (by omega)
  · rw [if_neg hs]
    exact Ev.neg hs (Ev.done rfl)
theorem specBack_l0 {m : List Int} (hm : permB m = true) (d : Nat) : ∀ n : Nat, n + d = 91 → Ev (fun k => spec_MoveBack.l0 k m (backN m n) (n : Int)) (backL m, true) := by
  induction d with
  | zero =>
    intro n h1
    have e : n = 91 := by omega
    subst e
    refine Ev.step (fun k => by rw [spec_MoveBack.l0]) ?_
    exact Ev.neg (by omega) (Ev.done rfl)
  | succ d ih =>
    intro n h1
    obtain ⟨a0, a1⟩ := perm_rd hm (p := (n : Int)) ⟨by omega, by omega⟩
    have hl := permB_len hm
    have hb := backN_length m n
    have nx := ih (n + 1) (by omega)
    have z : wrap64 ((n : Int) + 1) = ((n + 1 : Nat) : Int) := by rw [w64 (by omega) (by omega)]; rfl
    refine Ev.step (fun k => by rw [spec_MoveBack.l0]) ?_
    rw [z]
    exact Ev.pos (by omega) (Ev.pos (by omega) (Ev.pos (by omega) (Ev.pos a0 (Ev.pos (by omega) nx))))
theorem specBack_ev {t m : List Int} (ht : t.length ≤ 1048576) (hm : m.length ≤ 1048576) : Ev (fun k => spec_MoveBack.f k t m) (backR t m) := by
  unfold spec_MoveBack.f backR
  refine Ev.bind (MoveIn_ev ht hm) ?_
  by_cases hs : moveB t m = true
  · rw [if_pos hs]
    exact Ev.pos hs (Ev.pos (by omega) (specBack_l0 (moveB_parts hs).2.1 91 0 (by omega)))
  · rw [if_neg hs]
    exact Ev.neg hs (Ev.done rfl)

end Go.Proofs.Ytckipgldmkboiaa.X

set_option linter.unusedVariables false
set_option linter.unusedSimpArgs false
namespace Go.Proofs.Ytckipgldmkboiaa.X
open Go.RowKit Go.Proofs.YtckipgldmkboiaaW.PrintWords Go.Proofs.YtckipgldmkboiaaW.PrintLast Go.Proofs.Ytckipgldmkboiaa.P

def marks (n : Nat) (a : Int) : List Int := mapI n fun i => a + i
theorem rd_set (l : List Int) (i : Int) (v : Int) (j : Int) (h0 : 0 ≤ i) (h1 : i < l.length) (hj : 0 ≤ j) : rd (l.set i.toNat v) j = if j = i then v else rd l j := by
  unfold rd
  rw [List.getD_eq_getElem?_getD, List.getD_eq_getElem?_getD, List.getElem?_set]
  by_cases e : j = i
  · subst e; rw [if_pos rfl, if_pos rfl, if_pos (by omega)]; rfl
  · rw [if_neg (by omega), if_neg e]
theorem markIntS_loop (n : Nat) (hl : n ≤ 1048576) (a : Int) (ha0 : 0 ≤ a) (ha1 : a ≤ 1099511627776) (d : Nat) : ∀ (i : Int) (l : List Int), l.length = n → 0 ≤ i → i + d = n → (∀ j : Int, 0 ≤ j → j < i → rd l j = a + j) → Ev (fun k => laws_markIntS.l0 k l (a + i) i) (a + n, marks n a) := by
  induction d with
  | zero =>
    intro i l hn h0 h1 h
    refine Ev.step (fun k => by rw [laws_markIntS.l0]) ?_
    refine Ev.neg (by omega) (Ev.done ?_)
    have : l = marks n a := by
      apply ext_rd (by rw [hn]; exact (mapI_length _ _).symm)
      intro j hj
      rw [h j (by omega) (by omega)]
      exact (rd_mapI (by omega) (by omega)).symm
    rw [this, show a + i = a + n by omega]
  | succ d ih =>
    intro i l hn h0 h1 h
    refine Ev.step (fun k => by rw [laws_markIntS.l0]) ?_
    simp (disch := omega) only [w64]
    refine Ev.pos (by omega) (Ev.pos (by omega) ?_)
    have := ih (i + 1) (l.set i.toNat (a + i)) (by rw [List.length_set]; exact hn) (by omega) (by omega) (fun j hj0 hj1 => by
      rw [rd_set l i _ j h0 (by omega) hj0]
      by_cases e : j = i
      · rw [if_pos e, e]
      · rw [if_neg e]; exact h j hj0 (by omega))
    rwa [show a + (i + 1) = a + i + 1 by omega] at this
theorem markIntS_ev (l : List Int) (a : Int) (hl : l.length ≤ 1048576) (ha0 : 0 ≤ a) (ha1 : a ≤ 1099511627776) : Ev (fun k => laws_markIntS.f k l a) (a + l.length, marks l.length a) := by
  unfold laws_markIntS.f
  have := markIntS_loop l.length hl a ha0 ha1 l.length 0 l rfl (by omega) (by omega) (fun j h0 h1 => by omega)
  rwa [show a + 0 = a by omega] at this
theorem heldIntS_loop (n : Nat) (hl : n ≤ 1048576) (a : Int) (ha0 : 0 ≤ a) (ha1 : a ≤ 1099511627776) (d : Nat) : ∀ (i : Int), 0 ≤ i → i + d = n → Ev (fun k => laws_heldIntS.l0 k (marks n a) (a + i) i) (a + n) := by
  have hn : (marks n a).length = n := mapI_length _ _
  induction d with
  | zero =>
    intro i h0 h1
    refine Ev.step (fun k => by rw [laws_heldIntS.l0]) ?_
    refine Ev.neg (by omega) (Ev.done ?_)
    rw [show a + i = a + n by omega]
  | succ d ih =>
    intro i h0 h1
    refine Ev.step (fun k => by rw [laws_heldIntS.l0]) ?_
    simp (disch := omega) only [w64]
    refine Ev.pos (by omega) (Ev.pos (by omega) (Ev.pos ?_ ?_))
    · exact rd_mapI h0 (by omega)
    · have := ih (i + 1) (by omega) (by omega)
      rwa [show a + (i + 1) = a + i + 1 by omega] at this
theorem heldIntS_ev (n : Nat) (a : Int) (hl : n ≤ 1048576) (ha0 : 0 ≤ a) (ha1 : a ≤ 1099511627776) : Ev (fun k => laws_heldIntS.f k (marks n a) a) (a + n) := by
  unfold laws_heldIntS.f
  have := heldIntS_loop n hl a ha0 ha1 n 0 (by omega) (by omega)
  rwa [show a + 0 = a by omega] at this

end Go.Proofs.Ytckipgldmkboiaa.X

set_option linter.unusedVariables false
set_option linter.unusedSimpArgs false
namespace Go.Proofs.Ytckipgldmkboiaa.Pure
open Go.RowKit Go.Proofs.Ytckipgldmkboiaa.P Go.Proofs.YtckipgldmkboiaaW.PrintWords Go.Proofs.YtckipgldmkboiaaW.PrintLast Go.Proofs.Ytckipgldmkboiaa.X

theorem FnExactMoveBack : laws_FnExactMoveBack.Pure := by
  intro l0 l1 _ _ _ _ _ _
  refine Ev.rounds ?_
  unfold laws_FnExactMoveBack.f
  by_cases hb_l0 : (l0.length : Int) > 1048576
  · exact Ev.pos hb_l0 (Ev.done rfl)
  refine Ev.neg hb_l0 ?_
  have h_l0 : l0.length ≤ 1048576 := by omega
  by_cases hb_l1 : (l1.length : Int) > 1048576
  · exact Ev.pos hb_l1 (Ev.done rfl)
  refine Ev.neg hb_l1 ?_
  have h_l1 : l1.length ≤ 1048576 := by omega
  refine Ev.bind (toIntS_ev l0 h_l0) ?_
  refine Ev.bind (toIntS_ev l1 h_l1) ?_
  refine Ev.bind (specBack_ev h_l0 h_l1) ?_
  refine Ev.bind (toIntS_ev l0 h_l0) ?_
  refine Ev.bind (toIntS_ev l1 h_l1) ?_
  refine Ev.bind (implBack_ev (t := l0) h_l1) ?_
  obtain ⟨res, hres⟩ : ∃ r, backR l0 l1 = r := ⟨_, rfl⟩
  have hR : res.1.length ≤ 1048576 := by rw [← hres]; exact backR_length l0 l1
  rw [hres]
  refine Ev.bind (eqIntS_ev _ _ hR) (Ev.pos (by simp) ?_)
  refine Ev.step (fun k => by rw [laws_FnExactMoveBack.j0]) (Ev.neg (by simp) ?_)
  refine Ev.bind (toIntS_ev l0 h_l0) (Ev.bind (eqIntS_ev l0 l0 h_l0) (Ev.pos (by simp) ?_))
  refine Ev.bind (toIntS_ev l1 h_l1) (Ev.bind (eqIntS_ev l1 l1 h_l1) (Ev.pos (by simp) ?_))
  refine Ev.bind (markIntS_ev l0 (1) h_l0 (by omega) (by omega)) ?_
  dsimp only
  refine Ev.bind (markIntS_ev l1 (1 + (l0.length : Int)) h_l1 (by omega) (by omega)) ?_
  dsimp only
  refine Ev.neg (by omega) (Ev.bind (eqIntS_ev _ _ hR) (Ev.pos (by simp) ?_))
  refine Ev.step (fun k => by rw [laws_FnExactMoveBack.j1]) (Ev.neg (by simp) ?_)
  refine Ev.bind (markIntS_ev _ 1 hR (by omega) (by omega)) ?_
  dsimp only
  refine Ev.bind (heldIntS_ev _ 1 hR (by omega) (by omega)) (Ev.neg (by omega) (Ev.pos rfl ?_))
  refine Ev.bind (toIntS_ev l0 h_l0) ?_
  refine Ev.bind (toIntS_ev l1 h_l1) ?_
  refine Ev.bind (implBack_ev (t := l0) h_l1) ?_
  rw [hres]
  refine Ev.bind (eqIntS_ev _ _ hR) (Ev.pos (by simp) ?_)
  refine Ev.step (fun k => by rw [laws_FnExactMoveBack.j2]) (Ev.neg (by simp) ?_)
  refine Ev.bind (heldIntS_ev _ 1 hR (by omega) (by omega)) (Ev.neg (by omega) (Ev.pos rfl (Ev.done rfl)))

end Go.Proofs.Ytckipgldmkboiaa.Pure

namespace Go.Proofs.Ytckipgldmkboiaa.fnExactMoveBack
open Go.ChangeShapes Go.WideShapes Go.ChangeAt Go.RowKit
open Go.ChangeMaps (open_string shut_string)
set_option linter.unusedVariables false
theorem own : ownKnob Try.prog.godebug = none := by kernel_rfl
theorem laidOut : laidOutB Try.prog = true := by kernel_rfl
def IsRow (k : IntKind) (w : World) (a : Option Addr) (len cap : Nat) (zs : List Int) : Prop :=
  (a = none ∧ len = 0 ∧ cap = 0 ∧ zs = []) ∨
  ∃ x, a = some x ∧ len ≤ cap ∧ cap ≤ maxLen ∧ zs.length = cap ∧ (∀ i, i < zs.length → w.cell? (x.add i) = some (.int k (zs.getD i 0))) ∧ ∀ n ∈ zs, (Lit.int k n).wf = true
set_option maxRecDepth 100000 in
theorem lifted (os : Os) (started : os.Started) (H : Type) (enc : TypeId × Value → H) :
    ReturnsInHanded {} Try.checked os 3 .any (Rows.fnExactMoveBackSpec.pre6 enc Try.prog Try.f3 Rows.fnExactMoveBackRow.domain false) (Rows.fnExactMoveBackSpec.post enc Try.prog Try.f3 false true false false) := by
  refine returnsInHanded_of_change_sized (C := Try.checked) own started (by kernel_rfl) Try.func3
    (ChangeSpec.witness6 (enc := enc) (C := Try.checked) false ⟨#[], #[.slice none 0 0, .slice none 0 0], []⟩ 8 (by kernel_rfl) (by kernel_rfl) (by kernel_rfl) (by kernel_rfl)) ?_
  intro W base args ds gs before hval0 hW hcnd hsz0 _
  have hsz : (DataW.weightsEach Try.prog (Try.f3.params.toList ++ Rows.fnExactMoveBackSpec.plain.varTypes Try.prog) (ds ++ gs)).all (· ≤ reachBytes) = true := hsz0
  have hval : ∀ (j : Nat) t v, Try.f3.params[j]? = some t → args[j]? = some v → Value.okWide Try.prog W .any base t v := hval0
  have hW' := hW
  obtain ⟨p, q, hA0, hV, rfl, hfz, hnd⟩ := hW
  have hA : DataW.TrodAll enc Try.prog W 0 (fun _ => true) true Try.f3.params.toList args.toList ds p := hA0
  rw [Try.params3] at hA hval hsz
  obtain ⟨v0, vs0, d0, ds0, p0, q0, hargs, rfl, rfl, h0, r0⟩ := trodAll_cons hA
  obtain ⟨v1, vs1, d1, ds1, p1, q1, rfl, rfl, rfl, h1, r1⟩ := trodAll_cons r0
  obtain ⟨rfl, rfl, rfl⟩ := trodAll_nil r1
  obtain rfl : args = #[v0, v1] := by cases args; simp_all
  obtain ⟨rfl, rfl⟩ := trodVars_none hV
  obtain ⟨a0, len0, cap0, rfl⟩ := okWide_slice Try.underlying22 (hval 0 22 v0 rfl rfl)
  have k0 := h0
  have lt0 : ∀ x ∈ p0, x.block < W.heap.size := by obtain ⟨m, hm⟩ := k0; exact DataW.trod_lt m _ _ _ hm
  obtain ⟨z0, w0⟩ : ∃ zs, IsRow .i64 W a0 len0 cap0 zs := by
    obtain ⟨fuel, hf⟩ := h0
    rcases open_ints Try.underlying22 Try.underlying3 (by kernel_rfl) hf with ⟨hcs, _⟩ | ⟨x, l, c, zs, hcs, _, hl, hm, hz, _, hcell, hwz⟩
    · simp [Value.cells] at hcs
      obtain ⟨rfl, rfl, rfl⟩ := hcs
      exact ⟨[], .inl ⟨rfl, rfl, rfl, rfl⟩⟩
    · simp [Value.cells] at hcs
      obtain ⟨rfl, rfl, rfl⟩ := hcs
      exact ⟨zs, .inr ⟨_, rfl, hl, hm, by simpa using hz, hcell, hwz⟩⟩
  have y0 : len0 * 8 ≤ 140737488351232 := Go.Proofs.YtckipgldmkboiaaW.PrintWords.sized_ints hsz (j := 0) (t := 22) rfl rfl Try.underlying22 Try.underlying3 (by kernel_rfl) (by kernel_rfl) h0
  obtain ⟨a1, len1, cap1, rfl⟩ := okWide_slice Try.underlying22 (hval 1 22 v1 rfl rfl)
  have k1 := h1
  have lt1 : ∀ x ∈ p1, x.block < W.heap.size := by obtain ⟨m, hm⟩ := k1; exact DataW.trod_lt m _ _ _ hm
  obtain ⟨z1, w1⟩ : ∃ zs, IsRow .i64 W a1 len1 cap1 zs := by
    obtain ⟨fuel, hf⟩ := h1
    rcases open_ints Try.underlying22 Try.underlying3 (by kernel_rfl) hf with ⟨hcs, _⟩ | ⟨x, l, c, zs, hcs, _, hl, hm, hz, _, hcell, hwz⟩
    · simp [Value.cells] at hcs
      obtain ⟨rfl, rfl, rfl⟩ := hcs
      exact ⟨[], .inl ⟨rfl, rfl, rfl, rfl⟩⟩
    · simp [Value.cells] at hcs
      obtain ⟨rfl, rfl, rfl⟩ := hcs
      exact ⟨zs, .inr ⟨_, rfl, hl, hm, by simpa using hz, hcell, hwz⟩⟩
  have y1 : len1 * 8 ≤ 140737488351232 := Go.Proofs.YtckipgldmkboiaaW.PrintWords.sized_ints hsz (j := 1) (t := 22) rfl rfl Try.underlying22 Try.underlying3 (by kernel_rfl) (by kernel_rfl) h1
  clear hA0 hval0 hsz0 hsz
  refine (P.laws_FnExactMoveBack.walk Pure.FnExactMoveBack a0 len0 cap0 z0 a1 len1 cap1 z1 W w0 y0 w1 y1).mono fun e W' ⟨he, bel⟩ => ?_
  subst he
  exact ⟨_, rfl, _, _, _, [], _, [], hW', trodAll_mk1 (shut_bool Try.underlying4 _), (trodAll_cons_mk (Below.trod laidOut (by kernel_rfl) (of_decide_eq_true (by kernel_rfl)) k0 bel lt0) (trodAll_cons_mk (Below.trod laidOut (by kernel_rfl) (of_decide_eq_true (by kernel_rfl)) k1 bel lt1) trodAll_mk0)), rfl, bel.frame _, fun h => by cases h⟩
theorem over : Rows.fnExactMoveBackRow.holds Try.pinned (OpenSpec.ofChange Rows.fnExactMoveBackSpec) :=
  OpenClaim.holds_of_wide 3 Try.f3 rfl rfl rfl rfl rfl rfl rfl ⟨rfl, rfl, rfl, rfl, rfl⟩ rfl rfl rfl rfl rfl (by kernel_rfl) Try.func3 (by kernel_rfl)
    (of_decide_eq_true (by kernel_rfl)) (by unfold Func.isWrapper; first | (rw [if_pos (by decide +kernel)]; kernel_rfl) | (rw [if_neg (by decide +kernel)]; exact ⟨rfl, rfl⟩))
    (fun os started H enc _ => lifted os started H enc)
theorem proved : Rows.FnExactMoveBackSaid := over
#print axioms proved
end Go.Proofs.Ytckipgldmkboiaa.fnExactMoveBack
namespace Go.Proofs.Ytckipgldmkboiaa
/-- The row, under a short name, for the claim. -/
theorem fnExactMoveBack_holds : Rows.FnExactMoveBackSaid := fnExactMoveBack.proved
end Go.Proofs.Ytckipgldmkboiaa
