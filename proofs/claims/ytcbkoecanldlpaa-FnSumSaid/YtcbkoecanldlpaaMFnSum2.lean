/- The law FnSum of the given program: for every input the call returns true, and each argument reads afterwards as it read before. No conditions. (Part 3 of 3; the last part holds the theorem.) -/
import Derived.Test.YtcbkoecanldlpaaMFnSum1
import Derived.Test.YtcbkoecanldlpaaMFnSum0
import Derived.Test.YtcbkoecanldlpaaRows
import Derived.WalkKit
import Derived.ProofKit
import Derived.OpenShut
import Derived.ShutString
import Derived.ChangeOld
import Derived.Below
import Derived.SizedLaws
import Derived.Test.YtcbkoecanldlpaaWSized
set_option linter.unusedVariables false
set_option linter.unusedSimpArgs false
namespace Go.Proofs.Ytcbkoecanldlpaa.X
open Go.RowKit Go.Proofs.YtcbkoecanldlpaaW.PrintWords Go.Proofs.YtcbkoecanldlpaaW.PrintLast Go.Proofs.Ytcbkoecanldlpaa.P

theorem lessInt_eq (x y : Int) : cmp_Less_int.f x y = some (decide (x < y)) := by
  unfold cmp_Less_int.f cmp_isNaN_int.f
  simp
theorem asc_extI : ∀ a b : List Int, a.Pairwise (· < ·) → b.Pairwise (· < ·) → (∀ x, x ∈ a ↔ x ∈ b) → a = b := by
  intro a
  induction a with
  | nil =>
    intro b _ _ h
    cases b with
    | nil => rfl
    | cons y b => exact absurd ((h y).2 List.mem_cons_self) (by simp)
  | cons x a ih =>
    intro b ha hb h
    cases b with
    | nil => exact absurd ((h x).1 List.mem_cons_self) (by simp)
    | cons y b =>
      have ha := List.pairwise_cons.1 ha
      have hb := List.pairwise_cons.1 hb
      have e : x = y := by
        rcases List.mem_cons.1 ((h x).1 List.mem_cons_self) with e | e
        · exact e
        · rcases List.mem_cons.1 ((h y).2 List.mem_cons_self) with e2 | e2
          · exact e2.symm
          · have := hb.1 x e; have := ha.1 y e2; omega
      subst e
      rw [ih b ha.2 hb.2 fun z => ⟨fun hz => ?_, fun hz => ?_⟩]
      · rcases List.mem_cons.1 ((h z).1 (List.mem_cons_of_mem _ hz)) with e | e
        · have := ha.1 z hz; omega
        · exact e
      · rcases List.mem_cons.1 ((h z).2 (List.mem_cons_of_mem _ hz)) with e | e
        · have := hb.1 z hz; omega
        · exact e
def swI (j a : Int) : Int := if a = j then j - 1 else if a = j - 1 then j else a
def swapL (l : List Int) (j : Int) : List Int := (l.set j.toNat (rd l (j - 1))).set (j - 1).toNat (rd l j)
theorem rd_setS {l : List Int} {i j v : Int} (i0 : 0 ≤ i) (i1 : i < l.length) (j0 : 0 ≤ j) : rd (l.set i.toNat v) j = if j = i then v else rd l j := by
  unfold rd
  rw [List.getD_eq_getElem?_getD, List.getD_eq_getElem?_getD, List.getElem?_set]
  by_cases e : j = i
  · rw [if_pos e, if_pos (by omega), if_pos (by omega)]; rfl
  · rw [if_neg e, if_neg (by omega)]
theorem swapL_rd {l : List Int} {j : Int} (j0 : 0 < j) (j1 : j < l.length) {a : Int} (a0 : 0 ≤ a) : rd (swapL l j) a = rd l (swI j a) := by
  unfold swapL swI
  rw [rd_setS (by omega) (by rw [List.length_set]; omega) a0, rd_setS (by omega) j1 a0]
  by_cases e1 : a = j - 1
  · rw [if_pos e1, if_neg (by omega), if_pos e1]
  · by_cases e2 : a = j
    · rw [if_neg e1, if_pos e2, if_pos e2]
    · rw [if_neg e1, if_neg e2, if_neg e2, if_neg e1]
theorem swapL_length (l : List Int) (j : Int) : (swapL l j).length = l.length := by unfold swapL; rw [List.length_set, List.length_set]
theorem mem_rdI {l : List Int} {v : Int} : v ∈ l ↔ ∃ i : Int, 0 ≤ i ∧ i < l.length ∧ rd l i = v := by
  constructor
  · intro h
    obtain ⟨i, hi, e⟩ := List.mem_iff_getElem.1 h
    exact ⟨i, by omega, by omega, by rw [rd_cast l i hi, e]⟩
  · rintro ⟨i, i0, i1, e⟩
    rw [← e]; exact rd_mem i1 i0
theorem swapL_mem {l : List Int} {j : Int} (j0 : 0 < j) (j1 : j < l.length) {v : Int} : v ∈ swapL l j ↔ v ∈ l := by
  rw [mem_rdI, mem_rdI]
  have rng : ∀ a : Int, 0 ≤ a → a < l.length → 0 ≤ swI j a ∧ swI j a < l.length := fun a a0 a1 => by unfold swI; split <;> (try split) <;> omega
  have inv : ∀ a : Int, swI j (swI j a) = a := fun a => by unfold swI; split <;> (try split) <;> (try split) <;> omega
  constructor
  · rintro ⟨a, a0, a1, e⟩
    rw [swapL_length] at a1
    rw [swapL_rd j0 j1 a0] at e
    exact ⟨swI j a, (rng a a0 a1).1, (rng a a0 a1).2, e⟩
  · rintro ⟨a, a0, a1, e⟩
    refine ⟨swI j a, (rng a a0 a1).1, by rw [swapL_length]; exact (rng a a0 a1).2, ?_⟩
    rw [swapL_rd j0 j1 (rng a a0 a1).1, inv]; exact e
def Dif (l : List Int) : Prop := ∀ a b : Int, 0 ≤ a → a < l.length → 0 ≤ b → b < l.length → a ≠ b → rd l a ≠ rd l b
theorem swapL_dif {l : List Int} (h : Dif l) {j : Int} (j0 : 0 < j) (j1 : j < l.length) : Dif (swapL l j) := by
  intro a b a0 a1 b0 b1 hne
  rw [swapL_length] at a1 b1
  rw [swapL_rd j0 j1 a0, swapL_rd j0 j1 b0]
  refine h _ _ ?_ ?_ ?_ ?_ ?_ <;> (unfold swI; split <;> (try split) <;> (try split) <;> (try split) <;> omega)
def Near1 (l : List Int) (i j : Int) : Prop := (∀ a b : Int, 0 ≤ a → a < b → b ≤ i → a ≠ j → b ≠ j → rd l a < rd l b) ∧ ∀ b : Int, j < b → b ≤ i → rd l j < rd l b
def SortR (l r : List Int) : Prop := r.length = l.length ∧ (∀ v, v ∈ r ↔ v ∈ l) ∧ r.Pairwise (· < ·)
theorem ins_l1 {l0 : List Int} {n : Int} (hn : n ≤ 1000) {i : Int} (i0 : 0 ≤ i) (i1 : i < n) (hr : ∀ l : List Int, (l.length : Int) = n → (∀ v, v ∈ l ↔ v ∈ l0) → Dif l → (∀ a b : Int, 0 ≤ a → a < b → b ≤ i → rd l a < rd l b) → ∃ r, SortR l0 r ∧ Ev (fun k => slices_insertionSortOrdered_int.l0 k l 0 n (i + 1)) r) (d : Nat) :
    ∀ (j : Int) (l : List Int), j = d → j ≤ i → (l.length : Int) = n → (∀ v, v ∈ l ↔ v ∈ l0) → Dif l → Near1 l i j → ∃ r, SortR l0 r ∧ Ev (fun k => slices_insertionSortOrdered_int.l1 k l 0 n i j) r := by
  induction d with
  | zero =>
    intro j l hj ji hl hm hd hN
    have hj : j = 0 := hj
    subst hj
    obtain ⟨r, h1, h2⟩ := hr l hl hm hd fun a b a0 ab b1 => by
      by_cases e : a = 0
      · subst e; exact hN.2 b (by omega) b1
      · exact hN.1 a b a0 ab b1 e (by omega)
    refine ⟨r, h1, ?_⟩
    refine Ev.step (fun k => by rw [slices_insertionSortOrdered_int.l1]) ?_
    rw [w64 (x := i + 1) (by omega) (by omega)]
    exact Ev.neg (by omega) h2
  | succ d ih =>
    intro j l hj ji hl hm hd hN
    have e1 : wrap64 (j - 1) = j - 1 := w64 (by omega) (by omega)
    have e2 : wrap64 (i + 1) = i + 1 := w64 (by omega) (by omega)
    by_cases hc : rd l j < rd l (j - 1)
    · have hlen := swapL_length l j
      have R := fun (a : Int) (a0 : 0 ≤ a) => swapL_rd (l := l) (j := j) (by omega) (by omega) a0
      obtain ⟨r, h1, h2⟩ := ih (j - 1) (swapL l j) (by omega) (by omega) (by rw [hlen]; exact hl) (fun v => (swapL_mem (by omega) (by omega)).trans (hm v)) (swapL_dif hd (by omega) (by omega)) ⟨fun a b a0 ab b1 na nb => by
          rw [R a a0, R b (by omega)]
          unfold swI
          by_cases ea : a = j
          · rw [if_pos ea, if_neg (by omega), if_neg nb]
            exact hN.1 (j - 1) b (by omega) (by omega) b1 (by omega) (by omega)
          · rw [if_neg ea, if_neg na]
            by_cases eb : b = j
            · rw [if_pos eb]
              exact hN.1 a (j - 1) a0 (by omega) (by omega) ea (by omega)
            · rw [if_neg eb, if_neg nb]
              exact hN.1 a b a0 ab b1 ea eb, fun b jb b1 => by
          rw [R (j - 1) (by omega), R b (by omega)]
          unfold swI
          rw [if_neg (by omega), if_pos rfl]
          by_cases eb : b = j
          · rw [if_pos eb]; exact hc
          · rw [if_neg eb, if_neg (by omega)]
            exact hN.2 b (by omega) b1⟩
      refine ⟨r, h1, ?_⟩
      refine Ev.step (fun k => by rw [slices_insertionSortOrdered_int.l1]) ?_
      rw [e1, e2, lessInt_eq]
      exact Ev.pos (by omega) (Ev.pos (by omega) (Ev.pos (by omega) (Ev.pos (by omega) (Ev.pos (by omega) (Ev.fix rfl (Ev.pos (decide_eq_true hc) h2))))))
    · have hlt : rd l (j - 1) < rd l j := by
        have := hd (j - 1) j (by omega) (by omega) (by omega) (by omega) (by omega)
        omega
      obtain ⟨r, h1, h2⟩ := hr l hl hm hd fun a b a0 ab b1 => by
        by_cases ea : a = j
        · subst ea; exact hN.2 b ab b1
        · by_cases eb : b = j
          · subst eb
            by_cases e : a = b - 1
            · rw [e]; exact hlt
            · have := hN.1 a (b - 1) a0 (by omega) (by omega) ea (by omega)
              omega
          · exact hN.1 a b a0 ab b1 ea eb
      refine ⟨r, h1, ?_⟩
      refine Ev.step (fun k => by rw [slices_insertionSortOrdered_int.l1]) ?_
      rw [e1, e2, lessInt_eq]
      exact Ev.pos (by omega) (Ev.pos (by omega) (Ev.pos (by omega) (Ev.pos (by omega) (Ev.pos (by omega) (Ev.fix rfl (Ev.neg (by simpa using hc) h2))))))
theorem ins_l0 {l0 : List Int} {n : Int} (hn : n ≤ 1000) (d : Nat) : ∀ (i : Int) (l : List Int), 1 ≤ i → i + d = n → (l.length : Int) = n → (∀ v, v ∈ l ↔ v ∈ l0) → Dif l → (∀ a b : Int, 0 ≤ a → a < b → b < i → rd l a < rd l b) → (l0.length : Int) = n → ∃ r, SortR l0 r ∧ Ev (fun k => slices_insertionSortOrdered_int.l0 k l 0 n i) r := by
  induction d with
  | zero =>
    intro i l i0 hi hl hm hd ha h0
    refine ⟨l, ⟨by omega, hm, List.pairwise_iff_getElem.2 fun a b h1 h2 hab => ?_⟩, ?_⟩
    · have := ha (a : Int) (b : Int) (by omega) (by omega) (by omega)
      rwa [rd_cast l a h1, rd_cast l b h2] at this
    · refine Ev.step (fun k => by rw [slices_insertionSortOrdered_int.l0]) ?_
      exact Ev.neg (by omega) (Ev.done rfl)
  | succ d ih =>
    intro i l i0 hi hl hm hd ha h0
    obtain ⟨r, h1, h2⟩ := ins_l1 (l0 := l0) hn (i := i) (by omega) (by omega) (fun l hl hm hd ha => ih (i + 1) l (by omega) (by omega) hl hm hd (fun a b a0 ab b1 => ha a b a0 ab (by omega)) h0) i.toNat i l (by omega) (by omega) hl hm hd
      ⟨fun a b a0 ab b1 na nb => ha a b a0 ab (by omega), fun b ib b1 => by omega⟩
    refine ⟨r, h1, ?_⟩
    refine Ev.step (fun k => by rw [slices_insertionSortOrdered_int.l0]) ?_
    exact Ev.pos (by omega) h2
theorem sort_ev {l : List Int} (h9 : l.length = 9) (hd : l.Nodup) : ∃ r, SortR l r ∧ Ev (fun k => slices_Sort_int_int.f k l) r := by
  have hD : Dif l := fun a b a0 a1 b0 b1 hne e => by
    rw [rd_getElem a0 a1, rd_getElem b0 b1] at e
    have := (List.getElem_inj hd).1 e
    omega
  obtain ⟨r, h1, h2⟩ := ins_l0 (l0 := l) (n := 9) (by omega) 8 1 l (by omega) (by omega) (by omega) (fun v => Iff.rfl) hD (fun a b a0 ab b1 => by omega) (by omega)
  refine ⟨r, h1, ?_⟩
  unfold slices_Sort_int_int.f
  rw [show (l.length : Int) = 9 by omega]
  refine Ev.fix (a := 4) (by unfold bits_Len.f; rw [show IntKind.u64.wrap 9 = 9 by decide]; rfl) ?_
  refine Ev.bind (a := r) ?_ (Ev.done rfl)
  unfold slices_pdqsortOrdered_int.f
  refine Ev.pos (by omega) ?_
  unfold slices_insertionSortOrdered_int.f
  rw [show wrap64 (0 + 1) = 1 from w64 (by omega) (by omega)]
  exact h2
end Go.Proofs.Ytcbkoecanldlpaa.X

set_option linter.unusedVariables false
set_option linter.unusedSimpArgs false
namespace Go.Proofs.Ytcbkoecanldlpaa.X
open Go.RowKit Go.Proofs.YtcbkoecanldlpaaW.PrintWords Go.Proofs.YtcbkoecanldlpaaW.PrintLast Go.Proofs.Ytcbkoecanldlpaa.P

theorem len_leI : ∀ A B : List Int, A.Nodup → (∀ a ∈ A, a ∈ B) → A.length ≤ B.length := by
  intro A
  induction A with
  | nil => intro B _ _; exact Nat.zero_le _
  | cons a A ih =>
    intro B hA hf
    have hA' := List.nodup_cons.1 hA
    have ha := hf a List.mem_cons_self
    have h1 := ih (B.erase a) hA'.2 (fun b hb => (List.mem_erase_of_ne (fun e : b = a => hA'.1 (by rw [← e]; exact hb))).2 (hf b (List.mem_cons_of_mem _ hb)))
    have h2 := List.length_erase_of_mem ha
    have h3 := List.length_pos_of_mem ha
    rw [List.length_cons]; omega
structure Grow (l o : List Int) : Prop where
  nd : o.Nodup
  nr : ∀ x ∈ o, Nr x
  z : (0 : Int) ∈ o
  has : ∀ g ∈ l, g ∈ o
  least : ∀ T : Int → Prop, Cl T → (∀ g ∈ l, T g) → ∀ x ∈ o, T x
theorem Grow.len {l o : List Int} (G : Grow l o) : o.length ≤ 81 := by
  have := len_leI o (filI 81 fun _ => true) G.nd fun x hx => mem_filI.2 ⟨(G.nr x hx).1, (G.nr x hx).2, rfl⟩
  exact Nat.le_trans this (filI_length_le _ _)
theorem Grow.put {l o : List Int} (G : Grow l o) {p q : Int} (hp : p ∈ o) (hq : q ∈ o) (hn : addF p q ∉ o) : Grow l (o ++ [addF p q]) where
  nd := List.nodup_append.2 ⟨G.nd, by simp, fun a ha b hb e => hn (by rw [← List.mem_singleton.1 hb, ← e]; exact ha)⟩
  nr := fun x hx => (List.mem_append.1 hx).elim (G.nr x) fun h => by rw [List.mem_singleton.1 h]; exact addF_nr p q
  z := List.mem_append.2 (.inl G.z)
  has := fun g hg => List.mem_append.2 (.inl (G.has g hg))
  least := fun T hT h x hx => (List.mem_append.1 hx).elim (G.least T hT h x) fun e => by
    rw [List.mem_singleton.1 e]
    exact hT.2 p q (G.nr p hp) (G.nr q hq) (G.least T hT h p hp) (G.least T hT h q hq)
def Upto (o : List Int) (i : Int) : Prop := ∀ a b : Int, 0 ≤ a → a < i → 0 ≤ b → b < i → addF (rd o a) (rd o b) ∈ o
theorem rd_app {o : List Int} {v a : Int} (a0 : 0 ≤ a) (a1 : a < o.length) : rd (o ++ [v]) a = rd o a := by
  rw [rd_getElem a0 a1, rd_getElem a0 (by rw [List.length_append]; omega), List.getElem_append_left]
theorem Upto.put {o : List Int} {i v : Int} (h : Upto o i) (hi : i ≤ o.length) : Upto (o ++ [v]) i := fun a b a0 a1 b0 b1 => by
  rw [rd_app a0 (by omega), rd_app b0 (by omega)]
  exact List.mem_append.2 (.inl (h a b a0 a1 b0 b1))
theorem Grow.end {l o : List Int} (hl : ∀ g ∈ l, Nr g) (G : Grow l o) (h : Upto o o.length) : nineR (sumS l) = nineR fun x => decide ((x : Int) ∈ o) := by
  refine nine_hull hl ⟨⟨decide_eq_true G.z, fun p q hp hq a b => ?_⟩, fun g hg => ?_, fun T hT h x _ hx => G.least T hT h _ (of_decide_eq_true hx)⟩
  · have a := of_decide_eq_true a
    have b := of_decide_eq_true b
    rw [Int.toNat_of_nonneg hp.1] at a
    rw [Int.toNat_of_nonneg hq.1] at b
    obtain ⟨i, i0, i1, ei⟩ := mem_rdI.1 a
    obtain ⟨j, j0, j1, ej⟩ := mem_rdI.1 b
    have := h i j i0 i1 j0 j1
    rw [ei, ej] at this
    refine decide_eq_true ?_
    rw [Int.toNat_of_nonneg (addF_nr p q).1]
    exact this
  · refine decide_eq_true ?_
    rw [Int.toNat_of_nonneg (hl g hg).1]
    exact G.has g hg
theorem setL_mem {o : List Int} (ho : ∀ x ∈ o, Nr x) {x : Int} : x ∈ setL (fun x => decide ((x : Int) ∈ o)) ↔ x ∈ o := by
  unfold setL
  rw [mem_filI]
  constructor
  · rintro ⟨h0, h1, h2⟩
    have := of_decide_eq_true h2
    rwa [Int.toNat_of_nonneg h0] at this
  · intro h
    refine ⟨(ho x h).1, (ho x h).2, decide_eq_true ?_⟩
    rw [Int.toNat_of_nonneg (ho x h).1]; exact h
theorem filI_nd (n : Nat) (p : Int → Bool) : (filI n p).Nodup := (filI_asc n p).imp fun h => by omega
theorem isum_end {l o : List Int} (hl : ∀ g ∈ l, Nr g) (G : Grow l o) (h : Upto o o.length) : Ev (fun k => impl_SpreadSum.l1 k o (o.length : Int)) (nineR (sumS l)) := by
  rw [G.end hl h]
  have M := fun x => setL_mem G.nr (x := x)
  have hlen : (setL fun x => decide ((x : Int) ∈ o)).length = o.length :=
    Nat.le_antisymm (len_leI _ _ (filI_nd 81 _) fun x hx => (M x).1 hx) (len_leI _ _ G.nd fun x hx => (M x).2 hx)
  refine Ev.step (fun k => by rw [impl_SpreadSum.l1]) ?_
  refine Ev.neg (by omega) ?_
  unfold nineR
  by_cases h9 : o.length = 9
  · rw [if_pos (by omega)]
    obtain ⟨r, ⟨r1, r2, r3⟩, er⟩ := sort_ev h9 G.nd
    have e : r = setL fun x => decide ((x : Int) ∈ o) := asc_extI _ _ r3 (filI_asc 81 _) fun x => (r2 x).trans (M x).symm
    rw [e] at er
    exact Ev.pos (by omega) (Ev.bind er (Ev.done rfl))
  · rw [if_neg (by omega)]
    exact Ev.neg (by omega) (Ev.done rfl)
theorem isum_l2 {l : List Int} {i : Int} (i0 : 0 ≤ i) (hr : ∀ o : List Int, Grow l o → i < o.length → Upto o (i + 1) → Ev (fun k => impl_SpreadSum.l1 k o (i + 1)) (nineR (sumS l))) (d : Nat) :
    ∀ (c : Int) (o : List Int), 0 ≤ c → c + d = i + 1 → Grow l o → i < o.length → Upto o i → (∀ b : Int, 0 ≤ b → b < c → addF (rd o i) (rd o b) ∈ o) → Ev (fun k => impl_SpreadSum.l2 k o i c) (nineR (sumS l)) := by
  induction d with
  | zero =>
    intro c o c0 c1 G hi hU hc
    have hle := G.len
    refine Ev.step (fun k => by rw [impl_SpreadSum.l2]) ?_
    rw [w64 (x := i + 1) (by omega) (by omega)]
    refine Ev.neg (by omega) (hr o G hi fun a b a0 a1 b0 b1 => ?_)
    by_cases ea : a = i
    · rw [ea]; exact hc b b0 (by omega)
    · by_cases eb : b = i
      · rw [eb, addF_comm]; exact hc a a0 (by omega)
      · exact hU a b a0 (by omega) b0 (by omega)
  | succ d ih =>
    intro c o c0 c1 G hi hU hc
    have hle := G.len
    have mi : rd o i ∈ o := rd_mem hi i0
    have mc : rd o c ∈ o := rd_mem (by omega) c0
    have ni := G.nr _ mi
    have nc := G.nr _ mc
    refine Ev.step (fun k => by rw [impl_SpreadSum.l2]) ?_
    rw [w64 (x := c + 1) (by omega) (by omega)]
    refine Ev.pos (by omega) (Ev.pos i0 (Ev.pos hi (Ev.pos c0 (Ev.pos (by omega) (Ev.fix (addNear_eq (nearB_iff.2 ni) (nearB_iff.2 nc)) (Ev.bind (contains_ev o (by omega) _) ?_))))))
    by_cases hm : addF (rd o i) (rd o c) ∈ o
    · refine Ev.pos (decide_eq_true hm) (ih (c + 1) o (by omega) (by omega) G hi hU fun b b0 b1 => ?_)
      by_cases e : b = c
      · rw [e]; exact hm
      · exact hc b b0 (by omega)
    · have G2 := G.put mi mc hm
      refine Ev.neg (by simpa using hm) (Ev.pos (by omega) (ih (c + 1) _ (by omega) (by omega) G2 (by rw [List.length_append]; omega) (hU.put (by omega)) fun b b0 b1 => ?_))
      rw [rd_app i0 hi, rd_app b0 (by omega)]
      by_cases e : b = c
      · rw [e]; exact List.mem_append.2 (.inr (List.mem_singleton.2 rfl))
      · exact List.mem_append.2 (.inl (hc b b0 (by omega)))
theorem isum_l1 {l : List Int} (hl : ∀ g ∈ l, Nr g) (d : Nat) : ∀ (i : Int) (o : List Int), 0 ≤ i → i + d = 81 → Grow l o → i ≤ o.length → Upto o i → Ev (fun k => impl_SpreadSum.l1 k o i) (nineR (sumS l)) := by
  induction d with
  | zero =>
    intro i o i0 i1 G hi hU
    have hle := G.len
    obtain rfl : i = o.length := by omega
    exact isum_end hl G hU
  | succ d ih =>
    intro i o i0 i1 G hi hU
    by_cases e : i = o.length
    · subst e; exact isum_end hl G hU
    · refine Ev.step (fun k => by rw [impl_SpreadSum.l1]) ?_
      refine Ev.pos (by omega) (isum_l2 i0 (fun o G hi hU => ih (i + 1) o (by omega) (by omega) G (by omega) hU) (i + 1).toNat 0 o (by omega) (by omega) G (by omega) hU fun b b0 b1 => by omega)
theorem isum_l0 {l : List Int} (hl : l.length ≤ 1048576) (d : Nat) : ∀ (i : Int) (o : List Int), 0 ≤ i → i + d = l.length → Grow (l.take i.toNat) o → (∀ x ∈ l.take i.toNat, nearB x = true) → Ev (fun k => impl_SpreadSum.l0 k o l (l.length : Int) i) (sumR l) := by
  induction d with
  | zero =>
    intro i o i0 i1 G hn
    rw [List.take_of_length_le (by omega)] at G hn
    refine Ev.step (fun k => by rw [impl_SpreadSum.l0]) ?_
    unfold sumR
    rw [if_pos (List.all_eq_true.2 hn)]
    exact Ev.neg (by omega) (isum_l1 (fun g hg => nearB_iff.1 (hn g hg)) 81 0 o (by omega) (by omega) G (by omega) fun a b a0 a1 => by omega)
  | succ d ih =>
    intro i o i0 i1 G hn
    have hle := G.len
    have et : l.take (i + 1).toNat = l.take i.toNat ++ [rd l i] := by
      rw [show (i + 1).toNat = i.toNat + 1 by omega, List.take_add_one, List.getElem?_eq_getElem (by omega), Option.toList_some]
      rw [show l[i.toNat]'(by omega) = rd l i from (rd_getElem i0 (by omega)).symm]
    refine Ev.step (fun k => by rw [impl_SpreadSum.l0]) ?_
    rw [w64 (x := i + 1) (by omega) (by omega)]
    refine Ev.pos (by omega) (Ev.pos i0 (Ev.pos (by omega) (Ev.fix (isNear_eq (rd l i)) ?_)))
    by_cases hc : nearB (rd l i) = true
    · have hn' : ∀ x ∈ l.take (i + 1).toNat, nearB x = true := fun x hx => by
        rw [et] at hx
        rcases List.mem_append.1 hx with h | h
        · exact hn x h
        · rw [List.mem_singleton.1 h]; exact hc
      have nr := nearB_iff.1 hc
      refine Ev.pos hc (Ev.bind (contains_ev o (by omega) _) ?_)
      have sub : ∀ T : Int → Prop, (∀ g ∈ l.take (i + 1).toNat, T g) → ∀ g ∈ l.take i.toNat, T g := fun T h g hg => h g (by rw [et]; exact List.mem_append.2 (.inl hg))
      by_cases hm : rd l i ∈ o
      · refine Ev.pos (decide_eq_true hm) (ih (i + 1) o (by omega) (by omega) ⟨G.nd, G.nr, G.z, fun g hg => ?_, fun T hT h => G.least T hT (sub T h)⟩ hn')
        rw [et] at hg
        rcases List.mem_append.1 hg with h | h
        · exact G.has g h
        · rw [List.mem_singleton.1 h]; exact hm
      · refine Ev.neg (by simpa using hm) (Ev.pos (by omega) (ih (i + 1) _ (by omega) (by omega) ⟨?_, ?_, List.mem_append.2 (.inl G.z), fun g hg => ?_, fun T hT h x hx => ?_⟩ hn'))
        · exact List.nodup_append.2 ⟨G.nd, by simp, fun a ha b hb e => hm (by rw [← List.mem_singleton.1 hb, ← e]; exact ha)⟩
        · intro x hx
          rcases List.mem_append.1 hx with h | h
          · exact G.nr x h
          · rw [List.mem_singleton.1 h]; exact nr
        · rw [et] at hg
          rcases List.mem_append.1 hg with h | h
          · exact List.mem_append.2 (.inl (G.has g h))
          · exact List.mem_append.2 (.inr h)
        · rcases List.mem_append.1 hx with h2 | h2
          · exact G.least T hT (sub T h) x h2
          · rw [List.mem_singleton.1 h2]
            exact h _ (by rw [et]; exact List.mem_append.2 (.inr (List.mem_singleton.2 rfl)))
    · refine Ev.neg hc (Ev.done ?_)
      unfold sumR
      rw [if_neg]
      intro ha
      exact hc (List.all_eq_true.1 ha _ (rd_mem (by omega) i0))
theorem implSum_ev {l : List Int} (hl : l.length ≤ 1048576) : Ev (fun k => impl_SpreadSum.f k l) (sumR l) := by
  unfold impl_SpreadSum.f
  refine isum_l0 hl l.length 0 [0] (by omega) (by omega) ⟨by simp, fun x hx => ?_, by simp, fun g hg => ?_, fun T hT _ x hx => ?_⟩ fun x hx => ?_
  · rw [List.mem_singleton.1 hx]; exact ⟨by omega, by omega⟩
  · simp at hg
  · rw [List.mem_singleton.1 hx]; exact hT.1
  · simp at hx
end Go.Proofs.Ytcbkoecanldlpaa.X

set_option linter.unusedVariables false
set_option linter.unusedSimpArgs false
namespace Go.Proofs.Ytcbkoecanldlpaa.X
open Go.RowKit Go.Proofs.YtcbkoecanldlpaaW.PrintWords Go.Proofs.YtcbkoecanldlpaaW.PrintLast Go.Proofs.Ytcbkoecanldlpaa.P

theorem sameInts_loop (a b : List Int) (hl : a.length ≤ 1048576) (hab : a.length = b.length) (d : Nat) : ∀ (i : Int), 0 ≤ i → i + d = a.length → (∀ j : Nat, (j : Int) < i → rd a (j : Int) = rd b (j : Int)) → Ev (fun k => laws_sameInts.l0 k a b i) (decide (a = b)) := by
  induction d with
  | zero =>
    intro i h0 h1 h
    refine Ev.step (fun k => by rw [laws_sameInts.l0]) ?_
    refine Ev.neg (by omega) (Ev.done ?_)
    rw [decide_eq_true (ext_rd hab fun j hj => h j (by omega))]
  | succ d ih =>
    intro i h0 h1 h
    refine Ev.step (fun k => by rw [laws_sameInts.l0]) ?_
    simp (disch := omega) only [w64]
    refine Ev.pos (by omega) (Ev.pos (by omega) (Ev.pos (by omega) ?_))
    by_cases e : rd a i = rd b i
    · refine Ev.pos e (ih (i + 1) (by omega) (by omega) fun j hj => ?_)
      by_cases ej : (j : Int) = i
      · rw [ej]; exact e
      · exact h j (by omega)
    · refine Ev.neg e (Ev.done ?_)
      rw [decide_eq_false (fun hab => e (by rw [hab]))]
theorem sameInts_ev (a b : List Int) (hl : a.length ≤ 1048576) : Ev (fun k => laws_sameInts.f k a b) (decide (a = b)) := by
  unfold laws_sameInts.f
  by_cases h : a.length = b.length
  · exact Ev.pos (by omega) (sameInts_loop a b hl h a.length 0 (by omega) (by omega) fun j hj => by omega)
  · refine Ev.neg (by omega) (Ev.done ?_)
    rw [decide_eq_false (fun hab => h (by rw [hab]))]
end Go.Proofs.Ytcbkoecanldlpaa.X

set_option linter.unusedVariables false
set_option linter.unusedSimpArgs false
namespace Go.Proofs.Ytcbkoecanldlpaa.Pure
open Go.RowKit Go.Proofs.Ytcbkoecanldlpaa.P Go.Proofs.YtcbkoecanldlpaaW.PrintWords Go.Proofs.YtcbkoecanldlpaaW.PrintLast Go.Proofs.Ytcbkoecanldlpaa.X

theorem dsum_l0 {s : List Int} (hs : RdS s) {n : Int} (n1 : n ≤ 10) (d : Nat) : ∀ (i p : Int) (l : List Int), 0 ≤ i → i + d = n → 0 ≤ p → p ≤ 1000 + 2 * i → (l.length : Int) = i → ∃ r, r.length ≤ 10 ∧ Ev (fun k => spec_DrawSpreadSum.l0 k l n i s p) r := by
  induction d with
  | zero =>
    intro i p l i0 i1 p0 p1 hl
    refine ⟨l, by omega, ?_⟩
    refine Ev.step (fun k => by rw [spec_DrawSpreadSum.l0]) ?_
    exact Ev.neg (by omega) (Ev.done rfl)
  | succ d ih =>
    intro i p l i0 i1 p0 p1 hl
    obtain ⟨a, ha, ea⟩ := pick_ev hs p0 (by omega) (n := 82) (by omega) (by omega)
    obtain ⟨b, hb, eb⟩ := pick_ev hs (p := p + 1) (by omega) (by omega) (n := 20) (by omega) (by omega)
    obtain ⟨r, h1, h2⟩ := ih (i + 1) (p + 1 + 1) (l ++ [wrap64 (a - (wrap64 (Int.tdiv b 19)))]) (by omega) (by omega) (by omega) (by omega) (by rw [List.length_append, List.length_singleton]; omega)
    refine ⟨r, h1, ?_⟩
    refine Ev.step (fun k => by rw [spec_DrawSpreadSum.l0]) ?_
    rw [w64 (x := i + 1) (by omega) (by omega)]
    exact Ev.pos (by omega) (Ev.bind ea (Ev.bind eb (Ev.pos (by omega) h2)))
theorem drawSum_ev (l0 : List Int) (hu : ∀ x ∈ l0, (Lit.int .u8 x).wf = true) : ∃ r, r.length ≤ 10 ∧ Ev (fun k => spec_DrawSpreadSum.f k l0) r := by
  obtain ⟨s, hs, eo⟩ := open_ev l0 hu
  obtain ⟨a, ha, ea⟩ := pick_ev hs (p := 0) (by omega) (by omega) (n := 3) (by omega) (by omega)
  obtain ⟨r, h1, h2⟩ := dsum_l0 hs (n := 1 + a) (by omega) (1 + a).toNat 0 (0 + 1) [] (by omega) (by omega) (by omega) (by omega) rfl
  refine ⟨r, h1, ?_⟩
  unfold spec_DrawSpreadSum.f
  refine Ev.fix eo (Ev.bind ea ?_)
  dsimp only
  rw [w64 (x := 1 + a) (by omega) (by omega)]
  exact h2
theorem sum_leaf {l : List Int} (h : (sumR l).2 = true) : leafB (sumR l).1 = true ∧ ∀ g ∈ l, g ∈ (sumR l).1 := by
  have hn : l.all nearB = true := by
    cases e : l.all nearB with
    | true => rfl
    | false => unfold sumR at h; rw [e] at h; exact absurd h (by simp)
  have hnr : ∀ g ∈ l, Nr g := fun g hg => nearB_iff.1 (List.all_eq_true.1 hn g hg)
  have h9 := sumR_nine h
  classical
  have e := nine_hull hnr (K := fun x => decide (∀ T : Int → Prop, Cl T → (∀ g ∈ l, T g) → T (x : Int))) ⟨⟨decide_eq_true fun T hT _ => hT.1, fun p q hp hq a b => ?_⟩, fun g hg => ?_, fun T hT h2 x _ hx => of_decide_eq_true hx T hT h2⟩
  · have er : sumR l = nineR (fun x => decide (∀ T : Int → Prop, Cl T → (∀ g ∈ l, T g) → T (x : Int))) := by
      unfold sumR; rw [if_pos hn, e]
    rw [er] at h h9 ⊢
    generalize hK : (fun x : Nat => decide (∀ T : Int → Prop, Cl T → (∀ g ∈ l, T g) → T (x : Int))) = K at h h9 ⊢
    have kd : ∀ x : Int, 0 ≤ x → (K x.toNat = true ↔ ∀ T : Int → Prop, Cl T → (∀ g ∈ l, T g) → T x) := fun x x0 => by
      rw [← hK]
      show decide _ = true ↔ _
      rw [decide_eq_true_iff, Int.toNat_of_nonneg x0]
    have e1 : (nineR K).1 = setL K := by
      unfold nineR at h ⊢
      by_cases c : (setL K).length = 9
      · rw [if_pos c]
      · rw [if_neg c] at h; exact absurd h (by decide)
    rw [e1] at h9 ⊢
    have M : ∀ x, x ∈ setL K ↔ Nr x ∧ ∀ T : Int → Prop, Cl T → (∀ g ∈ l, T g) → T x := fun x => by
      unfold setL
      rw [mem_filI]
      constructor
      · rintro ⟨x0, x1, x2⟩; exact ⟨⟨x0, x1⟩, (kd x x0).1 x2⟩
      · rintro ⟨⟨x0, x1⟩, x2⟩; exact ⟨x0, x1, (kd x x0).2 x2⟩
    refine ⟨leafB_all h9 (fun i i0 i1 => ?_) (fun i k i0 i1 k0 k1 => ?_), fun g hg => (M g).2 ⟨hnr g hg, fun T _ h2 => h2 g hg⟩⟩
    · have := ((M _).1 (rd_mem (t := setL K) (i := i) (by omega) i0)).1
      unfold stepB
      rw [nearB_iff.2 this]
      by_cases c : 0 < i
      · have hlt : rd (setL K) (i - 1) < rd (setL K) i := by
          have h9' : ((filI 81 fun p => K p.toNat).length : Int) = 9 := by unfold setL at h9; omega
          exact filI_lt (n := 81) (p := fun p => K p.toNat) (by omega) (by omega) (by omega)
        rw [decide_eq_true hlt]; simp
      · rw [decide_eq_false c]; rfl
    · have a := (M _).1 (rd_mem (t := setL K) (i := i) (by omega) i0)
      have b := (M _).1 (rd_mem (t := setL K) (i := k) (by omega) k0)
      exact decide_eq_true ((M _).2 ⟨addF_nr _ _, fun T hT h2 => hT.2 _ _ a.1 b.1 (a.2 T hT h2) (b.2 T hT h2)⟩)
  · have a := of_decide_eq_true a
    have b := of_decide_eq_true b
    rw [Int.toNat_of_nonneg hp.1] at a
    rw [Int.toNat_of_nonneg hq.1] at b
    refine decide_eq_true ?_
    rw [Int.toNat_of_nonneg (addF_nr p q).1]
    exact fun T hT h2 => hT.2 p q hp hq (a T hT h2) (b T hT h2)
  · refine decide_eq_true ?_
    rw [Int.toNat_of_nonneg (hnr g hg).1]
    exact fun T _ h2 => h2 g hg
theorem sum_l1 {l o : List Int} (hl : l.length ≤ 10) (ho : o.length = 9) {i : Int} (i0 : 0 ≤ i) (i1 : i < l.length) (hm : rd l i ∈ o) (hr : Ev (fun k => laws_FnSum.l0 k l o (i + 1)) true) (d : Nat) : ∀ (c : Int) (b : Bool), 0 ≤ c → c + d = 9 → (b = true ↔ ∃ j : Int, 0 ≤ j ∧ j < c ∧ rd o j = rd l i) → Ev (fun k => laws_FnSum.l1 k l o i b c) true := by
  induction d with
  | zero =>
    intro c b c0 c1 hb
    have hbt : b = true := by
      obtain ⟨j, j0, j1, e⟩ := mem_rdI.1 hm
      exact hb.2 ⟨j, j0, by omega, e⟩
    refine Ev.step (fun k => by rw [laws_FnSum.l1]) ?_
    rw [w64 (x := i + 1) (by omega) (by omega)]
    exact Ev.neg (by omega) (Ev.pos hbt hr)
  | succ d ih =>
    intro c b c0 c1 hb
    refine Ev.step (fun k => by rw [laws_FnSum.l1]) ?_
    rw [w64 (x := c + 1) (by omega) (by omega)]
    refine Ev.pos (by omega) ?_
    by_cases e : b = true
    · refine Ev.pos e (ih (c + 1) true (by omega) (by omega) ⟨fun _ => ?_, fun _ => rfl⟩)
      obtain ⟨j, j0, j1, h⟩ := hb.1 e
      exact ⟨j, j0, by omega, h⟩
    · refine Ev.neg e (Ev.pos c0 (Ev.pos i0 (Ev.pos i1 (ih (c + 1) _ (by omega) (by omega) ?_))))
      rw [beq_iff_eq]
      constructor
      · intro h; exact ⟨c, c0, by omega, h⟩
      · rintro ⟨j, j0, j1, h⟩
        by_cases ej : j = c
        · rw [← ej]; exact h
        · exact absurd (hb.2 ⟨j, j0, by omega, h⟩) e
theorem sum_l0 {l o : List Int} (hl : l.length ≤ 10) (ho : o.length = 9) (hf : leafB o = true) (hm : ∀ g ∈ l, g ∈ o) (d : Nat) : ∀ i : Int, 0 ≤ i → i + d = l.length → Ev (fun k => laws_FnSum.l0 k l o i) true := by
  induction d with
  | zero =>
    intro i i0 i1
    have e : Ev (fun k => impl_LeafIn.f k o) true := hf ▸ (Ev.bind (implLeaf_ev o) (Ev.done rfl) : Ev (fun k => impl_LeafIn.f k o) (leafB o))
    refine Ev.step (fun k => by rw [laws_FnSum.l0]) ?_
    exact Ev.neg (by omega) (Ev.bind e (Ev.done rfl))
  | succ d ih =>
    intro i i0 i1
    refine Ev.step (fun k => by rw [laws_FnSum.l0]) ?_
    exact Ev.pos (by omega) (sum_l1 hl ho i0 (by omega) (hm _ (rd_mem (by omega) i0)) (ih (i + 1) (by omega) (by omega)) 9 0 false (by omega) (by omega) ⟨fun h => absurd h (by decide), fun ⟨j, j0, j1, _⟩ => absurd j1 (by omega)⟩)
theorem FnSum : laws_FnSum.Pure := by
  intro l0 _ _ hu
  refine Ev.rounds ?_
  unfold laws_FnSum.f
  by_cases hb : (l0.length : Int) > 1048576
  · exact Ev.pos hb (Ev.done rfl)
  refine Ev.neg hb ?_
  obtain ⟨l, hl, e⟩ := drawSum_ev l0 hu
  have hR := sumR_length l
  refine Ev.bind e ?_
  refine Ev.bind (implSum_ev (l := l) (by omega)) (Ev.bind (specSum_ev (l := l) (by omega)) ?_)
  refine Ev.neg (by simp) (Ev.bind (sameInts_ev _ _ (by omega)) (Ev.pos (by simp) ?_))
  refine Ev.step (fun k => by rw [laws_FnSum.j0]) ?_
  by_cases h : (sumR l).2 = true
  case neg =>
    exact Ev.pos (by simpa using h) (Ev.pos (by simp) (Ev.bind (sameInts_ev _ _ (by omega)) (Ev.done (by simp))))
  obtain ⟨h1, h2⟩ := sum_leaf h
  exact Ev.neg (by simpa using h) (sum_l0 hl (sumR_nine h) h1 h2 l.length 0 (by omega) (by omega))
end Go.Proofs.Ytcbkoecanldlpaa.Pure

namespace Go.Proofs.Ytcbkoecanldlpaa.fnSum
open Go.ChangeShapes Go.WideShapes Go.ChangeAt Go.RowKit
open Go.ChangeMaps (open_string shut_string)
set_option linter.unusedVariables false
theorem own : ownKnob Try.prog.godebug = none := by kernel_rfl
theorem laidOut : laidOutB Try.prog = true := by kernel_rfl
def IsRow (k : IntKind) (w : World) (a : Option Addr) (len cap : Nat) (zs : List Int) : Prop :=
  (a = none ∧ len = 0 ∧ cap = 0 ∧ zs = []) ∨
  ∃ x, a = some x ∧ len ≤ cap ∧ cap ≤ maxLen ∧ zs.length = cap ∧ (∀ i, i < zs.length → w.cell? (x.add i) = some (.int k (zs.getD i 0))) ∧ ∀ n ∈ zs, (Lit.int k n).wf = true
set_option maxRecDepth 100000 in
theorem lifted (os : Os) (started : os.Started) (H : Type) (enc : TypeId × Value → H) :
    ReturnsInHanded {} Try.checked os 12 .any (Rows.fnSumSpec.pre6 enc Try.prog Try.f12 Rows.fnSumRow.domain false) (Rows.fnSumSpec.post enc Try.prog Try.f12 false true false false) := by
  refine returnsInHanded_of_change_sized (C := Try.checked) own started (by kernel_rfl) Try.func12
    (ChangeSpec.witness6 (enc := enc) (C := Try.checked) false ⟨#[], #[.slice none 0 0], []⟩ 8 (by kernel_rfl) (by kernel_rfl) (by kernel_rfl) (by kernel_rfl)) ?_
  intro W base args ds gs before hval0 hW hcnd hsz0 _
  have hsz : (DataW.weightsEach Try.prog (Try.f12.params.toList ++ Rows.fnSumSpec.plain.varTypes Try.prog) (ds ++ gs)).all (· ≤ reachBytes) = true := hsz0
  have hval : ∀ (j : Nat) t v, Try.f12.params[j]? = some t → args[j]? = some v → Value.okWide Try.prog W .any base t v := hval0
  have hW' := hW
  obtain ⟨p, q, hA0, hV, rfl, hfz, hnd⟩ := hW
  have hA : DataW.TrodAll enc Try.prog W 0 (fun _ => true) true Try.f12.params.toList args.toList ds p := hA0
  rw [Try.params12] at hA hval hsz
  obtain ⟨v0, vs0, d0, ds0, p0, q0, hargs, rfl, rfl, h0, r0⟩ := trodAll_cons hA
  obtain ⟨rfl, rfl, rfl⟩ := trodAll_nil r0
  obtain rfl : args = #[v0] := by cases args; simp_all
  obtain ⟨rfl, rfl⟩ := trodVars_none hV
  obtain ⟨a0, len0, cap0, rfl⟩ := okWide_slice Try.underlying22 (hval 0 22 v0 rfl rfl)
  have k0 := h0
  have lt0 : ∀ x ∈ p0, x.block < W.heap.size := by obtain ⟨m, hm⟩ := k0; exact DataW.trod_lt m _ _ _ hm
  obtain ⟨z0, w0⟩ : ∃ zs, IsRow .u8 W a0 len0 cap0 zs := by
    obtain ⟨fuel, hf⟩ := h0
    rcases open_ints Try.underlying22 Try.underlying5 (by kernel_rfl) hf with ⟨hcs, _⟩ | ⟨x, l, c, zs, hcs, _, hl, hm, hz, _, hcell, hwz⟩
    · simp [Value.cells] at hcs
      obtain ⟨rfl, rfl, rfl⟩ := hcs
      exact ⟨[], .inl ⟨rfl, rfl, rfl, rfl⟩⟩
    · simp [Value.cells] at hcs
      obtain ⟨rfl, rfl, rfl⟩ := hcs
      exact ⟨zs, .inr ⟨_, rfl, hl, hm, by simpa using hz, hcell, hwz⟩⟩
  have y0 : len0 * 1 ≤ 140737488351232 := Go.Proofs.YtcbkoecanldlpaaW.PrintWords.sized_ints hsz (j := 0) (t := 22) rfl rfl Try.underlying22 Try.underlying5 (by kernel_rfl) (by kernel_rfl) h0
  clear hA0 hval0 hsz0 hsz
  refine (P.laws_FnSum.walk Pure.FnSum a0 len0 cap0 z0 W w0 y0).mono fun e W' ⟨he, bel⟩ => ?_
  subst he
  exact ⟨_, rfl, _, _, _, [], _, [], hW', trodAll_mk1 (shut_bool Try.underlying4 _), (trodAll_cons_mk (Below.trod laidOut (by kernel_rfl) (of_decide_eq_true (by kernel_rfl)) k0 bel lt0) trodAll_mk0), rfl, bel.frame _, fun h => by cases h⟩
theorem over : Rows.fnSumRow.holds Try.pinned (OpenSpec.ofChange Rows.fnSumSpec) :=
  OpenClaim.holds_of_wide 12 Try.f12 rfl rfl rfl rfl rfl rfl rfl ⟨rfl, rfl, rfl, rfl, rfl⟩ rfl rfl rfl rfl rfl (by kernel_rfl) Try.func12 (by kernel_rfl)
    (of_decide_eq_true (by kernel_rfl)) (by unfold Func.isWrapper; first | (rw [if_pos (by decide +kernel)]; kernel_rfl) | (rw [if_neg (by decide +kernel)]; exact ⟨rfl, rfl⟩))
    (fun os started H enc _ => lifted os started H enc)
theorem proved : Rows.FnSumSaid := over
#print axioms proved
end Go.Proofs.Ytcbkoecanldlpaa.fnSum
namespace Go.Proofs.Ytcbkoecanldlpaa
theorem fnSum_holds : Rows.FnSumSaid := fnSum.proved
end Go.Proofs.Ytcbkoecanldlpaa
