/- The law FnExactSpreadOf of the given program: for every input the call returns true, and each argument reads afterwards as it read before. No conditions. (Part 3 of 3; the last part holds the theorem.) -/
import Derived.Test.YtbfafjejmljcpaaMFnExactSpreadOf1
import Derived.Test.YtbfafjejmljcpaaMFnExactSpreadOf0
import Derived.Test.YtbfafjejmljcpaaWNEv
import Derived.Test.YtbfafjejmljcpaaWApart
import Derived.Test.YtbfafjejmljcpaaWN
import Derived.Test.YtbfafjejmljcpaaWMore
import Derived.Test.YtbfafjejmljcpaaRows
import Derived.WalkKit
import Derived.ProofKit
import Derived.OpenShut
import Derived.ShutString
import Derived.ChangeOld
import Derived.Below
import Derived.SizedLaws
import Derived.Test.YtbfafjejmljcpaaWSized
set_option linter.unusedVariables false
set_option linter.unusedSimpArgs false
namespace Go.Proofs.Ytbfafjejmljcpaa.X
open Go.RowKit Go.Proofs.YtbfafjejmljcpaaW.PrintWords Go.Proofs.YtbfafjejmljcpaaW.PrintLast Go.Proofs.Ytbfafjejmljcpaa.P

def leaf0 : List Int := [0, 1, 2, 3, 4, 5, 6, 7, 8]
def leafF (t : List Int) (m x : Int) : Int := 9 * x + rd t (9 * x + m)
def leafM (t : List Int) (m : Int) : List Int := mapI 9 (leafF t m)
def spreadN (t : List Int) : Nat → List (List Int)
  | 0 => [leaf0]
  | n + 1 => insL (spreadN t n) (leafM t (n : Int))
def spreadR (t : List Int) : List (List Int) × Bool := if sysB t = true then (spreadN t 9, true) else ([], false)
theorem leafM_length (t : List Int) (m : Int) : (leafM t m).length = 9 := mapI_length _ _
theorem spreadN_length (t : List Int) (n : Nat) : (spreadN t n).length = n + 1 := by
  induction n with
  | zero => rfl
  | succ n ih => show (insL _ _).length = _; rw [insL_length, ih]
theorem spreadN_nines (t : List Int) (n : Nat) : ∀ a ∈ spreadN t n, a.length = 9 := by
  induction n with
  | zero => intro a ha; rw [List.mem_singleton.1 ha]; rfl
  | succ n ih => exact insL_nines ih (leafM_length t n)
theorem spreadOf_l1 {t : List Int} (hn : ninesB t 81 = true) (L : List (List Int)) (h9 : ∀ a ∈ L, a.length = 9) (hL : L.length ≤ 100) {m : Nat} (hm : m < 9) {r : List (List Int) × Bool} (hr : Ev (fun k => spec_SpreadOf.l0 k t (insL L (leafM t (m : Int))) ((m : Int) + 1)) r) (d : Nat) :
    ∀ x : Nat, x + d = 9 → Ev (fun k => spec_SpreadOf.l1 k t L (m : Int) (mapI x (leafF t (m : Int))) (x : Int)) r := by
  have ht := (ninesB_iff.1 hn).1
  induction d with
  | zero =>
    intro x hx
    obtain rfl : x = 9 := by omega
    refine Ev.step (fun k => by rw [spec_SpreadOf.l1]) ?_
    refine Ev.neg (by omega) (Ev.bind (put_ev h9 (leafM_length t m) (by omega)) ?_)
    rw [w64 (x := (m : Int) + 1) (by omega) (by omega)]
    exact hr
  | succ d ih =>
    intro x hx
    have nx := ih (x + 1) (by omega)
    rw [mapI_succ] at nx
    have hv := nines_rd hn (i := 9 * (x : Int) + m) (by omega) (by omega)
    have hml : (mapI x (leafF t (m : Int))).length = x := mapI_length _ _
    refine Ev.step (fun k => by rw [spec_SpreadOf.l1]) ?_
    rw [w64 (x := 9 * (x : Int)) (by omega) (by omega), w64 (x := 9 * (x : Int) + m) (by omega) (by omega), w64 (x := 9 * (x : Int) + rd t (9 * (x : Int) + m)) (by omega) (by omega), w64 (x := (x : Int) + 1) (by omega) (by omega)]
    exact Ev.pos (by omega) (Ev.pos (by omega) (Ev.pos (by omega) (Ev.pos (by omega) nx)))
theorem spreadOf_l0 {t : List Int} (hn : ninesB t 81 = true) (d : Nat) : ∀ m : Nat, m + d = 9 → Ev (fun k => spec_SpreadOf.l0 k t (spreadN t m) (m : Int)) (spreadN t 9, true) := by
  induction d with
  | zero =>
    intro m hm
    obtain rfl : m = 9 := by omega
    refine Ev.step (fun k => by rw [spec_SpreadOf.l0]) ?_
    exact Ev.neg (by omega) (Ev.done rfl)
  | succ d ih =>
    intro m hm
    refine Ev.step (fun k => by rw [spec_SpreadOf.l0]) ?_
    exact Ev.pos (by omega) (spreadOf_l1 hn _ (spreadN_nines t m) (by rw [spreadN_length]; omega) (by omega) (ih (m + 1) (by omega)) 9 0 (by omega))
theorem specSpreadOf_ev {t : List Int} (ht : t.length ≤ 1048576) : Ev (fun k => spec_SpreadOf.f k t) (spreadR t) := by
  unfold spec_SpreadOf.f spreadR
  refine Ev.bind (SystemIn_ev t ht) ?_
  by_cases hs : sysB t = true
  · rw [if_pos hs]
    exact Ev.pos hs (spreadOf_l0 (sysB_parts hs).1 9 0 (by omega))
  · rw [if_neg hs]
    exact Ev.neg hs (Ev.done rfl)
end Go.Proofs.Ytbfafjejmljcpaa.X

set_option linter.unusedVariables false
set_option linter.unusedSimpArgs false
namespace Go.Proofs.Ytbfafjejmljcpaa.P
open Go.RowKit Go.Proofs.YtbfafjejmljcpaaW.PrintWords Go.Proofs.YtbfafjejmljcpaaW.PrintLast

def bits_Len64.f (a0 : Int) : Option Int := if a0 = 9 then some 4 else none
set_option maxHeartbeats 4000000 in
set_option maxRecDepth 100000 in
theorem bits_Len64.calls (a0 : Int) (r : Int) (w : World) (h : bits_Len64.f a0 = some r) :
    Calls Try.prog 138 #[.int .u64 a0] w fun e w' => e = .returned (.int .i64 r) ∧ Drawn0 w w' := by
  unfold bits_Len64.f at h
  by_cases hc : a0 = 9
  case neg => rw [if_neg hc] at h; exact absurd h (by simp)
  rw [if_pos hc] at h
  obtain rfl := Option.some.inj h
  subst hc
  clear h
  go_enter Try.func138, Try.ntmps138
  go_wp2
  go_ret
  exact ⟨by kernel_rfl, Drawn0.refl _⟩
end Go.Proofs.Ytbfafjejmljcpaa.P

namespace Go.Proofs.Ytbfafjejmljcpaa.P
open Go.RowKit Go.Proofs.YtbfafjejmljcpaaW.PrintWords Go.Proofs.YtbfafjejmljcpaaW.PrintLast
set_option linter.unusedVariables false
set_option linter.unusedSimpArgs false

def bits_Len.f (a0 : Int) : Option (Int) := (bits_Len64.f a0).bind fun t719 => (some t719)
set_option maxHeartbeats 8000000 in
set_option maxRecDepth 100000 in
theorem bits_Len.calls (a0 : Int) (r : Int) (w : World) (h : bits_Len.f a0 = some r) :
  Calls Try.prog 99 #[.int .u64 a0] w fun e w' => e = .returned (.int .i64 r) ∧ Drawn0 w w' := by
 have H : ((bits_Len64.f a0).bind fun t719 => (some t719)) = some r := h
 clear h
 replace H := Option.bind_eq_some_iff.mp H
 obtain ⟨t719, A20, H⟩ := H
 replace H : (some t719) = some r := H
 have A2 := Aside0.mk A20
 clear A20
 obtain rfl := Option.some.inj H
 go_enter Try.func99, Try.ntmps99
 go_wp2_with (first | (refine goesL_ (some 7) rfl rfl Try.func138 (by kernel_rfl) rfl #[.int .u64 a0] rfl ll_ ?_; (with_reducible refine (bits_Len64.calls a0 t719 _ A2.out).mono ?_); rintro e w' ⟨rfl, ⟨nd, rfl⟩⟩; refine ⟨_, rfl, ?_⟩))
 go_ret
 exact ⟨by first | rfl | (simp; done) | (simp [*]; done), by repeat (first | exact Drawn0.refl _ | apply Drawn0.step)⟩
end Go.Proofs.Ytbfafjejmljcpaa.P

set_option linter.unusedVariables false
set_option linter.unusedSimpArgs false
namespace Go.Proofs.Ytbfafjejmljcpaa.P
open Go.RowKit Go.Proofs.YtbfafjejmljcpaaW.PrintWords Go.Proofs.YtbfafjejmljcpaaW.PrintLast

abbrev HCmp (lt : HH → HH → Bool) (P0_ : Nat → Prop) (l0 : List HH) (w0 w : World) : Prop :=
  ∀ W : World, Kept w W (fun k_ => P0_ k_) → Below w0.heap.size w0 W → ∀ a b : HH, a ∈ l0 → b ∈ l0 → Calls Try.prog 84 #[hEnc a, hEnc b] W fun e w' => (∃ c : Int, e = .returned (.int .i64 c) ∧ decide (c < 0) = lt a b) ∧ Drawn0 W w'
set_option maxHeartbeats 4000000 in
set_option maxRecDepth 100000 in
theorem pdqCmp_calls (lt : HH → HH → Bool) (k : Nat) (P0_ : Nat → Prop) (u9000_ : Value) (l0 : List HH) (a1 a2 a3 : Int) (r : List HH) (w0 w : World) (hB : Below w0.heap.size w0 w) (ho0 : Kd.R hdK 23 w w0.heap.size P0_ u9000_ l0) (HC_ : HCmp lt P0_ l0 w0 w)
    (h0 : 0 ≤ a1) (h1 : a1 ≤ a2) (h2 : a2 ≤ 4611686018427387904) (h3 : a2 - a1 ≤ 12) (h : hsL0 lt k l0 a1 a2 (wrap64 (a1 + 1)) = some r) :
    Calls Try.prog 118 #[u9000_, .int .i64 a1, .int .i64 a2, .int .i64 a3, .func (.func 84) #[] #[]] w fun e w' => e = .returned (.tuple #[]) ∧ Kd.R hdK 23 w' w0.heap.size (fun k_ => (P0_ k_ ∨ w.heap.size ≤ k_)) u9000_ r ∧ Below w0.heap.size w0 w' ∧ Kept w w' (fun k_ => P0_ k_) := by
  have HS := Aside0.mk (insCmp_calls lt k P0_ u9000_ l0 a1 a2 r w0 w hB ho0 HC_ h)
  clear hB ho0 h HC_
  go_enter Try.func118, Try.ntmps118
  go_wp2
  go_loopg [1, 2, 3] 1 (fun kq v1 v2 v3 w' => v1 = .int .i64 a1 ∧ v2 = .int .i64 a2 ∧ v3 = .int .i64 a3 ∧ Aside0 (w' = w))
  case atStart => exact ⟨rfl, rfl, rfl, ⟨rfl⟩⟩
  case round =>
    obtain ⟨rfl, rfl, rfl, HW⟩ := hrel
    have hw := HW.out
    subst hw
    have e12 : wrap64 (a2 - a1) = a2 - a1 := by unfold wrap64; omega
    have c12 : decide (a2 - a1 ≤ 12) = true := decide_eq_true h3
    go_wp2_with (go_at_call 145; refine HS.out.mono ?_; rintro e w' ⟨rfl, hr', hb', hk'⟩)
    first | go_end0 | ((try simp only [Exit.inBlock, Exit.then]); refine bodyPost_ret (results_none rfl _ _ _) rfl ?_)
    exact ⟨rfl, hr', hb', hk'⟩
end Go.Proofs.Ytbfafjejmljcpaa.P

set_option linter.unusedVariables false
set_option linter.unusedSimpArgs false
namespace Go.Proofs.Ytbfafjejmljcpaa.X
open Go.RowKit Go.Proofs.YtbfafjejmljcpaaW.PrintWords Go.Proofs.YtbfafjejmljcpaaW.PrintLast Go.Proofs.Ytbfafjejmljcpaa.P

theorem gap_cm (a b : List Int) : gapI b a = gapI a b := by
  unfold gapI
  exact congrArg (firstI 9) (funext fun i => by rw [bne_comm])
theorem lessB_asym {a b : List Int} (h : lessB a b = true) (h2 : lessB b a = true) : False := by
  unfold lessB at h h2
  rw [gap_cm a b] at h2
  simp only [Bool.and_eq_true, decide_eq_true_eq] at h h2
  omega
theorem lessB_iff {a b : List Int} : lessB a b = true ↔ ∃ i : Int, 0 ≤ i ∧ i < 9 ∧ rd a i < rd b i ∧ ∀ j : Int, 0 ≤ j → j < i → rd a j = rd b j := by
  constructor
  · intro h
    unfold lessB at h
    simp only [Bool.and_eq_true, decide_eq_true_eq] at h
    obtain ⟨h0, h1⟩ := h
    by_cases hx : ∃ i : Int, 0 ≤ i ∧ i < 9 ∧ (rd a i != rd b i) = true
    · obtain ⟨i, i0, i1, i2⟩ := hx
      have s := firstI_spec (n := 9) (p := fun i => rd a i != rd b i) i i0 i1 i2
      refine ⟨gapI a b, h0, s.2.1, h1, fun j j0 j1 => ?_⟩
      apply Classical.byContradiction
      intro hne
      have s2 := firstI_spec (n := 9) (p := fun i => rd a i != rd b i) j j0 (by have := s.2.1; unfold gapI at j1; omega) (by simpa using hne)
      have : gapI a b ≤ j := s2.2.2.2
      omega
    · have : gapI a b = -1 := firstI_none fun i i0 i1 => Bool.eq_false_iff.2 fun h => hx ⟨i, i0, i1, h⟩
      omega
  · rintro ⟨i, i0, i1, hlt, heq⟩
    have : gapI a b = i := firstI_some i i0 i1 (by simp; omega) fun j j0 j1 => by rw [heq j j0 j1]; simp
    unfold lessB
    rw [this, decide_eq_true i0, decide_eq_true hlt]; rfl
theorem lessB_trans {a b c : List Int} (h : lessB a b = true) (h2 : lessB b c = true) : lessB a c = true := by
  obtain ⟨i, i0, i1, hi, ei⟩ := lessB_iff.1 h
  obtain ⟨j, j0, j1, hj, ej⟩ := lessB_iff.1 h2
  refine lessB_iff.2 ?_
  rcases Int.lt_trichotomy i j with hlt | rfl | hgt
  · exact ⟨i, i0, i1, by rw [← ej i i0 hlt]; exact hi, fun k k0 k1 => (ei k k0 k1).trans (ej k k0 (by omega))⟩
  · exact ⟨i, i0, i1, by omega, fun k k0 k1 => (ei k k0 k1).trans (ej k k0 k1)⟩
  · exact ⟨j, j0, j1, by rw [ei j j0 hgt]; exact hj, fun k k0 k1 => (ei k k0 (by omega)).trans (ej k k0 k1)⟩
theorem lessB_total {a b : List Int} (ha : a.length = 9) (hb : b.length = 9) (hne : a ≠ b) : lessB a b = true ∨ lessB b a = true := by
  by_cases hx : ∃ i : Int, 0 ≤ i ∧ i < 9 ∧ (rd a i != rd b i) = true
  · obtain ⟨i, i0, i1, i2⟩ := hx
    have s := firstI_spec (n := 9) (p := fun i => rd a i != rd b i) i i0 i1 i2
    have hg : 0 ≤ gapI a b := s.1
    have hd : rd a (gapI a b) ≠ rd b (gapI a b) := by have := s.2.2.1; simpa [gapI] using this
    unfold lessB
    rw [gap_cm a b, decide_eq_true hg]
    rcases Int.lt_or_gt_of_ne hd with h | h
    · left; rw [decide_eq_true h]; rfl
    · right; rw [decide_eq_true h]; rfl
  · exfalso
    apply hne
    refine ext_rd (by omega) fun i hi => ?_
    apply Classical.byContradiction
    intro h
    exact hx ⟨(i : Int), by omega, by omega, by simpa using h⟩
def Asc (l : List (List Int)) : Prop := l.Pairwise fun a b => lessB a b = true
theorem asc_ext : ∀ a b : List (List Int), Asc a → Asc b → (∀ x, x ∈ a ↔ x ∈ b) → a = b := by
  intro a
  induction a with
  | nil =>
    intro b _ _ h
    cases b with
    | nil => rfl
    | cons y b => exact absurd ((h y).2 List.mem_cons_self) (by simp)
  | cons x a ih =>
    intro b ha hb h
    cases b with
    | nil => exact absurd ((h x).1 List.mem_cons_self) (by simp)
    | cons y b =>
      have ha := List.pairwise_cons.1 ha
      have hb := List.pairwise_cons.1 hb
      have e : x = y := by
        rcases List.mem_cons.1 ((h x).1 List.mem_cons_self) with e | e
        · exact e
        · rcases List.mem_cons.1 ((h y).2 List.mem_cons_self) with e2 | e2
          · exact e2.symm
          · exact absurd (lessB_asym (hb.1 x e) (ha.1 y e2)) id
      subst e
      rw [ih b ha.2 hb.2 fun z => ⟨fun hz => ?_, fun hz => ?_⟩]
      · rcases List.mem_cons.1 ((h z).1 (List.mem_cons_of_mem _ hz)) with e | e
        · exact absurd (lessB_asym (ha.1 z hz) (by rw [e] at hz ⊢; exact ha.1 _ hz)) id
        · exact e
      · rcases List.mem_cons.1 ((h z).2 (List.mem_cons_of_mem _ hz)) with e | e
        · exact absurd (lessB_asym (hb.1 z hz) (by rw [e] at hz ⊢; exact hb.1 _ hz)) id
        · exact e
end Go.Proofs.Ytbfafjejmljcpaa.X

set_option linter.unusedVariables false
set_option linter.unusedSimpArgs false
namespace Go.Proofs.Ytbfafjejmljcpaa.X
open Go.RowKit Go.Proofs.YtbfafjejmljcpaaW.PrintWords Go.Proofs.YtbfafjejmljcpaaW.PrintLast Go.Proofs.Ytbfafjejmljcpaa.P

def swH (j a : Int) : Int := if a = j then j - 1 else if a = j - 1 then j else a
def swapH (l : List HH) (j : Int) : List HH := (l.set j.toNat (rdH l (j - 1))).set (j - 1).toNat (rdH l j)
theorem rdH_set {l : List HH} {i j : Int} {v : HH} (i0 : 0 ≤ i) (i1 : i < l.length) (j0 : 0 ≤ j) : rdH (l.set i.toNat v) j = if j = i then v else rdH l j := by
  unfold rdH rdOf
  rw [List.getD_eq_getElem?_getD, List.getD_eq_getElem?_getD, List.getElem?_set]
  by_cases e : j = i
  · rw [if_pos e, if_pos (by omega), if_pos (by omega)]; rfl
  · rw [if_neg e, if_neg (by omega)]
theorem swapH_rd {l : List HH} {j : Int} (j0 : 0 < j) (j1 : j < l.length) {a : Int} (a0 : 0 ≤ a) : rdH (swapH l j) a = rdH l (swH j a) := by
  unfold swapH swH
  rw [rdH_set (by omega) (by rw [List.length_set]; omega) a0, rdH_set (by omega) j1 a0]
  by_cases e1 : a = j - 1
  · rw [if_pos e1, if_neg (by omega), if_pos e1]
  · by_cases e2 : a = j
    · rw [if_neg e1, if_pos e2, if_pos e2]
    · rw [if_neg e1, if_neg e2, if_neg e2, if_neg e1]
theorem swapH_length (l : List HH) (j : Int) : (swapH l j).length = l.length := by unfold swapH; rw [List.length_set, List.length_set]
theorem mem_rdH {l : List HH} {v : HH} : v ∈ l ↔ ∃ i : Int, 0 ≤ i ∧ i < l.length ∧ rdH l i = v := by
  constructor
  · intro h
    obtain ⟨i, hi, e⟩ := List.mem_iff_getElem.1 h
    exact ⟨i, by omega, by omega, by unfold rdH rdOf; rw [List.getD_eq_getElem?_getD, List.getElem?_eq_getElem (by omega)]; exact e⟩
  · rintro ⟨i, i0, i1, e⟩
    rw [← e]; exact rdH_mem i0 i1
theorem swapH_mem {l : List HH} {j : Int} (j0 : 0 < j) (j1 : j < l.length) {v : HH} : v ∈ swapH l j ↔ v ∈ l := by
  rw [mem_rdH, mem_rdH]
  have rng : ∀ a : Int, 0 ≤ a → a < l.length → 0 ≤ swH j a ∧ swH j a < l.length := fun a a0 a1 => by unfold swH; split <;> (try split) <;> omega
  have inv : ∀ a : Int, swH j (swH j a) = a := fun a => by unfold swH; split <;> (try split) <;> (try split) <;> omega
  constructor
  · rintro ⟨a, a0, a1, e⟩
    rw [swapH_length] at a1
    rw [swapH_rd j0 j1 a0] at e
    exact ⟨swH j a, (rng a a0 a1).1, (rng a a0 a1).2, e⟩
  · rintro ⟨a, a0, a1, e⟩
    refine ⟨swH j a, (rng a a0 a1).1, by rw [swapH_length]; exact (rng a a0 a1).2, ?_⟩
    rw [swapH_rd j0 j1 (rng a a0 a1).1, inv]; exact e
def DifH (val : HH → List Int) (l : List HH) : Prop := ∀ a b : Int, 0 ≤ a → a < l.length → 0 ≤ b → b < l.length → a ≠ b → val (rdH l a) ≠ val (rdH l b)
theorem swapH_dif {val : HH → List Int} {l : List HH} (h : DifH val l) {j : Int} (j0 : 0 < j) (j1 : j < l.length) : DifH val (swapH l j) := by
  intro a b a0 a1 b0 b1 hne
  rw [swapH_length] at a1 b1
  rw [swapH_rd j0 j1 a0, swapH_rd j0 j1 b0]
  refine h _ _ ?_ ?_ ?_ ?_ ?_ <;> (unfold swH; split <;> (try split) <;> (try split) <;> (try split) <;> omega)
def ltV (val : HH → List Int) (a b : HH) : Bool := lessB (val a) (val b)
def NearH (val : HH → List Int) (l : List HH) (i j : Int) : Prop := (∀ a b : Int, 0 ≤ a → a < b → b ≤ i → a ≠ j → b ≠ j → ltV val (rdH l a) (rdH l b) = true) ∧ ∀ b : Int, j < b → b ≤ i → ltV val (rdH l j) (rdH l b) = true
def SortH (val : HH → List Int) (l r : List HH) : Prop := r.length = l.length ∧ (∀ v, v ∈ r ↔ v ∈ l) ∧ r.Pairwise (fun a b => ltV val a b = true)
theorem hd_l1 {val : HH → List Int} {l0 : List HH} (h9 : ∀ a ∈ l0, (val a).length = 9) {n : Int} (hn : n ≤ 1000) {i : Int} (i0 : 0 ≤ i) (i1 : i < n) (hr : ∀ l : List HH, (l.length : Int) = n → (∀ v, v ∈ l ↔ v ∈ l0) → DifH val l → (∀ a b : Int, 0 ≤ a → a < b → b ≤ i → ltV val (rdH l a) (rdH l b) = true) → ∃ r, SortH val l0 r ∧ Ev (fun k => hsL0 (ltV val) k l 0 n (i + 1)) r) (d : Nat) :
    ∀ (j : Int) (l : List HH), j = d → j ≤ i → (l.length : Int) = n → (∀ v, v ∈ l ↔ v ∈ l0) → DifH val l → NearH val l i j → ∃ r, SortH val l0 r ∧ Ev (fun k => hsL1 (ltV val) k l 0 n i j) r := by
  induction d with
  | zero =>
    intro j l hj ji hl hm hd hN
    have hj : j = 0 := hj
    subst hj
    obtain ⟨r, h1, h2⟩ := hr l hl hm hd fun a b a0 ab b1 => by
      by_cases e : a = 0
      · subst e; exact hN.2 b (by omega) b1
      · exact hN.1 a b a0 ab b1 e (by omega)
    refine ⟨r, h1, ?_⟩
    refine Ev.step (fun k => by rw [hsL1]) ?_
    rw [w64 (x := i + 1) (by omega) (by omega)]
    exact Ev.neg (by omega) h2
  | succ d ih =>
    intro j l hj ji hl hm hd hN
    have e1 : wrap64 (j - 1) = j - 1 := w64 (by omega) (by omega)
    have e2 : wrap64 (i + 1) = i + 1 := w64 (by omega) (by omega)
    by_cases hc : ltV val (rdH l j) (rdH l (j - 1)) = true
    · have hlen := swapH_length l j
      have R := fun (a : Int) (a0 : 0 ≤ a) => swapH_rd (l := l) (j := j) (by omega) (by omega) a0
      obtain ⟨r, h1, h2⟩ := ih (j - 1) (swapH l j) (by omega) (by omega) (by rw [hlen]; exact hl) (fun v => (swapH_mem (by omega) (by omega)).trans (hm v)) (swapH_dif hd (by omega) (by omega)) ⟨fun a b a0 ab b1 na nb => by
          rw [R a a0, R b (by omega)]
          unfold swH
          by_cases ea : a = j
          · rw [if_pos ea, if_neg (by omega), if_neg nb]
            exact hN.1 (j - 1) b (by omega) (by omega) b1 (by omega) (by omega)
          · rw [if_neg ea, if_neg na]
            by_cases eb : b = j
            · rw [if_pos eb]
              exact hN.1 a (j - 1) a0 (by omega) (by omega) ea (by omega)
            · rw [if_neg eb, if_neg nb]
              exact hN.1 a b a0 ab b1 ea eb, fun b jb b1 => by
          rw [R (j - 1) (by omega), R b (by omega)]
          unfold swH
          rw [if_neg (by omega), if_pos rfl]
          by_cases eb : b = j
          · rw [if_pos eb]; exact hc
          · rw [if_neg eb, if_neg (by omega)]
            exact hN.2 b (by omega) b1⟩
      refine ⟨r, h1, ?_⟩
      refine Ev.step (fun k => by rw [hsL1]) ?_
      rw [e1, e2]
      exact Ev.pos (by omega) (Ev.pos (by omega) (Ev.pos (by omega) (Ev.pos (by omega) (Ev.pos (by omega) (Ev.fix (congrArg some hc) (Ev.pos rfl h2))))))
    · have hlt : ltV val (rdH l (j - 1)) (rdH l j) = true := by
        have hne := hd (j - 1) j (by omega) (by omega) (by omega) (by omega) (by omega)
        have m1 : rdH l (j - 1) ∈ l0 := (hm _).1 (rdH_mem (by omega) (by omega))
        have m2 : rdH l j ∈ l0 := (hm _).1 (rdH_mem (by omega) (by omega))
        rcases lessB_total (h9 _ m1) (h9 _ m2) hne with h | h
        · exact h
        · exact absurd h hc
      obtain ⟨r, h1, h2⟩ := hr l hl hm hd fun a b a0 ab b1 => by
        by_cases ea : a = j
        · subst ea; exact hN.2 b ab b1
        · by_cases eb : b = j
          · subst eb
            by_cases e : a = b - 1
            · rw [e]; exact hlt
            · exact lessB_trans (hN.1 a (b - 1) a0 (by omega) (by omega) ea (by omega)) hlt
          · exact hN.1 a b a0 ab b1 ea eb
      refine ⟨r, h1, ?_⟩
      refine Ev.step (fun k => by rw [hsL1]) ?_
      rw [e1, e2]
      exact Ev.pos (by omega) (Ev.pos (by omega) (Ev.pos (by omega) (Ev.pos (by omega) (Ev.pos (by omega) (Ev.fix (congrArg some (Bool.eq_false_iff.2 hc)) (Ev.neg (by decide) h2))))))
theorem hd_l0 {val : HH → List Int} {l0 : List HH} (h9 : ∀ a ∈ l0, (val a).length = 9) {n : Int} (hn : n ≤ 1000) (d : Nat) : ∀ (i : Int) (l : List HH), 1 ≤ i → i + d = n → (l.length : Int) = n → (∀ v, v ∈ l ↔ v ∈ l0) → DifH val l → (∀ a b : Int, 0 ≤ a → a < b → b < i → ltV val (rdH l a) (rdH l b) = true) → (l0.length : Int) = n → ∃ r, SortH val l0 r ∧ Ev (fun k => hsL0 (ltV val) k l 0 n i) r := by
  induction d with
  | zero =>
    intro i l i0 hi hl hm hd ha h0
    refine ⟨l, ⟨by omega, hm, List.pairwise_iff_getElem.2 fun a b h1 h2 hab => ?_⟩, ?_⟩
    · have := ha (a : Int) (b : Int) (by omega) (by omega) (by omega)
      have e : ∀ c : Nat, (hc : c < l.length) → rdH l (c : Int) = l[c] := fun c hc => by
        unfold rdH rdOf
        rw [Int.toNat_natCast, List.getD_eq_getElem?_getD, List.getElem?_eq_getElem hc]; rfl
      rwa [e a h1, e b h2] at this
    · refine Ev.step (fun k => by rw [hsL0]) ?_
      exact Ev.neg (by omega) (Ev.done rfl)
  | succ d ih =>
    intro i l i0 hi hl hm hd ha h0
    obtain ⟨r, h1, h2⟩ := hd_l1 (val := val) (l0 := l0) h9 hn (i := i) (by omega) (by omega) (fun l hl hm hd ha => ih (i + 1) l (by omega) (by omega) hl hm hd (fun a b a0 ab b1 => ha a b a0 ab (by omega)) h0) i.toNat i l (by omega) (by omega) hl hm hd
      ⟨fun a b a0 ab b1 na nb => ha a b a0 ab (by omega), fun b ib b1 => by omega⟩
    refine ⟨r, h1, ?_⟩
    refine Ev.step (fun k => by rw [hsL0]) ?_
    exact Ev.pos (by omega) h2
theorem heads_ev {val : HH → List Int} {l : List HH} (h9 : ∀ a ∈ l, (val a).length = 9) (hn : (l.map val).Nodup) (h0 : 0 < l.length) (h1 : l.length ≤ 12) : ∃ r, SortH val l r ∧ Ev (fun k => hsL0 (ltV val) k l 0 (l.length : Int) (wrap64 (0 + 1))) r := by
  have hD : DifH val l := fun a b a0 a1 b0 b1 hne e => by
    have g : ∀ c : Int, (c0 : 0 ≤ c) → (hc : c < l.length) → val (rdH l c) = (l.map val)[c.toNat]'(by rw [List.length_map]; omega) := fun c c0 hc => by
      unfold rdH rdOf
      rw [List.getD_eq_getElem?_getD, List.getElem?_eq_getElem (by omega), List.getElem_map]; rfl
    rw [g a a0 a1, g b b0 b1] at e
    have := (List.getElem_inj hn).1 e
    omega
  rw [show wrap64 (0 + 1) = 1 from w64 (by omega) (by omega)]
  exact hd_l0 h9 (by omega) (l.length - 1) 1 l (by omega) (by omega) rfl (fun v => Iff.rfl) hD (fun a b a0 ab b1 => by omega) rfl
end Go.Proofs.Ytbfafjejmljcpaa.X

set_option linter.unusedVariables false
set_option linter.unusedSimpArgs false
namespace Go.Proofs.Ytbfafjejmljcpaa.X
open Go.RowKit Go.Proofs.YtbfafjejmljcpaaW.PrintWords Go.Proofs.YtbfafjejmljcpaaW.PrintLast Go.Proofs.Ytbfafjejmljcpaa.P

theorem isLeaf_calls (A0 : Option Addr) (c0 : Nat) (l : List Int) (w : World) (hr : Kd.C (Kd.int .i64) w A0 l.length l) (hc : l.length ≤ c0) :
    Calls Try.prog 56 #[.slice A0 l.length c0] w fun e w' => e = .returned (.bool (leafB l)) ∧ Drawn0 w w' := by
  obtain ⟨k, hk⟩ := (implLeaf_ev l).rounds
  exact impl_isLeaf.calls k A0 c0 l _ w hr hc hk
theorem compare_calls (A0 : Option Addr) (c0 : Nat) (a : List Int) (A1 : Option Addr) (c1 : Nat) (b : List Int) (ha : a.length = 9) (hb : b.length = 9) (w : World) (hr : Kd.C (Kd.int .i64) w A0 a.length a) (hc : a.length ≤ c0) (hr1 : Kd.C (Kd.int .i64) w A1 b.length b) (hc1 : b.length ≤ c1) :
    Calls Try.prog 84 #[.slice A0 a.length c0, .slice A1 b.length c1] w fun e w' => e = .returned (.int .i64 (cmpI a b)) ∧ Drawn0 w w' := by
  obtain ⟨k, hk⟩ := (compare_ev a b ha hb).rounds
  exact slices_Compare_int_int.calls k A0 c0 a A1 c1 b _ w hr hc hr1 hc1 hk
theorem freshB_all {l : List (List Int)} {i : Int} (hl : (rd_LI l i).length = 9) (h : ∀ j : Int, 0 ≤ j → j < 9 → (decide (rd (rd_LI l i) j ≤ 0) || !seenS l i (rd (rd_LI l i) j)) = true) : freshB l i = true := by
  unfold freshB
  rw [List.all_eq_true]
  intro p hp
  obtain ⟨j, j0, j1, rfl⟩ := mem_rd hp
  exact h j j0 (by omega)
theorem freshB_hit {l : List (List Int)} {i j : Int} (hl : (rd_LI l i).length = 9) (j0 : 0 ≤ j) (j1 : j < 9) (h : (decide (rd (rd_LI l i) j ≤ 0) || !seenS l i (rd (rd_LI l i) j)) = false) : freshB l i = false := by
  cases e : freshB l i with
  | false => rfl
  | true =>
    unfold freshB at e
    have := List.all_eq_true.1 e _ (rd_mem (i := j) (by omega) j0)
    rw [h] at this; exact absurd this (by decide)
set_option maxRecDepth 100000 in
set_option maxHeartbeats 8000000 in
theorem isSpread_calls (A0 : Option Addr) (c0 : Nat) (l : List (List Int)) (w : World) (hr : Kd.C (Kd.slice 3 (Kd.int .i64)) w A0 l.length l) :
    Calls Try.prog 51 #[.slice A0 l.length c0] w fun e w' => e = .returned (.bool (spreadB l)) ∧ Below w.heap.size w w' := by
  have hz : ∀ w, Sem.run Try.prog (zeroValue 78) w = .ok (.agg (bA 81 (fun _ => false))) w := fun _ => by kernel_rfl
  have hst := fun w => arr_store (P := Try.prog) 78 81 (fun _ => false) (by kernel_rfl) w
  have HR := Aside0.mk hr
  clear hr
  by_cases hl : l.length = 10
  case neg =>
    have e : spreadB l = false := by unfold spreadB; rw [decide_eq_false hl]; rfl
    have E := Aside0.mk e
    have l1 : ((l.length : Int) == 10) = false := beq_eq_false_iff_ne.2 (by omega)
    have l2 : ((l.length : Int) != 10) = true := by rw [bne, l1]; rfl
    clear e hl
    go_enter Try.func51, Try.ntmps51
    go_wp2
    go_ret
    exact ⟨by rw [E.out]; rfl, Below.refl _ _⟩
  case pos =>
  have l1 : ((l.length : Int) == 10) = true := beq_iff_eq.2 (by omega)
  have l2 : ((l.length : Int) != 10) = false := by rw [bne, l1]; rfl
  have HL := Aside0.mk hl
  have HS := Aside0.mk (Arr.alloc w 78 81 (fun _ => false))
  have HB3 := Aside0.mk ((Below.refl w.heap.size w).alloc (Nat.le_refl _) (.cells (bA 81 (fun _ => false)) 78))
  clear hl
  go_enter Try.func51, Try.ntmps51
  go_wp2
  go_loopg [14] 10 (fun kq v14 w' => ∃ i : Int, v14 = .int .i64 i ∧ Aside0 (0 ≤ i ∧ i ≤ 10) ∧ Aside0 ((10 : Int) - i ≤ kq) ∧ Aside0 (∀ j : Int, 0 ≤ j → j < i → leafOk l j = true) ∧ Aside0 (Arr w' w.heap.size 78 81 (fun p => seenS l i (p : Int))) ∧ Aside0 (Below w.heap.size w w'))
  case atStart => exact ⟨0, rfl, ⟨by omega⟩, ⟨by omega⟩, ⟨fun x h0 h1 => by omega⟩, ⟨HS.out.congr (fun j hj => rfl)⟩, HB3⟩
  case round =>
    clear HS HB3 hz hst
    obtain ⟨i, rfl, HI, HK, HA, HS, HB⟩ := hrel
    have h0 : 0 ≤ i := HI.out.1
    by_cases c6 : i < (l.length : Int)
    case neg =>
      go_wp2
      go_ret
      have hall : spreadB l = true := spreadB_all HL.out fun j j0 j1 => HA.out j j0 (by have := HI.out; have := HL.out; omega)
      exact ⟨by rw [hall]; rfl, HB.out⟩
    case pos =>
    have c10 : i < 10 := by have := HL.out; omega
    obtain ⟨ad, A1, c1, e1, hx, hcap, hin⟩ := at_LI HR.out i h0 c6
    cases e1
    replace hx := pw_cell_below HB.out hx
    have HIN := Aside0.mk hin
    have HCAP := Aside0.mk hcap
    have hcall := isLeaf_calls A1 c1 (rd_LI l i) wr (Kd.C_below hin HB.out) hcap
    have hleaf : leafB (rd_LI l i) = false → spreadB l = false := fun h => spreadB_hit h0 c10 (by unfold leafOk; rw [h]; rfl)
    have hord : ordB l i = false → spreadB l = false := fun h => spreadB_hit h0 c10 (by unfold leafOk; rw [h, Bool.false_and, Bool.and_false])
    have HORD := Aside0.mk hord
    clear hin hcap hord
    obtain ⟨L, hL⟩ : ∃ L, rd_LI l i = L := ⟨_, rfl⟩
    have HLL := Aside0.mk hL
    rw [hL] at hcall hx HIN HCAP hleaf
    clear hL
    by_cases hlf : leafB L = true
    case neg =>
      have hlf := Bool.eq_false_iff.2 hlf
      have E := Aside0.mk (hleaf hlf)
      rw [hlf] at hcall
      have HC := Aside0.mk hcall
      clear hcall hleaf hlf
      go_wp2_with (go_at_call 56; refine HC.out.mono ?_; rintro e w' ⟨rfl, ⟨nd, rfl⟩⟩)
      go_ret
      exact ⟨by rw [E.out]; rfl, pw_below_drewN HB.out _⟩
    case pos =>
    rw [hlf] at hcall
    have HC := Aside0.mk hcall
    have HLF := Aside0.mk hlf
    clear hcall hleaf hlf
    go_upto_region 7 with (fail)
    go_cut [35] (fun v35 wc => v35 = .bool (!ordB l i) ∧ Aside0 (Drawn0 wr wc))
    case first =>
      by_cases ci : i = 0
      · subst ci
        go_wp2_with (go_at_call 56; refine HC.out.mono ?_; rintro e w' ⟨rfl, ⟨nd, rfl⟩⟩)
        go_meet
        case rel => exact ⟨rfl, ⟨⟨_, rfl⟩⟩⟩
      · have hpos : decide (0 < i) = true := decide_eq_true (by omega)
        have zw : IntKind.i64.wrap (i - 1) = i - 1 := by rw [IntKind.wrap_i64]; omega
        have i1 : (0 : Int) ≤ i - 1 := by omega
        have i2 : i - 1 < (l.length : Int) := by omega
        obtain ⟨ad2, A2, c2, e1, hx2, hcap2, hin2⟩ := at_LI HR.out (i - 1) i1 i2
        cases e1
        have hlp := (leafOk_parts (HA.out (i - 1) i1 (by omega))).1
        have ho : ordB l i = lessB (rd_LI l (i - 1)) L := by unfold ordB; rw [decide_eq_false (by omega : ¬ i ≤ 0), HLL.out]; rfl
        obtain ⟨P, hP⟩ : ∃ P, rd_LI l (i - 1) = P := ⟨_, rfl⟩
        rw [hP] at hx2 hcap2 hin2 hlp ho
        replace hx2 := pw_cell_below HB.out hx2
        rw [show (i - 1).toNat = i.toNat - 1 by omega] at hx2
        have i3 : (1 : Int) ≤ i := by omega
        have i4 : i < (l.length : Int) + 1 := by omega
        have HC2 := Aside0.mk (fun n => compare_calls A2 c2 P A1 c1 L (leafB_parts hlp).1 (leafB_parts HLF.out).1 (wr.drewN n) (Kd.C_drewN (Kd.C_below hin2 HB.out) n) hcap2 (Kd.C_drewN (Kd.C_below HIN.out HB.out) n) HCAP.out)
        have hge := cmpI_less (a := P) (b := L)
        obtain ⟨c, hc⟩ : ∃ c, cmpI P L = c := ⟨_, rfl⟩
        rw [hc] at HC2 hge
        have hge2 : decide (0 ≤ c) = !lessB P L := hge
        obtain ⟨o, hoo⟩ : ∃ o, lessB P L = o := ⟨_, rfl⟩
        rw [hoo] at hge hge2 ho
        have HOE := Aside0.mk ho
        clear hP hin2 hlp ho hc hoo hcap2 ci
        go_wp2_with (first | (go_at_call 56; refine HC.out.mono ?_; rintro e w' ⟨rfl, ⟨nd, rfl⟩⟩) | (go_at_call 84; refine (HC2.out _).mono ?_; rintro e w' ⟨rfl, ⟨nd2, rfl⟩⟩))
        go_meet
        case rel => (rw [HOE.out]; exact ⟨rfl, ⟨⟨_, by first | exact World.drewN_drewN .. | rfl⟩⟩⟩)
    case rest =>
      clear HC hx
      obtain ⟨rfl, HD⟩ := hcut
      have HBc := Aside0.mk (HB.out.trans (HD.out.below.mono HB.out.size))
      have HSc := Aside0.mk (HS.out.below HD.out.below)
      clear HD HS HB
      by_cases hord : ordB l i = true
      case neg =>
        have hord := Bool.eq_false_iff.2 hord
        have E := Aside0.mk (HORD.out hord)
        rw [hord]
        clear hord
        go_wp2
        go_ret
        exact ⟨by rw [E.out]; rfl, HBc.out⟩
      case pos =>
      have HO := Aside0.mk hord
      have HL9 := Aside0.mk (leafB_parts HLF.out).1
      rw [hord]
      clear hord HORD
      go_wp2
      go_loopg [38] 9 (fun kq v38 w' => ∃ k : Int, v38 = .int .i64 k ∧ Aside0 (0 ≤ k ∧ k ≤ 9) ∧ Aside0 ((9 : Int) - k ≤ kq) ∧ Aside0 (∀ j : Int, 0 ≤ j → j < k → (decide (rd L j ≤ 0) || !seenS l i (rd L j)) = true) ∧ Aside0 (Arr w' w.heap.size 78 81 (fun p => seenS l i (p : Int) || decide ((p : Int) ∈ L.take k.toNat))) ∧ Aside0 (Below w.heap.size w w'))
      case atStart => exact ⟨0, rfl, ⟨by omega⟩, ⟨by omega⟩, ⟨fun x h0 h1 => by omega⟩, ⟨HSc.out.congr (fun j hj => by simp)⟩, HBc⟩
      case round =>
        clear HSc HBc
        obtain ⟨k, rfl, KI, KK, KA, KS, KB⟩ := hrel
        have k0 : 0 ≤ k := KI.out.1
        by_cases c9 : k < (L.length : Int)
        case neg =>
          have hk : k = 9 := by have := KI.out; have := HL9.out; omega
          have hfr : freshB l i = true := freshB_all (by rw [HLL.out]; exact HL9.out) fun j j0 j1 => by rw [HLL.out]; exact KA.out j j0 (by omega)
          have HOK := Aside0.mk (show leafOk l i = true by unfold leafOk; rw [HLL.out, HLF.out, HO.out, hfr]; rfl)
          have HTK := Aside0.mk (show L.take k.toNat = L from List.take_of_length_le (by have := HL9.out; omega))
          have zw : IntKind.i64.wrap (i + 1) = i + 1 := by rw [IntKind.wrap_i64]; omega
          clear hfr hk
          go_wp2
          go_roundg (10 - (i.toNat + 1))
          case measure => have := HK.out; omega
          case rel =>
            refine ⟨i + 1, rfl, ⟨by omega⟩, ⟨by omega⟩, ⟨fun j j0 j1 => ?_⟩, ⟨KS.out.congr fun j hj => ?_⟩, KB⟩
            · by_cases e : j = i
              · rw [e]; exact HOK.out
              · exact HA.out j j0 (by omega)
            · rw [seenS_succ l h0, HLL.out, HTK.out]
        case pos =>
        have k9 : k < 9 := by have := HL9.out; omega
        obtain ⟨a1, e1, g1⟩ := Kd.at_int (Kd.C_below HIN.out KB.out) k k0 c9
        subst e1
        obtain ⟨p0, p1⟩ := leaf_near HLF.out k0 k9
        have hnt := leaf_take HLF.out k0 k9
        have hkey : (seenS l i ((rd L k).toNat : Int) || decide (((rd L k).toNat : Int) ∈ L.take k.toNat)) = seenS l i (rd L k) := by
          rw [Int.toNat_of_nonneg p0, decide_eq_false hnt, Bool.or_false]
        have hcl := KS.out.cell (rd L k).toNat (by omega)
        rw [hkey] at hcl
        have hf := KS.out.frozen (rd L k).toNat
        have hhit : (decide (rd L k ≤ 0) || !seenS l i (rd L k)) = false → spreadB l = false := fun h => spreadB_hit h0 c10 (by
          unfold leafOk; rw [freshB_hit (by rw [HLL.out]; exact HL9.out) k0 k9 (by rw [HLL.out]; exact h), Bool.and_false, Bool.and_false])
        have HHIT := Aside0.mk hhit
        have KS6 := Aside0.mk (KS.out.set (rd L k).toNat true)
        have KB2 := Aside0.mk (KB.out.setCell (p := ⟨w.heap.size, (rd L k).toNat, none⟩) (Nat.le_refl _) (.bool true))
        have HSET := Aside0.mk (show ∀ j : Nat, (if j = (rd L k).toNat then true else (seenS l i (j : Int) || decide ((j : Int) ∈ L.take k.toNat))) = (seenS l i (j : Int) || decide ((j : Int) ∈ L.take (k + 1).toNat)) from fun j => by
          rw [show (k + 1).toNat = k.toNat + 1 by omega, List.take_add_one, List.getElem?_eq_getElem (by omega), Option.toList_some]
          have e2 : L[k.toNat]'(by omega) = rd L k := (rd_getElem k0 c9).symm
          rw [e2]
          by_cases e : j = (rd L k).toNat
          · rw [if_pos e]
            have : (j : Int) ∈ L.take k.toNat ++ [rd L k] := by rw [List.mem_append]; right; rw [List.mem_singleton]; omega
            rw [decide_eq_true this, Bool.or_true]
          · rw [if_neg e]
            congr 1
            refine decide_eq_decide.2 ?_
            rw [List.mem_append, List.mem_singleton]
            exact ⟨fun h => .inl h, fun h => h.elim id fun h => absurd h (by omega)⟩)
        clear hhit hkey hnt
        obtain ⟨p, hp⟩ : ∃ p, rd L k = p := ⟨_, rfl⟩
        rw [hp] at g1 p0 p1 hcl hf HHIT KS6 KB2 HSET
        have HP := Aside0.mk hp
        have zw : IntKind.i64.wrap (k + 1) = k + 1 := by rw [IntKind.wrap_i64]; omega
        have p81 : p < 81 := p1
        clear hp
        by_cases hp0 : 0 < p
        case neg =>
          have d0 : decide (0 < p) = false := decide_eq_false hp0
          go_wp2
          go_roundg (9 - (k.toNat + 1))
          case measure => have := KK.out; omega
          case rel =>
            refine ⟨k + 1, rfl, ⟨by omega⟩, ⟨by omega⟩, ⟨fun j j0 j1 => ?_⟩, ⟨KS6.out.congr fun j hj => HSET.out j⟩, KB2⟩
            by_cases e : j = k
            · rw [e, HP.out, decide_eq_true (by omega : p ≤ 0)]; rfl
            · exact KA.out j j0 (by omega)
        case pos =>
          have d0 : decide (0 < p) = true := decide_eq_true hp0
          by_cases hs : seenS l i p = true
          case pos =>
            rw [hs] at hcl
            have E := Aside0.mk (HHIT.out (by rw [hs, decide_eq_false (by omega : ¬ p ≤ 0)]; rfl))
            clear hs
            go_wp2
            go_ret
            exact ⟨by rw [E.out]; rfl, KB.out⟩
          case neg =>
            have hs := Bool.eq_false_iff.2 hs
            rw [hs] at hcl
            have HF := Aside0.mk hs
            clear hs
            go_wp2
            go_roundg (9 - (k.toNat + 1))
            case measure => have := KK.out; omega
            case rel =>
              refine ⟨k + 1, rfl, ⟨by omega⟩, ⟨by omega⟩, ⟨fun j j0 j1 => ?_⟩, ⟨KS6.out.congr fun j hj => HSET.out j⟩, KB2⟩
              by_cases e : j = k
              · rw [e, HP.out, HF.out, Bool.not_false, Bool.or_true]
              · exact KA.out j j0 (by omega)
end Go.Proofs.Ytbfafjejmljcpaa.X
namespace Go.Proofs.Ytbfafjejmljcpaa.P
open Go.RowKit Go.Proofs.YtbfafjejmljcpaaW.PrintWords Go.Proofs.YtbfafjejmljcpaaW.PrintLast
def impl_isSpread.f (l0 : List (List Int)) : Option Bool := some (X.spreadB l0)
theorem impl_isSpread.calls (A0 : Option Addr) (c0 : Nat) (l0 : List (List Int)) (r : Bool) (w : World) (hr0 : Kd.C (Kd.slice 3 (Kd.int .i64)) w A0 l0.length l0) (hc0 : l0.length ≤ c0) (h : impl_isSpread.f l0 = some r) :
    Calls Try.prog 51 #[.slice A0 l0.length c0] w fun e w' => e = .returned (.bool r) ∧ Below w.heap.size w w' := by
  obtain rfl := Option.some.inj h
  exact X.isSpread_calls A0 c0 l0 w hr0
end Go.Proofs.Ytbfafjejmljcpaa.P

set_option linter.unusedVariables false
set_option linter.unusedSimpArgs false
namespace Go.Proofs.Ytbfafjejmljcpaa.X
open Go.RowKit Go.Proofs.YtbfafjejmljcpaaW.PrintWords Go.Proofs.YtbfafjejmljcpaaW.PrintLast Go.Proofs.Ytbfafjejmljcpaa.P

set_option maxHeartbeats 4000000 in
set_option maxRecDepth 100000 in
theorem len64_ten (w : World) : Calls Try.prog 138 #[.int .u64 10] w fun e w' => e = .returned (.int .i64 4) ∧ Drawn0 w w' := by
  go_enter Try.func138, Try.ntmps138
  go_wp2
  go_ret
  exact ⟨by kernel_rfl, Drawn0.refl _⟩
set_option maxHeartbeats 4000000 in
set_option maxRecDepth 100000 in
theorem len_ten (w : World) : Calls Try.prog 99 #[.int .u64 10] w fun e w' => e = .returned (.int .i64 4) ∧ Drawn0 w w' := by
  go_enter Try.func99, Try.ntmps99
  go_wp2_with (go_at_call 138; refine (len64_ten _).mono ?_; rintro e w' ⟨rfl, ⟨nd, rfl⟩⟩)
  go_ret
  exact ⟨rfl, by repeat (first | exact Drawn0.refl _ | apply Drawn0.step)⟩
set_option maxHeartbeats 4000000 in
set_option maxRecDepth 100000 in
theorem sortFunc_calls (lt : HH → HH → Bool) (k : Nat) (P0_ : Nat → Prop) (A0 : Option Addr) (c0 : Nat) (l0 : List HH) (r : List HH) (w0 w : World) (hB : Below w0.heap.size w0 w) (ho0 : Kd.R hdK 23 w w0.heap.size P0_ (.slice A0 10 c0) l0) (HC_ : HCmp lt P0_ l0 w0 w)
    (h : hsL0 lt k l0 0 10 (wrap64 (0 + 1)) = some r) :
    Calls Try.prog 83 #[.slice A0 10 c0, .func (.func 84) #[] #[]] w fun e w' => e = .returned (.tuple #[]) ∧ Kd.R hdK 23 w' w0.heap.size (fun k_ => (P0_ k_ ∨ w.heap.size ≤ k_)) (.slice A0 10 c0) r ∧ Below w0.heap.size w0 w' ∧ Kept w w' (fun k_ => P0_ k_) := by
  have HS := Aside0.mk (fun (a3 : Int) (w1 : World) (hB : Below w0.heap.size w0 w1) (ho0 : Kd.R hdK 23 w1 w0.heap.size P0_ (.slice A0 10 c0) l0) (HC_ : HCmp lt P0_ l0 w0 w1) => pdqCmp_calls lt k P0_ (.slice A0 10 c0) l0 0 10 a3 r w0 w1 hB ho0 HC_ (by omega) (by omega) (by omega) (by omega) h)
  have HO := Aside0.mk ho0
  have HB := Aside0.mk hB
  have HC := Aside0.mk HC_
  clear hB ho0 h HC_
  go_enter Try.func83, Try.ntmps83
  go_wp2_with (first | (go_at_call 99; refine (len_ten _).mono ?_; rintro e w' ⟨rfl, ⟨nd, rfl⟩⟩) | (go_at_call 118; refine (HS.out 4 _ ?s1 ?s2 ?s3).mono ?_; (case s1 => exact pw_below_drewN HB.out _); (case s2 => exact Kd.R_drewN HO.out _); (case s3 => exact HC.out); rintro e w' ⟨rfl, hr', hb', hk'⟩))
  first | go_end0 | ((try simp only [Exit.inBlock, Exit.then]); refine bodyPost_ret (results_none rfl _ _ _) rfl ?_)
  exact ⟨rfl, hr', hb', hk'⟩
end Go.Proofs.Ytbfafjejmljcpaa.X

set_option linter.unusedVariables false
set_option linter.unusedSimpArgs false
namespace Go.Proofs.Ytbfafjejmljcpaa.X
open Go.RowKit Go.Proofs.YtbfafjejmljcpaaW.PrintWords Go.Proofs.YtbfafjejmljcpaaW.PrintLast Go.Proofs.Ytbfafjejmljcpaa.P

abbrev LK : Kd (List Int) := Kd.slice 3 (Kd.int .i64)
def toH : List Value → HH
  | [.slice A _ c] => (A, c)
  | _ => (none, 0)
theorem C_same {w : World} {A : Option Addr} {x y : List Int} (hx : (Kd.int .i64).C w A x.length x) (hy : (Kd.int .i64).C w A y.length y) (h : x.length = y.length) : x = y := by
  refine ext_rd h fun i hi => ?_
  obtain ⟨ad, e1, h1⟩ := ReadsOf.at_ (Kd.reads_of_C (enc := Value.int .i64) (d := (0 : Int)) (h1 := fun _ => rfl) hx) (i : Int) (by omega) (by omega)
  obtain ⟨ad', e2, h2⟩ := ReadsOf.at_ (Kd.reads_of_C (enc := Value.int .i64) (d := (0 : Int)) (h1 := fun _ => rfl) hy) (i : Int) (by omega) (by omega)
  rw [e1] at e2
  injection e2 with e2
  subst e2
  rw [h1] at h2
  injection h2 with h2
  injection h2 with _ h2
theorem fk_open {w : World} {ok : Nat → Prop} {x : List Int} {a : HH} (h : Kd.FK LK w ok x [hEnc a]) (h9 : x.length = 9) : x.length ≤ a.2 ∧ (Kd.int .i64).C w a.1 x.length x := by
  obtain ⟨A, c', e, h1, h2⟩ := Kd.FK_now h
  injection e with e
  injection e with e1 e2 e3
  subst e1; subst e3
  exact ⟨h1, h2⟩
open Classical in
noncomputable def valH (xs : List (List Int)) (hs : List HH) (h : HH) : List Int := if hh : ∃ x, ∃ j : Nat, xs[j]? = some x ∧ hs[j]? = some h then Classical.choose hh else []
set_option maxHeartbeats 2000000 in
theorem sort_core (xs : List (List Int)) (hs : List HH) (h10 : xs.length = 10) (hlh : hs.length = 10) (h9 : ∀ x ∈ xs, x.length = 9) (hn : xs.Nodup) (A0 : Option Addr) (c0 : Nat) (w0 w : World) (ok : Nat → Prop) (hB : Below w0.heap.size w0 w) (hH : Kd.R hdK 23 w w0.heap.size (fun k => some k = (Value.slice A0 10 c0).ownBlock) (.slice A0 10 c0) hs)
    (hfk0 : ∀ (j : Nat) (x : List Int) (a : HH), xs[j]? = some x → hs[j]? = some a → Kd.FK LK w (fun k => ok k ∧ some k ≠ (Value.slice A0 10 c0).ownBlock) x [hEnc a]) :
    Calls Try.prog 83 #[.slice A0 10 c0, .func (.func 84) #[] #[]] w fun e w' => e = .returned (.tuple #[]) ∧ ∃ (val : HH → List Int) (rh : List HH), (∀ (j : Nat) (x : List Int) (a : HH), xs[j]? = some x → hs[j]? = some a → val a = x) ∧ SortH val hs rh ∧ Kd.R hdK 23 w' w0.heap.size (fun k => some k = (Value.slice A0 10 c0).ownBlock ∨ w.heap.size ≤ k) (.slice A0 10 c0) rh ∧ Below w0.heap.size w0 w' ∧ Kept w w' (fun k => some k = (Value.slice A0 10 c0).ownBlock) := by
  have hval : ∀ (j : Nat) (x : List Int) (a : HH), xs[j]? = some x → hs[j]? = some a → valH xs hs a = x := fun j x a hx ha => by
    have hh : ∃ x, ∃ j : Nat, xs[j]? = some x ∧ hs[j]? = some a := ⟨x, j, hx, ha⟩
    unfold valH
    rw [dif_pos hh]
    obtain ⟨j', h1, h2⟩ := Classical.choose_spec hh
    have a1 := fk_open (hfk0 j' _ a h1 h2) (h9 _ (List.mem_of_getElem? h1))
    have a2 := fk_open (hfk0 j _ a hx ha) (h9 _ (List.mem_of_getElem? hx))
    exact C_same a1.2 a2.2 ((h9 _ (List.mem_of_getElem? h1)).trans (h9 _ (List.mem_of_getElem? hx)).symm)
  have hfk : ∀ a ∈ hs, (valH xs hs a).length = 9 ∧ Kd.FK LK w (fun k => ok k ∧ some k ≠ (Value.slice A0 10 c0).ownBlock) (valH xs hs a) [hEnc a] := fun a ha => by
    obtain ⟨j, hj, e⟩ := List.mem_iff_getElem.1 ha
    have hx : j < xs.length := by omega
    have e1 : xs[j]? = some xs[j] := List.getElem?_eq_getElem hx
    have e2 : hs[j]? = some a := by rw [List.getElem?_eq_getElem hj, e]
    rw [hval j _ a e1 e2]
    exact ⟨h9 _ (List.getElem_mem hx), hfk0 j _ a e1 e2⟩
  have hmap : hs.map (valH xs hs) = xs := by
    refine List.ext_getElem (by rw [List.length_map]; omega) fun j h1 h2 => ?_
    rw [List.length_map] at h1
    rw [List.getElem_map]
    exact hval j _ _ (List.getElem?_eq_getElem h2) (List.getElem?_eq_getElem h1)
  obtain ⟨rh, hrh, hev⟩ := heads_ev (val := valH xs hs) (l := hs) (fun a ha => (hfk a ha).1) (by rw [hmap]; exact hn) (by omega) (by omega)
  obtain ⟨k, hk⟩ := hev.rounds
  rw [hlh] at hk
  refine (sortFunc_calls (ltV (valH xs hs)) k (fun k => some k = (Value.slice A0 10 c0).ownBlock) A0 c0 hs rh w0 w hB hH ?_ hk).mono ?_
  · intro W hkp hb a b ha hb'
    have move := fun (a : HH) (ha : a ∈ hs) => Kd.FK_step (W1 := W) (hfk a ha).2 (fun k hk hlt => hkp.2 k hlt hk.2)
    have la := (hfk a ha).1
    have lb := (hfk b hb').1
    have ga := fk_open (move a ha) la
    have gb := fk_open (move b hb') lb
    have hc := compare_calls a.1 a.2 (valH xs hs a) b.1 b.2 (valH xs hs b) la lb W ga.2 ga.1 gb.2 gb.1
    rw [la, lb] at hc
    refine hc.mono ?_
    rintro e w' ⟨rfl, hd⟩
    refine ⟨⟨_, rfl, ?_⟩, hd⟩
    have e := cmpI_less (a := valH xs hs a) (b := valH xs hs b)
    unfold ltV
    cases hl : lessB (valH xs hs a) (valH xs hs b) with
    | true => rw [hl] at e; have := of_decide_eq_false e; exact decide_eq_true (by omega)
    | false => rw [hl] at e; have := of_decide_eq_true e; exact decide_eq_false (by omega)
  · rintro e w' ⟨rfl, hr', hb', hk'⟩
    exact ⟨rfl, valH xs hs, rh, hval, hrh, hr', hb', hk'⟩
open Classical in
noncomputable def ownH (rh : List HH) (k : Nat) : Nat := if h : ∃ j : Nat, ∃ a, rh[j]? = some a ∧ (hEnc a).ownBlock = some k then Classical.choose h else 0
set_option maxHeartbeats 2000000 in
theorem sortRows_calls (xs : List (List Int)) (h10 : xs.length = 10) (h9 : ∀ x ∈ xs, x.length = 9) (hn : xs.Nodup) (A0 : Option Addr) (c0 : Nat) (w0 w : World) (ok : Nat → Prop) (hB : Below w0.heap.size w0 w) (hS : Kd.S LK 23 w w0.heap.size ok (.slice A0 10 c0) xs) :
    Calls Try.prog 83 #[.slice A0 10 c0, .func (.func 84) #[] #[]] w fun e w' => e = .returned (.tuple #[]) ∧ ∃ r, (r.length = 10 ∧ (∀ x, x ∈ r ↔ x ∈ xs) ∧ Asc r) ∧ Kd.S LK 23 w' w0.heap.size ok (.slice A0 10 c0) r ∧ Below w0.heap.size w0 w' := by
  obtain ⟨f, h0, inner, ho, hr⟩ := hS
  have ho : w.ownsRow w0.heap.size 23 1 (.slice A0 10 c0) xs.zipIdx.length inner := ho
  rw [List.length_zipIdx, h10] at ho
  have hlen : inner.length = 10 := by have := hr.1; rw [List.length_zipIdx, h10] at this; exact this
  have hrow : ∀ (j : Nat) (x : List Int), xs[j]? = some x → ∃ v, (inner.drop (j * 1)).take 1 = [v] ∧ Kd.R (Kd.int .i64) 3 w w0.heap.size (fun k => (ok k ∧ some k ≠ (Value.slice A0 10 c0).ownBlock) ∧ f k = j) v x := fun j x hx => hr.2 j (x, j) (Kd.zip_at hx)
  obtain ⟨hs, ehs⟩ : ∃ hs, ((List.range 10).map fun j => toH ((inner.drop (j * 1)).take 1)) = hs := ⟨_, rfl⟩
  have hlh : hs.length = 10 := by rw [← ehs]; simp
  have hat : ∀ (j : Nat) (x : List Int) (a : HH), xs[j]? = some x → hs[j]? = some a → (inner.drop (j * 1)).take 1 = [hEnc a] ∧ Kd.R (Kd.int .i64) 3 w w0.heap.size (fun k => (ok k ∧ some k ≠ (Value.slice A0 10 c0).ownBlock) ∧ f k = j) (hEnc a) x := fun j x a hx ha => by
    obtain ⟨v, e, hR⟩ := hrow j x hx
    obtain ⟨A, c, ev⟩ := Kd.R_slice hR
    rw [h9 x (List.mem_of_getElem? hx)] at ev
    subst ev
    have hj : j < 10 := by have := (List.getElem?_eq_some_iff.1 hx).1; omega
    rw [← ehs, List.getElem?_map, List.getElem?_range hj, Option.map_some, e] at ha
    obtain rfl := Option.some.inj ha
    exact ⟨e, hR⟩
  have hxs : ∀ (j : Nat) (a : HH), hs[j]? = some a → ∃ x, xs[j]? = some x := fun j a ha => by
    have hj := (List.getElem?_eq_some_iff.1 ha).1
    exact ⟨_, List.getElem?_eq_getElem (by omega)⟩
  have hH : Kd.R hdK 23 w w0.heap.size (fun k => some k = (Value.slice A0 10 c0).ownBlock) (.slice A0 10 c0) hs := by
    refine ⟨fun k hk => hk.symm, inner, by rw [hlh]; exact ho, ⟨by rw [hlh]; exact hlen, fun j a ha => ?_⟩⟩
    obtain ⟨x, hx⟩ := hxs j a ha
    exact (hat j x a hx ha).1
  have hfk0 : ∀ (j : Nat) (x : List Int) (a : HH), xs[j]? = some x → hs[j]? = some a → Kd.FK LK w (fun k => ok k ∧ some k ≠ (Value.slice A0 10 c0).ownBlock) x [hEnc a] := fun j x a hx ha => by
    have hR := Kd.R_mono (ok' := fun k => ok k ∧ some k ≠ (Value.slice A0 10 c0).ownBlock) (hat j x a hx ha).2 (fun k hk => hk.1)
    have l9 := h9 x (List.mem_of_getElem? hx)
    exact Kd.FK_of_M (base := w0.heap.size) (show LK.M w w0.heap.size _ x [hEnc a] from ⟨_, rfl, hR⟩)
  refine (sort_core xs hs h10 hlh h9 hn A0 c0 w0 w ok hB hH hfk0).mono ?_
  rintro e w' ⟨rfl, val, rh, hval, hrh, hr', hb', hk'⟩
  have hmem : ∀ a, a ∈ rh ↔ a ∈ hs := hrh.2.1
  have hmap : hs.map val = xs := by
    refine List.ext_getElem (by rw [List.length_map]; omega) fun j h1 h2 => ?_
    rw [List.length_map] at h1
    rw [List.getElem_map]
    exact hval j _ _ (List.getElem?_eq_getElem h2) (List.getElem?_eq_getElem h1)
  have hnd : rh.Nodup := hrh.2.2.imp fun {a b} h e => by rw [e] at h; exact lessB_asym h h
  -- each head: its place before, and its row
  have hhd : ∀ a ∈ rh, ∃ j : Nat, hs[j]? = some a ∧ xs[j]? = some (val a) := fun a ha => by
    obtain ⟨j, hj, e⟩ := List.mem_iff_getElem.1 ((hmem a).1 ha)
    have e2 : hs[j]? = some a := by rw [List.getElem?_eq_getElem hj, e]
    obtain ⟨x, hx⟩ := hxs j a e2
    exact ⟨j, e2, by rw [hval j x a hx e2]; exact hx⟩
  have hown : ∀ (j : Nat) (a : HH) (k : Nat), rh[j]? = some a → (hEnc a).ownBlock = some k → ownH rh k = j := fun j a k ha hk => by
    have hh : ∃ j : Nat, ∃ a, rh[j]? = some a ∧ (hEnc a).ownBlock = some k := ⟨j, a, ha, hk⟩
    unfold ownH
    rw [dif_pos hh]
    obtain ⟨b, hb, hkb⟩ := Classical.choose_spec hh
    obtain ⟨j1, s1, x1⟩ := hhd a (List.mem_of_getElem? ha)
    obtain ⟨j2, s2, x2⟩ := hhd b (List.mem_of_getElem? hb)
    have f1 : f k = j1 := ((hat j1 _ a x1 s1).2.1 k hk).2
    have f2 : f k = j2 := ((hat j2 _ b x2 s2).2.1 k hkb).2
    have e : j1 = j2 := f1.symm.trans f2
    subst e
    rw [s1] at s2
    obtain rfl := Option.some.inj s2
    obtain ⟨g1, e1⟩ := List.getElem?_eq_some_iff.1 ha
    obtain ⟨g2, e2⟩ := List.getElem?_eq_some_iff.1 hb
    exact (List.getElem_inj hnd).1 (e2.trans e1.symm)
  obtain ⟨_, inner', ho', hri⟩ := hr'
  refine ⟨rfl, rh.map val, ⟨by rw [List.length_map, hrh.1, hlh], fun x => ?_, ?_⟩, ⟨ownH rh, h0, inner', by rw [List.length_zipIdx, List.length_map]; exact ho', ⟨by rw [List.length_zipIdx, List.length_map]; exact hri.1, fun j p hp => ?_⟩⟩, hb'⟩
  · rw [List.mem_map]
    constructor
    · rintro ⟨a, ha, rfl⟩
      have : val a ∈ hs.map val := List.mem_map.2 ⟨a, (hmem a).1 ha, rfl⟩
      rwa [hmap] at this
    · intro hx
      have hx : x ∈ hs.map val := by rw [hmap]; exact hx
      rw [List.mem_map] at hx
      obtain ⟨a, ha, e⟩ := hx
      exact ⟨a, (hmem a).2 ha, e⟩
  · unfold Asc
    rw [List.pairwise_map]
    exact hrh.2.2
  · rw [List.getElem?_zipIdx, Nat.zero_add, List.getElem?_map] at hp
    obtain ⟨x, hx, rfl⟩ := Option.map_eq_some_iff.1 hp
    obtain ⟨a, ha, rfl⟩ := Option.map_eq_some_iff.1 hx
    obtain ⟨j1, s1, x1⟩ := hhd a (List.mem_of_getElem? ha)
    have hR := (hat j1 _ a x1 s1).2
    have hR2 := Kd.R_step (w1 := w') hR (fun k hk hlt => hk'.2 k hlt hk.1.2)
    refine ⟨hEnc a, hri.2 j a ha, Kd.R_reok rfl hR2 (fun k hk => ⟨(hR.1 k hk).1, hown j a k ha hk⟩)⟩
end Go.Proofs.Ytbfafjejmljcpaa.X

set_option linter.unusedVariables false
set_option linter.unusedSimpArgs false
namespace Go.Proofs.Ytbfafjejmljcpaa.X
open Go.RowKit Go.Proofs.YtbfafjejmljcpaaW.PrintWords Go.Proofs.YtbfafjejmljcpaaW.PrintLast Go.Proofs.Ytbfafjejmljcpaa.P

theorem insL_asc : ∀ (l : List (List Int)) (x : List Int), Asc l → (∀ a ∈ l, a.length = 9) → x.length = 9 → x ∉ l → Asc (insL l x) := by
  intro l
  induction l with
  | nil => intro x _ _ _ _; exact List.pairwise_singleton _ _
  | cons y l ih =>
    intro x ha h9 hx hn
    have ha2 := List.pairwise_cons.1 ha
    have hxy : x ≠ y := fun e => hn (e ▸ List.mem_cons_self)
    have h9y := h9 y List.mem_cons_self
    by_cases h : lessB y x = true
    · have e : insL (y :: l) x = y :: insL l x := by simp [insL, h]
      rw [e]
      refine List.pairwise_cons.2 ⟨fun z hz => ?_, ih x ha2.2 (fun a h => h9 a (List.mem_cons_of_mem _ h)) hx (fun h => hn (List.mem_cons_of_mem _ h))⟩
      rcases mem_insL.1 hz with rfl | hz
      · exact h
      · exact ha2.1 z hz
    · have e : insL (y :: l) x = x :: y :: l := by simp [insL, h]
      rw [e]
      have hlt : lessB x y = true := (lessB_total hx h9y hxy).elim id fun h2 => absurd h2 h
      refine List.pairwise_cons.2 ⟨fun z hz => ?_, ha⟩
      rcases List.mem_cons.1 hz with rfl | hz
      · exact hlt
      · exact lessB_trans hlt (ha2.1 z hz)
theorem asc_extN : ∀ a b : List Int, a.Pairwise (· < ·) → b.Pairwise (· < ·) → (∀ x, x ∈ a ↔ x ∈ b) → a = b := by
  intro a
  induction a with
  | nil =>
    intro b _ _ h
    cases b with
    | nil => rfl
    | cons y b => exact absurd ((h y).2 List.mem_cons_self) (by simp)
  | cons x a ih =>
    intro b ha hb h
    cases b with
    | nil => exact absurd ((h x).1 List.mem_cons_self) (by simp)
    | cons y b =>
      have ha := List.pairwise_cons.1 ha
      have hb := List.pairwise_cons.1 hb
      have e : x = y := by
        rcases List.mem_cons.1 ((h x).1 List.mem_cons_self) with e | e
        · exact e
        · rcases List.mem_cons.1 ((h y).2 List.mem_cons_self) with e2 | e2
          · exact e2.symm
          · have := hb.1 x e; have := ha.1 y e2; omega
      subst e
      rw [ih b ha.2 hb.2 fun z => ⟨fun hz => ?_, fun hz => ?_⟩]
      · rcases List.mem_cons.1 ((h z).1 (List.mem_cons_of_mem _ hz)) with e | e
        · have := ha.1 z hz; omega
        · exact e
      · rcases List.mem_cons.1 ((h z).2 (List.mem_cons_of_mem _ hz)) with e | e
        · have := hb.1 z hz; omega
        · exact e
theorem filI_graph {f : Int → Int} (hf : ∀ x : Int, 0 ≤ x → x < 9 → 0 ≤ f x ∧ f x < 9) : filI 81 (fun i => i % 9 == f (i / 9)) = mapI 9 fun x => 9 * x + f x := by
  refine asc_extN _ _ (filI_asc _ _) ?_ fun i => ?_
  · unfold mapI
    rw [List.pairwise_map]
    refine List.pairwise_lt_range.imp_of_mem fun {a b} ha hb hab => ?_
    have := hf a (by omega) (by have := List.mem_range.1 ha; omega)
    have := hf b (by omega) (by have := List.mem_range.1 hb; omega)
    show 9 * (a : Int) + f a < 9 * (b : Int) + f b
    omega
  · rw [mem_filI]
    unfold mapI
    rw [List.mem_map]
    constructor
    · rintro ⟨i0, i1, h⟩
      have h : i % 9 = f (i / 9) := by simpa using h
      exact ⟨(i / 9).toNat, List.mem_range.2 (by omega), by rw [Int.toNat_of_nonneg (by omega)]; show 9 * (i / 9) + f (i / 9) = i; omega⟩
    · rintro ⟨x, hx, rfl⟩
      have hx := List.mem_range.1 hx
      have := hf x (by omega) (by omega)
      have e1 : (9 * (x : Int) + f x) / 9 = x := by omega
      have e2 : (9 * (x : Int) + f x) % 9 = f x := by omega
      show 0 ≤ 9 * (x : Int) + f x ∧ 9 * (x : Int) + f x < (81 : Nat) ∧ ((9 * (x : Int) + f x) % 9 == f ((9 * (x : Int) + f x) / 9)) = true
      refine ⟨by omega, by omega, ?_⟩
      rw [e1, e2]; simp
theorem leafM_fil {t : List Int} (hn : ninesB t 81 = true) {m : Int} (m0 : 0 ≤ m) (m1 : m < 9) : filI 81 (fun i => i % 9 == rd t (9 * (i / 9) + m)) = leafM t m :=
  filI_graph (f := fun x => rd t (9 * x + m)) fun x x0 x1 => nines_rd hn (by omega) (by omega)
theorem leaf0_fil : filI 81 (fun i => i / 9 == 0) = leaf0 := by decide +kernel
def outL (t : List Int) (n : Nat) : List (List Int) := leaf0 :: (List.range n).map fun (m : Nat) => leafM t (m : Int)
theorem outL_succ (t : List Int) (n : Nat) : outL t (n + 1) = outL t n ++ [leafM t (n : Int)] := by unfold outL; rw [List.range_succ, List.map_append]; rfl
theorem outL_length (t : List Int) (n : Nat) : (outL t n).length = n + 1 := by unfold outL; simp
theorem outL_nines (t : List Int) (n : Nat) : ∀ x ∈ outL t n, x.length = 9 := fun x hx => by
  rcases List.mem_cons.1 hx with rfl | hx
  · rfl
  · obtain ⟨m, _, rfl⟩ := List.mem_map.1 hx
    exact leafM_length t m
theorem outL_mem (t : List Int) (n : Nat) (x : List Int) : x ∈ outL t n ↔ x ∈ spreadN t n := by
  induction n with
  | zero => rfl
  | succ n ih =>
    rw [outL_succ, List.mem_append, List.mem_singleton, ih]
    show _ ↔ x ∈ insL _ _
    rw [mem_insL, or_comm]
theorem leafM_one {t : List Int} (h : sysB t = true) {m : Int} (m0 : 0 ≤ m) (m1 : m < 9) : rd (leafM t m) 1 = 9 + m := by
  unfold leafM leafF
  rw [rd_mapI (by omega) (by omega)]
  have := (sys_units h m0 m1).2.2.1
  rw [show (9 : Int) * 1 + m = 9 + m by omega, this]; omega
theorem leafM_new {t : List Int} (h : sysB t = true) {n : Nat} (hn : n < 9) : leafM t (n : Int) ∉ outL t n := fun hm => by
  have e := leafM_one h (m := (n : Int)) (by omega) (by omega)
  rcases List.mem_cons.1 hm with e2 | hm
  · rw [e2] at e
    have : rd leaf0 1 = 1 := rfl
    omega
  · obtain ⟨m, hm, e2⟩ := List.mem_map.1 hm
    have hm := List.mem_range.1 hm
    have e3 := leafM_one h (m := (m : Int)) (by omega) (by omega)
    rw [e2] at e3
    omega
theorem outL_nodup {t : List Int} (h : sysB t = true) (n : Nat) (hn : n ≤ 9) : (outL t n).Nodup := by
  induction n with
  | zero => exact List.nodup_cons.2 ⟨by simp, List.nodup_nil⟩
  | succ n ih =>
    rw [outL_succ]
    refine List.nodup_append.2 ⟨ih (by omega), List.nodup_cons.2 ⟨by simp, List.nodup_nil⟩, fun a ha b hb e => ?_⟩
    rw [List.mem_singleton.1 hb] at e
    rw [e] at ha
    exact leafM_new h (by omega) ha
theorem spreadN_asc {t : List Int} (h : sysB t = true) (n : Nat) (hn : n ≤ 9) : Asc (spreadN t n) := by
  induction n with
  | zero => exact List.pairwise_singleton _ _
  | succ n ih => exact insL_asc _ _ (ih (by omega)) (spreadN_nines t n) (leafM_length t n) fun hm => leafM_new h (by omega) ((outL_mem t n _).2 hm)
theorem sorted_spread {t : List Int} (h : sysB t = true) {r : List (List Int)} (hm : ∀ x, x ∈ r ↔ x ∈ outL t 9) (ha : Asc r) : r = spreadN t 9 :=
  asc_ext _ _ ha (spreadN_asc h 9 (by omega)) fun x => (hm x).trans (outL_mem t 9 x)
end Go.Proofs.Ytbfafjejmljcpaa.X

set_option linter.unusedVariables false
set_option linter.unusedSimpArgs false
namespace Go.Proofs.Ytbfafjejmljcpaa.X
open Go.RowKit Go.Proofs.YtbfafjejmljcpaaW.PrintWords Go.Proofs.YtbfafjejmljcpaaW.PrintLast Go.Proofs.Ytbfafjejmljcpaa.P

set_option maxRecDepth 100000 in
set_option maxHeartbeats 4000000 in
theorem leafThat_calls (g : Nat) (lb : Array Value) (eg : Eg g) (p : Int → Int → Bool) (q : Int → Bool) (hq : ∀ i : Int, 0 ≤ i → i < 81 → q i = p (i / 9) (i % 9)) (w : World) (hp : Fn2 g lb w (fun x y => (0 ≤ x ∧ x < 9) ∧ 0 ≤ y ∧ y < 9) (fun x y => .bool (p x y))) :
    Calls Try.prog 76 #[.func (.func g) #[] lb] w fun e w' => ∃ v : Value, e = .returned v ∧ Kd.R (Kd.int .i64) 3 w' w.heap.size (fun _ => True) v (filI 81 q) ∧ Below w.heap.size w w' := by
  have HP := Aside0.mk hp
  clear hp
  unfold Eg at eg
  go_enter Try.func76, Try.ntmps76
  go_wp2_with ((with_reducible refine gate_dst (N := 5) rfl ?_); refine Kd.R_lit (Kd.int .i64) _ 3 ?hg (N := 5) ?hd (xs := ([] : List Int)) (inner := []) (ok := fun _ => True) (okp := fun _ => True) ?hr ?hp (fun _ hk => hk) trivial (Below.refl _ _) (Nat.le_refl _) (by simp) ?_; (case hd => rfl); (case hg => rfl); (case hr => first | (go_simp; done) | (go_simp; rfl)); (case hp => exact (Reps.none _ _)); intro v0 w0 ho0 hb0 hg0 hnew0; have HO0 := Aside0.mk ho0; have HB0 := Aside0.mk hb0; clear ho0 hb0 hg0 hnew0)
  go_loopg [3, 6] 81 (fun kq v3 v6 w' => ∃ i : Int, v6 = .int .i64 i ∧ Aside0 (0 ≤ i ∧ i ≤ 81) ∧ Aside0 ((81 : Int) - i ≤ kq) ∧ Aside0 (Kd.R (Kd.int .i64) 3 w' w.heap.size (fun _ => True) v3 (filI i.toNat q)) ∧ Aside0 (Below w.heap.size w w'))
  case atStart => exact ⟨0, rfl, ⟨by omega⟩, ⟨by omega⟩, HO0, HB0⟩
  case round =>
    clear HO0 HB0
    obtain ⟨i, rfl, HI, HK, HO, HB⟩ := hrel
    have h0 : 0 ≤ i := HI.out.1
    by_cases c6 : i < 81
    · have hlen : (filI i.toNat q).length ≤ i.toNat := filI_length_le _ _
      have hcall := HP.out wr (i / 9) (i % 9) HB.out ⟨⟨by omega, by omega⟩, by omega, by omega⟩
      dsimp only at hcall
      rw [← hq i h0 c6] at hcall
      have e1 : wrap64 (Int.tdiv i 9) = i / 9 := by rw [Int.tdiv_eq_ediv_of_nonneg h0]; unfold wrap64; omega
      have e2 : wrap64 (Int.tmod i 9) = i % 9 := by rw [Int.tmod_eq_emod_of_nonneg h0]; unfold wrap64; omega
      have hsucc : filI (i + 1).toNat q = filI i.toNat q ++ (if q i = true then [i] else []) := by
        rw [show (i + 1).toNat = i.toNat + 1 by omega, filI_succ, Int.toNat_of_nonneg h0]
      have HSU := Aside0.mk hsucc
      have HL := Aside0.mk hlen
      clear hlen hsucc
      obtain ⟨xs, hxs⟩ : ∃ xs, filI i.toNat q = xs := ⟨_, rfl⟩
      rw [hxs] at HO HSU HL
      clear hxs
      by_cases hv : q i = true
      · rw [hv] at hcall
        have hz : filI (i + 1).toNat q = xs ++ [i] := by rw [HSU.out, if_pos hv]
        have HZ := Aside0.mk hz
        have HC := Aside0.mk hcall
        clear hcall hz hv
        go_wp2_with fail
        refine HC.out.mono ?_
        rintro e w1 ⟨rfl, hb1⟩
        have HB1 := Aside0.mk (bstep HB.out hb1)
        have HO1 := Aside0.mk (Kd.R_below HO.out hb1)
        clear hb1 HO HB
        go_wp2_with (at_builtin; refine Kd.R_append (Kd.int .i64) (w0 := w) w.heap.size rfl (.tmp 15) (.tmp 17) 23 3 (.int .i64 0) 8 rfl Try.underlying23 info3 rfl (by decide) (by omega) u3 xs i [.int .i64 i] (fun _ => True) (fun _ => False) rfl rfl ?aP (fun _ hk => hk.elim) ?aF ?aO ?aB ?aS ?aL ?_; (case aP => exact rfl); (case aB => exact HB1.out); (case aF => exact (fun _ _ => trivial)); (case aO => exact HO1.out); (case aS => exact HB1.out.size); (case aL => have := HL.out; omega); intro v1 w2 ho hb hg hat; have HO2 := Aside0.mk ho; have HB2 := Aside0.mk hb; clear ho hb hg hat)
        go_roundg (81 - (i.toNat + 1))
        case measure => have := HK.out; omega
        case rel => exact ⟨i + 1, rfl, ⟨by omega⟩, ⟨by omega⟩, ⟨by rw [HZ.out]; exact HO2.out⟩, HB2⟩
      · have hv := Bool.eq_false_iff.2 hv
        rw [hv] at hcall
        have hz : filI (i + 1).toNat q = xs := by rw [HSU.out, if_neg (by rw [hv]; simp), List.append_nil]
        have HZ := Aside0.mk hz
        have HC := Aside0.mk hcall
        clear hcall hz hv
        go_wp2_with (go_at_fn g; refine HC.out.mono ?_; rintro e w1 ⟨rfl, hb1⟩)
        go_roundg (81 - (i.toNat + 1))
        case measure => have := HK.out; omega
        case rel => exact ⟨i + 1, rfl, ⟨by omega⟩, ⟨by omega⟩, ⟨by rw [HZ.out]; exact Kd.R_below HO.out hb1⟩, ⟨bstep HB.out hb1⟩⟩
    · go_wp2
      go_ret
      have hi : i = 81 := by have := HI.out; omega
      subst hi
      exact ⟨_, rfl, HO.out, HB.out⟩
end Go.Proofs.Ytbfafjejmljcpaa.X

set_option linter.unusedVariables false
set_option linter.unusedSimpArgs false
namespace Go.Proofs.Ytbfafjejmljcpaa.X
open Go.RowKit Go.Proofs.YtbfafjejmljcpaaW.PrintWords Go.Proofs.YtbfafjejmljcpaaW.PrintLast Go.Proofs.Ytbfafjejmljcpaa.P

set_option maxHeartbeats 2000000 in
theorem so1_calls (w : World) (x y : Int) :
    Calls Try.prog 110 #[.int .i64 x, .int .i64 y] w fun e w' => e = .returned (.bool (x == 0)) ∧ Below w.heap.size w w' := by
  go_enter Try.func110, Try.ntmps110
  go_wp2
  go_ret
  exact ⟨rfl, Below.refl _ _⟩
set_option maxHeartbeats 2000000 in
theorem so2_calls (b bk : Nat) (A0 : Option Addr) (c0 : Nat) (s : List Int) (w : World) (hb : BoxT w b A0 c0 s) (hn : ninesB s 81 = true) (k : Int) (hK : In9 k)
    (hk : w.cell? ⟨bk, 0, none⟩ = some (.int .i64 k)) (x y : Int) (hx : In9 x) :
    Calls Try.prog 111 #[.int .i64 x, .int .i64 y, .pointer (some ⟨b, 0, none⟩), .pointer (some ⟨bk, 0, none⟩)] w fun e w' => e = .returned (.bool (y == rd s (9 * x + k))) ∧ Below w.heap.size w w' := by
  obtain ⟨hl, _⟩ := ninesB_iff.1 hn
  obtain ⟨ad, rfl⟩ := hb.some (by omega)
  obtain ⟨x0, x1⟩ := hx
  obtain ⟨k0, k1⟩ := hK
  have hcc := hb.cell
  have g1 := hb.at (9 * x + k) (by omega) (by omega)
  have hlen : 81 ≤ s.length := by omega
  clear hb hn hl
  go_enter Try.func111, Try.ntmps111
  go_wp2
  go_ret
  exact ⟨rfl, Below.refl _ _⟩
theorem entersSO1 : Eg 110 := enters_of Try.func110 (by kernel_rfl) rfl
theorem entersSO2 : Eg 111 := enters_of Try.func111 (by kernel_rfl) rfl
theorem leaf_one {w : World} {base : Nat} {A : Option Addr} {c : Nat} {y : List Int} {okp : Nat → Prop} (h : Kd.R (Kd.int .i64) 3 w base okp (.slice A y.length c) y) : ∀ (j : Nat) (x : List Int), ([y] : List (List Int))[j]? = some x → LK.M w base (fun k => j = 0 ∧ okp k) x (([Value.slice A y.length c].drop (j * LK.sz)).take LK.sz) := fun j x hx => by
  rcases j with _ | j
  · obtain rfl := Option.some.inj hx
    exact ⟨_, rfl, Kd.R_mono h (fun k hk => ⟨rfl, hk⟩)⟩
  · simp at hx
set_option maxRecDepth 100000 in
set_option maxHeartbeats 8000000 in
theorem spreadOf_calls (A0 : Option Addr) (c0 : Nat) (t : List Int) (w : World) (hr : Kd.C (Kd.int .i64) w A0 t.length t) (hs : sysB t = true) :
    Calls Try.prog 67 #[.slice A0 t.length c0] w fun e w' => ∃ v0_ : Value, e = .returned v0_ ∧ Kd.S LK 23 w' w.heap.size (fun _ => True) v0_ (spreadN t 9) ∧ Below w.heap.size w w' := by
  have hmf : ∀ (fn : Fn) (first cap : Array Value) (w : World), (Instr.makeFunc fn first cap).run Try.prog w = .ok (.func fn first cap) w := fun _ _ _ _ => rfl
  have hn := (sysB_parts hs).1
  have HX := Aside0.mk (BoxT.alloc (c0 := c0) hr)
  have HA := Aside0.mk ((Below.refl w.heap.size w).alloc (Nat.le_refl _) (.cells #[.slice A0 t.length c0] 23))
  have HC := Aside0.mk (leafThat_calls 110 #[] entersSO1 (fun x _ => x == 0) (fun i => i / 9 == 0) (fun _ _ _ => rfl) (w.alloc (.cells #[.slice A0 t.length c0] 23)) (fun W x y _ _ => so1_calls W x y))
  have HS := Aside0.mk hs
  have HN := Aside0.mk hn
  rw [leaf0_fil] at HC
  clear hr hs hn
  go_enter Try.func67, Try.ntmps67
  go_wp2_with fail
  refine HC.out.mono ?_
  rintro e w1 ⟨v, rfl, ho, hb⟩
  obtain ⟨Ao, co, eo⟩ := Kd.R_slice ho
  subst eo
  have HO := Aside0.mk (Kd.R_mono (ok' := fun k_ => (w.alloc (.cells #[.slice A0 t.length c0] 23)).heap.size ≤ k_) (Kd.R_bound ho) (fun k hk => hk.2.1))
  have HB1 := Aside0.mk hb
  clear ho hb HC
  go_wp2_with ((with_reducible refine gate_dst (N := 6) rfl ?_); refine Kd.S_lits LK (w0 := (w.alloc (.cells #[.slice A0 t.length c0] 23))) (w.alloc (.cells #[.slice A0 t.length c0] 23)).heap.size 23 ?hg (N := 6) ?hd (xs := [leaf0]) (inner := [.slice Ao leaf0.length co]) (ok := (fun k_ => ((w.alloc (.cells #[.slice A0 t.length c0] 23)).heap.size ≤ k_))) (fun j k => j = 0 ∧ (w.alloc (.cells #[.slice A0 t.length c0] 23)).heap.size ≤ k) ?hr rfl ?hp (fun i j k h1 h2 => h1.1.trans h2.1.symm) (fun j k h => h.2) HB1.out.size HB1.out HB1.out.size (by simp) ?_; (case hd => rfl); (case hg => rfl); (case hr => first | (go_simp; done) | (go_simp; rfl)); (case hp => exact leaf_one HO.out); intro v495 w4 ho5 hb hg_ hnew_; have HO2 := Aside0.mk ho5; have HB2 := Aside0.mk hb; clear hg_ hnew_ ho5 hb)
  go_loopg [3, 7] 9 (fun kq v3 v7 w' => ∃ i : Int, v7 = .int .i64 i ∧ Aside0 (0 ≤ i ∧ i ≤ 9) ∧ Aside0 ((9 : Int) - i ≤ kq) ∧ Aside0 (Kd.S LK 23 w' (w.alloc (.cells #[.slice A0 t.length c0] 23)).heap.size (fun k_ => (w.alloc (.cells #[.slice A0 t.length c0] 23)).heap.size ≤ k_) v3 (outL t i.toNat)) ∧ Aside0 (Below (w.alloc (.cells #[.slice A0 t.length c0] 23)).heap.size (w.alloc (.cells #[.slice A0 t.length c0] 23)) w'))
  case atStart => exact ⟨0, rfl, ⟨by omega⟩, ⟨by omega⟩, HO2, HB2⟩
  case round =>
    clear HO2 HB2 HO HB1
    obtain ⟨i, rfl, HI, HK, HO, HB⟩ := hrel
    have h0 : 0 ≤ i := HI.out.1
    by_cases c6 : i < 9
    · have hbel := (Below.refl wr.heap.size wr).alloc (Nat.le_refl _) (.cells #[.int .i64 i] 3)
      have HBd := Aside0.mk (bstep HB.out hbel)
      have HXd := Aside0.mk (HX.out.below HBd.out)
      have hdd : (wr.alloc (.cells #[.int .i64 i] 3)).cell? ⟨wr.heap.size, 0, none⟩ = some (.int .i64 i) := World.cell?_alloc_at _ _ _ _ rfl
      have hp2 : Fn2 111 #[.pointer (some ⟨w.heap.size, 0, none⟩), .pointer (some ⟨wr.heap.size, 0, none⟩)] (wr.alloc (.cells #[.int .i64 i] 3)) (fun x y => (0 ≤ x ∧ x < 9) ∧ 0 ≤ y ∧ y < 9) (fun x y => .bool (y == rd t (9 * x + i))) :=
        fun W x y hW hx => so2_calls w.heap.size wr.heap.size A0 c0 t W (HXd.out.below hW) HN.out i ⟨h0, c6⟩ ((hW.cell (World.block_lt_of_cell? _ _ hdd)).trans hdd) x y hx.1
      have hcall := leafThat_calls 111 #[.pointer (some ⟨w.heap.size, 0, none⟩), .pointer (some ⟨wr.heap.size, 0, none⟩)] entersSO2 (fun x y => y == rd t (9 * x + i)) (fun j => j % 9 == rd t (9 * (j / 9) + i)) (fun _ _ _ => rfl) _ hp2
      rw [leafM_fil HN.out h0 c6] at hcall
      have HOd := Aside0.mk (Kd.S_below (Kd.S_mono (ok' := fun k_ => (w.alloc (.cells #[.slice A0 t.length c0] 23)).heap.size ≤ k_ ∧ ¬ wr.heap.size ≤ k_) (Kd.S_bound HO.out) (fun k hk => ⟨hk.1, by have := hk.2.2.1; omega⟩)) hbel)
      have HU := Aside0.mk (Kd.S_lt HO.out)
      have HC := Aside0.mk hcall
      have hz : outL t (i + 1).toNat = outL t i.toNat ++ [leafM t i] := by rw [show (i + 1).toNat = i.toNat + 1 by omega, outL_succ, Int.toNat_of_nonneg h0]
      have HZ := Aside0.mk hz
      have hl : (outL t i.toNat).length = i.toNat + 1 := outL_length _ _
      have HL := Aside0.mk hl
      obtain ⟨y, hy⟩ : ∃ y, leafM t i = y := ⟨_, rfl⟩
      rw [hy] at HC HZ
      obtain ⟨xs, hxs⟩ : ∃ xs, outL t i.toNat = xs := ⟨_, rfl⟩
      rw [hxs] at HZ HOd HL
      clear hp2 hcall hdd hbel hz hl HO hy hxs
      go_wp2_with fail
      refine HC.out.mono ?_
      rintro e w2 ⟨v, rfl, ho, hb⟩
      obtain ⟨Ao, co, eo⟩ := Kd.R_slice ho
      subst eo
      have HO1 := Aside0.mk (Kd.R_lower (Kd.R_mono (ok' := fun k_ => wr.heap.size ≤ k_) (Kd.R_bound ho) (fun k hk => Nat.le_trans (by simp) hk.2.1)) HBd.out.size)
      have HO3 := Aside0.mk (Kd.S_below HOd.out hb)
      have HB1 := Aside0.mk (bstep HBd.out hb)
      clear ho hb HC HOd HBd
      go_wp2_with (at_builtin; refine Kd.S_append LK (w0 := (w.alloc (.cells #[.slice A0 t.length c0] 23))) (w.alloc (.cells #[.slice A0 t.length c0] 23)).heap.size rfl (.tmp 10) (.tmp 13) 32 23 (.slice none 0 0) 24 rfl Try.underlying32 info23 rfl (by decide) (by omega) u3 xs y [.slice Ao y.length co] (fun k_ => ((w.alloc (.cells #[.slice A0 t.length c0] 23)).heap.size ≤ k_)) (fun k_ => wr.heap.size ≤ k_) rfl rfl ?aP ?aK ?aF ?aO ?aB ?aS ?aL ?_; (case aP => exact ⟨_, rfl, HO1.out⟩); (case aK => exact (fun k_ hk => ⟨Nat.le_trans HB.out.size hk, fun e => Nat.lt_irrefl _ (Nat.lt_of_lt_of_le (HU.out k_ e.symm) hk)⟩)); (case aB => exact HB1.out); (case aF => exact (fun k_ hk => (Nat.le_trans HB1.out.size hk))); (case aO => exact HO3.out); (case aS => exact HB1.out.size); (case aL => have := HL.out; omega); intro v505 w14 ho hb hg hat; have HO4 := Aside0.mk ho; have HB4 := Aside0.mk hb; clear ho hb hg hat)
      go_roundg (9 - (i.toNat + 1))
      case measure => have := HK.out; omega
      case rel => exact ⟨i + 1, rfl, ⟨by omega⟩, ⟨by omega⟩, ⟨by rw [HZ.out]; exact HO4.out⟩, HB4⟩
    · have hi : i = 9 := by have := HI.out; omega
      subst hi
      obtain ⟨Ar, cr, er⟩ := Kd.S_slice HO.out
      have er : u3 = .slice Ar 10 cr := er
      subst er
      have HC := Aside0.mk (fun w1 hB hN => sortRows_calls (outL t 9) (outL_length t 9) (outL_nines t 9) (outL_nodup HS.out 9 (by omega)) Ar cr (w.alloc (.cells #[.slice A0 t.length c0] 23)) w1 (fun k_ => (w.alloc (.cells #[.slice A0 t.length c0] 23)).heap.size ≤ k_) hB hN)
      go_wp2_with (go_at_call 83; refine (HC.out _ HB.out HO.out).mono ?_; rintro e w' ⟨rfl, r, ⟨hl, hm, ha⟩, hN, hb⟩)
      go_ret
      refine ⟨_, rfl, ?_, HA.out.trans (hb.mono (by simp))⟩
      rw [← sorted_spread HS.out hm ha]
      exact Kd.S_mono (Kd.S_lower hN (by simp)) (fun _ _ => trivial)
end Go.Proofs.Ytbfafjejmljcpaa.X
namespace Go.Proofs.Ytbfafjejmljcpaa.P
open Go.RowKit Go.Proofs.YtbfafjejmljcpaaW.PrintWords Go.Proofs.YtbfafjejmljcpaaW.PrintLast
def impl_spreadOf.f (l0 : List Int) : Option (List (List Int)) := if X.sysB l0 = true then some (X.spreadN l0 9) else none
theorem impl_spreadOf.calls (A0 : Option Addr) (c0 : Nat) (l0 : List Int) (r : List (List Int)) (w : World) (hr0 : Kd.C (Kd.int .i64) w A0 l0.length l0) (hc0 : l0.length ≤ c0) (h : impl_spreadOf.f l0 = some r) :
    Calls Try.prog 67 #[.slice A0 l0.length c0] w fun e w' => ∃ v0_ : Value, e = .returned v0_ ∧ Kd.S (Kd.slice 3 (Kd.int .i64)) 23 w' w.heap.size (fun _ => True) v0_ r ∧ Below w.heap.size w w' := by
  unfold impl_spreadOf.f at h
  by_cases hc : X.sysB l0 = true
  · rw [if_pos hc] at h
    obtain rfl := Option.some.inj h
    exact X.spreadOf_calls A0 c0 l0 w hr0 hc
  · rw [if_neg hc] at h; exact absurd h (by simp)
end Go.Proofs.Ytbfafjejmljcpaa.P

namespace Go.Proofs.Ytbfafjejmljcpaa.P
open Go.RowKit Go.Proofs.YtbfafjejmljcpaaW.PrintWords Go.Proofs.YtbfafjejmljcpaaW.PrintLast Go.Proofs.YtbfafjejmljcpaaW.PrintMore
set_option linter.unusedVariables false
set_option linter.unusedSimpArgs false

def impl_SpreadOf.f (l0 : List Int) : Option ((List (List Int)) × Bool) := (impl_isSystem.f l0).bind fun t839 => (if t839 = true then ((impl_spreadOf.f l0).bind fun t840 => (some (t840, true))) else (some (([] : List (List Int)), false)))
set_option maxHeartbeats 8000000 in
set_option maxRecDepth 100000 in
theorem impl_SpreadOf.calls (A0 : Option Addr) (c0 : Nat) (l0 : List Int) (r1 : List (List Int)) (r2 : Bool) (w : World) (hr0 : Kd.C (Kd.int .i64) w A0 l0.length l0) (hc0 : l0.length ≤ c0) (h : impl_SpreadOf.f l0 = some (r1, r2)) :
  Calls Try.prog 28 #[.slice A0 l0.length c0] w fun e w' => ∃ v0_ : Value, e = .returned (.tuple #[v0_, .bool r2]) ∧ Kd.S (Kd.slice 3 (Kd.int .i64)) 23 w' w.heap.size (fun _ => True) v0_ r1 ∧ Below w.heap.size w w' := by
 have HR0 := Aside0.mk hr0
 have HC0 := Aside0.mk hc0
 clear hr0 hc0
 have HB := Aside0.mk (Below.refl w.heap.size w)
 have H : ((impl_isSystem.f l0).bind fun t839 => (if t839 = true then ((impl_spreadOf.f l0).bind fun t840 => (some (t840, true))) else (some (([] : List (List Int)), false)))) = some (r1, r2) := h
 clear h
 replace H := Option.bind_eq_some_iff.mp H
 obtain ⟨t839, A20, H⟩ := H
 replace H : (if t839 = true then ((impl_spreadOf.f l0).bind fun t840 => (some (t840, true))) else (some (([] : List (List Int)), false))) = some (r1, r2) := H
 have A2 := Aside0.mk A20
 clear A20
 by_cases c3 : t839 = true
 ·subst c3
  have H1 : ((impl_spreadOf.f l0).bind fun t840 => (some (t840, true))) = some (r1, r2) := by rw [if_pos rfl] at H; exact H
  clear H
  have H := H1
  clear H1
  replace H := Option.bind_eq_some_iff.mp H
  obtain ⟨t840, A40, H⟩ := H
  replace H : (some (t840, true)) = some (r1, r2) := H
  have A4 := Aside0.mk A40
  clear A40
  simp only [Option.some.injEq, Prod.mk.injEq] at H
  obtain ⟨rfl, rfl⟩ := H
  go_enter Try.func28, Try.ntmps28
  go_wp2_with (first | (refine goesL_ (some 5) rfl rfl Try.func66 (by kernel_rfl) rfl #[.slice A0 l0.length c0] rfl ll_ ?_; (with_reducible refine (impl_isSystem.calls _ _ l0 true _ ?side1 ?side2 A2.out).mono ?_); (case side1 => exact ss_ HR0); (case side2 => exact HC0.out); rintro e w5 ⟨rfl, hb⟩; refine ⟨_, rfl, ?_⟩; have n0_ := Aside0.mk (below_step (bb_ HB) hb); clear HB; have HB := n0_; clear n0_; (try clear hb); (try clear hb2); (try clear hk); (try clear hi)) | (refine goesL_ (some 8) rfl rfl Try.func67 (by kernel_rfl) rfl #[.slice A0 l0.length c0] rfl ll_ ?_; (with_reducible refine (impl_spreadOf.calls _ _ l0 t840 _ ?side1 ?side2 A4.out).mono ?_); (case side1 => exact sb_ HR0 HB); (case side2 => exact HC0.out); rintro e w6 ⟨v841, rfl, ho0, hb⟩; refine ⟨_, rfl, ?_⟩; have n0_ := Aside0.mk (Kd.S_lower ho0 (below_size (bb_ HB))); have n1_ := Aside0.mk (below_step (bb_ HB) hb); clear HB; have HO842 := n0_; have HB := n1_; clear n0_ n1_; (try clear hb); (try clear hb2); (try clear hk); (try clear hi); (try clear ho0)))
  go_ret2
  exact ⟨_, ee_, by (with_reducible repeat (first | apply Kd.S_alloc | apply Kd.S_drewN | apply Kd.S_drew)); exact HO842.out, bb_ HB⟩
 ·replace c3 := Bool.eq_false_iff.mpr c3
  subst c3
  have H1 : (some (([] : List (List Int)), false)) = some (r1, r2) := by rw [if_neg (show ¬ (false = true) by decide)] at H; exact H
  clear H
  have H := H1
  clear H1
  simp only [Option.some.injEq, Prod.mk.injEq] at H
  obtain ⟨rfl, rfl⟩ := H
  go_enter Try.func28, Try.ntmps28
  go_wp2_with (first | (refine goesL_ (some 5) rfl rfl Try.func66 (by kernel_rfl) rfl #[.slice A0 l0.length c0] rfl ll_ ?_; (with_reducible refine (impl_isSystem.calls _ _ l0 false _ ?side1 ?side2 A2.out).mono ?_); (case side1 => exact ss_ HR0); (case side2 => exact HC0.out); rintro e w7 ⟨rfl, hb⟩; refine ⟨_, rfl, ?_⟩; have n0_ := Aside0.mk (below_step (bb_ HB) hb); clear HB; have HB := n0_; clear n0_; (try clear hb); (try clear hb2); (try clear hk); (try clear hi)))
  go_ret2
  exact ⟨_, ee_, by first | exact Kd.S_nil _ _ _ _ _ | exact Kd.N_nil _ _ _ _ _ | exact Kd.V_nil _ _ _ _ _ | exact Kd.Q_nil _ _ _ _ _ | exact Kd.R_nil _ _ _ _ _, bb_ HB⟩
end Go.Proofs.Ytbfafjejmljcpaa.P

set_option linter.unusedVariables false
set_option linter.unusedSimpArgs false
namespace Go.Proofs.Ytbfafjejmljcpaa.X
open Go.RowKit Go.Proofs.YtbfafjejmljcpaaW.PrintWords Go.Proofs.YtbfafjejmljcpaaW.PrintLast Go.Proofs.Ytbfafjejmljcpaa.P

theorem implSpreadOf_eq (t : List Int) : impl_SpreadOf.f t = some (spreadR t) := by
  unfold impl_SpreadOf.f spreadR
  rw [show impl_isSystem.f t = some (sysB t) from rfl, Option.bind_some]
  by_cases h : sysB t = true
  · rw [if_pos h, if_pos h]
    unfold impl_spreadOf.f
    rw [if_pos h]; rfl
  · rw [if_neg h, if_neg h]
theorem spreadR_few (t : List Int) : Few9 (spreadR t).1 := by
  unfold spreadR
  by_cases h : sysB t = true
  · rw [if_pos h]
    exact ⟨by rw [spreadN_length]; omega, fun x hx => by rw [spreadN_nines t 9 x hx]; omega⟩
  · rw [if_neg h]
    exact ⟨by simp, fun x hx => absurd hx (by simp)⟩
theorem few_short {xs : List (List Int)} (h : Few9 xs) : Short xs := ⟨by have := h.1; omega, fun x hx => by have := h.2 x hx; omega⟩
theorem copy_calls (A : Option Addr) (c : Nat) (l : List Int) (w : World) (hr : Kd.C (Kd.int .i64) w A l.length l) (hc : l.length ≤ c) (hl : l.length ≤ 1048576) :
    Calls Try.prog 27 #[.slice A l.length c] w fun e w' => ∃ (A' : Option Addr) (c' : Nat), e = .returned (.slice A' l.length c') ∧ Kd.R (Kd.int .i64) 3 w' w.heap.size (fun k => w.heap.size ≤ k ∧ k < w'.heap.size) (.slice A' l.length c') l ∧ Below w.heap.size w w' := by
  obtain ⟨k, hk⟩ := (toIntS_ev l hl).rounds
  refine (laws_toIntS.calls k A c l l w hr hc hk).mono ?_
  rintro e w' ⟨v, rfl, ho, hb⟩
  obtain ⟨A', c', rfl⟩ := Kd.R_slice ho
  exact ⟨A', c', rfl, Kd.R_mono (Kd.R_bound ho) (fun k hk => ⟨hk.2.1, hk.2.2.1⟩), hb⟩
theorem eqSS_calls (A0 : Option Addr) (c0 : Nat) (A1 : Option Addr) (c1 : Nat) (l : List (List Int)) (w : World) (hf : Few9 l) (h0 : LK.C w A0 l.length l) (hc0 : l.length ≤ c0) (h1 : LK.C w A1 l.length l) (hc1 : l.length ≤ c1) :
    Calls Try.prog 29 #[.slice A0 l.length c0, .slice A1 l.length c1] w fun e w' => e = .returned (.bool true) ∧ Below w.heap.size w w' := by
  obtain ⟨k, hk⟩ := (eqIntSS_ev l l (few_short hf)).rounds
  rw [decide_eq_true rfl] at hk
  exact (laws_eqIntSS.calls k A0 c0 l A1 c1 l true w h0 hc0 h1 hc1 hk).mono fun e w' h => ⟨h.1, Drawn0.below h.2⟩
theorem eqS_calls (A0 : Option Addr) (c0 : Nat) (A1 : Option Addr) (c1 : Nat) (l : List Int) (w : World) (hl : l.length ≤ 1048576) (h0 : Kd.C (Kd.int .i64) w A0 l.length l) (hc0 : l.length ≤ c0) (h1 : Kd.C (Kd.int .i64) w A1 l.length l) (hc1 : l.length ≤ c1) :
    Calls Try.prog 30 #[.slice A0 l.length c0, .slice A1 l.length c1] w fun e w' => e = .returned (.bool true) ∧ Below w.heap.size w w' := by
  obtain ⟨k, hk⟩ := (eqIntS_ev l l hl).rounds
  rw [decide_eq_true rfl] at hk
  exact (laws_eqIntS.calls k A0 c0 l A1 c1 l true w h0 hc0 h1 hc1 hk).mono fun e w' h => ⟨h.1, Drawn0.below h.2⟩
theorem held_calls (A0 : Option Addr) (c0 : Nat) (xs : List (List Int)) (w : World) (hf : Few9 xs) (h0 : LK.C w A0 xs.length (rowsAt xs 1 xs.length)) (hc0 : xs.length ≤ c0) :
    Calls Try.prog 33 #[.slice A0 xs.length c0, .int .i64 1] w fun e w' => e = .returned (.int .i64 (kAt xs 1 xs.length)) ∧ Below w.heap.size w w' := by
  obtain ⟨k, hk⟩ := (heldSS_ev hf (a := 1) (by omega) (by omega)).rounds
  have hl := rowsAt_length xs 1 xs.length
  have h := laws_heldIntSS.calls k A0 c0 (rowsAt xs 1 xs.length) 1 _ w (by rw [hl]; exact h0) (by omega) hk
  rw [hl] at h
  exact h.mono fun e w' h => ⟨h.1, Drawn0.below h.2⟩
set_option maxRecDepth 100000 in
set_option maxHeartbeats 16000000 in
theorem exactSpreadOf_walk (A0 : Option Addr) (c0 : Nat) (l : List Int) (w : World) (hr : Kd.C (Kd.int .i64) w A0 l.length l) (hc : l.length ≤ c0) (hl : l.length ≤ 1048576) (r : List (List Int)) (q : Bool) (hq : spreadR l = (r, q)) :
    Calls Try.prog 7 #[.slice A0 l.length c0] w fun e w' => e = .returned (.bool true) ∧ Below w.heap.size w w' := by
  have hf : Few9 r := by have := spreadR_few l; rw [hq] at this; exact this
  obtain ⟨ks, hks⟩ := (specSpreadOf_ev hl).rounds
  have hki := implSpreadOf_eq l
  rw [hq] at hks hki
  have HR := Aside0.mk hr
  have HC := Aside0.mk hc
  have HL := Aside0.mk hl
  have HF := Aside0.mk hf
  have HKS := Aside0.mk hks
  have HKI := Aside0.mk hki
  have hle : ¬ (1048576 < (l.length : Int)) := by omega
  clear hr hc hf hks hki hq hl
  cases q
  all_goals (
    go_enter Try.func7, Try.ntmps7
    go_wp2_with fail
    refine (copy_calls A0 c0 l _ HR.out HC.out HL.out).mono ?_
    rintro e w1 ⟨A1, c1, rfl, ho1, hb1⟩
    have HO1 := Aside0.mk (Kd.R_reads' ho1)
    have HB1 := Aside0.mk hb1
    clear ho1 hb1
    go_wp2_with fail
    refine (spec_SpreadOf.calls ks A1 c1 l r _ w1 HO1.out.2.2 HO1.out.2.1 HKS.out).mono ?_
    rintro e w2 ⟨v2, rfl, ho2, hb2⟩
    obtain ⟨A2, c2, e2⟩ := Kd.N_slice ho2
    subst e2
    have HO2 := Aside0.mk (Kd.N_reads' ho2)
    have HB2 := Aside0.mk (bstep HB1.out hb2)
    clear ho2 hb2
    go_wp2_with fail
    refine (copy_calls A0 c0 l w2 (Kd.C_below HR.out HB2.out) HC.out HL.out).mono ?_
    rintro e w3 ⟨A3, c3, rfl, ho3, hb3⟩
    have HO3 := Aside0.mk ho3
    have HB3 := Aside0.mk hb3
    clear ho3 hb3
    go_wp2_with fail
    refine (impl_SpreadOf.calls A3 c3 l r _ w3 (Kd.R_reads' HO3.out).2.2 (Kd.R_reads' HO3.out).2.1 HKI.out).mono ?_
    rintro e w4 ⟨v4, rfl, ho4, hb4⟩
    obtain ⟨A4, c4, e4⟩ := Kd.S_slice ho4
    subst e4
    have HO4 := Aside0.mk (Kd.S_mono (ok' := fun k => w3.heap.size ≤ k) (Kd.S_bound ho4) (fun k hk => hk.2.1))
    have H34 := Aside0.mk hb4
    have HB4 := Aside0.mk (bstep HB3.out hb4)
    clear ho4 hb4
    go_wp2_with fail
    refine (eqSS_calls A4 c4 A2 c2 r w4 HF.out (Kd.S_reads' HO4.out).2.2 (Kd.S_reads' HO4.out).2.1 (Kd.C_below HO2.out.2.2 HB4.out) HO2.out.2.1).mono ?_
    rintro e w5 ⟨rfl, hb5⟩
    have HB5 := Aside0.mk (bstep HB4.out hb5)
    have H35 := Aside0.mk (bstep H34.out hb5)
    have HO5 := Aside0.mk (Kd.S_below HO4.out hb5)
    clear hb5 HO4 HB4 H34
    go_wp2_with fail
    refine (copy_calls A0 c0 l w5 (Kd.C_below HR.out (bstep HB2.out HB5.out)) HC.out HL.out).mono ?_
    rintro e w6 ⟨A6, c6, rfl, ho6, hb6⟩
    have HO6 := Aside0.mk (Kd.R_reads' ho6)
    have HB6 := Aside0.mk (bstep HB5.out hb6)
    have H36 := Aside0.mk (bstep H35.out hb6)
    have HG6 := Aside0.mk (Kd.S_below HO5.out hb6)
    clear ho6 hb6 HO5 HB5 H35
    go_wp2_with fail
    refine (eqS_calls A3 c3 A6 c6 l w6 HL.out (Kd.R_reads' (Kd.R_below HO3.out H36.out)).2.2 (Kd.R_reads' HO3.out).2.1 HO6.out.2.2 HO6.out.2.1).mono ?_
    rintro e w7 ⟨rfl, hb7⟩
    have HB7 := Aside0.mk (bstep HB6.out hb7)
    have H37 := Aside0.mk (bstep H36.out hb7)
    have HG7 := Aside0.mk (Kd.S_below HG6.out hb7)
    clear hb7 HG6 HB6 H36
    go_wp2_with fail
    obtain ⟨km, hkm⟩ := (markIntS_ev l 1 HL.out (by omega) (by omega)).rounds
    have hkk : 0 ≤ 1 + (l.length : Int) := by omega
    obtain ⟨kk, ekk⟩ : ∃ kk, 1 + (l.length : Int) = kk := ⟨_, rfl⟩
    rw [ekk] at hkm hkk
    refine (laws_markIntS.calls km (fun k => w2.heap.size ≤ k ∧ k < w3.heap.size) (.slice A3 l.length c3) l 1 kk _ w2 w7 HB7.out (Kd.R_below HO3.out H37.out) hkm).mono ?_
    rintro e w8 ⟨rfl, ho8, hb8, hk8⟩
    have HB8 := Aside0.mk hb8
    have HG8 := Aside0.mk (Kd.S_kept HG7.out hk8 (fun k hk h => Nat.lt_irrefl _ (Nat.lt_of_lt_of_le h.2 hk)))
    clear ho8 hb8 hk8 hkm ekk HG7 HB7 H37 HO3
    go_wp2_with fail
    refine (eqSS_calls A4 c4 A2 c2 r w8 HF.out (Kd.S_reads' HG8.out).2.2 (Kd.S_reads' HG8.out).2.1 (Kd.C_below HO2.out.2.2 HB8.out) HO2.out.2.1).mono ?_
    rintro e w9 ⟨rfl, hb9⟩
    have HB9 := Aside0.mk (bstep HB8.out hb9)
    have HG9 := Aside0.mk (Kd.S_lower (Kd.S_below HG8.out hb9) HB3.out.size)
    clear hb9 HG8 HB8
    go_wp2_with fail
    refine (markSS_calls A4 c4 r 1 HF.out (by omega) (by omega) w2 w9 (fun k => w3.heap.size ≤ k) HB9.out HG9.out).mono ?_
    rintro e w10 ⟨rfl, ho10, hb10, _⟩
    have HM := Aside0.mk (Kd.S_reads' ho10)
    have HB10 := Aside0.mk hb10
    have HLN := Aside0.mk (rowsAt_length r 1 r.length)
    have HKR := Aside0.mk (kAt_range HF.out (a := 1) (by omega) r.length)
    have HH := Aside0.mk (fun (w : World) (h0 : LK.C w A4 r.length (rowsAt r 1 r.length)) => held_calls A4 c4 r w HF.out h0 HM.out.2.1)
    have m0 : 0 ≤ kAt r 1 r.length := HKR.out.1
    obtain ⟨m, hm⟩ : ∃ m, kAt r 1 r.length = m := ⟨_, rfl⟩
    rw [hm] at HH m0 ⊢
    clear ho10 hb10 HG9 HB9 HKR hm
    have HC10 := Aside0.mk (show LK.C w10 A4 r.length (rowsAt r 1 r.length) by have h := HM.out.2.2; rwa [HLN.out] at h)
    go_wp2_with fail
    refine (HH.out w10 HC10.out).mono ?_
    rintro e w11 ⟨rfl, hb11⟩
    have HB11 := Aside0.mk (bstep HB10.out hb11)
    have HC11 := Aside0.mk (Kd.C_below HC10.out hb11)
    clear hb11 HB10 HC10
    go_wp2_with fail
    refine (copy_calls A0 c0 l w11 (Kd.C_below HR.out (bstep HB2.out HB11.out)) HC.out HL.out).mono ?_
    rintro e w12 ⟨A12, c12, rfl, ho12, hb12⟩
    have HO12 := Aside0.mk (Kd.R_reads' ho12)
    have HB12 := Aside0.mk (bstep HB11.out hb12)
    have HC12 := Aside0.mk (Kd.C_below HC11.out hb12)
    clear hb12 HB11 HC11 ho12
    go_wp2_with fail
    refine (impl_SpreadOf.calls A12 c12 l r _ w12 HO12.out.2.2 HO12.out.2.1 HKI.out).mono ?_
    rintro e w13 ⟨v13, rfl, ho13, hb13⟩
    obtain ⟨A13, c13, e13⟩ := Kd.S_slice ho13
    subst e13
    have HO13 := Aside0.mk (Kd.S_reads' ho13)
    have HB13 := Aside0.mk (bstep HB12.out hb13)
    have HC13 := Aside0.mk (Kd.C_below HC12.out hb13)
    clear hb13 HB12 HC12 ho13
    go_wp2_with fail
    refine (eqSS_calls A13 c13 A2 c2 r w13 HF.out HO13.out.2.2 HO13.out.2.1 (Kd.C_below HO2.out.2.2 HB13.out) HO2.out.2.1).mono ?_
    rintro e w14 ⟨rfl, hb14⟩
    have HB14 := Aside0.mk (bstep HB13.out hb14)
    have HC14 := Aside0.mk (Kd.C_below HC13.out hb14)
    clear hb14 HB13 HC13
    go_wp2_with fail
    refine (HH.out w14 HC14.out).mono ?_
    rintro e w15 ⟨rfl, hb15⟩
    have HB15 := Aside0.mk (bstep HB2.out (bstep HB14.out hb15))
    clear hb15
    go_wp2
    go_ret
    exact ⟨rfl, HB15.out⟩)
theorem exactSpreadOf_big (A0 : Option Addr) (c0 : Nat) (l : List Int) (w : World) (hl : ¬ l.length ≤ 1048576) :
    Calls Try.prog 7 #[.slice A0 l.length c0] w fun e w' => e = .returned (.bool true) ∧ Below w.heap.size w w' := by
  have hle : (1048576 < (l.length : Int)) := by omega
  clear hl
  go_enter Try.func7, Try.ntmps7
  go_wp2
  go_ret
  exact ⟨rfl, Below.refl _ _⟩
theorem exactSpreadOf_calls (A0 : Option Addr) (c0 : Nat) (l : List Int) (w : World) (hr : Kd.C (Kd.int .i64) w A0 l.length l) (hc : l.length ≤ c0) :
    Calls Try.prog 7 #[.slice A0 l.length c0] w fun e w' => e = .returned (.bool true) ∧ Below w.heap.size w w' := by
  by_cases hl : l.length ≤ 1048576
  · exact exactSpreadOf_walk A0 c0 l w hr hc hl _ _ rfl
  · exact exactSpreadOf_big A0 c0 l w hl
theorem exactSpreadOf_row (a0 : Option Addr) (len0 cap0 : Nat) (z0 : List Int) (w : World) (w0 : (a0 = none ∧ len0 = 0 ∧ cap0 = 0 ∧ z0 = []) ∨ ∃ x, a0 = some x ∧ len0 ≤ cap0 ∧ cap0 ≤ maxLen ∧ z0.length = cap0 ∧ (∀ i, i < z0.length → w.cell? (x.add i) = some (.int .i64 (z0.getD i 0))) ∧ ∀ n ∈ z0, (Lit.int .i64 n).wf = true) :
    Calls Try.prog 7 #[.slice a0 len0 cap0] w fun e w' => e = .returned (.bool true) ∧ Below w.heap.size w w' := by
  obtain ⟨l0, rfl, hr0, hm0, hw0, hc0⟩ := ReadsInt.ofRowC w0
  exact exactSpreadOf_calls _ _ l0 w (Kd.C_of_reads (d := (0 : Int)) (h1 := fun _ => rfl) hr0) hc0
end Go.Proofs.Ytbfafjejmljcpaa.X

namespace Go.Proofs.Ytbfafjejmljcpaa.fnExactSpreadOf
open Go.ChangeShapes Go.WideShapes Go.ChangeAt Go.RowKit
open Go.ChangeMaps (open_string shut_string)
set_option linter.unusedVariables false
theorem own : ownKnob Try.prog.godebug = none := by kernel_rfl
theorem laidOut : laidOutB Try.prog = true := by kernel_rfl
def IsRow (k : IntKind) (w : World) (a : Option Addr) (len cap : Nat) (zs : List Int) : Prop :=
  (a = none ∧ len = 0 ∧ cap = 0 ∧ zs = []) ∨
  ∃ x, a = some x ∧ len ≤ cap ∧ cap ≤ maxLen ∧ zs.length = cap ∧ (∀ i, i < zs.length → w.cell? (x.add i) = some (.int k (zs.getD i 0))) ∧ ∀ n ∈ zs, (Lit.int k n).wf = true
set_option maxRecDepth 100000 in
theorem lifted (os : Os) (started : os.Started) (H : Type) (enc : TypeId × Value → H) :
    ReturnsInHanded {} Try.checked os 7 .any (Rows.fnExactSpreadOfSpec.pre6 enc Try.prog Try.f7 Rows.fnExactSpreadOfRow.domain false) (Rows.fnExactSpreadOfSpec.post enc Try.prog Try.f7 false true false false) := by
  refine returnsInHanded_of_change_sized (C := Try.checked) own started (by kernel_rfl) Try.func7
    (ChangeSpec.witness6 (enc := enc) (C := Try.checked) false ⟨#[], #[.slice none 0 0], []⟩ 8 (by kernel_rfl) (by kernel_rfl) (by kernel_rfl) (by kernel_rfl)) ?_
  intro W base args ds gs before hval0 hW hcnd hsz0 _
  have hsz : (DataW.weightsEach Try.prog (Try.f7.params.toList ++ Rows.fnExactSpreadOfSpec.plain.varTypes Try.prog) (ds ++ gs)).all (· ≤ reachBytes) = true := hsz0
  have hval : ∀ (j : Nat) t v, Try.f7.params[j]? = some t → args[j]? = some v → Value.okWide Try.prog W .any base t v := hval0
  have hW' := hW
  obtain ⟨p, q, hA0, hV, rfl, hfz, hnd⟩ := hW
  have hA : DataW.TrodAll enc Try.prog W 0 (fun _ => true) true Try.f7.params.toList args.toList ds p := hA0
  rw [Try.params7] at hA hval hsz
  obtain ⟨v0, vs0, d0, ds0, p0, q0, hargs, rfl, rfl, h0, r0⟩ := trodAll_cons hA
  obtain ⟨rfl, rfl, rfl⟩ := trodAll_nil r0
  obtain rfl : args = #[v0] := by cases args; simp_all
  obtain ⟨rfl, rfl⟩ := trodVars_none hV
  obtain ⟨a0, len0, cap0, rfl⟩ := okWide_slice Try.underlying23 (hval 0 23 v0 rfl rfl)
  have k0 := h0
  have lt0 : ∀ x ∈ p0, x.block < W.heap.size := by obtain ⟨m, hm⟩ := k0; exact DataW.trod_lt m _ _ _ hm
  obtain ⟨z0, w0⟩ : ∃ zs, IsRow .i64 W a0 len0 cap0 zs := by
    obtain ⟨fuel, hf⟩ := h0
    rcases open_ints Try.underlying23 Try.underlying3 (by kernel_rfl) hf with ⟨hcs, _⟩ | ⟨x, l, c, zs, hcs, _, hl, hm, hz, _, hcell, hwz⟩
    · simp [Value.cells] at hcs
      obtain ⟨rfl, rfl, rfl⟩ := hcs
      exact ⟨[], .inl ⟨rfl, rfl, rfl, rfl⟩⟩
    · simp [Value.cells] at hcs
      obtain ⟨rfl, rfl, rfl⟩ := hcs
      exact ⟨zs, .inr ⟨_, rfl, hl, hm, by simpa using hz, hcell, hwz⟩⟩
  have y0 : len0 * 8 ≤ 140737488351232 := Go.Proofs.YtbfafjejmljcpaaW.PrintWords.sized_ints hsz (j := 0) (t := 23) rfl rfl Try.underlying23 Try.underlying3 (by kernel_rfl) (by kernel_rfl) h0
  clear hA0 hval0 hsz0 hsz
  refine (X.exactSpreadOf_row a0 len0 cap0 z0 W w0).mono fun e W' ⟨he, bel⟩ => ?_
  subst he
  exact ⟨_, rfl, _, _, _, [], _, [], hW', trodAll_mk1 (shut_bool Try.underlying4 _), (trodAll_cons_mk (Below.trod laidOut (by kernel_rfl) (of_decide_eq_true (by kernel_rfl)) k0 bel lt0) trodAll_mk0), rfl, bel.frame _, fun h => by cases h⟩
theorem over : Rows.fnExactSpreadOfRow.holds Try.pinned (OpenSpec.ofChange Rows.fnExactSpreadOfSpec) :=
  OpenClaim.holds_of_wide 7 Try.f7 rfl rfl rfl rfl rfl rfl rfl ⟨rfl, rfl, rfl, rfl, rfl⟩ rfl rfl rfl rfl rfl (by kernel_rfl) Try.func7 (by kernel_rfl)
    (of_decide_eq_true (by kernel_rfl)) (by unfold Func.isWrapper; first | (rw [if_pos (by decide +kernel)]; kernel_rfl) | (rw [if_neg (by decide +kernel)]; exact ⟨rfl, rfl⟩))
    (fun os started H enc _ => lifted os started H enc)
theorem proved : Rows.FnExactSpreadOfSaid := over
#print axioms proved
end Go.Proofs.Ytbfafjejmljcpaa.fnExactSpreadOf
namespace Go.Proofs.Ytbfafjejmljcpaa
theorem fnExactSpreadOf_holds : Rows.FnExactSpreadOfSaid := fnExactSpreadOf.proved
end Go.Proofs.Ytbfafjejmljcpaa
