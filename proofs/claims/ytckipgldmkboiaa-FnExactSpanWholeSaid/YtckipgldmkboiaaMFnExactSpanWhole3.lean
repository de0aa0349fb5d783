/- The law FnExactSpanWhole of the given program: for every input the call returns true, and each argument reads afterwards as it read before. No conditions. (Part 4 of 4; the last part holds the theorem.) -/
import Derived.Test.YtckipgldmkboiaaMFnExactSpanWhole2
import Derived.Test.YtckipgldmkboiaaMFnExactSpanWhole0
import Derived.Test.YtckipgldmkboiaaMFnExactSpanWhole1
import Derived.Test.YtckipgldmkboiaaRows
import Derived.WalkKit
import Derived.ProofKit
import Derived.OpenShut
import Derived.ShutString
import Derived.ChangeOld
import Derived.Below
import Derived.SizedLaws
import Derived.Test.YtckipgldmkboiaaWSized
set_option linter.unusedVariables false
set_option linter.unusedSimpArgs false
namespace Go.Proofs.Ytckipgldmkboiaa.X
open Go.RowKit Go.Proofs.YtckipgldmkboiaaW.PrintWords Go.Proofs.YtckipgldmkboiaaW.PrintLast Go.Proofs.Ytckipgldmkboiaa.P

theorem span_eq {t l : List Int} (hs : sysB t = true) (hp : ∀ x ∈ l, In91 x) : impl_plane_span.f t l = some (spanS t (inL l)) := if_pos ⟨hs, List.all_eq_true.2 fun x hx => ptB_iff.2 (hp x hx)⟩
def wholeB (t l : List Int) : Bool := quadB t l && (((spanS t (inL l)).length : Int) == 91)
def quadN (t l : List Int) : Nat := cntL t (spanS t (inL l)) (joinI t (rd l 0) (rd l 1))
def quadO (t l : List Int) : Int × Bool := if quadB t l = true then ((quadN t l : Int) - 1, true) else (0, false)
theorem span_mem {t l : List Int} {x : Int} (h : x ∈ spanS t (inL l)) : In91 x := by
  unfold spanS ptsS at h
  have := mem_filI.1 h
  exact ⟨this.1, this.2.1⟩
theorem span_len (t l : List Int) : (spanS t (inL l)).length ≤ 91 := by unfold spanS; exact sizeS_le _
theorem implWhole_eq (t l : List Int) : impl_SpanWhole.f t l = some (wholeB t l) := by
  unfold impl_SpanWhole.f wholeB
  rw [show impl_isSystem.f t = some (sysB t) from rfl, Option.bind_some]
  by_cases hs : sysB t = true
  case neg =>
    have : quadB t l = false := by unfold quadB; rw [Bool.eq_false_iff.2 hs]; rfl
    rw [this, if_neg hs]; rfl
  rw [if_pos hs, isQuad_eq hs, Option.bind_some]
  by_cases hq : quadB t l = true
  case neg => rw [if_neg hq, Bool.eq_false_iff.2 hq]; rfl
  rw [if_pos hq, span_eq hs (quad_pts hq), hq]; rfl
theorem specWhole_ev {t l : List Int} (ht : t.length ≤ 1048576) : Ev (fun n => spec_SpanWhole.f n t l) (wholeB t l) := by
  unfold spec_SpanWhole.f wholeB
  by_cases h4 : l.length = 4
  case neg =>
    have : quadB t l = false := by unfold quadB; rw [decide_eq_false h4]; simp
    rw [this]
    exact Ev.neg (by omega) (Ev.done rfl)
  refine Ev.pos (by omega) (Ev.bind (planeApart_ev ht h4) ?_)
  by_cases hq : quadB t l = true
  case neg =>
    rw [Bool.eq_false_iff.2 hq]
    exact Ev.neg (by decide) (Ev.done rfl)
  have hs := (quadB_parts hq).1
  rw [hq]
  exact Ev.pos rfl (Ev.bind (l7Span_ev hs (by omega) (quad_pts hq)) (Ev.done rfl))
theorem implOrder_l0 {t : List Int} (hn : ninesB t 81 = true) {L : List Int} (hL : ∀ x ∈ L, In91 x) (hlen : L.length ≤ 91) {l : Int} (hl : In91 l) (d : Nat) :
    ∀ i : Int, 0 ≤ i → i + d = L.length → Ev (fun n => impl_SpanOrder.l0 n t l ((cntL t (L.take i.toNat) l : Int) - 1) L (L.length : Int) i) ((cntL t L l : Int) - 1, true) := by
  induction d with
  | zero =>
    intro i i0 i1
    refine Ev.step (fun n => by rw [impl_SpanOrder.l0]) ?_
    rw [List.take_of_length_le (show L.length ≤ i.toNat by omega)]
    exact Ev.neg (by omega) (Ev.done rfl)
  | succ d ih =>
    intro i i0 i1
    have nx := ih (i + 1) (by omega) (by omega)
    rw [cntL_take t L l i0 (by omega)] at nx
    have hc := cntL_le t (L.take i.toNat) l
    rw [List.length_take] at hc
    refine Ev.step (fun n => by rw [impl_SpanOrder.l0]) ?_
    rw [w64 (x := i + 1) (by omega) (by omega), w64 (x := (cntL t (L.take i.toNat) l : Int) - 1 + 1) (by omega) (by omega)]
    refine Ev.pos (by omega) (Ev.pos i0 (Ev.pos (by omega) (Ev.fix (plane_on_eq hn (hL _ (rd_mem (by omega) i0)) hl) ?_)))
    by_cases e : onB t (rd L i) l = true
    · rw [if_pos e] at nx
      refine Ev.pos e ?_
      rw [show (cntL t (L.take i.toNat) l : Int) - 1 + 1 = ((cntL t (L.take i.toNat) l + 1 : Nat) : Int) - 1 by omega]
      exact nx
    · rw [if_neg e] at nx
      exact Ev.neg e nx
theorem implOrder_ev (t l : List Int) : Ev (fun n => impl_SpanOrder.f n t l) (quadO t l) := by
  unfold impl_SpanOrder.f quadO
  refine Ev.fix (show impl_isSystem.f t = some (sysB t) from rfl) ?_
  by_cases hs : sysB t = true
  case neg =>
    have : quadB t l = false := by unfold quadB; rw [Bool.eq_false_iff.2 hs]; rfl
    rw [this]
    refine Ev.neg hs ?_
    refine Ev.step (fun n => by rw [impl_SpanOrder.j0]) ?_
    exact Ev.pos rfl (Ev.done rfl)
  refine Ev.pos hs (Ev.fix (isQuad_eq hs) ?_)
  by_cases hq : quadB t l = true
  case neg =>
    rw [Bool.eq_false_iff.2 hq]
    refine Ev.step (fun n => by rw [impl_SpanOrder.j0]) ?_
    exact Ev.pos rfl (Ev.done rfl)
  obtain ⟨_, h4, ha⟩ := quadB_parts hq
  have hd := (apart_parts ha).1
  have p0 := diffB_pt hd (i := 0) (by omega) (by omega)
  have p1 := diffB_pt hd (i := 1) (by omega) (by omega)
  have hne := diffB_ne hd (i := 0) (j := 1) (by omega) (by omega) (by omega)
  have hj := joinI_spec hs p0.1 p0.2 p1.1 p1.2 hne
  rw [hq]
  refine Ev.step (fun n => by rw [impl_SpanOrder.j0]) ?_
  refine Ev.neg (by decide) (Ev.pos (by omega) (Ev.pos (by omega) (Ev.bind (join_ev (sysB_parts hs).1 p0 p1) (Ev.fix (span_eq hs (quad_pts hq)) ?_))))
  have h0 := implOrder_l0 (sysB_parts hs).1 (L := spanS t (inL l)) (fun x hx => span_mem hx) (span_len t l) (l := joinI t (rd l 0) (rd l 1)) ⟨hj.1, hj.2.1⟩ (spanS t (inL l)).length 0 (by omega) (by omega)
  exact h0
theorem specOrder_l0 {t : List Int} (hn : ninesB t 81 = true) {L : List Int} (hL : ∀ x ∈ L, In91 x) (hlen : L.length ≤ 91) {l : Int} (hl : In91 l) (d : Nat) :
    ∀ i : Int, 0 ≤ i → i + d = L.length → Ev (fun n => spec_SpanOrder.l0 n t L l (cntL t (L.take i.toNat) l : Int) i) ((cntL t L l : Int) - 1, true) := by
  have hcl := cntL_le t L l
  induction d with
  | zero =>
    intro i i0 i1
    refine Ev.step (fun n => by rw [spec_SpanOrder.l0]) ?_
    rw [List.take_of_length_le (show L.length ≤ i.toNat by omega), w64 (x := (cntL t L l : Int) - 1) (by omega) (by omega)]
    exact Ev.neg (by omega) (Ev.done rfl)
  | succ d ih =>
    intro i i0 i1
    have nx := ih (i + 1) (by omega) (by omega)
    rw [cntL_take t L l i0 (by omega)] at nx
    have hc := cntL_le t (L.take i.toNat) l
    rw [List.length_take] at hc
    refine Ev.step (fun n => by rw [spec_SpanOrder.l0]) ?_
    rw [w64 (x := i + 1) (by omega) (by omega), w64 (x := (cntL t (L.take i.toNat) l : Int) + 1) (by omega) (by omega)]
    refine Ev.pos (by omega) (Ev.pos i0 (Ev.fix (l3On_eq hn (hL _ (rd_mem (by omega) i0)) hl) ?_))
    by_cases e : onB t (rd L i) l = true
    · rw [if_pos e] at nx
      exact Ev.pos e nx
    · rw [if_neg e] at nx
      exact Ev.neg e nx
theorem specOrder_ev {t l : List Int} (ht : t.length ≤ 1048576) : Ev (fun n => spec_SpanOrder.f n t l) (quadO t l) := by
  unfold spec_SpanOrder.f quadO
  by_cases h4 : l.length = 4
  case neg =>
    have : quadB t l = false := by unfold quadB; rw [decide_eq_false h4]; simp
    rw [this]
    refine Ev.neg (by omega) ?_
    refine Ev.step (fun n => by rw [spec_SpanOrder.j0]) ?_
    exact Ev.pos rfl (Ev.done rfl)
  refine Ev.pos (by omega) (Ev.bind (planeApart_ev ht h4) ?_)
  by_cases hq : quadB t l = true
  case neg =>
    rw [Bool.eq_false_iff.2 hq]
    refine Ev.step (fun n => by rw [spec_SpanOrder.j0]) ?_
    exact Ev.pos rfl (Ev.done rfl)
  obtain ⟨hs, _, ha⟩ := quadB_parts hq
  have hd := (apart_parts ha).1
  have p0 := diffB_pt hd (i := 0) (by omega) (by omega)
  have p1 := diffB_pt hd (i := 1) (by omega) (by omega)
  have hne := diffB_ne hd (i := 0) (j := 1) (by omega) (by omega) (by omega)
  have hj := joinI_spec hs p0.1 p0.2 p1.1 p1.2 hne
  rw [hq]
  refine Ev.step (fun n => by rw [spec_SpanOrder.j0]) ?_
  refine Ev.neg (by decide) (Ev.bind (l7Span_ev hs (by omega) (quad_pts hq)) (Ev.pos (by omega) (Ev.pos (by omega) (Ev.bind (l3Join_ev hs p0 p1 hne) ?_))))
  exact specOrder_l0 (sysB_parts hs).1 (L := spanS t (inL l)) (fun x hx => span_mem hx) (span_len t l) (l := joinI t (rd l 0) (rd l 1)) ⟨hj.1, hj.2.1⟩ (spanS t (inL l)).length 0 (by omega) (by omega)

end Go.Proofs.Ytckipgldmkboiaa.X

set_option linter.unusedVariables false
set_option linter.unusedSimpArgs false
namespace Go.Proofs.Ytckipgldmkboiaa.Pure
open Go.RowKit Go.Proofs.Ytckipgldmkboiaa.P Go.Proofs.YtckipgldmkboiaaW.PrintWords Go.Proofs.YtckipgldmkboiaaW.PrintLast Go.Proofs.Ytckipgldmkboiaa.X

theorem FnExactSpanWhole : laws_FnExactSpanWhole.Pure := by
  intro l0 l1 _ _ _ _ _ _
  refine Ev.rounds ?_
  unfold laws_FnExactSpanWhole.f
  by_cases hb_l0 : (l0.length : Int) > 1048576
  · exact Ev.pos hb_l0 (Ev.done rfl)
  refine Ev.neg hb_l0 ?_
  have h_l0 : l0.length ≤ 1048576 := by omega
  by_cases hb_l1 : (l1.length : Int) > 1048576
  · exact Ev.pos hb_l1 (Ev.done rfl)
  refine Ev.neg hb_l1 ?_
  have h_l1 : l1.length ≤ 1048576 := by omega
  refine Ev.bind (toIntS_ev l0 h_l0) ?_
  refine Ev.bind (toIntS_ev l1 h_l1) ?_
  refine Ev.bind (specWhole_ev h_l0) ?_
  refine Ev.bind (toIntS_ev l0 h_l0) ?_
  refine Ev.bind (toIntS_ev l1 h_l1) ?_
  refine Ev.fix (implWhole_eq l0 l1) ?_
  refine Ev.neg (by simp) ?_
  refine Ev.bind (toIntS_ev l0 h_l0) (Ev.bind (eqIntS_ev l0 l0 h_l0) (Ev.pos (by simp) ?_))
  refine Ev.bind (toIntS_ev l1 h_l1) (Ev.bind (eqIntS_ev l1 l1 h_l1) (Ev.pos (by simp) (Ev.done rfl)))

end Go.Proofs.Ytckipgldmkboiaa.Pure

namespace Go.Proofs.Ytckipgldmkboiaa.fnExactSpanWhole
open Go.ChangeShapes Go.WideShapes Go.ChangeAt Go.RowKit
open Go.ChangeMaps (open_string shut_string)
set_option linter.unusedVariables false
theorem own : ownKnob Try.prog.godebug = none := by kernel_rfl
theorem laidOut : laidOutB Try.prog = true := by kernel_rfl
def IsRow (k : IntKind) (w : World) (a : Option Addr) (len cap : Nat) (zs : List Int) : Prop :=
  (a = none ∧ len = 0 ∧ cap = 0 ∧ zs = []) ∨
  ∃ x, a = some x ∧ len ≤ cap ∧ cap ≤ maxLen ∧ zs.length = cap ∧ (∀ i, i < zs.length → w.cell? (x.add i) = some (.int k (zs.getD i 0))) ∧ ∀ n ∈ zs, (Lit.int k n).wf = true
set_option maxRecDepth 100000 in
theorem lifted (os : Os) (started : os.Started) (H : Type) (enc : TypeId × Value → H) :
    ReturnsInHanded {} Try.checked os 7 .any (Rows.fnExactSpanWholeSpec.pre6 enc Try.prog Try.f7 Rows.fnExactSpanWholeRow.domain false) (Rows.fnExactSpanWholeSpec.post enc Try.prog Try.f7 false true false false) := by
  refine returnsInHanded_of_change_sized (C := Try.checked) own started (by kernel_rfl) Try.func7
    (ChangeSpec.witness6 (enc := enc) (C := Try.checked) false ⟨#[], #[.slice none 0 0, .slice none 0 0], []⟩ 8 (by kernel_rfl) (by kernel_rfl) (by kernel_rfl) (by kernel_rfl)) ?_
  intro W base args ds gs before hval0 hW hcnd hsz0 _
  have hsz : (DataW.weightsEach Try.prog (Try.f7.params.toList ++ Rows.fnExactSpanWholeSpec.plain.varTypes Try.prog) (ds ++ gs)).all (· ≤ reachBytes) = true := hsz0
  have hval : ∀ (j : Nat) t v, Try.f7.params[j]? = some t → args[j]? = some v → Value.okWide Try.prog W .any base t v := hval0
  have hW' := hW
  obtain ⟨p, q, hA0, hV, rfl, hfz, hnd⟩ := hW
  have hA : DataW.TrodAll enc Try.prog W 0 (fun _ => true) true Try.f7.params.toList args.toList ds p := hA0
  rw [Try.params7] at hA hval hsz
  obtain ⟨v0, vs0, d0, ds0, p0, q0, hargs, rfl, rfl, h0, r0⟩ := trodAll_cons hA
  obtain ⟨v1, vs1, d1, ds1, p1, q1, rfl, rfl, rfl, h1, r1⟩ := trodAll_cons r0
  obtain ⟨rfl, rfl, rfl⟩ := trodAll_nil r1
  obtain rfl : args = #[v0, v1] := by cases args; simp_all
  obtain ⟨rfl, rfl⟩ := trodVars_none hV
  obtain ⟨a0, len0, cap0, rfl⟩ := okWide_slice Try.underlying22 (hval 0 22 v0 rfl rfl)
  have k0 := h0
  have lt0 : ∀ x ∈ p0, x.block < W.heap.size := by obtain ⟨m, hm⟩ := k0; exact DataW.trod_lt m _ _ _ hm
  obtain ⟨z0, w0⟩ : ∃ zs, IsRow .i64 W a0 len0 cap0 zs := by
    obtain ⟨fuel, hf⟩ := h0
    rcases open_ints Try.underlying22 Try.underlying3 (by kernel_rfl) hf with ⟨hcs, _⟩ | ⟨x, l, c, zs, hcs, _, hl, hm, hz, _, hcell, hwz⟩
    · simp [Value.cells] at hcs
      obtain ⟨rfl, rfl, rfl⟩ := hcs
      exact ⟨[], .inl ⟨rfl, rfl, rfl, rfl⟩⟩
    · simp [Value.cells] at hcs
      obtain ⟨rfl, rfl, rfl⟩ := hcs
      exact ⟨zs, .inr ⟨_, rfl, hl, hm, by simpa using hz, hcell, hwz⟩⟩
  have y0 : len0 * 8 ≤ 140737488351232 := Go.Proofs.YtckipgldmkboiaaW.PrintWords.sized_ints hsz (j := 0) (t := 22) rfl rfl Try.underlying22 Try.underlying3 (by kernel_rfl) (by kernel_rfl) h0
  obtain ⟨a1, len1, cap1, rfl⟩ := okWide_slice Try.underlying22 (hval 1 22 v1 rfl rfl)
  have k1 := h1
  have lt1 : ∀ x ∈ p1, x.block < W.heap.size := by obtain ⟨m, hm⟩ := k1; exact DataW.trod_lt m _ _ _ hm
  obtain ⟨z1, w1⟩ : ∃ zs, IsRow .i64 W a1 len1 cap1 zs := by
    obtain ⟨fuel, hf⟩ := h1
    rcases open_ints Try.underlying22 Try.underlying3 (by kernel_rfl) hf with ⟨hcs, _⟩ | ⟨x, l, c, zs, hcs, _, hl, hm, hz, _, hcell, hwz⟩
    · simp [Value.cells] at hcs
      obtain ⟨rfl, rfl, rfl⟩ := hcs
      exact ⟨[], .inl ⟨rfl, rfl, rfl, rfl⟩⟩
    · simp [Value.cells] at hcs
      obtain ⟨rfl, rfl, rfl⟩ := hcs
      exact ⟨zs, .inr ⟨_, rfl, hl, hm, by simpa using hz, hcell, hwz⟩⟩
  have y1 : len1 * 8 ≤ 140737488351232 := Go.Proofs.YtckipgldmkboiaaW.PrintWords.sized_ints hsz (j := 1) (t := 22) rfl rfl Try.underlying22 Try.underlying3 (by kernel_rfl) (by kernel_rfl) h1
  clear hA0 hval0 hsz0 hsz
  refine (P.laws_FnExactSpanWhole.walk Pure.FnExactSpanWhole a0 len0 cap0 z0 a1 len1 cap1 z1 W w0 y0 w1 y1).mono fun e W' ⟨he, bel⟩ => ?_
  subst he
  exact ⟨_, rfl, _, _, _, [], _, [], hW', trodAll_mk1 (shut_bool Try.underlying4 _), (trodAll_cons_mk (Below.trod laidOut (by kernel_rfl) (of_decide_eq_true (by kernel_rfl)) k0 bel lt0) (trodAll_cons_mk (Below.trod laidOut (by kernel_rfl) (of_decide_eq_true (by kernel_rfl)) k1 bel lt1) trodAll_mk0)), rfl, bel.frame _, fun h => by cases h⟩
theorem over : Rows.fnExactSpanWholeRow.holds Try.pinned (OpenSpec.ofChange Rows.fnExactSpanWholeSpec) :=
  OpenClaim.holds_of_wide 7 Try.f7 rfl rfl rfl rfl rfl rfl rfl ⟨rfl, rfl, rfl, rfl, rfl⟩ rfl rfl rfl rfl rfl (by kernel_rfl) Try.func7 (by kernel_rfl)
    (of_decide_eq_true (by kernel_rfl)) (by unfold Func.isWrapper; first | (rw [if_pos (by decide +kernel)]; kernel_rfl) | (rw [if_neg (by decide +kernel)]; exact ⟨rfl, rfl⟩))
    (fun os started H enc _ => lifted os started H enc)
theorem proved : Rows.FnExactSpanWholeSaid := over
#print axioms proved
end Go.Proofs.Ytckipgldmkboiaa.fnExactSpanWhole
namespace Go.Proofs.Ytckipgldmkboiaa
/-- The row, under a short name, for the claim. -/
theorem fnExactSpanWhole_holds : Rows.FnExactSpanWholeSaid := fnExactSpanWhole.proved
end Go.Proofs.Ytckipgldmkboiaa
