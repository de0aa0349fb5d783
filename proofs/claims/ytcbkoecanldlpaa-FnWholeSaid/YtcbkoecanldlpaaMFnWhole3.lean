/- The law FnWhole of the given program: for every input the call returns true, and each argument reads afterwards as it read before. No conditions. (Part 4 of 4; the last part holds the theorem.) -/
import Derived.Test.YtcbkoecanldlpaaMFnWhole0
import Derived.Test.YtcbkoecanldlpaaMFnWhole2
import Derived.Test.YtcbkoecanldlpaaRows
import Derived.WalkKit
import Derived.ProofKit
import Derived.OpenShut
import Derived.ShutString
import Derived.ChangeOld
import Derived.Below
import Derived.SizedLaws
import Derived.Test.YtcbkoecanldlpaaWSized
set_option linter.unusedVariables false
set_option linter.unusedSimpArgs false
namespace Go.Proofs.Ytcbkoecanldlpaa.X
open Go.RowKit Go.Proofs.YtcbkoecanldlpaaW.PrintWords Go.Proofs.YtcbkoecanldlpaaW.PrintLast Go.Proofs.Ytcbkoecanldlpaa.P

def fieldB (t : List Int) : Bool := (sysB t && bothP t) && (sysB t && brackP t)
theorem field_eq (t : List Int) : laws_field.f t = some (fieldB t) := by
  unfold laws_field.f fieldB
  rw [show impl_SystemBoth.f t = some (sysB t && bothP t) from rfl, Option.bind_some]
  by_cases h : (sysB t && bothP t) = true
  · rw [if_pos h, h, show impl_SystemBrackets.f t = some (sysB t && brackP t) from rfl]; simp
  · rw [if_neg h, Bool.eq_false_iff.2 h]; rfl
theorem field_kinds : ∀ i : Fin 5, i ≠ 0 → (bothP (kindL (i.val : Int)) && brackP (kindL (i.val : Int))) = false := by decide +kernel
theorem field_kind {t : List Int} (h : DrawnT t) (hf : fieldB t = true) : t = kindL 0 := by
  unfold fieldB at hf
  simp only [Bool.and_eq_true] at hf
  obtain ⟨c, c0, c1, e⟩ := drawn_kind h hf.1.1
  by_cases e0 : c = 0
  · rw [e, e0]
  · exfalso
    have := field_kinds ⟨c.toNat, by omega⟩ (fun h => e0 (by have := Fin.ext_iff.1 h; have h2 : c.toNat = 0 := this; omega))
    have e1 : ((⟨c.toNat, by omega⟩ : Fin 5).val : Int) = c := by show ((c.toNat : Nat) : Int) = c; omega
    rw [e1, ← e, hf.1.2, hf.2.2] at this
    exact absurd this (by decide)
end Go.Proofs.Ytcbkoecanldlpaa.X

set_option linter.unusedVariables false
set_option linter.unusedSimpArgs false
namespace Go.Proofs.Ytcbkoecanldlpaa.Pure
open Go.RowKit Go.Proofs.Ytcbkoecanldlpaa.P Go.Proofs.YtcbkoecanldlpaaW.PrintWords Go.Proofs.YtcbkoecanldlpaaW.PrintLast Go.Proofs.Ytcbkoecanldlpaa.X

theorem FnWhole : laws_FnWhole.Pure := by
  intro l0 _ _ hu
  refine Ev.rounds ?_
  unfold laws_FnWhole.f
  by_cases hb : (l0.length : Int) > 1048576
  · exact Ev.pos hb (Ev.done rfl)
  refine Ev.neg hb ?_
  obtain ⟨t, x, ht, hx, e⟩ := four_ev l0 hu
  have htl := ht.len
  refine Ev.bind (Ev.bind e (Ev.done rfl) : Ev (fun k => spec_DrawSpanWhole.f k l0) (t, x)) ?_
  dsimp only
  refine Ev.fix (implWhole_eq t x) (Ev.bind (specWhole_ev (t := t) (l := x) (by omega)) ?_)
  refine Ev.neg (by simp) ?_
  refine Ev.step (fun k => by rw [laws_FnWhole.j0]) ?_
  by_cases h : wholeB t x = true
  case neg =>
    rw [Bool.eq_false_iff.2 h]
    exact Ev.pos (by decide) (Ev.done rfl)
  refine Ev.neg (by rw [h]; decide) ?_
  unfold wholeB at h
  simp only [Bool.and_eq_true, beq_iff_eq] at h
  refine Ev.fix (show impl_SpanOf.f t x = some (spanR t x) from rfl) ?_
  rw [quad_spanOk h.1]
  refine Ev.pos rfl (Ev.pos h.2 (Ev.fix (field_eq t) (Ev.done ?_)))
  cases hf : fieldB t with
  | false => rfl
  | true =>
    exfalso
    have e0 := field_kind ht hf
    subst e0
    obtain ⟨n, h1, h2, _⟩ := quad_numbers h.1
    have h4 := quad_field h.1
    have : n = 3 := by omega
    subst this
    omega
end Go.Proofs.Ytcbkoecanldlpaa.Pure

namespace Go.Proofs.Ytcbkoecanldlpaa.fnWhole
open Go.ChangeShapes Go.WideShapes Go.ChangeAt Go.RowKit
open Go.ChangeMaps (open_string shut_string)
set_option linter.unusedVariables false
theorem own : ownKnob Try.prog.godebug = none := by kernel_rfl
theorem laidOut : laidOutB Try.prog = true := by kernel_rfl
def IsRow (k : IntKind) (w : World) (a : Option Addr) (len cap : Nat) (zs : List Int) : Prop :=
  (a = none ∧ len = 0 ∧ cap = 0 ∧ zs = []) ∨
  ∃ x, a = some x ∧ len ≤ cap ∧ cap ≤ maxLen ∧ zs.length = cap ∧ (∀ i, i < zs.length → w.cell? (x.add i) = some (.int k (zs.getD i 0))) ∧ ∀ n ∈ zs, (Lit.int k n).wf = true
set_option maxRecDepth 100000 in
theorem lifted (os : Os) (started : os.Started) (H : Type) (enc : TypeId × Value → H) :
    ReturnsInHanded {} Try.checked os 9 .any (Rows.fnWholeSpec.pre6 enc Try.prog Try.f9 Rows.fnWholeRow.domain false) (Rows.fnWholeSpec.post enc Try.prog Try.f9 false true false false) := by
  refine returnsInHanded_of_change_sized (C := Try.checked) own started (by kernel_rfl) Try.func9
    (ChangeSpec.witness6 (enc := enc) (C := Try.checked) false ⟨#[], #[.slice none 0 0], []⟩ 8 (by kernel_rfl) (by kernel_rfl) (by kernel_rfl) (by kernel_rfl)) ?_
  intro W base args ds gs before hval0 hW hcnd hsz0 _
  have hsz : (DataW.weightsEach Try.prog (Try.f9.params.toList ++ Rows.fnWholeSpec.plain.varTypes Try.prog) (ds ++ gs)).all (· ≤ reachBytes) = true := hsz0
  have hval : ∀ (j : Nat) t v, Try.f9.params[j]? = some t → args[j]? = some v → Value.okWide Try.prog W .any base t v := hval0
  have hW' := hW
  obtain ⟨p, q, hA0, hV, rfl, hfz, hnd⟩ := hW
  have hA : DataW.TrodAll enc Try.prog W 0 (fun _ => true) true Try.f9.params.toList args.toList ds p := hA0
  rw [Try.params9] at hA hval hsz
  obtain ⟨v0, vs0, d0, ds0, p0, q0, hargs, rfl, rfl, h0, r0⟩ := trodAll_cons hA
  obtain ⟨rfl, rfl, rfl⟩ := trodAll_nil r0
  obtain rfl : args = #[v0] := by cases args; simp_all
  obtain ⟨rfl, rfl⟩ := trodVars_none hV
  obtain ⟨a0, len0, cap0, rfl⟩ := okWide_slice Try.underlying22 (hval 0 22 v0 rfl rfl)
  have k0 := h0
  have lt0 : ∀ x ∈ p0, x.block < W.heap.size := by obtain ⟨m, hm⟩ := k0; exact DataW.trod_lt m _ _ _ hm
  obtain ⟨z0, w0⟩ : ∃ zs, IsRow .u8 W a0 len0 cap0 zs := by
    obtain ⟨fuel, hf⟩ := h0
    rcases open_ints Try.underlying22 Try.underlying5 (by kernel_rfl) hf with ⟨hcs, _⟩ | ⟨x, l, c, zs, hcs, _, hl, hm, hz, _, hcell, hwz⟩
    · simp [Value.cells] at hcs
      obtain ⟨rfl, rfl, rfl⟩ := hcs
      exact ⟨[], .inl ⟨rfl, rfl, rfl, rfl⟩⟩
    · simp [Value.cells] at hcs
      obtain ⟨rfl, rfl, rfl⟩ := hcs
      exact ⟨zs, .inr ⟨_, rfl, hl, hm, by simpa using hz, hcell, hwz⟩⟩
  have y0 : len0 * 1 ≤ 140737488351232 := Go.Proofs.YtcbkoecanldlpaaW.PrintWords.sized_ints hsz (j := 0) (t := 22) rfl rfl Try.underlying22 Try.underlying5 (by kernel_rfl) (by kernel_rfl) h0
  clear hA0 hval0 hsz0 hsz
  refine (P.laws_FnWhole.walk Pure.FnWhole a0 len0 cap0 z0 W w0 y0).mono fun e W' ⟨he, bel⟩ => ?_
  subst he
  exact ⟨_, rfl, _, _, _, [], _, [], hW', trodAll_mk1 (shut_bool Try.underlying4 _), (trodAll_cons_mk (Below.trod laidOut (by kernel_rfl) (of_decide_eq_true (by kernel_rfl)) k0 bel lt0) trodAll_mk0), rfl, bel.frame _, fun h => by cases h⟩
theorem over : Rows.fnWholeRow.holds Try.pinned (OpenSpec.ofChange Rows.fnWholeSpec) :=
  OpenClaim.holds_of_wide 9 Try.f9 rfl rfl rfl rfl rfl rfl rfl ⟨rfl, rfl, rfl, rfl, rfl⟩ rfl rfl rfl rfl rfl (by kernel_rfl) Try.func9 (by kernel_rfl)
    (of_decide_eq_true (by kernel_rfl)) (by unfold Func.isWrapper; first | (rw [if_pos (by decide +kernel)]; kernel_rfl) | (rw [if_neg (by decide +kernel)]; exact ⟨rfl, rfl⟩))
    (fun os started H enc _ => lifted os started H enc)
theorem proved : Rows.FnWholeSaid := over
#print axioms proved
end Go.Proofs.Ytcbkoecanldlpaa.fnWhole
namespace Go.Proofs.Ytcbkoecanldlpaa
theorem fnWhole_holds : Rows.FnWholeSaid := fnWhole.proved
end Go.Proofs.Ytcbkoecanldlpaa
