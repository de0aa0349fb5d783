/- The law FnTwinPoints of the given program: for every input the call returns true, and each argument reads afterwards as it read before. No conditions. (Part 2 of 6; the last part holds the theorem.) -/
import Derived.Test.YtcbkoecanldlpaaMFnTwinPoints0
set_option linter.unusedVariables false
set_option linter.unusedSimpArgs false
namespace Go.Proofs.Ytcbkoecanldlpaa.X
open Go.RowKit Go.Proofs.YtcbkoecanldlpaaW.PrintWords Go.Proofs.YtcbkoecanldlpaaW.PrintLast Go.Proofs.Ytcbkoecanldlpaa.P

theorem Ev.pos {α : Type} {c : Prop} [Decidable c] {f g : Nat → Option α} {r : α} (h : c) (k : Ev f r) : Ev (fun n => if c then f n else g n) r :=
  Ev.congr (fun _ => if_pos h) k
theorem Ev.neg {α : Type} {c : Prop} [Decidable c] {f g : Nat → Option α} {r : α} (h : ¬ c) (k : Ev g r) : Ev (fun n => if c then f n else g n) r :=
  Ev.congr (fun _ => if_neg h) k
theorem Ev.fix {α β : Type} {x : Option α} {f : Nat → α → Option β} {a : α} {r : β} (h : x = some a) (k : Ev (fun n => f n a) r) : Ev (fun n => x.bind (f n)) r :=
  Ev.congr (fun n => by rw [h]; rfl) k
theorem Ev.done {α : Type} {x : Option α} {r : α} (h : x = some r) : Ev (fun _ => x) r := ⟨0, fun _ _ => h⟩
theorem w64 {x : Int} (h0 : -9223372036854775808 ≤ x) (h1 : x ≤ 9223372036854775807) : wrap64 x = x := by unfold wrap64; omega
theorem tdiv_nn {a b : Int} (h : 0 ≤ a) : Int.tdiv a b = a / b := Int.tdiv_eq_ediv_of_nonneg h
theorem tmod_nn {a b : Int} (h : 0 ≤ a) : Int.tmod a b = a % b := Int.tmod_eq_emod_of_nonneg h
theorem ext_rd {a b : List Int} (hl : a.length = b.length) (h : ∀ i : Nat, i < a.length → rd a (i : Int) = rd b (i : Int)) : a = b := by
  apply List.ext_getElem hl
  intro i h1 h2
  rw [← rd_cast a i h1, ← rd_cast b i h2]
  exact h i h1
end Go.Proofs.Ytcbkoecanldlpaa.X

set_option linter.unusedVariables false
set_option linter.unusedSimpArgs false
namespace Go.Proofs.Ytcbkoecanldlpaa.X
open Go.RowKit Go.Proofs.YtcbkoecanldlpaaW.PrintWords Go.Proofs.YtcbkoecanldlpaaW.PrintLast Go.Proofs.Ytcbkoecanldlpaa.P

set_option maxRecDepth 100000 in
set_option maxHeartbeats 4000000 in
theorem pointsThat_calls (g : Nat) (lb : Array Value) (eg : Eg g) (p : Int → Bool) (w : World) (hp : Fn1 g lb w (fun x => 0 ≤ x ∧ x < 91) (fun x => .bool (p x))) :
    Calls Try.prog 112 #[.func (.func g) #[] lb] w fun e w' => ∃ v : Value, e = .returned v ∧ Kd.R (Kd.int .i64) 3 w' w.heap.size (fun _ => True) v (filI 91 p) ∧ Below w.heap.size w w' := by
  have HP := Aside0.mk hp
  clear hp
  unfold Eg at eg
  go_enter Try.func112, Try.ntmps112
  go_wp2_with ((with_reducible refine gate_dst (N := 5) rfl ?_); refine Kd.R_lit (Kd.int .i64) _ 3 ?hg (N := 5) ?hd (xs := ([] : List Int)) (inner := []) (ok := fun _ => True) (okp := fun _ => True) ?hr ?hp (fun _ hk => hk) trivial (Below.refl _ _) (Nat.le_refl _) (by simp) ?_; (case hd => rfl); (case hg => rfl); (case hr => first | (go_simp; done) | (go_simp; rfl)); (case hp => exact (Reps.none _ _)); intro v0 w0 ho0 hb0 hg0 hnew0; have HO0 := Aside0.mk ho0; have HB0 := Aside0.mk hb0; clear ho0 hb0 hg0 hnew0)
  go_loopg [3, 6] 91 (fun kq v3 v6 w' => ∃ i : Int, v6 = .int .i64 i ∧ Aside0 (0 ≤ i ∧ i ≤ 91) ∧ Aside0 ((91 : Int) - i ≤ kq) ∧ Aside0 (Kd.R (Kd.int .i64) 3 w' w.heap.size (fun _ => True) v3 (filI i.toNat p)) ∧ Aside0 (Below w.heap.size w w'))
  case atStart => exact ⟨0, rfl, ⟨by omega⟩, ⟨by omega⟩, HO0, HB0⟩
  case round =>
    clear HO0 HB0
    obtain ⟨i, rfl, HI, HK, HO, HB⟩ := hrel
    have h0 : 0 ≤ i := HI.out.1
    by_cases c6 : i < 91
    · have hlen : (filI i.toNat p).length ≤ i.toNat := filI_length_le _ _
      have hcall := HP.out wr i HB.out ⟨h0, c6⟩
      dsimp only at hcall
      have hsucc : filI (i + 1).toNat p = filI i.toNat p ++ (if p i = true then [i] else []) := by
        rw [show (i + 1).toNat = i.toNat + 1 by omega, filI_succ, Int.toNat_of_nonneg h0]
      have HSU := Aside0.mk hsucc
      have HL := Aside0.mk hlen
      clear hlen hsucc
      obtain ⟨xs, hxs⟩ : ∃ xs, filI i.toNat p = xs := ⟨_, rfl⟩
      rw [hxs] at HO HSU HL
      clear hxs
      by_cases hv : p i = true
      · rw [hv] at hcall
        have hz : filI (i + 1).toNat p = xs ++ [i] := by rw [HSU.out, if_pos hv]
        have HZ := Aside0.mk hz
        have HC := Aside0.mk hcall
        clear hcall hz hv
        go_wp2_with fail
        refine HC.out.mono ?_
        rintro e w1 ⟨rfl, hb1⟩
        have HB1 := Aside0.mk (bstep HB.out hb1)
        have HO1 := Aside0.mk (Kd.R_below HO.out hb1)
        clear hb1 HO HB
        go_wp2_with (at_builtin; refine Kd.R_append (Kd.int .i64) (w0 := w) w.heap.size rfl (.tmp 12) (.tmp 14) 23 3 (.int .i64 0) 8 rfl Try.underlying23 info3 rfl (by decide) (by omega) u3 xs i [.int .i64 i] (fun _ => True) (fun _ => False) rfl rfl ?aP (fun _ hk => hk.elim) ?aF ?aO ?aB ?aS ?aL ?_; (case aP => exact rfl); (case aB => exact HB1.out); (case aF => exact (fun _ _ => trivial)); (case aO => exact HO1.out); (case aS => exact HB1.out.size); (case aL => have := HL.out; omega); intro v1 w2 ho hb hg hat; have HO2 := Aside0.mk ho; have HB2 := Aside0.mk hb; clear ho hb hg hat)
        go_roundg (91 - (i.toNat + 1))
        case measure => have := HK.out; omega
        case rel => exact ⟨i + 1, rfl, ⟨by omega⟩, ⟨by omega⟩, ⟨by rw [HZ.out]; exact HO2.out⟩, HB2⟩
      · have hv := Bool.eq_false_iff.2 hv
        rw [hv] at hcall
        have hz : filI (i + 1).toNat p = xs := by rw [HSU.out, if_neg (by rw [hv]; simp), List.append_nil]
        have HZ := Aside0.mk hz
        have HC := Aside0.mk hcall
        clear hcall hz hv
        go_wp2_with (go_at_fn g; refine HC.out.mono ?_; rintro e w1 ⟨rfl, hb1⟩)
        go_roundg (91 - (i.toNat + 1))
        case measure => have := HK.out; omega
        case rel => exact ⟨i + 1, rfl, ⟨by omega⟩, ⟨by omega⟩, ⟨by rw [HZ.out]; exact Kd.R_below HO.out hb1⟩, ⟨bstep HB.out hb1⟩⟩
    · go_wp2
      go_ret
      have hi : i = 91 := by have := HI.out; omega
      subst hi
      exact ⟨_, rfl, HO.out, HB.out⟩
end Go.Proofs.Ytcbkoecanldlpaa.X

set_option linter.unusedVariables false
set_option linter.unusedSimpArgs false
namespace Go.Proofs.Ytcbkoecanldlpaa.X
open Go.RowKit Go.Proofs.YtcbkoecanldlpaaW.PrintWords Go.Proofs.YtcbkoecanldlpaaW.PrintLast Go.Proofs.Ytcbkoecanldlpaa.P

theorem plane_on_eq {t : List Int} (hn : ninesB t 81 = true) {p l : Int} (hp : In91 p) (hl : In91 l) : impl_plane_on.f t p l = some (onB t p l) := by
  obtain ⟨p0, p1⟩ := hp
  obtain ⟨l0, l1⟩ := hl
  have hlen := (ninesB_iff.1 hn).1
  unfold impl_plane_on.f onB
  by_cases h90 : l = 90
  · rw [if_pos h90, if_pos h90]
  rw [if_neg h90, if_neg h90]
  by_cases h81 : l ≥ 81
  · rw [if_pos h81, if_pos h81]
    by_cases hp90 : p = 90
    · rw [if_pos hp90, decide_eq_true hp90]; rfl
    · rw [if_neg hp90, decide_eq_false hp90, Bool.false_or]
      by_cases hpn : p < 81
      · rw [if_pos hpn, decide_eq_true hpn, Bool.true_and]
        simp (disch := omega) only [w64, tdiv_nn]
        rfl
      · rw [if_neg hpn, decide_eq_false hpn, Bool.false_and]
  · rw [if_neg h81, if_neg h81]
    by_cases hpf : p ≥ 81
    · rw [if_pos hpf, if_pos hpf]
      simp (disch := omega) only [w64, tdiv_nn]
      rfl
    · rw [if_neg hpf, if_neg hpf]
      have hr := nines_rd hn (i := 9 * (p / 9) + l / 9) (by omega) (by omega)
      have ha := impl_add_eq (rd t (9 * (p / 9) + l / 9)) (l % 9) hr ⟨by omega, by omega⟩
      simp (disch := omega) only [w64, tdiv_nn, tmod_nn]
      rw [if_pos (by omega), if_pos (by omega), ha]
      rfl
theorem on_calls (A0 : Option Addr) (c0 : Nat) (t : List Int) (p l : Int) (w : World) (hr : Kd.C (Kd.int .i64) w A0 t.length t) (hc : t.length ≤ c0) (hn : ninesB t 81 = true) (hp : In91 p) (hl : In91 l) :
    Calls Try.prog 75 #[.slice A0 t.length c0, .int .i64 p, .int .i64 l] w fun e w' => e = .returned (.bool (onB t p l)) ∧ Drawn0 w w' :=
  impl_plane_on.calls A0 c0 t p l _ w hr hc (plane_on_eq hn hp hl)
set_option maxHeartbeats 2000000 in
theorem points1_calls (b bl : Nat) (A0 : Option Addr) (c0 : Nat) (t : List Int) (w : World) (hb : BoxT w b A0 c0 t) (hc0 : t.length ≤ c0) (hn : ninesB t 81 = true) (l : Int) (hl : In91 l) (hlc : w.cell? ⟨bl, 0, none⟩ = some (.int .i64 l)) (p : Int) (hp : In91 p) :
    Calls Try.prog 161 #[.int .i64 p, .pointer (some ⟨b, 0, none⟩), .pointer (some ⟨bl, 0, none⟩)] w fun e w' => e = .returned (.bool (onB t p l)) ∧ Below w.heap.size w w' := by
  have HC := Aside0.mk (on_calls A0 c0 t p l w hb.read hc0 hn hp hl)
  have hcell := hb.cell
  clear hb hn hp hl
  obtain ⟨v, hv⟩ : ∃ v, onB t p l = v := ⟨_, rfl⟩
  rw [hv] at HC ⊢
  clear hv
  go_enter Try.func161, Try.ntmps161
  go_wp2_with (go_at_call 75; refine HC.out.mono ?_; rintro e w' ⟨rfl, ⟨nd, rfl⟩⟩)
  go_ret
  exact ⟨rfl, Drawn0.below ⟨⟨_, rfl⟩⟩⟩
theorem entersPts : Eg 161 := enters_of Try.func161 (by kernel_rfl) rfl
set_option maxHeartbeats 2000000 in
theorem points_calls (A0 : Option Addr) (c0 : Nat) (t : List Int) (l : Int) (w : World) (hr : Kd.C (Kd.int .i64) w A0 t.length t) (hc0 : t.length ≤ c0) (hn : ninesB t 81 = true) (hl : In91 l) :
    Calls Try.prog 116 #[.slice A0 t.length c0, .int .i64 l] w fun e w' => ∃ v : Value, e = .returned v ∧ Kd.R (Kd.int .i64) 3 w' w.heap.size (fun _ => True) v (pointsL t l) ∧ Below w.heap.size w w' := by
  have hmf : ∀ (fn : Fn) (first cap : Array Value) (w : World), (Instr.makeFunc fn first cap).run Try.prog w = .ok (.func fn first cap) w := fun _ _ _ _ => rfl
  have hb0 : Below w.heap.size w ((w.alloc (.cells #[.slice A0 t.length c0] 49)).alloc (.cells #[.int .i64 l] 3)) := ((Below.refl _ _).alloc (Nat.le_refl _) _).alloc (by simp) _
  have ha1 : ((w.alloc (.cells #[.slice A0 t.length c0] 49)).alloc (.cells #[.int .i64 l] 3)).cell? ⟨w.heap.size, 0, none⟩ = some (.slice A0 t.length c0) := by
    rw [World.cell?_alloc_past _ _ _ (by simp)]; exact World.cell?_alloc_at _ _ _ _ rfl
  have hb1 : ((w.alloc (.cells #[.slice A0 t.length c0] 49)).alloc (.cells #[.int .i64 l] 3)).cell? ⟨w.heap.size + 1, 0, none⟩ = some (.int .i64 l) := World.cell?_alloc_at _ _ _ _ (by simp)
  have hbx : BoxT ((w.alloc (.cells #[.slice A0 t.length c0] 49)).alloc (.cells #[.int .i64 l] 3)) w.heap.size A0 c0 t := ⟨ha1, Kd.C_below hr hb0⟩
  have HC := Aside0.mk (pointsThat_calls 161 #[.pointer (some ⟨w.heap.size, 0, none⟩), .pointer (some ⟨w.heap.size + 1, 0, none⟩)] entersPts (fun p => onB t p l) _
    (fun W p hW hd => points1_calls _ _ A0 c0 t W (hbx.below hW) hc0 hn l hl ((hW.cell (World.block_lt_of_cell? _ _ hb1)).trans hb1) p hd))
  have HB := Aside0.mk hb0
  clear hr hn hl hb0 ha1 hb1 hbx
  go_enter Try.func116, Try.ntmps116
  go_wp2_with (go_at_call 112; refine HC.out.mono ?_; rintro e w' ⟨v, rfl, ho, hb⟩; have HO := Aside0.mk ho; have HB2 := Aside0.mk hb; clear ho hb)
  go_ret
  exact ⟨_, rfl, Kd.R_lower HO.out HB.out.size, bstep HB.out HB2.out⟩
end Go.Proofs.Ytcbkoecanldlpaa.X
namespace Go.Proofs.Ytcbkoecanldlpaa.P
open Go.RowKit Go.Proofs.YtcbkoecanldlpaaW.PrintWords Go.Proofs.YtcbkoecanldlpaaW.PrintLast
def impl_plane_points.f (l0 : List Int) (a1 : Int) : Option (List Int) := if X.ninesB l0 81 = true ∧ (0 ≤ a1 ∧ a1 < 91) then some (X.pointsL l0 a1) else none
theorem impl_plane_points.calls (A0 : Option Addr) (c0 : Nat) (l0 : List Int) (a1 : Int) (r : List Int) (w : World) (hr0 : Kd.C (Kd.int .i64) w A0 l0.length l0) (hc0 : l0.length ≤ c0) (h : impl_plane_points.f l0 a1 = some r) :
    Calls Try.prog 116 #[.slice A0 l0.length c0, .int .i64 a1] w fun e w' => ∃ v0_ : Value, e = .returned (v0_) ∧ Kd.R (Kd.int .i64) 3 w' w.heap.size (fun _ => True) v0_ r ∧ Below w.heap.size w w' := by
  unfold impl_plane_points.f at h
  by_cases hn : X.ninesB l0 81 = true ∧ (0 ≤ a1 ∧ a1 < 91)
  · rw [if_pos hn] at h
    obtain rfl := Option.some.inj h
    exact X.points_calls A0 c0 l0 a1 w hr0 hc0 hn.1 hn.2
  · rw [if_neg hn] at h; exact absurd h (by simp)
end Go.Proofs.Ytcbkoecanldlpaa.P

set_option linter.unusedVariables false
set_option linter.unusedSimpArgs false
namespace Go.Proofs.Ytcbkoecanldlpaa.X
open Go.RowKit Go.Proofs.YtcbkoecanldlpaaW.PrintWords Go.Proofs.YtcbkoecanldlpaaW.PrintLast Go.Proofs.Ytcbkoecanldlpaa.P

theorem has_false {l : List Int} {x : Int} (h : ∀ j : Nat, j < l.length → rd l (j : Int) ≠ x) : decide (x ∈ l) = false := by
  refine decide_eq_false fun hx => ?_
  obtain ⟨j, hj, rfl⟩ := List.mem_iff_getElem.1 hx
  exact h j hj (rd_cast l j hj)
theorem index_loop (l : List Int) (hl : l.length ≤ 1048576) (x : Int) (d : Nat) : ∀ (i : Int), 0 ≤ i → i + d = l.length → (∀ j : Nat, (j : Int) < i → rd l (j : Int) ≠ x) → ∃ v : Int, Ev (fun k => slices_Index_int_int.l0 k l x (l.length : Int) i) v ∧ decide (v ≥ 0) = decide (x ∈ l) := by
  induction d with
  | zero =>
    intro i h0 h1 h
    refine ⟨-1, Ev.step (fun k => by rw [slices_Index_int_int.l0]) (Ev.neg (by omega) (Ev.done rfl)), ?_⟩
    rw [has_false fun j hj => h j (by omega)]; rfl
  | succ d ih =>
    intro i h0 h1 h
    by_cases e : x = rd l i
    · refine ⟨i, Ev.step (fun k => by rw [slices_Index_int_int.l0]) ?_, ?_⟩
      · exact Ev.pos (by omega) (Ev.pos (by omega) (Ev.pos (by omega) (Ev.pos e (Ev.done rfl))))
      · rw [decide_eq_true (show x ∈ l by rw [e]; exact rd_mem (by omega) h0)]; simpa using h0
    · obtain ⟨v, hv, hd⟩ := ih (i + 1) (by omega) (by omega) fun j hj => by
        by_cases ej : (j : Int) = i
        · rw [ej]; exact fun h => e h.symm
        · exact h j (by omega)
      refine ⟨v, Ev.step (fun k => by rw [slices_Index_int_int.l0]) ?_, hd⟩
      simp (disch := omega) only [w64]
      exact Ev.pos (by omega) (Ev.pos (by omega) (Ev.pos (by omega) (Ev.neg e hv)))
theorem contains_ev (l : List Int) (hl : l.length ≤ 1048576) (x : Int) : Ev (fun k => slices_Contains_int_int.f k l x) (decide (x ∈ l)) := by
  obtain ⟨v, hv, hd⟩ := index_loop l hl x l.length 0 (by omega) (by omega) (fun j h => by omega)
  unfold slices_Contains_int_int.f slices_Index_int_int.f
  exact Ev.bind hv (Ev.done (by rw [← hd]))
end Go.Proofs.Ytcbkoecanldlpaa.X

namespace Go.Proofs.Ytcbkoecanldlpaa.P
open Go.RowKit Go.Proofs.YtcbkoecanldlpaaW.PrintWords Go.Proofs.YtcbkoecanldlpaaW.PrintLast
set_option linter.unusedVariables false
set_option linter.unusedSimpArgs false

def spec_l1Add.f (a0 : Int) (a1 : Int) : Option (Int) := some (wrap64 ((Int.tmod (wrap64 ((Int.tmod a0 3) + (Int.tmod a1 3))) 3) + (wrap64 ((Int.tmod (wrap64 ((wrap64 (Int.tdiv a0 3)) + (wrap64 (Int.tdiv a1 3)))) 3) * 3))))
set_option maxHeartbeats 8000000 in
set_option maxRecDepth 100000 in
theorem spec_l1Add.calls (a0 : Int) (a1 : Int) (r : Int) (w : World) (h : spec_l1Add.f a0 a1 = some r) :
  Calls Try.prog 146 #[.int .i64 a0, .int .i64 a1] w fun e w' => e = .returned (.int .i64 r) ∧ Drawn0 w w' := by
 have H : (some (wrap64 ((Int.tmod (wrap64 ((Int.tmod a0 3) + (Int.tmod a1 3))) 3) + (wrap64 ((Int.tmod (wrap64 ((wrap64 (Int.tdiv a0 3)) + (wrap64 (Int.tdiv a1 3)))) 3) * 3))))) = some r := h
 clear h
 obtain rfl := Option.some.inj H
 go_enter Try.func146, Try.ntmps146
 go_wp2
 go_ret
 exact ⟨by first | rfl | (simp; done) | (simp [*]; done), by repeat (first | exact Drawn0.refl _ | apply Drawn0.step)⟩
end Go.Proofs.Ytcbkoecanldlpaa.P

namespace Go.Proofs.Ytcbkoecanldlpaa.P
open Go.RowKit Go.Proofs.YtcbkoecanldlpaaW.PrintWords Go.Proofs.YtcbkoecanldlpaaW.PrintLast
set_option linter.unusedVariables false
set_option linter.unusedSimpArgs false

def spec_l1Minus.f (a0 : Int) : Option (Int) := some (wrap64 ((Int.tmod (wrap64 (3 - (Int.tmod a0 3))) 3) + (wrap64 ((Int.tmod (wrap64 (3 - (wrap64 (Int.tdiv a0 3)))) 3) * 3))))
set_option maxHeartbeats 8000000 in
set_option maxRecDepth 100000 in
theorem spec_l1Minus.calls (a0 : Int) (r : Int) (w : World) (h : spec_l1Minus.f a0 = some r) :
  Calls Try.prog 100 #[.int .i64 a0] w fun e w' => e = .returned (.int .i64 r) ∧ Drawn0 w w' := by
 have H : (some (wrap64 ((Int.tmod (wrap64 (3 - (Int.tmod a0 3))) 3) + (wrap64 ((Int.tmod (wrap64 (3 - (wrap64 (Int.tdiv a0 3)))) 3) * 3))))) = some r := h
 clear h
 obtain rfl := Option.some.inj H
 go_enter Try.func100, Try.ntmps100
 go_wp2
 go_ret
 exact ⟨by first | rfl | (simp; done) | (simp [*]; done), by repeat (first | exact Drawn0.refl _ | apply Drawn0.step)⟩
end Go.Proofs.Ytcbkoecanldlpaa.P

set_option linter.unusedVariables false
set_option linter.unusedSimpArgs false
namespace Go.Proofs.Ytcbkoecanldlpaa.X
open Go.RowKit Go.Proofs.YtcbkoecanldlpaaW.PrintWords Go.Proofs.YtcbkoecanldlpaaW.PrintLast Go.Proofs.Ytcbkoecanldlpaa.P

theorem qd' {P : Program} {f : FuncId} {args : Array Value} {w : World} {n : Nat} {v : Value} (h : Calls P f args (w.drewN n) fun e w' => e = .returned v ∧ Drawn0 (w.drewN n) w') :
    Calls P f args (w.drewN n) fun e w'' => e = .returned v ∧ ∃ m, w'' = w.drewN m :=
  h.mono fun _ _ ⟨he, hd⟩ => ⟨he, by obtain ⟨m, hm⟩ := hd.out; exact ⟨n + m, by rw [hm, World.drewN_drewN]⟩⟩
theorem spec_l1Add_eq (a b : Int) (ha : In9 a) (hb : In9 b) : spec_l1Add.f a b = some (addN a b) :=
  nine2 (P := fun a b => spec_l1Add.f a b = some (addN a b)) (by decide +kernel) a b ha.1 ha.2 hb.1 hb.2
theorem spec_l1Minus_eq (a : Int) (ha : In9 a) : spec_l1Minus.f a = some (minusN a) :=
  nine1 (P := fun a => spec_l1Minus.f a = some (minusN a)) (by decide +kernel) a ha.1 ha.2
theorem l1Add_calls (a b : Int) (ha : In9 a) (hb : In9 b) (w : World) : Calls Try.prog 146 #[.int .i64 a, .int .i64 b] w fun e w' => e = .returned (.int .i64 (addN a b)) ∧ Drawn0 w w' := spec_l1Add.calls a b _ w (spec_l1Add_eq a b ha hb)
theorem l1Minus_calls (a : Int) (ha : In9 a) (w : World) : Calls Try.prog 100 #[.int .i64 a] w fun e w' => e = .returned (.int .i64 (minusN a)) ∧ Drawn0 w w' := spec_l1Minus.calls a _ w (spec_l1Minus_eq a ha)
theorem tab_at {w : World} {ad : Addr} {t : List Int} {n : Nat} (h : Kd.C (Kd.int .i64) w (some ad) n t) (i : Int) (h0 : 0 ≤ i) (h1 : i < n) : w.cell? (ad.add i.toNat) = some (.int .i64 (rd t i)) := by
  obtain ⟨ad', e, hc⟩ := Kd.at_int h i h0 h1
  cases e; exact hc
theorem tab_some {w : World} {A0 : Option Addr} {t : List Int} {n : Nat} (h : Kd.C (Kd.int .i64) w A0 n t) (hl : 0 < n) : ∃ ad, A0 = some ad := by
  obtain ⟨ad', e, hc⟩ := Kd.at_int h 0 (by omega) (by omega)
  exact ⟨ad', e⟩
def shareB (t : List Int) (x y z : Int) : Bool := decide (rd t (9 * addN x y + z) = addN (rd t (9 * x + z)) (rd t (9 * y + z)))
theorem sharesB_all {t : List Int} (h : ∀ x y z : Int, In9 x → In9 y → In9 z → shareB t x y z = true) : sharesB t = true :=
  allI_int_iff.2 fun x x0 x1 => allI_int_iff.2 fun y y0 y1 => allI_int_iff.2 fun z z0 z1 => h x y z ⟨x0, x1⟩ ⟨y0, y1⟩ ⟨z0, z1⟩
theorem sharesB_hit {t : List Int} {x y z : Int} (hx : In9 x) (hy : In9 y) (hz : In9 z) (h : shareB t x y z = false) : sharesB t = false := all3_hit (p := shareB t) hx hy hz h
set_option maxRecDepth 100000 in
set_option maxHeartbeats 4000000 in
theorem l2Shares_calls (A0 : Option Addr) (c0 : Nat) (t : List Int) (w : World) (hr : Kd.C (Kd.int .i64) w A0 t.length t) (hn : ninesB t 81 = true) :
    Calls Try.prog 130 #[.slice A0 t.length c0] w fun e w' => e = .returned (.bool (sharesB t)) ∧ Drawn0 w w' := by
  obtain ⟨hl, _⟩ := ninesB_iff.1 hn
  obtain ⟨ad, rfl⟩ := tab_some hr (by omega)
  have HT := Aside0.mk hr
  have HN := Aside0.mk hn
  have hlen : 81 ≤ t.length := by omega
  clear hr hn hl
  go_enter Try.func130, Try.ntmps130
  go_wp2
  go_loopg [3] 9 (fun kq v3 w' => ∃ a : Int, v3 = .int .i64 a ∧ Aside0 (0 ≤ a ∧ a ≤ 9) ∧ Aside0 ((9 : Int) - a ≤ kq) ∧ Aside0 (∀ x y z : Int, 0 ≤ x → x < a → In9 y → In9 z → shareB t x y z = true) ∧ Aside0 (Drawn0 w w'))
  case atStart => exact ⟨0, rfl, ⟨by omega⟩, ⟨by omega⟩, ⟨fun x y z h0 h1 => by omega⟩, ⟨Drawn0.refl _⟩⟩
  case round =>
    obtain ⟨a, rfl, HI, HK, HA, HD⟩ := hrel
    have h0 : 0 ≤ a := HI.out.1
    by_cases c6 : a < 9
    · go_wp2
      go_loopg [4] 9 (fun kq v4 w' => ∃ b : Int, v4 = .int .i64 b ∧ Aside0 (0 ≤ b ∧ b ≤ 9) ∧ Aside0 ((9 : Int) - b ≤ kq) ∧ Aside0 (∀ y z : Int, 0 ≤ y → y < b → In9 z → shareB t a y z = true) ∧ Aside0 (Drawn0 w w'))
      case atStart => exact ⟨0, rfl, ⟨by omega⟩, ⟨by omega⟩, ⟨fun y z h0 h1 => by omega⟩, HD⟩
      case round =>
        clear HD
        obtain ⟨b, rfl, HI2, HK2, HA2, HD⟩ := hrel
        have h02 : 0 ≤ b := HI2.out.1
        by_cases c7 : b < 9
        · go_wp2
          go_loopg [5] 9 (fun kq v5 w' => ∃ c : Int, v5 = .int .i64 c ∧ Aside0 (0 ≤ c ∧ c ≤ 9) ∧ Aside0 ((9 : Int) - c ≤ kq) ∧ Aside0 (∀ z : Int, 0 ≤ z → z < c → shareB t a b z = true) ∧ Aside0 (Drawn0 w w'))
          case atStart => exact ⟨0, rfl, ⟨by omega⟩, ⟨by omega⟩, ⟨fun z h0 h1 => by omega⟩, HD⟩
          case round =>
            clear HD
            obtain ⟨c, rfl, HI3, HK3, HA3, HD⟩ := hrel
            have h03 : 0 ≤ c := HI3.out.1
            by_cases c8 : c < 9
            · have HTw := Kd.C_below HT.out HD.out.below
              have q1 := nines_rd HN.out (i := 9 * a + c) (by omega) (by omega)
              have q2 := nines_rd HN.out (i := 9 * b + c) (by omega) (by omega)
              have r01 := addN_range a b
              have hs : shareB t a b c = decide (rd t (9 * addN a b + c) = addN (rd t (9 * a + c)) (rd t (9 * b + c))) := rfl
              have C1 := Aside0.mk (l1Add_calls a b ⟨h0, c6⟩ ⟨h02, c7⟩)
              have C2 := Aside0.mk (l1Add_calls (rd t (9 * a + c)) (rd t (9 * b + c)) q1 q2)
              obtain ⟨s, hs1⟩ : ∃ s, addN a b = s := ⟨_, rfl⟩
              rw [hs1] at C1 r01 hs
              clear hs1
              obtain ⟨r0, r1⟩ := r01
              have g1 := tab_at HTw (9 * a + c) (by omega) (by omega)
              have g2 := tab_at HTw (9 * b + c) (by omega) (by omega)
              have g3 := tab_at HTw (9 * s + c) (by omega) (by omega)
              obtain ⟨v1, hv1⟩ : ∃ v, rd t (9 * a + c) = v := ⟨_, rfl⟩
              obtain ⟨v2, hv2⟩ : ∃ v, rd t (9 * b + c) = v := ⟨_, rfl⟩
              obtain ⟨v3, hv3⟩ : ∃ v, rd t (9 * s + c) = v := ⟨_, rfl⟩
              rw [hv1] at g1 hs C2
              rw [hv2] at g2 hs C2
              rw [hv3] at g3 hs
              obtain ⟨v4, hv4⟩ : ∃ v, addN v1 v2 = v := ⟨_, rfl⟩
              rw [hv4] at hs C2
              have HS := Aside0.mk hs
              clear hs hv1 hv2 hv3 hv4 q1 q2 HTw
              by_cases he : v3 = v4
              · have he1 : (v3 == v4) = true := beq_iff_eq.2 he
                have he2 : (v3 != v4) = false := by rw [bne, he1]; rfl
                have HP := Aside0.mk (show shareB t a b c = true by rw [HS.out, decide_eq_true he])
                clear he
                go_wp2
                go_quiet ((first | (go_at_call 146; with_reducible exact qd' (C1.out _)) | (go_at_call 146; with_reducible exact qd' (C2.out _))))
                go_wp2
                go_roundg (9 - (c.toNat + 1))
                case measure => have := HK3.out; omega
                case rel =>
                  refine ⟨c + 1, rfl, ⟨by omega⟩, ⟨by omega⟩, ⟨fun z hz0 hz1 => ?_⟩, ⟨HD.out.step _⟩⟩
                  by_cases e : z = c
                  · rw [e]; exact HP.out
                  · exact HA3.out z hz0 (by omega)
              · have he1 : (v3 == v4) = false := beq_eq_false_iff_ne.2 he
                have he2 : (v3 != v4) = true := by rw [bne, he1]; rfl
                have HP := Aside0.mk (show shareB t a b c = false by rw [HS.out, decide_eq_false he])
                clear he
                go_wp2
                go_quiet ((first | (go_at_call 146; with_reducible exact qd' (C1.out _)) | (go_at_call 146; with_reducible exact qd' (C2.out _))))
                go_wp2
                go_ret
                exact ⟨by rw [sharesB_hit ⟨h0, c6⟩ ⟨h02, c7⟩ ⟨h03, c8⟩ HP.out]; rfl, HD.out.step _⟩
            · go_wp2
              go_roundg (9 - (b.toNat + 1))
              case measure => have := HK2.out; omega
              case rel =>
                refine ⟨b + 1, rfl, ⟨by omega⟩, ⟨by omega⟩, ⟨fun y z hy0 hy1 hz => ?_⟩, HD⟩
                by_cases e : y = b
                · rw [e]; exact HA3.out z hz.1 (by have := hz.2; have := HI3.out; omega)
                · exact HA2.out y z hy0 (by omega) hz
        · go_wp2
          go_roundg (9 - (a.toNat + 1))
          case measure => have := HK.out; omega
          case rel =>
            refine ⟨a + 1, rfl, ⟨by omega⟩, ⟨by omega⟩, ⟨fun x y z hx0 hx1 hy hz => ?_⟩, HD⟩
            by_cases e : x = a
            · rw [e]; exact HA2.out y z hy.1 (by have := hy.2; have := HI2.out; omega) hz
            · exact HA.out x y z hx0 (by omega) hy hz
    · go_wp2
      go_ret
      have hall : sharesB t = true := sharesB_all fun x y z hx hy hz => HA.out x y z hx.1 (by have := HI.out; have := hx.2; omega) hy hz
      exact ⟨by rw [hall]; rfl, HD.out⟩
theorem gapsB_of {t : List Int} {c d : Int} (h : ∀ x y : Int, 0 ≤ x → x < y → y < 9 → addN (rd t (9 * x + c)) (minusN (rd t (9 * x + d))) ≠ addN (rd t (9 * y + c)) (minusN (rd t (9 * y + d)))) : gapsB t c d = true :=
  onceB_iff.2 fun x y hxy hy => h x y (by omega) (by omega) (by omega)
set_option maxRecDepth 100000 in
set_option maxHeartbeats 4000000 in
theorem l2Solves_calls (A0 : Option Addr) (c0 : Nat) (t : List Int) (c d : Int) (w : World) (hr : Kd.C (Kd.int .i64) w A0 t.length t) (hn : ninesB t 81 = true) (hc : In9 c) (hd : In9 d) :
    Calls Try.prog 131 #[.slice A0 t.length c0, .int .i64 c, .int .i64 d] w fun e w' => e = .returned (.bool (gapsB t c d)) ∧ Below w.heap.size w w' := by
  obtain ⟨hl, _⟩ := ninesB_iff.1 hn
  obtain ⟨ad, rfl⟩ := tab_some hr (by omega)
  obtain ⟨c1, c2⟩ := hc
  obtain ⟨d1, d2⟩ := hd
  have HT := Aside0.mk hr
  have HN := Aside0.mk hn
  have hlen : 81 ≤ t.length := by omega
  have HS := Aside0.mk (Arr.alloc w 4 9 (fun _ => false))
  have hmk : ∀ w, (Instr.makeSlice 34 (.int .i64 9) (.int .i64 9)).run Try.prog w = .ok (.slice (some ⟨w.heap.size, 0, none⟩) 9 9) (w.alloc (.cells #[.bool false, .bool false, .bool false, .bool false, .bool false, .bool false, .bool false, .bool false, .bool false] 4)) := fun _ => by kernel_rfl
  obtain ⟨p, hp⟩ : ∃ p : Int → Int, p = fun x => addN (rd t (9 * x + c)) (minusN (rd t (9 * x + d))) := ⟨_, rfl⟩
  have HP := Aside0.mk hp
  clear hr hn hl hp
  go_enter Try.func131, Try.ntmps131
  go_wp2
  go_loopg [8] 9 (fun kq v8 w' => ∃ i : Int, v8 = .int .i64 i ∧ Aside0 (0 ≤ i ∧ i ≤ 9) ∧ Aside0 ((9 : Int) - i ≤ kq) ∧ Aside0 (∀ x y : Int, 0 ≤ x → x < y → y < i → p x ≠ p y) ∧ Aside0 (Arr w' w.heap.size 4 9 (seenO p i)) ∧ Aside0 (Below w.heap.size w w'))
  case atStart => exact ⟨0, rfl, ⟨by omega⟩, ⟨by omega⟩, ⟨fun x y h0 h1 => by omega⟩, ⟨HS.out.congr (fun j hj => rfl)⟩, ⟨(Below.refl _ _).alloc (Nat.le_refl _) _⟩⟩
  case round =>
    clear HS
    obtain ⟨i, rfl, HI, HK, HA, HS, HB⟩ := hrel
    have h0 : 0 ≤ i := HI.out.1
    by_cases c6 : i < 9
    · have HTw := Kd.C_below HT.out HB.out
      have q1 := nines_rd HN.out (i := 9 * i + c) (by omega) (by omega)
      have q2 := nines_rd HN.out (i := 9 * i + d) (by omega) (by omega)
      have g1 := tab_at HTw (9 * i + c) (by omega) (by omega)
      have g2 := tab_at HTw (9 * i + d) (by omega) (by omega)
      have hv : p i = addN (rd t (9 * i + c)) (minusN (rd t (9 * i + d))) := by rw [HP.out]
      have C1 := Aside0.mk (l1Minus_calls (rd t (9 * i + d)) q2)
      have C2 := Aside0.mk (l1Add_calls (rd t (9 * i + c)) (minusN (rd t (9 * i + d))) q1 (minusN_range _))
      have r01 := addN_range (rd t (9 * i + c)) (minusN (rd t (9 * i + d)))
      obtain ⟨v, hv1⟩ : ∃ v, addN (rd t (9 * i + c)) (minusN (rd t (9 * i + d))) = v := ⟨_, rfl⟩
      rw [hv1] at C2 r01 hv
      obtain ⟨r0, r1⟩ := r01
      have HV := Aside0.mk hv
      clear hv hv1 q1 q2 HTw
      have hcl := HS.out.cell v.toNat (by omega)
      have hf := HS.out.frozen v.toNat
      by_cases hs : seenO p i v.toNat = true
      · rw [hs] at hcl
        have HF := Aside0.mk hs
        clear hs
        go_wp2
        go_quiet ((first | (go_at_call 100; with_reducible exact qd' (C1.out _)) | (go_at_call 146; with_reducible exact qd' (C2.out _))))
        go_wp2
        go_ret
        have : gapsB t c d = false := by
          have h := HF.out
          unfold seenO at h
          obtain ⟨x, hx, hpx⟩ := List.any_eq_true.1 h
          have hx := List.mem_range.1 hx
          have hpx := of_decide_eq_true hpx
          have := onceB_hit (p := p) x i (by omega) (by omega) c6 (by rw [hpx, HV.out]; omega)
          rw [HP.out] at this
          exact this
        exact ⟨by rw [this]; rfl, HB.out.trans (Below.mono (Drawn0.below ⟨⟨_, rfl⟩⟩) HB.out.size)⟩
      · have hs := Bool.eq_false_iff.2 hs
        rw [hs] at hcl
        have HF := Aside0.mk hs
        have HS6 := Aside0.mk (fun n : Nat => (HS.out.below (Drawn0.below (w' := wr.drewN n) ⟨⟨n, rfl⟩⟩)).set v.toNat true)
        have HB2 := Aside0.mk (fun n : Nat => (bstep HB.out (Drawn0.below (w' := wr.drewN n) ⟨⟨n, rfl⟩⟩)).setCell (p := ⟨w.heap.size, v.toNat, none⟩) (Nat.le_refl _) (.bool true))
        clear hs
        go_wp2
        go_quiet ((first | (go_at_call 100; with_reducible exact qd' (C1.out _)) | (go_at_call 146; with_reducible exact qd' (C2.out _))))
        go_wp2
        go_roundg (9 - (i.toNat + 1))
        case measure => have := HK.out; omega
        case rel =>
          refine ⟨i + 1, rfl, ⟨by omega⟩, ⟨by omega⟩, ⟨fun x y hx hxy hy => ?_⟩, ⟨(HS6.out nq).congr (fun j hj => ?_)⟩, ⟨HB2.out nq⟩⟩
          · by_cases e : y = i
            · subst e
              intro hxe
              have h := HF.out
              unfold seenO at h
              have := List.any_eq_false.1 h x.toNat (List.mem_range.2 (by omega))
              rw [Int.toNat_of_nonneg hx, hxe, HV.out] at this
              exact this (decide_eq_true (by omega))
            · exact HA.out x y hx hxy (by omega)
          · rw [seenO_succ p i h0 j, HV.out]
            by_cases e : j = v.toNat
            · subst e; rw [if_pos rfl, decide_eq_true (by omega), Bool.or_true]
            · rw [if_neg e, decide_eq_false (by omega), Bool.or_false]
    · go_wp2
      go_ret
      have hall : gapsB t c d = true := by
        refine gapsB_of fun x y hx hxy hy => ?_
        have := HA.out x y hx hxy (by have := HI.out; omega)
        rwa [HP.out] at this
      exact ⟨by rw [hall]; rfl, HB.out⟩
end Go.Proofs.Ytcbkoecanldlpaa.X
namespace Go.Proofs.Ytcbkoecanldlpaa.P
open Go.RowKit Go.Proofs.YtcbkoecanldlpaaW.PrintWords Go.Proofs.YtcbkoecanldlpaaW.PrintLast
def spec_l2Shares.f (l0 : List Int) : Option Bool := if X.ninesB l0 81 = true then some (X.sharesB l0) else none
theorem spec_l2Shares.calls (A0 : Option Addr) (c0 : Nat) (l0 : List Int) (r : Bool) (w : World) (hr0 : Kd.C (Kd.int .i64) w A0 l0.length l0) (hc0 : l0.length ≤ c0) (h : spec_l2Shares.f l0 = some r) :
    Calls Try.prog 130 #[.slice A0 l0.length c0] w fun e w' => e = .returned (.bool r) ∧ Drawn0 w w' := by
  unfold spec_l2Shares.f at h
  by_cases hn : X.ninesB l0 81 = true
  · rw [if_pos hn] at h
    obtain rfl := Option.some.inj h
    exact X.l2Shares_calls A0 c0 l0 w hr0 hn
  · rw [if_neg hn] at h; exact absurd h (by simp)
def spec_l2Solves.f (l0 : List Int) (a1 a2 : Int) : Option Bool := if X.ninesB l0 81 = true ∧ (0 ≤ a1 ∧ a1 < 9) ∧ (0 ≤ a2 ∧ a2 < 9) then some (X.gapsB l0 a1 a2) else none
theorem spec_l2Solves.calls (A0 : Option Addr) (c0 : Nat) (l0 : List Int) (a1 a2 : Int) (r : Bool) (w : World) (hr0 : Kd.C (Kd.int .i64) w A0 l0.length l0) (hc0 : l0.length ≤ c0) (h : spec_l2Solves.f l0 a1 a2 = some r) :
    Calls Try.prog 131 #[.slice A0 l0.length c0, .int .i64 a1, .int .i64 a2] w fun e w' => e = .returned (.bool r) ∧ Below w.heap.size w w' := by
  unfold spec_l2Solves.f at h
  by_cases hn : X.ninesB l0 81 = true ∧ (0 ≤ a1 ∧ a1 < 9) ∧ (0 ≤ a2 ∧ a2 < 9)
  · rw [if_pos hn] at h
    obtain rfl := Option.some.inj h
    exact X.l2Solves_calls A0 c0 l0 a1 a2 w hr0 hn.1 hn.2.1 hn.2.2
  · rw [if_neg hn] at h; exact absurd h (by simp)
end Go.Proofs.Ytcbkoecanldlpaa.P

namespace Go.Proofs.Ytcbkoecanldlpaa.P
open Go.RowKit Go.Proofs.YtcbkoecanldlpaaW.PrintWords Go.Proofs.YtcbkoecanldlpaaW.PrintLast
set_option linter.unusedVariables false
set_option linter.unusedSimpArgs false

def impl_plane_meet.l0 : Nat → List Int → Int → Int → Int → Option (Int)
 | 0, _, _, _, _ => none
 | k + 1, x0, x1, x2, x8 => if x8 < 91 then ((impl_plane_on.f x0 x8 x1).bind fun t300 => (if t300 = true then ((impl_plane_on.f x0 x8 x2).bind fun t301 => (if t301 = true then (some x8) else (impl_plane_meet.l0 k x0 x1 x2 (wrap64 (x8 + 1))))) else (impl_plane_meet.l0 k x0 x1 x2 (wrap64 (x8 + 1))))) else (some (-1))
def impl_plane_meet.f (k : Nat) (l0 : List Int) (a1 : Int) (a2 : Int) : Option (Int) := impl_plane_meet.l0 k l0 a1 a2 0
set_option maxHeartbeats 8000000 in
set_option maxRecDepth 100000 in
theorem impl_plane_meet.calls (k : Nat) (A0 : Option Addr) (c0 : Nat) (l0 : List Int) (a1 : Int) (a2 : Int) (r : Int) (w : World) (hr0 : Kd.C (Kd.int .i64) w A0 l0.length l0) (hc0 : l0.length ≤ c0) (h : impl_plane_meet.f k l0 a1 a2 = some r) :
  Calls Try.prog 141 #[.slice A0 l0.length c0, .int .i64 a1, .int .i64 a2] w fun e w' => e = .returned (.int .i64 r) ∧ Drawn0 w w' := by
 have HR0 := Aside0.mk hr0
 have HC0 := Aside0.mk hc0
 clear hr0 hc0
 have H : (impl_plane_meet.l0 k l0 a1 a2 0) = some r := h
 clear h
 have H' := Aside0.mk H
 clear H
 go_enter Try.func141, Try.ntmps141
 go_wp2
 go_loopg [8] k (fun kq v8 w' => ∃ (x8_1 : Int), v8 = .int .i64 x8_1 ∧ Aside0 (impl_plane_meet.l0 kq l0 a1 a2 x8_1 = some r) ∧ Aside0 (kq ≤ k) ∧ Drawn0 w w')
 case atStart => exact ⟨(0), (by first | rfl | (simp; done) | (simp [*]; done)), H', ⟨Nat.le_refl _⟩, by repeat (first | exact Drawn0.refl _ | apply Drawn0.step)⟩
 case round =>
  clear H'
  try clear c1
  try clear p2
  obtain ⟨x8_1, rfl, HA, HK1, ⟨m1, rfl⟩⟩ := hrel
  cases gk with
  | zero => exact absurd HA.out (by simp [impl_plane_meet.l0])
  | succ k1 =>
   have H := HA.out
   clear HA
   simp only [impl_plane_meet.l0] at H
   by_cases c4 : x8_1 < 91
   ·rw [if_pos c4] at H
    have c4b0 : decide (x8_1 < 91) = true := decide_eq_true c4
    clear c4
    replace H := Option.bind_eq_some_iff.mp H
    obtain ⟨t300, A50, H⟩ := H
    replace H : (if t300 = true then ((impl_plane_on.f l0 x8_1 a2).bind fun t301 => (if t301 = true then (some x8_1) else (impl_plane_meet.l0 k1 l0 a1 a2 (wrap64 (x8_1 + 1))))) else (impl_plane_meet.l0 k1 l0 a1 a2 (wrap64 (x8_1 + 1)))) = some r := H
    have A5 := Aside0.mk A50
    clear A50
    by_cases c6 : t300 = true
    ·subst c6
     have H1 : ((impl_plane_on.f l0 x8_1 a2).bind fun t301 => (if t301 = true then (some x8_1) else (impl_plane_meet.l0 k1 l0 a1 a2 (wrap64 (x8_1 + 1))))) = some r := by rw [if_pos rfl] at H; exact H
     clear H
     have H := H1
     clear H1
     replace H := Option.bind_eq_some_iff.mp H
     obtain ⟨t301, A70, H⟩ := H
     replace H : (if t301 = true then (some x8_1) else (impl_plane_meet.l0 k1 l0 a1 a2 (wrap64 (x8_1 + 1)))) = some r := H
     have A7 := Aside0.mk A70
     clear A70
     by_cases c8 : t301 = true
     ·subst c8
      have H1 : (some x8_1) = some r := by rw [if_pos rfl] at H; exact H
      clear H
      have H := H1
      clear H1
      obtain rfl := Option.some.inj H
      go_wp2_with (first | (refine goesL_ (some 14) rfl rfl Try.func75 (by kernel_rfl) rfl #[.slice A0 l0.length c0, .int .i64 x8_1, .int .i64 a1] rfl ll_ ?_; (with_reducible refine (impl_plane_on.calls _ _ l0 x8_1 a1 true _ ?side1 ?side2 A5.out).mono ?_); (case side1 => exact ss_ HR0); (case side2 => exact HC0.out); rintro e w' ⟨rfl, ⟨nd, rfl⟩⟩; refine ⟨_, rfl, ?_⟩) | (go_at_call 75; (with_reducible refine (impl_plane_on.calls _ _ l0 x8_1 a2 true _ ?side1 ?side2 A7.out).mono ?_); (case side1 => exact ss_ HR0); (case side2 => exact HC0.out); rintro e w' ⟨rfl, ⟨nd, rfl⟩⟩))
      go_ret
      exact ⟨by first | rfl | (simp; done) | (simp [*]; done), by repeat (first | exact Drawn0.refl _ | apply Drawn0.step)⟩
     ·replace c8 := Bool.eq_false_iff.mpr c8
      subst c8
      have H1 : (impl_plane_meet.l0 k1 l0 a1 a2 (wrap64 (x8_1 + 1))) = some r := by rw [if_neg (show ¬ (false = true) by decide)] at H; exact H
      clear H
      have H := H1
      clear H1
      have H' := Aside0.mk H
      clear H
      go_wp2_with (first | (refine goesL_ (some 14) rfl rfl Try.func75 (by kernel_rfl) rfl #[.slice A0 l0.length c0, .int .i64 x8_1, .int .i64 a1] rfl ll_ ?_; (with_reducible refine (impl_plane_on.calls _ _ l0 x8_1 a1 true _ ?side1 ?side2 A5.out).mono ?_); (case side1 => exact ss_ HR0); (case side2 => exact HC0.out); rintro e w' ⟨rfl, ⟨nd, rfl⟩⟩; refine ⟨_, rfl, ?_⟩) | (go_at_call 75; (with_reducible refine (impl_plane_on.calls _ _ l0 x8_1 a2 false _ ?side1 ?side2 A7.out).mono ?_); (case side1 => exact ss_ HR0); (case side2 => exact HC0.out); rintro e w' ⟨rfl, ⟨nd, rfl⟩⟩))
      go_roundg k1
      case measure => have := HK1.out; omega
      case rel => exact ⟨(wrap64 (x8_1 + 1)), (by first | rfl | (simp; done) | (simp [*]; done)), H', ⟨by have := HK1.out; omega⟩, by repeat (first | exact Drawn0.refl _ | apply Drawn0.step)⟩
    ·replace c6 := Bool.eq_false_iff.mpr c6
     subst c6
     have H1 : (impl_plane_meet.l0 k1 l0 a1 a2 (wrap64 (x8_1 + 1))) = some r := by rw [if_neg (show ¬ (false = true) by decide)] at H; exact H
     clear H
     have H := H1
     clear H1
     have H' := Aside0.mk H
     clear H
     go_wp2_with (first | (refine goesL_ (some 14) rfl rfl Try.func75 (by kernel_rfl) rfl #[.slice A0 l0.length c0, .int .i64 x8_1, .int .i64 a1] rfl ll_ ?_; (with_reducible refine (impl_plane_on.calls _ _ l0 x8_1 a1 false _ ?side1 ?side2 A5.out).mono ?_); (case side1 => exact ss_ HR0); (case side2 => exact HC0.out); rintro e w' ⟨rfl, ⟨nd, rfl⟩⟩; refine ⟨_, rfl, ?_⟩))
     go_roundg k1
     case measure => have := HK1.out; omega
     case rel => exact ⟨(wrap64 (x8_1 + 1)), (by first | rfl | (simp; done) | (simp [*]; done)), H', ⟨by have := HK1.out; omega⟩, by repeat (first | exact Drawn0.refl _ | apply Drawn0.step)⟩
   ·rw [if_neg c4] at H
    have c4b0 : decide (x8_1 < 91) = false := decide_eq_false c4
    clear c4
    obtain rfl := Option.some.inj H
    go_wp2
    go_ret
    exact ⟨by first | rfl | (simp; done) | (simp [*]; done), by repeat (first | exact Drawn0.refl _ | apply Drawn0.step)⟩
end Go.Proofs.Ytcbkoecanldlpaa.P

set_option linter.unusedVariables false
set_option linter.unusedSimpArgs false
namespace Go.Proofs.Ytcbkoecanldlpaa.X
open Go.RowKit Go.Proofs.YtcbkoecanldlpaaW.PrintWords Go.Proofs.YtcbkoecanldlpaaW.PrintLast Go.Proofs.Ytcbkoecanldlpaa.P

theorem isPoint_eq (p : Int) : impl_isPoint.f p = some (ptB p) := by
  unfold impl_isPoint.f ptB
  by_cases h : p ≥ 0
  · rw [if_pos h, decide_eq_true h]; simp
  · rw [if_neg h, decide_eq_false h]; simp
theorem isPoint_calls (p : Int) (w : World) : Calls Try.prog 73 #[.int .i64 p] w fun e w' => e = .returned (.bool (ptB p)) ∧ Drawn0 w w' := impl_isPoint.calls p _ w (isPoint_eq p)
theorem contains_calls (A0 : Option Addr) (c0 : Nat) (l : List Int) (hl : l.length ≤ 1048576) (x : Int) (w : World) (hr : Kd.C (Kd.int .i64) w A0 l.length l) (hc : l.length ≤ c0) :
    Calls Try.prog 90 #[.slice A0 l.length c0, .int .i64 x] w fun e w' => e = .returned (.bool (decide (x ∈ l))) ∧ Drawn0 w w' := by
  obtain ⟨k, hk⟩ := (contains_ev l hl x).rounds
  exact slices_Contains_int_int.calls k A0 c0 l x _ w hr hc hk
theorem take_reads {w : World} {ad : Addr} {l : List Int} (hr : Kd.C (Kd.int .i64) w (some ad) l.length l) (i : Nat) (hi : i ≤ l.length) : Kd.C (Kd.int .i64) w (some ad) (l.take i).length (l.take i) := by
  have hm : l.length ≤ 9223372036854775807 := hr.2.1
  have hlen : (l.take i).length = i := by rw [List.length_take]; omega
  refine Kd.C_of_reads (d := (0 : Int)) (h1 := fun _ => rfl) ⟨rfl, by omega, fun hn => ⟨ad, rfl, fun j hj => ?_⟩⟩
  have := tab_at hr (j : Int) (by omega) (by omega)
  rw [Int.toNat_natCast] at this
  rw [this]
  unfold rd
  rw [List.getD_eq_getElem?_getD, List.getD_eq_getElem?_getD, Int.toNat_natCast, List.getElem?_take_of_lt (by omega)]
set_option maxRecDepth 100000 in
set_option maxHeartbeats 4000000 in
theorem areDifferent_calls (A0 : Option Addr) (c0 : Nat) (l : List Int) (hl : l.length ≤ 1048576) (w : World) (hr : Kd.C (Kd.int .i64) w A0 l.length l) (hc : l.length ≤ c0) :
    Calls Try.prog 126 #[.slice A0 l.length c0] w fun e w' => e = .returned (.bool (diffB l)) ∧ Drawn0 w w' := by
  have HR := Aside0.mk hr
  clear hr
  go_enter Try.func126, Try.ntmps126
  go_wp2
  go_loopg [7] l.length (fun kq v7 w' => ∃ i : Int, v7 = .int .i64 i ∧ Aside0 (0 ≤ i ∧ i ≤ l.length) ∧ Aside0 ((l.length : Int) - i ≤ kq) ∧ Aside0 (∀ j : Int, 0 ≤ j → j < i → newB l j = true) ∧ Aside0 (Drawn0 w w'))
  case atStart => exact ⟨0, rfl, ⟨by omega⟩, ⟨by omega⟩, ⟨fun x h0 h1 => by omega⟩, ⟨Drawn0.refl _⟩⟩
  case round =>
    obtain ⟨i, rfl, HI, HK, HA, HD⟩ := hrel
    have h0 : 0 ≤ i := HI.out.1
    by_cases c6 : i < (l.length : Int)
    · obtain ⟨ad, e1⟩ := tab_some HR.out (by omega)
      cases e1
      have HTw := Kd.C_below HR.out HD.out.below
      have g1 := tab_at HTw i h0 c6
      have hn : newB l i = (ptB (rd l i) && !decide (rd l i ∈ l.take i.toNat)) := rfl
      have P1 := isPoint_calls (rd l i)
      have P2 : ∀ W, Drawn0 wr W → Calls Try.prog 90 #[.slice (some ad) i.toNat c0, .int .i64 (rd l i)] W fun e w' => e = .returned (.bool (decide (rd l i ∈ l.take i.toNat))) ∧ Drawn0 W w' := fun W hW => by
        have hlt : (l.take i.toNat).length = i.toNat := by rw [List.length_take]; omega
        have := contains_calls (some ad) c0 (l.take i.toNat) (by omega) (rd l i) W (take_reads (Kd.C_below HTw hW.below) i.toNat (by omega)) (by omega)
        rwa [hlt] at this
      have hcap : i ≤ (c0 : Int) := by omega
      obtain ⟨x, hx⟩ : ∃ x, rd l i = x := ⟨_, rfl⟩
      rw [hx] at g1 hn P1 P2
      clear hx HTw
      by_cases e1 : ptB x = true
      case neg =>
        have e1 := Bool.eq_false_iff.2 e1
        rw [e1] at P1 hn
        have HP := Aside0.mk P1
        have HF := Aside0.mk (diffB_hit h0 c6 (by rw [hn]; rfl))
        clear P1 P2 hn e1
        go_wp2_with (go_at_call 73; refine (HP.out _).mono ?_; rintro e w' ⟨rfl, ⟨nd, rfl⟩⟩)
        go_ret
        exact ⟨by rw [HF.out]; rfl, HD.out.step _⟩
      case pos =>
        rw [e1] at P1 hn
        have HP := Aside0.mk P1
        by_cases e2 : x ∈ l.take i.toNat
        · rw [decide_eq_true e2] at P2 hn
          have HP2 := Aside0.mk P2
          have HF := Aside0.mk (diffB_hit h0 c6 (by rw [hn]; rfl))
          clear P1 P2 hn e1 e2
          go_wp2_with (first | (go_at_call 73; refine (HP.out _).mono ?_; rintro e w' ⟨rfl, ⟨nd, rfl⟩⟩) | (go_at_call 90; refine (HP2.out _ ⟨⟨_, rfl⟩⟩).mono ?_; rintro e w' ⟨rfl, ⟨nd2, rfl⟩⟩))
          go_ret
          exact ⟨by rw [HF.out]; rfl, HD.out.step _⟩
        · rw [decide_eq_false e2] at P2 hn
          have HP2 := Aside0.mk P2
          have HF := Aside0.mk hn
          clear P1 P2 hn e1 e2
          go_wp2_with (first | (go_at_call 73; refine (HP.out _).mono ?_; rintro e w' ⟨rfl, ⟨nd, rfl⟩⟩) | (go_at_call 90; refine (HP2.out _ ⟨⟨_, rfl⟩⟩).mono ?_; rintro e w' ⟨rfl, ⟨nd2, rfl⟩⟩))
          go_roundg (l.length - (i.toNat + 1))
          case measure => have := HK.out; omega
          case rel =>
            refine ⟨i + 1, rfl, ⟨by omega⟩, ⟨by omega⟩, ⟨fun x hx0 hx1 => ?_⟩, ⟨HD.out.step _⟩⟩
            by_cases e : x = i
            · rw [e]; exact HF.out
            · exact HA.out x hx0 (by omega)
    · go_wp2
      go_ret
      exact ⟨by rw [diffB_all fun j j0 j1 => HA.out j j0 (by have := HI.out; omega)]; rfl, HD.out⟩
theorem join_loop {t : List Int} (hn : ninesB t 81 = true) {p q : Int} (hp : In91 p) (hq : In91 q) (d : Nat) : ∀ (i : Int), 0 ≤ i → i + d = 91 → (∀ l : Int, 0 ≤ l → l < i → (onB t p l && onB t q l) = false) → Ev (fun k => impl_plane_join.l0 k t p q i) (joinI t p q) := by
  induction d with
  | zero =>
    intro i h0 h1 h
    refine Ev.step (fun k => by rw [impl_plane_join.l0]) ?_
    refine Ev.neg (by omega) (Ev.done ?_)
    unfold joinI
    rw [firstI_none fun l l0 l1 => h l l0 (by omega)]
  | succ d ih =>
    intro i h0 h1 h
    have e1 := plane_on_eq hn hp (l := i) ⟨h0, by omega⟩
    have e2 := plane_on_eq hn hq (l := i) ⟨h0, by omega⟩
    refine Ev.step (fun k => by rw [impl_plane_join.l0]) ?_
    simp (disch := omega) only [w64, e1, e2, Option.bind_some]
    refine Ev.pos (by omega) ?_
    have next : (onB t p i && onB t q i) = false → Ev (fun k => impl_plane_join.l0 k t p q (i + 1)) (joinI t p q) := fun hb => ih (i + 1) (by omega) (by omega) fun l l0 l1 => by
      by_cases e : l = i
      · rw [e]; exact hb
      · exact h l l0 (by omega)
    by_cases a : onB t p i = true
    · refine Ev.pos a ?_
      by_cases b : onB t q i = true
      · refine Ev.pos b (Ev.done ?_)
        unfold joinI
        rw [firstI_some i h0 (by omega) (by rw [a, b]; rfl) h]
      · exact Ev.neg b (next (by rw [Bool.eq_false_iff.2 b, Bool.and_false]))
    · exact Ev.neg a (next (by rw [Bool.eq_false_iff.2 a, Bool.false_and]))
theorem join_ev {t : List Int} (hn : ninesB t 81 = true) {p q : Int} (hp : In91 p) (hq : In91 q) : Ev (fun k => impl_plane_join.f k t p q) (joinI t p q) :=
  join_loop hn hp hq 91 0 (by omega) (by omega) (fun l h0 h1 => by omega)
end Go.Proofs.Ytcbkoecanldlpaa.X
namespace Go.Proofs.Ytcbkoecanldlpaa.P
open Go.RowKit Go.Proofs.YtcbkoecanldlpaaW.PrintWords Go.Proofs.YtcbkoecanldlpaaW.PrintLast
def impl_areDifferent.f (l0 : List Int) : Option Bool := if l0.length ≤ 1048576 then some (X.diffB l0) else none
theorem impl_areDifferent.calls (A0 : Option Addr) (c0 : Nat) (l0 : List Int) (r : Bool) (w : World) (hr0 : Kd.C (Kd.int .i64) w A0 l0.length l0) (hc0 : l0.length ≤ c0) (h : impl_areDifferent.f l0 = some r) :
    Calls Try.prog 126 #[.slice A0 l0.length c0] w fun e w' => e = .returned (.bool r) ∧ Drawn0 w w' := by
  unfold impl_areDifferent.f at h
  by_cases hn : l0.length ≤ 1048576
  · rw [if_pos hn] at h
    obtain rfl := Option.some.inj h
    exact X.areDifferent_calls A0 c0 l0 hn w hr0 hc0
  · rw [if_neg hn] at h; exact absurd h (by simp)
end Go.Proofs.Ytcbkoecanldlpaa.P

namespace Go.Proofs.Ytcbkoecanldlpaa.P
open Go.RowKit Go.Proofs.YtcbkoecanldlpaaW.PrintWords Go.Proofs.YtcbkoecanldlpaaW.PrintLast
set_option linter.unusedVariables false
set_option linter.unusedSimpArgs false

mutual
def impl_plane_isTwin.j0 : Nat → List Int → List Int → Bool → Option (Bool)
 | 0, _, _, _ => none
 | k + 1, x0, x1, x41 => if x41 = true then (some false) else (impl_plane_isTwin.l0 k x0 x1 (([] : List Int)) 1)
def impl_plane_isTwin.l0 : Nat → List Int → List Int → List Int → Int → Option (Bool)
 | 0, _, _, _, _ => none
 | k + 1, x0, x1, x5, x6 => if x6 ≤ 3 then (if 0 < (x1.length : Int) then (if 0 ≤ x6 then (if x6 < (x1.length : Int) then ((impl_plane_join.f k x0 (rd x1 0) (rd x1 x6)).bind fun t262 => (if 0 ≤ (wrap64 (x6 + 3)) then (if (wrap64 (x6 + 3)) < (x1.length : Int) then ((impl_plane_on.f x0 (rd x1 (wrap64 (x6 + 3))) t262).bind fun t264 => (if t264 = true then ((slices_Contains_int_int.f k x5 t262).bind fun t265 => (if t265 = true then (some false) else (if x5.length < 17592186044416 then (impl_plane_isTwin.l0 k x0 x1 (x5 ++ [t262]) (wrap64 (x6 + 1))) else (none)))) else (some false))) else (none)) else (none))) else (none)) else (none)) else (none)) else (some true)
end
def impl_plane_isTwin.f (k : Nat) (l0 : List Int) (l1 : List Int) : Option (Bool) := if (l1.length : Int) = 7 then ((impl_areDifferent.f l1).bind fun t248 => (if t248 = true then (if 1 < (l1.length : Int) then (if 2 < (l1.length : Int) then (if 3 < (l1.length : Int) then ((impl_plane_three.f k l0 (rd l1 1) (rd l1 2) (rd l1 3)).bind fun t252 => (if t252 = true then (impl_plane_isTwin.j0 k l0 l1 true) else (if 4 < (l1.length : Int) then (if 5 < (l1.length : Int) then (if 6 < (l1.length : Int) then ((impl_plane_three.f k l0 (rd l1 4) (rd l1 5) (rd l1 6)).bind fun t256 => (impl_plane_isTwin.j0 k l0 l1 t256)) else (none)) else (none)) else (none)))) else (none)) else (none)) else (none)) else (impl_plane_isTwin.j0 k l0 l1 true))) else (impl_plane_isTwin.j0 k l0 l1 true)
def impl_plane_isTwin.T1 : Bool × List (List Nat × List Nat) := (true, [([], []), ([0], [0]), ([1], [1]), ([2], [2]), ([3], [3]), ([4, 3, 3], [3, 4]), ([5, 3], [3, 5]), ([3, 6], [3, 6]), ([7, 5], [7]), ([8], [8]), ([8], [8]), ([10, 8], [8, 10]), ([11, 8], [8, 11]), ([8], [8]), ([13, 8], [8, 13]), ([14, 8], [8, 14]), ([8], [8]), ([16, 8], [8, 16]), ([17, 8], [8, 17]), ([9, 12, 15, 18, 8, 8], [8, 9, 12, 15, 18]), ([8, 19], [8, 19]), ([20, 19], [20]), ([21], [21]), ([21], [21]), ([23, 21], [21, 23]), ([24, 21], [21, 24]), ([21], [21]), ([26, 21], [21, 26]), ([27, 21], [21, 27]), ([21], [21]), ([29, 21], [21, 29]), ([30, 21], [21, 30]), ([22, 25, 28, 31, 21, 21], [21, 22, 25, 28, 31]), ([21, 32], [21, 32])])
def impl_plane_isTwin.B1 : List Nat := [0, 1, 3, 7, 15, 31, 63, 127, 255, 511, 511, 1535, 3583, 511, 8703, 25087, 511, 66047, 197119, 524287, 1048575, 2097151, 4194303, 4194303, 12582911, 29360127, 4194303, 71303167, 205520895, 4194303, 541065215, 1614807039, 4294967295, 8589934591]
theorem impl_plane_isTwin.tab1 : rtab .any (opsOf Try.f62 1) = impl_plane_isTwin.T1 := by kernel_rfl
theorem impl_plane_isTwin.bits1 : waitsOk impl_plane_isTwin.T1.2 impl_plane_isTwin.B1 = true := by kernel_rfl
def impl_plane_isTwin.T7 : Bool × List (List Nat × List Nat) := (true, [([], []), ([], []), ([1], [1]), ([2], [2]), ([], []), ([], []), ([4, 5], [4, 5]), ([6], [6]), ([0, 3, 7], [0, 3, 7]), ([8, 8, 0, 1, 2, 3, 4, 5, 6, 7, 8], [8])])
def impl_plane_isTwin.B7 : List Nat := [0, 0, 2, 6, 0, 0, 48, 112, 255, 511]
theorem impl_plane_isTwin.tab7 : rtab .any (opsOf Try.f62 7) = impl_plane_isTwin.T7 := by kernel_rfl
theorem impl_plane_isTwin.bits7 : waitsOk impl_plane_isTwin.T7.2 impl_plane_isTwin.B7 = true := by kernel_rfl
set_option maxHeartbeats 8000000 in
set_option maxRecDepth 100000 in
theorem impl_plane_isTwin.calls (k : Nat) (A0 : Option Addr) (c0 : Nat) (l0 : List Int) (A1 : Option Addr) (c1 : Nat) (l1 : List Int) (r : Bool) (w : World) (hr0 : Kd.C (Kd.int .i64) w A0 l0.length l0) (hc0 : l0.length ≤ c0) (hr1 : Kd.C (Kd.int .i64) w A1 l1.length l1) (hc1 : l1.length ≤ c1) (h : impl_plane_isTwin.f k l0 l1 = some r) :
  Calls Try.prog 62 #[.slice A0 l0.length c0, .slice A1 l1.length c1] w fun e w' => e = .returned (.bool r) ∧ Below w.heap.size w w' := by
 have HR0 := Aside0.mk hr0
 have HC0 := Aside0.mk hc0
 clear hr0 hc0
 have HR1 := Aside0.mk hr1
 have HC1 := Aside0.mk hc1
 clear hr1 hc1
 have HB := Aside0.mk (Below.refl w.heap.size w)
 have H : (if (l1.length : Int) = 7 then ((impl_areDifferent.f l1).bind fun t248 => (if t248 = true then (if 1 < (l1.length : Int) then (if 2 < (l1.length : Int) then (if 3 < (l1.length : Int) then ((impl_plane_three.f k l0 (rd l1 1) (rd l1 2) (rd l1 3)).bind fun t252 => (if t252 = true then (impl_plane_isTwin.j0 k l0 l1 true) else (if 4 < (l1.length : Int) then (if 5 < (l1.length : Int) then (if 6 < (l1.length : Int) then ((impl_plane_three.f k l0 (rd l1 4) (rd l1 5) (rd l1 6)).bind fun t256 => (impl_plane_isTwin.j0 k l0 l1 t256)) else (none)) else (none)) else (none)))) else (none)) else (none)) else (none)) else (impl_plane_isTwin.j0 k l0 l1 true))) else (impl_plane_isTwin.j0 k l0 l1 true)) = some r := h
 clear h
 have HC3 := Aside0.mk H
 clear H
 go_enter Try.func62, Try.ntmps62
 go_upto_region 1 with (fail)
 go_cut [41] (fun v41 wc => ∃ (kq : Nat) (x41_2 : Bool), v41 = .bool x41_2 ∧ Aside0 (impl_plane_isTwin.j0 kq l0 l1 x41_2 = some r) ∧ Aside0 (kq ≤ k) ∧ Aside0 (Below w.heap.size w wc))
 case first =>
  have H := HC3.out
  clear HC3
  by_cases c4 : (l1.length : Int) = 7
  ·rw [if_pos c4] at H
   have c4b0 : ((l1.length : Int) == 7) = true := beq_iff_eq.mpr c4
   have c4b1 : ((l1.length : Int) != 7) = false := bne_eq_false_iff_eq.mpr c4
   clear c4
   (first | rw [c4b0] | (simp only [i64_w, i32_w]; rw [c4b0]) | skip)
   replace H := Option.bind_eq_some_iff.mp H
   obtain ⟨t248, A50, H⟩ := H
   replace H : (if t248 = true then (if 1 < (l1.length : Int) then (if 2 < (l1.length : Int) then (if 3 < (l1.length : Int) then ((impl_plane_three.f k l0 (rd l1 1) (rd l1 2) (rd l1 3)).bind fun t252 => (if t252 = true then (impl_plane_isTwin.j0 k l0 l1 true) else (if 4 < (l1.length : Int) then (if 5 < (l1.length : Int) then (if 6 < (l1.length : Int) then ((impl_plane_three.f k l0 (rd l1 4) (rd l1 5) (rd l1 6)).bind fun t256 => (impl_plane_isTwin.j0 k l0 l1 t256)) else (none)) else (none)) else (none)))) else (none)) else (none)) else (none)) else (impl_plane_isTwin.j0 k l0 l1 true)) = some r := H
   have A5 := Aside0.mk A50
   clear A50
   by_cases c6 : t248 = true
   ·subst c6
    have H1 : (if 1 < (l1.length : Int) then (if 2 < (l1.length : Int) then (if 3 < (l1.length : Int) then ((impl_plane_three.f k l0 (rd l1 1) (rd l1 2) (rd l1 3)).bind fun t252 => (if t252 = true then (impl_plane_isTwin.j0 k l0 l1 true) else (if 4 < (l1.length : Int) then (if 5 < (l1.length : Int) then (if 6 < (l1.length : Int) then ((impl_plane_three.f k l0 (rd l1 4) (rd l1 5) (rd l1 6)).bind fun t256 => (impl_plane_isTwin.j0 k l0 l1 t256)) else (none)) else (none)) else (none)))) else (none)) else (none)) else (none)) = some r := by rw [if_pos rfl] at H; exact H
    clear H
    have H := H1
    clear H1
    by_cases c7 : 1 < (l1.length : Int)
    ·rw [if_pos c7] at H
     have c7b0 : decide (1 < (l1.length : Int)) = true := decide_eq_true c7
     have c7b1 : decide (1 < l1.length) = true := decide_eq_true (by omega)
     clear c7
     by_cases c8 : 2 < (l1.length : Int)
     ·rw [if_pos c8] at H
      have c8b0 : decide (2 < (l1.length : Int)) = true := decide_eq_true c8
      have c8b1 : decide (2 < l1.length) = true := decide_eq_true (by omega)
      clear c8
      by_cases c9 : 3 < (l1.length : Int)
      ·rw [if_pos c9] at H
       have c9b0 : decide (3 < (l1.length : Int)) = true := decide_eq_true c9
       have c9b1 : decide (3 < l1.length) = true := decide_eq_true (by omega)
       clear c9
       replace H := Option.bind_eq_some_iff.mp H
       obtain ⟨t252, A100, H⟩ := H
       replace H : (if t252 = true then (impl_plane_isTwin.j0 k l0 l1 true) else (if 4 < (l1.length : Int) then (if 5 < (l1.length : Int) then (if 6 < (l1.length : Int) then ((impl_plane_three.f k l0 (rd l1 4) (rd l1 5) (rd l1 6)).bind fun t256 => (impl_plane_isTwin.j0 k l0 l1 t256)) else (none)) else (none)) else (none))) = some r := H
       have A10 := Aside0.mk A100
       clear A100
       by_cases c11 : t252 = true
       ·subst c11
        have H1 : (impl_plane_isTwin.j0 k l0 l1 true) = some r := by rw [if_pos rfl] at H; exact H
        clear H
        have H := H1
        clear H1
        have H' := Aside0.mk H
        clear H
        try go_wp2
        have n0_ := Aside0.mk (below_drew1 HB.out)
        clear HB
        have HB := n0_
        clear n0_
        have p249 : 0 ≤ (1 : Int) := (by omega)
        have q249 : 1 < (l1.length : Int) := dd_
        obtain ⟨ad249, e249, hx249_0⟩ := Kd.at_int HR1.out 1 p249 q249
        have hw249_0 := hx249_0
        (try rw [show ((1 : Int)).toNat = 1 from rfl] at hw249_0)
        (try rw [show 1 * 1 = 1 from rfl] at hw249_0)
        (try simp only [Nat.reduceMul, Nat.reduceEqDiff, Go.Addr.add, ↓reduceIte] at hw249_0)
        cases e249
        (try simp only [show (1 : Int).toNat = 1 from rfl, Nat.reduceMul, Nat.reduceEqDiff, Go.Addr.add, ↓reduceIte] at hx249_0)
        have qi249 : (1 < l1.length) = True := eq_true (by omega)
        (try rw [show ((1 : Int)).toNat = 1 from rfl] at hx249_0)
        replace hx249_0 := hc_ HB hx249_0
        replace p249 := eq_true p249
        replace q249 := eq_true q249
        have p250 : 0 ≤ (2 : Int) := (by omega)
        have q250 : 2 < (l1.length : Int) := dd_
        obtain ⟨ad250, e250, hx250_0⟩ := Kd.at_int HR1.out 2 p250 q250
        have hw250_0 := hx250_0
        (try rw [show ((2 : Int)).toNat = 2 from rfl] at hw250_0)
        (try rw [show 2 * 1 = 2 from rfl] at hw250_0)
        (try simp only [Nat.reduceMul, Nat.reduceEqDiff, Go.Addr.add, ↓reduceIte] at hw250_0)
        obtain rfl : ad249 = ad250 := (by injection e250)
        (try simp only [show (2 : Int).toNat = 2 from rfl, Nat.reduceMul, Nat.reduceEqDiff, Go.Addr.add, ↓reduceIte] at hx250_0)
        have qi250 : (2 < l1.length) = True := eq_true (by omega)
        (try rw [show ((2 : Int)).toNat = 2 from rfl] at hx250_0)
        replace hx250_0 := hc_ HB hx250_0
        replace p250 := eq_true p250
        replace q250 := eq_true q250
        have p251 : 0 ≤ (3 : Int) := (by omega)
        have q251 : 3 < (l1.length : Int) := dd_
        obtain ⟨ad251, e251, hx251_0⟩ := Kd.at_int HR1.out 3 p251 q251
        have hw251_0 := hx251_0
        (try rw [show ((3 : Int)).toNat = 3 from rfl] at hw251_0)
        (try rw [show 3 * 1 = 3 from rfl] at hw251_0)
        (try simp only [Nat.reduceMul, Nat.reduceEqDiff, Go.Addr.add, ↓reduceIte] at hw251_0)
        obtain rfl : ad249 = ad251 := (by injection e251)
        (try simp only [show (3 : Int).toNat = 3 from rfl, Nat.reduceMul, Nat.reduceEqDiff, Go.Addr.add, ↓reduceIte] at hx251_0)
        have qi251 : (3 < l1.length) = True := eq_true (by omega)
        (try rw [show ((3 : Int)).toNat = 3 from rfl] at hx251_0)
        replace hx251_0 := hc_ HB hx251_0
        replace p251 := eq_true p251
        replace q251 := eq_true q251
        refine start_ (n := 34) (S := fun w' => w'.cell? ⟨ad249.block, ad249.off + 1, none⟩ = some (.int .i64 (rd l1 1)) ∧ w'.cell? ⟨ad249.block, ad249.off + 2, none⟩ = some (.int .i64 (rd l1 2)) ∧ w'.cell? ⟨ad249.block, ad249.off + 3, none⟩ = some (.int .i64 (rd l1 3))) (ds := []) #[F_,F_,F_,F_,F_,F_,F_,F_,F_,F_,F_,F_,F_,F_,F_,F_,F_,F_,F_,F_,F_,F_,F_,F_,F_,F_,F_,F_,F_,F_,F_,F_,F_,F_] (by kernel_rfl) rfl rfl ⟨(hc_ HB hw249_0), (hc_ HB hw250_0), (hc_ HB hw251_0)⟩ (fun hHeld => ?_); refine with_tabW impl_plane_isTwin.tab1 impl_plane_isTwin.bits1 (fun HT_ HW_ => ?_)
        generalize w.drew = w12 at HB hx249_0 hx250_0 hx251_0 hHeld ⊢
        refine p_ 0 8 (m_ 34 1) HT_.out ?_
        refine p_ 1 9 (m_ 34 3) HT_.out ?_
        refine p_ 2 10 (m_ 34 7) HT_.out ?_
        refine p_ 3 11 (m_ 34 15) HT_.out ?_
        refine p_ 4 12 (m_ 34 31) HT_.out ?_
        refine one_ (i := 5) (N := some 13) (m_ 34 63) rfl rfl (one_of HT_.out (by kernel_rfl)) (by decide) (fun K hK => ?_)
        refine goes_ Try.func126 (by kernel_rfl) rfl #[.slice _ l1.length c1] (by rfl) rfl rfl ll_ ?_
        with_reducible refine (impl_areDifferent.calls _ _ l1 true _ ?side1 ?side2 A5.out).mono ?_
        (case side1 => exact sb_ HR1 HB)
        (case side2 => exact HC1.out)
        rintro e w' ⟨rfl, ⟨nd, rfl⟩⟩
        refine ⟨_, rfl, ?_⟩
        refine hK.out _ _ ⟨(hc_ HB hw249_0), (hc_ HB hw250_0), (hc_ HB hw251_0)⟩ (fun hHeld => ?_)
        clear hK K
        refine norm_ (a' := ?_) ?_ ?_; rotate_left; (show Act.put _ (some 13) _ = _; simp only [Act.put, List.setIfInBounds_toArray, List.set_cons_zero, List.set_cons_succ, i64_w, i32_w]; rfl)
        refine p_ 6 14 (m_ 34 127) HT_.out ?_
        refine p_ 7 15 (m_ 34 255) HT_.out ?_
        refine p_ 8 16 (m_ 34 511) HT_.out ?_
        refine p_ 9 17 (m_ 34 1023) HT_.out ?_
        refine p_ 10 18 (m_ 34 2047) HT_.out ?_
        refine p_ 11 19 (m_ 34 4095) HT_.out ?_
        refine p_ 13 21 (m_ 34 12287) HT_.out ?_
        refine p_ 14 22 (m_ 34 28671) HT_.out ?_
        refine p_ 16 24 (m_ 34 94207) HT_.out ?_
        refine p_ 17 25 (m_ 34 225279) HT_.out ?_
        refine t3_ 12 20 (m_ 34 229375) HT_.out HW_.out hHeld ?_
        refine t3_ 15 23 (m_ 34 262143) HT_.out HW_.out hHeld ?_
        refine t3_ 18 26 (m_ 34 524287) HT_.out HW_.out hHeld ?_
        refine one_ (i := 19) (N := some 27) (m_ 34 1048575) rfl rfl (one_of HT_.out (by kernel_rfl)) (by decide) (fun K hK => ?_)
        refine goes_ Try.func127 (by kernel_rfl) rfl #[.slice _ l0.length c0, .int .i64 (rd l1 1), .int .i64 (rd l1 2), .int .i64 (rd l1 3)] (by rfl) rfl rfl ll_ ?_
        with_reducible refine (impl_plane_three.calls k _ _ l0 (rd l1 1) (rd l1 2) (rd l1 3) true _ ?side1 ?side2 A10.out).mono ?_
        (case side1 => repeat (first | exact (Kd.C_below HR0.out (bb_ HB)) | (with_reducible refine Kd.C_alloc ?_ _) | (with_reducible refine Kd.C_drewN ?_ _) | (with_reducible refine Kd.C_drew ?_)))
        (case side2 => exact HC0.out)
        rintro e w' ⟨rfl, ⟨nd, rfl⟩⟩
        refine ⟨_, rfl, ?_⟩
        refine hK.out _ _ ⟨(hc_ HB hw249_0), (hc_ HB hw250_0), (hc_ HB hw251_0)⟩ (fun hHeld => ?_)
        clear hK K
        refine norm_ (a' := ?_) ?_ ?_; rotate_left; (show Act.put _ (some 27) _ = _; simp only [Act.put, List.setIfInBounds_toArray, List.set_cons_zero, List.set_cons_succ, i64_w, i32_w]; rfl)
        refine p_ 20 28 (m_ 34 2097151) HT_.out ?_
        refine p_ 21 29 (m_ 34 4194303) HT_.out ?_
        refine u_ 22 30 (m_ 34 8388607) HT_.out ?_
        refine u_ 23 31 (m_ 34 16777215) HT_.out ?_
        refine u_ 24 32 (m_ 34 33554431) HT_.out ?_
        refine u_ 25 33 (m_ 34 67108863) HT_.out ?_
        refine u_ 26 34 (m_ 34 134217727) HT_.out ?_
        refine u_ 27 35 (m_ 34 268435455) HT_.out ?_
        refine u_ 28 36 (m_ 34 536870911) HT_.out ?_
        refine u_ 29 37 (m_ 34 1073741823) HT_.out ?_
        refine u_ 30 38 (m_ 34 2147483647) HT_.out ?_
        refine u_ 31 39 (m_ 34 4294967295) HT_.out ?_
        refine u_ 32 40 (m_ 34 8589934591) HT_.out ?_
        refine p_ 33 41 (m_ 34 17179869183) HT_.out ?_
        refine done_ (done_of HT_.out (by kernel_rfl)) ?_
        try go_wp2
        go_meet
        case rel => exact ⟨_, (true), (by first | rfl | (simp; done) | (simp [*]; done)), H', ⟨by first | omega | exact Nat.le_refl _⟩, ⟨by repeat (first | (with_reducible first | exact HB.out | apply below_alloc | apply pw_below_drewN | apply below_drew1) | exact HB.out)⟩⟩
       ·replace c11 := Bool.eq_false_iff.mpr c11
        subst c11
        have H1 : (if 4 < (l1.length : Int) then (if 5 < (l1.length : Int) then (if 6 < (l1.length : Int) then ((impl_plane_three.f k l0 (rd l1 4) (rd l1 5) (rd l1 6)).bind fun t256 => (impl_plane_isTwin.j0 k l0 l1 t256)) else (none)) else (none)) else (none)) = some r := by rw [if_neg (show ¬ (false = true) by decide)] at H; exact H
        clear H
        have H := H1
        clear H1
        by_cases c13 : 4 < (l1.length : Int)
        ·rw [if_pos c13] at H
         have c13b0 : decide (4 < (l1.length : Int)) = true := decide_eq_true c13
         have c13b1 : decide (4 < l1.length) = true := decide_eq_true (by omega)
         clear c13
         by_cases c14 : 5 < (l1.length : Int)
         ·rw [if_pos c14] at H
          have c14b0 : decide (5 < (l1.length : Int)) = true := decide_eq_true c14
          have c14b1 : decide (5 < l1.length) = true := decide_eq_true (by omega)
          clear c14
          by_cases c15 : 6 < (l1.length : Int)
          ·rw [if_pos c15] at H
           have c15b0 : decide (6 < (l1.length : Int)) = true := decide_eq_true c15
           have c15b1 : decide (6 < l1.length) = true := decide_eq_true (by omega)
           clear c15
           replace H := Option.bind_eq_some_iff.mp H
           obtain ⟨t256, A160, H⟩ := H
           replace H : (impl_plane_isTwin.j0 k l0 l1 t256) = some r := H
           have A16 := Aside0.mk A160
           clear A160
           have H' := Aside0.mk H
           clear H
           try go_wp2
           have n0_ := Aside0.mk (below_drew1 HB.out)
           clear HB
           have HB := n0_
           clear n0_
           have p249 : 0 ≤ (1 : Int) := (by omega)
           have q249 : 1 < (l1.length : Int) := dd_
           obtain ⟨ad249, e249, hx249_0⟩ := Kd.at_int HR1.out 1 p249 q249
           have hw249_0 := hx249_0
           (try rw [show ((1 : Int)).toNat = 1 from rfl] at hw249_0)
           (try rw [show 1 * 1 = 1 from rfl] at hw249_0)
           (try simp only [Nat.reduceMul, Nat.reduceEqDiff, Go.Addr.add, ↓reduceIte] at hw249_0)
           cases e249
           (try simp only [show (1 : Int).toNat = 1 from rfl, Nat.reduceMul, Nat.reduceEqDiff, Go.Addr.add, ↓reduceIte] at hx249_0)
           have qi249 : (1 < l1.length) = True := eq_true (by omega)
           (try rw [show ((1 : Int)).toNat = 1 from rfl] at hx249_0)
           replace hx249_0 := hc_ HB hx249_0
           replace p249 := eq_true p249
           replace q249 := eq_true q249
           have p250 : 0 ≤ (2 : Int) := (by omega)
           have q250 : 2 < (l1.length : Int) := dd_
           obtain ⟨ad250, e250, hx250_0⟩ := Kd.at_int HR1.out 2 p250 q250
           have hw250_0 := hx250_0
           (try rw [show ((2 : Int)).toNat = 2 from rfl] at hw250_0)
           (try rw [show 2 * 1 = 2 from rfl] at hw250_0)
           (try simp only [Nat.reduceMul, Nat.reduceEqDiff, Go.Addr.add, ↓reduceIte] at hw250_0)
           obtain rfl : ad249 = ad250 := (by injection e250)
           (try simp only [show (2 : Int).toNat = 2 from rfl, Nat.reduceMul, Nat.reduceEqDiff, Go.Addr.add, ↓reduceIte] at hx250_0)
           have qi250 : (2 < l1.length) = True := eq_true (by omega)
           (try rw [show ((2 : Int)).toNat = 2 from rfl] at hx250_0)
           replace hx250_0 := hc_ HB hx250_0
           replace p250 := eq_true p250
           replace q250 := eq_true q250
           have p251 : 0 ≤ (3 : Int) := (by omega)
           have q251 : 3 < (l1.length : Int) := dd_
           obtain ⟨ad251, e251, hx251_0⟩ := Kd.at_int HR1.out 3 p251 q251
           have hw251_0 := hx251_0
           (try rw [show ((3 : Int)).toNat = 3 from rfl] at hw251_0)
           (try rw [show 3 * 1 = 3 from rfl] at hw251_0)
           (try simp only [Nat.reduceMul, Nat.reduceEqDiff, Go.Addr.add, ↓reduceIte] at hw251_0)
           obtain rfl : ad249 = ad251 := (by injection e251)
           (try simp only [show (3 : Int).toNat = 3 from rfl, Nat.reduceMul, Nat.reduceEqDiff, Go.Addr.add, ↓reduceIte] at hx251_0)
           have qi251 : (3 < l1.length) = True := eq_true (by omega)
           (try rw [show ((3 : Int)).toNat = 3 from rfl] at hx251_0)
           replace hx251_0 := hc_ HB hx251_0
           replace p251 := eq_true p251
           replace q251 := eq_true q251
           have p253 : 0 ≤ (4 : Int) := (by omega)
           have q253 : 4 < (l1.length : Int) := dd_
           obtain ⟨ad253, e253, hx253_0⟩ := Kd.at_int HR1.out 4 p253 q253
           have hw253_0 := hx253_0
           (try rw [show ((4 : Int)).toNat = 4 from rfl] at hw253_0)
           (try rw [show 4 * 1 = 4 from rfl] at hw253_0)
           (try simp only [Nat.reduceMul, Nat.reduceEqDiff, Go.Addr.add, ↓reduceIte] at hw253_0)
           obtain rfl : ad249 = ad253 := (by injection e253)
           (try simp only [show (4 : Int).toNat = 4 from rfl, Nat.reduceMul, Nat.reduceEqDiff, Go.Addr.add, ↓reduceIte] at hx253_0)
           have qi253 : (4 < l1.length) = True := eq_true (by omega)
           (try rw [show ((4 : Int)).toNat = 4 from rfl] at hx253_0)
           replace hx253_0 := hc_ HB hx253_0
           replace p253 := eq_true p253
           replace q253 := eq_true q253
           have p254 : 0 ≤ (5 : Int) := (by omega)
           have q254 : 5 < (l1.length : Int) := dd_
           obtain ⟨ad254, e254, hx254_0⟩ := Kd.at_int HR1.out 5 p254 q254
           have hw254_0 := hx254_0
           (try rw [show ((5 : Int)).toNat = 5 from rfl] at hw254_0)
           (try rw [show 5 * 1 = 5 from rfl] at hw254_0)
           (try simp only [Nat.reduceMul, Nat.reduceEqDiff, Go.Addr.add, ↓reduceIte] at hw254_0)
           obtain rfl : ad249 = ad254 := (by injection e254)
           (try simp only [show (5 : Int).toNat = 5 from rfl, Nat.reduceMul, Nat.reduceEqDiff, Go.Addr.add, ↓reduceIte] at hx254_0)
           have qi254 : (5 < l1.length) = True := eq_true (by omega)
           (try rw [show ((5 : Int)).toNat = 5 from rfl] at hx254_0)
           replace hx254_0 := hc_ HB hx254_0
           replace p254 := eq_true p254
           replace q254 := eq_true q254
           have p255 : 0 ≤ (6 : Int) := (by omega)
           have q255 : 6 < (l1.length : Int) := dd_
           obtain ⟨ad255, e255, hx255_0⟩ := Kd.at_int HR1.out 6 p255 q255
           have hw255_0 := hx255_0
           (try rw [show ((6 : Int)).toNat = 6 from rfl] at hw255_0)
           (try rw [show 6 * 1 = 6 from rfl] at hw255_0)
           (try simp only [Nat.reduceMul, Nat.reduceEqDiff, Go.Addr.add, ↓reduceIte] at hw255_0)
           obtain rfl : ad249 = ad255 := (by injection e255)
           (try simp only [show (6 : Int).toNat = 6 from rfl, Nat.reduceMul, Nat.reduceEqDiff, Go.Addr.add, ↓reduceIte] at hx255_0)
           have qi255 : (6 < l1.length) = True := eq_true (by omega)
           (try rw [show ((6 : Int)).toNat = 6 from rfl] at hx255_0)
           replace hx255_0 := hc_ HB hx255_0
           replace p255 := eq_true p255
           replace q255 := eq_true q255
           refine start_ (n := 34) (S := fun w' => w'.cell? ⟨ad249.block, ad249.off + 1, none⟩ = some (.int .i64 (rd l1 1)) ∧ w'.cell? ⟨ad249.block, ad249.off + 2, none⟩ = some (.int .i64 (rd l1 2)) ∧ w'.cell? ⟨ad249.block, ad249.off + 3, none⟩ = some (.int .i64 (rd l1 3)) ∧ w'.cell? ⟨ad249.block, ad249.off + 4, none⟩ = some (.int .i64 (rd l1 4)) ∧ w'.cell? ⟨ad249.block, ad249.off + 5, none⟩ = some (.int .i64 (rd l1 5)) ∧ w'.cell? ⟨ad249.block, ad249.off + 6, none⟩ = some (.int .i64 (rd l1 6))) (ds := []) #[F_,F_,F_,F_,F_,F_,F_,F_,F_,F_,F_,F_,F_,F_,F_,F_,F_,F_,F_,F_,F_,F_,F_,F_,F_,F_,F_,F_,F_,F_,F_,F_,F_,F_] (by kernel_rfl) rfl rfl ⟨(hc_ HB hw249_0), (hc_ HB hw250_0), (hc_ HB hw251_0), (hc_ HB hw253_0), (hc_ HB hw254_0), (hc_ HB hw255_0)⟩ (fun hHeld => ?_); refine with_tabW impl_plane_isTwin.tab1 impl_plane_isTwin.bits1 (fun HT_ HW_ => ?_)
           generalize w.drew = w17 at HB hx249_0 hx250_0 hx251_0 hx253_0 hx254_0 hx255_0 hHeld ⊢
           refine p_ 0 8 (m_ 34 1) HT_.out ?_
           refine p_ 1 9 (m_ 34 3) HT_.out ?_
           refine p_ 2 10 (m_ 34 7) HT_.out ?_
           refine p_ 3 11 (m_ 34 15) HT_.out ?_
           refine p_ 4 12 (m_ 34 31) HT_.out ?_
           refine one_ (i := 5) (N := some 13) (m_ 34 63) rfl rfl (one_of HT_.out (by kernel_rfl)) (by decide) (fun K hK => ?_)
           refine goes_ Try.func126 (by kernel_rfl) rfl #[.slice _ l1.length c1] (by rfl) rfl rfl ll_ ?_
           with_reducible refine (impl_areDifferent.calls _ _ l1 true _ ?side1 ?side2 A5.out).mono ?_
           (case side1 => exact sb_ HR1 HB)
           (case side2 => exact HC1.out)
           rintro e w' ⟨rfl, ⟨nd, rfl⟩⟩
           refine ⟨_, rfl, ?_⟩
           refine hK.out _ _ ⟨(hc_ HB hw249_0), (hc_ HB hw250_0), (hc_ HB hw251_0), (hc_ HB hw253_0), (hc_ HB hw254_0), (hc_ HB hw255_0)⟩ (fun hHeld => ?_)
           clear hK K
           refine norm_ (a' := ?_) ?_ ?_; rotate_left; (show Act.put _ (some 13) _ = _; simp only [Act.put, List.setIfInBounds_toArray, List.set_cons_zero, List.set_cons_succ, i64_w, i32_w]; rfl)
           refine p_ 6 14 (m_ 34 127) HT_.out ?_
           refine p_ 7 15 (m_ 34 255) HT_.out ?_
           refine p_ 8 16 (m_ 34 511) HT_.out ?_
           refine p_ 9 17 (m_ 34 1023) HT_.out ?_
           refine p_ 10 18 (m_ 34 2047) HT_.out ?_
           refine p_ 11 19 (m_ 34 4095) HT_.out ?_
           refine p_ 13 21 (m_ 34 12287) HT_.out ?_
           refine p_ 14 22 (m_ 34 28671) HT_.out ?_
           refine p_ 16 24 (m_ 34 94207) HT_.out ?_
           refine p_ 17 25 (m_ 34 225279) HT_.out ?_
           refine t6_ 12 20 (m_ 34 229375) HT_.out HW_.out hHeld ?_
           refine t6_ 15 23 (m_ 34 262143) HT_.out HW_.out hHeld ?_
           refine t6_ 18 26 (m_ 34 524287) HT_.out HW_.out hHeld ?_
           refine one_ (i := 19) (N := some 27) (m_ 34 1048575) rfl rfl (one_of HT_.out (by kernel_rfl)) (by decide) (fun K hK => ?_)
           refine goes_ Try.func127 (by kernel_rfl) rfl #[.slice _ l0.length c0, .int .i64 (rd l1 1), .int .i64 (rd l1 2), .int .i64 (rd l1 3)] (by rfl) rfl rfl ll_ ?_
           with_reducible refine (impl_plane_three.calls k _ _ l0 (rd l1 1) (rd l1 2) (rd l1 3) false _ ?side1 ?side2 A10.out).mono ?_
           (case side1 => repeat (first | exact (Kd.C_below HR0.out (bb_ HB)) | (with_reducible refine Kd.C_alloc ?_ _) | (with_reducible refine Kd.C_drewN ?_ _) | (with_reducible refine Kd.C_drew ?_)))
           (case side2 => exact HC0.out)
           rintro e w' ⟨rfl, ⟨nd, rfl⟩⟩
           refine ⟨_, rfl, ?_⟩
           refine hK.out _ _ ⟨(hc_ HB hw249_0), (hc_ HB hw250_0), (hc_ HB hw251_0), (hc_ HB hw253_0), (hc_ HB hw254_0), (hc_ HB hw255_0)⟩ (fun hHeld => ?_)
           clear hK K
           refine norm_ (a' := ?_) ?_ ?_; rotate_left; (show Act.put _ (some 27) _ = _; simp only [Act.put, List.setIfInBounds_toArray, List.set_cons_zero, List.set_cons_succ, i64_w, i32_w]; rfl)
           refine p_ 20 28 (m_ 34 2097151) HT_.out ?_
           refine p_ 21 29 (m_ 34 4194303) HT_.out ?_
           refine p_ 22 30 (m_ 34 8388607) HT_.out ?_
           refine p_ 23 31 (m_ 34 16777215) HT_.out ?_
           refine p_ 24 32 (m_ 34 33554431) HT_.out ?_
           refine p_ 26 34 (m_ 34 100663295) HT_.out ?_
           refine p_ 27 35 (m_ 34 234881023) HT_.out ?_
           refine p_ 29 37 (m_ 34 771751935) HT_.out ?_
           refine p_ 30 38 (m_ 34 1845493759) HT_.out ?_
           refine t6_ 25 33 (m_ 34 1879048191) HT_.out HW_.out hHeld ?_
           refine t6_ 28 36 (m_ 34 2147483647) HT_.out HW_.out hHeld ?_
           refine t6_ 31 39 (m_ 34 4294967295) HT_.out HW_.out hHeld ?_
           refine one_ (i := 32) (N := some 40) (m_ 34 8589934591) rfl rfl (one_of HT_.out (by kernel_rfl)) (by decide) (fun K hK => ?_)
           refine goes_ Try.func127 (by kernel_rfl) rfl #[.slice _ l0.length c0, .int .i64 (rd l1 4), .int .i64 (rd l1 5), .int .i64 (rd l1 6)] (by rfl) rfl rfl ll_ ?_
           with_reducible refine (impl_plane_three.calls k _ _ l0 (rd l1 4) (rd l1 5) (rd l1 6) t256 _ ?side1 ?side2 A16.out).mono ?_
           (case side1 => repeat (first | exact (Kd.C_below HR0.out (bb_ HB)) | (with_reducible refine Kd.C_alloc ?_ _) | (with_reducible refine Kd.C_drewN ?_ _) | (with_reducible refine Kd.C_drew ?_)))
           (case side2 => exact HC0.out)
           rintro e w' ⟨rfl, ⟨nd, rfl⟩⟩
           refine ⟨_, rfl, ?_⟩
           refine hK.out _ _ ⟨(hc_ HB hw249_0), (hc_ HB hw250_0), (hc_ HB hw251_0), (hc_ HB hw253_0), (hc_ HB hw254_0), (hc_ HB hw255_0)⟩ (fun hHeld => ?_)
           clear hK K
           refine norm_ (a' := ?_) ?_ ?_; rotate_left; (show Act.put _ (some 40) _ = _; simp only [Act.put, List.setIfInBounds_toArray, List.set_cons_zero, List.set_cons_succ, i64_w, i32_w]; rfl)
           refine p_ 33 41 (m_ 34 17179869183) HT_.out ?_
           refine done_ (done_of HT_.out (by kernel_rfl)) ?_
           try go_wp2
           go_meet
           case rel => exact ⟨_, (t256), (by first | rfl | (simp; done) | (simp [*]; done)), H', ⟨by first | omega | exact Nat.le_refl _⟩, ⟨by repeat (first | (with_reducible first | exact HB.out | apply below_alloc | apply pw_below_drewN | apply below_drew1) | exact HB.out)⟩⟩
          ·rw [if_neg c15] at H
           exact absurd H (by simp)
         ·rw [if_neg c14] at H
          exact absurd H (by simp)
        ·rw [if_neg c13] at H
         exact absurd H (by simp)
      ·rw [if_neg c9] at H
       exact absurd H (by simp)
     ·rw [if_neg c8] at H
      exact absurd H (by simp)
    ·rw [if_neg c7] at H
     exact absurd H (by simp)
   ·replace c6 := Bool.eq_false_iff.mpr c6
    subst c6
    have H1 : (impl_plane_isTwin.j0 k l0 l1 true) = some r := by rw [if_neg (show ¬ (false = true) by decide)] at H; exact H
    clear H
    have H := H1
    clear H1
    have H' := Aside0.mk H
    clear H
    try go_wp2
    have n0_ := Aside0.mk (below_drew1 HB.out)
    clear HB
    have HB := n0_
    clear n0_
    refine start_ (n := 34) (S := fun w' => True) (ds := []) #[F_,F_,F_,F_,F_,F_,F_,F_,F_,F_,F_,F_,F_,F_,F_,F_,F_,F_,F_,F_,F_,F_,F_,F_,F_,F_,F_,F_,F_,F_,F_,F_,F_,F_] (by kernel_rfl) rfl rfl trivial (fun hHeld => ?_); refine with_tabW impl_plane_isTwin.tab1 impl_plane_isTwin.bits1 (fun HT_ HW_ => ?_)
    generalize w.drew = w18 at HB hHeld ⊢
    refine p_ 0 8 (m_ 34 1) HT_.out ?_
    refine p_ 1 9 (m_ 34 3) HT_.out ?_
    refine p_ 2 10 (m_ 34 7) HT_.out ?_
    refine p_ 3 11 (m_ 34 15) HT_.out ?_
    refine p_ 4 12 (m_ 34 31) HT_.out ?_
    refine one_ (i := 5) (N := some 13) (m_ 34 63) rfl rfl (one_of HT_.out (by kernel_rfl)) (by decide) (fun K hK => ?_)
    refine goes_ Try.func126 (by kernel_rfl) rfl #[.slice _ l1.length c1] (by rfl) rfl rfl ll_ ?_
    with_reducible refine (impl_areDifferent.calls _ _ l1 false _ ?side1 ?side2 A5.out).mono ?_
    (case side1 => exact sb_ HR1 HB)
    (case side2 => exact HC1.out)
    rintro e w' ⟨rfl, ⟨nd, rfl⟩⟩
    refine ⟨_, rfl, ?_⟩
    refine hK.out _ _ trivial (fun hHeld => ?_)
    clear hK K
    refine norm_ (a' := ?_) ?_ ?_; rotate_left; (show Act.put _ (some 13) _ = _; simp only [Act.put, List.setIfInBounds_toArray, List.set_cons_zero, List.set_cons_succ, i64_w, i32_w]; rfl)
    refine p_ 6 14 (m_ 34 127) HT_.out ?_
    refine p_ 7 15 (m_ 34 255) HT_.out ?_
    refine p_ 8 16 (m_ 34 511) HT_.out ?_
    refine u_ 9 17 (m_ 34 1023) HT_.out ?_
    refine u_ 10 18 (m_ 34 2047) HT_.out ?_
    refine u_ 11 19 (m_ 34 4095) HT_.out ?_
    refine u_ 12 20 (m_ 34 8191) HT_.out ?_
    refine u_ 13 21 (m_ 34 16383) HT_.out ?_
    refine u_ 14 22 (m_ 34 32767) HT_.out ?_
    refine u_ 15 23 (m_ 34 65535) HT_.out ?_
    refine u_ 16 24 (m_ 34 131071) HT_.out ?_
    refine u_ 17 25 (m_ 34 262143) HT_.out ?_
    refine u_ 18 26 (m_ 34 524287) HT_.out ?_
    refine u_ 19 27 (m_ 34 1048575) HT_.out ?_
    refine p_ 20 28 (m_ 34 2097151) HT_.out ?_
    refine p_ 21 29 (m_ 34 4194303) HT_.out ?_
    refine u_ 22 30 (m_ 34 8388607) HT_.out ?_
    refine u_ 23 31 (m_ 34 16777215) HT_.out ?_
    refine u_ 24 32 (m_ 34 33554431) HT_.out ?_
    refine u_ 25 33 (m_ 34 67108863) HT_.out ?_
    refine u_ 26 34 (m_ 34 134217727) HT_.out ?_
    refine u_ 27 35 (m_ 34 268435455) HT_.out ?_
    refine u_ 28 36 (m_ 34 536870911) HT_.out ?_
    refine u_ 29 37 (m_ 34 1073741823) HT_.out ?_
    refine u_ 30 38 (m_ 34 2147483647) HT_.out ?_
    refine u_ 31 39 (m_ 34 4294967295) HT_.out ?_
    refine u_ 32 40 (m_ 34 8589934591) HT_.out ?_
    refine p_ 33 41 (m_ 34 17179869183) HT_.out ?_
    refine done_ (done_of HT_.out (by kernel_rfl)) ?_
    try go_wp2
    go_meet
    case rel => exact ⟨_, (true), (by first | rfl | (simp; done) | (simp [*]; done)), H', ⟨by first | omega | exact Nat.le_refl _⟩, ⟨by repeat (first | (with_reducible first | exact HB.out | apply below_alloc | apply pw_below_drewN | apply below_drew1) | exact HB.out)⟩⟩
  ·rw [if_neg c4] at H
   have c4b0 : ((l1.length : Int) == 7) = false := beq_eq_false_iff_ne.mpr c4
   have c4b1 : ((l1.length : Int) != 7) = true := bne_iff_ne.mpr c4
   (first | rw [c4b0] | (simp only [i64_w, i32_w]; rw [c4b0]) | skip)
   have H' := Aside0.mk H
   clear H
   try go_wp2
   have n0_ := Aside0.mk (below_drew1 HB.out)
   clear HB
   have HB := n0_
   clear n0_
   refine start_ (n := 34) (S := fun w' => True) (ds := []) #[F_,F_,F_,F_,F_,F_,F_,F_,F_,F_,F_,F_,F_,F_,F_,F_,F_,F_,F_,F_,F_,F_,F_,F_,F_,F_,F_,F_,F_,F_,F_,F_,F_,F_] (by kernel_rfl) rfl rfl trivial (fun hHeld => ?_); refine with_tabW impl_plane_isTwin.tab1 impl_plane_isTwin.bits1 (fun HT_ HW_ => ?_)
   generalize w.drew = w19 at HB hHeld ⊢
   refine p_ 0 8 (m_ 34 1) HT_.out ?_
   refine p_ 1 9 (m_ 34 3) HT_.out ?_
   refine p_ 2 10 (m_ 34 7) HT_.out ?_
   refine p_ 3 11 (m_ 34 15) HT_.out ?_
   refine u_ 4 12 (m_ 34 31) HT_.out ?_
   refine u_ 5 13 (m_ 34 63) HT_.out ?_
   refine u_ 6 14 (m_ 34 127) HT_.out ?_
   refine p_ 7 15 (m_ 34 255) HT_.out ?_
   refine p_ 8 16 (m_ 34 511) HT_.out ?_
   refine u_ 9 17 (m_ 34 1023) HT_.out ?_
   refine u_ 10 18 (m_ 34 2047) HT_.out ?_
   refine u_ 11 19 (m_ 34 4095) HT_.out ?_
   refine u_ 12 20 (m_ 34 8191) HT_.out ?_
   refine u_ 13 21 (m_ 34 16383) HT_.out ?_
   refine u_ 14 22 (m_ 34 32767) HT_.out ?_
   refine u_ 15 23 (m_ 34 65535) HT_.out ?_
   refine u_ 16 24 (m_ 34 131071) HT_.out ?_
   refine u_ 17 25 (m_ 34 262143) HT_.out ?_
   refine u_ 18 26 (m_ 34 524287) HT_.out ?_
   refine u_ 19 27 (m_ 34 1048575) HT_.out ?_
   refine p_ 20 28 (m_ 34 2097151) HT_.out ?_
   refine p_ 21 29 (m_ 34 4194303) HT_.out ?_
   refine u_ 22 30 (m_ 34 8388607) HT_.out ?_
   refine u_ 23 31 (m_ 34 16777215) HT_.out ?_
   refine u_ 24 32 (m_ 34 33554431) HT_.out ?_
   refine u_ 25 33 (m_ 34 67108863) HT_.out ?_
   refine u_ 26 34 (m_ 34 134217727) HT_.out ?_
   refine u_ 27 35 (m_ 34 268435455) HT_.out ?_
   refine u_ 28 36 (m_ 34 536870911) HT_.out ?_
   refine u_ 29 37 (m_ 34 1073741823) HT_.out ?_
   refine u_ 30 38 (m_ 34 2147483647) HT_.out ?_
   refine u_ 31 39 (m_ 34 4294967295) HT_.out ?_
   refine u_ 32 40 (m_ 34 8589934591) HT_.out ?_
   refine p_ 33 41 (m_ 34 17179869183) HT_.out ?_
   refine done_ (done_of HT_.out (by kernel_rfl)) ?_
   try go_wp2
   go_meet
   case rel => exact ⟨_, (true), (by first | rfl | (simp; done) | (simp [*]; done)), H', ⟨by first | omega | exact Nat.le_refl _⟩, ⟨by repeat (first | (with_reducible first | exact HB.out | apply below_alloc | apply pw_below_drewN | apply below_drew1) | exact HB.out)⟩⟩
 case rest =>
  clear HC3
  try clear c1
  try clear p2
  try clear c4
  try clear c4b0
  try clear c4b1
  try clear c6
  try clear c7
  try clear c8
  try clear c9
  try clear c12
  try clear c13
  try clear c14
  try clear c15
  obtain ⟨kq, x41_2, rfl, HA, HJ2, HB⟩ := hcut
  cases kq with
  | zero => exact absurd HA.out (by simp [impl_plane_isTwin.j0])
  | succ kj2 =>
   have H := HA.out
   clear HA
   simp only [impl_plane_isTwin.j0] at H
   by_cases c20 : x41_2 = true
   ·subst c20
    have H1 : (some false) = some r := by rw [if_pos rfl] at H; exact H
    clear H
    have H := H1
    clear H1
    obtain rfl := Option.some.inj H
    go_wp2
    go_ret
    exact ⟨ee_, bb_ HB⟩
   ·replace c20 := Bool.eq_false_iff.mpr c20
    subst c20
    have H1 : (impl_plane_isTwin.l0 kj2 l0 l1 (([] : List Int)) 1) = some r := by rw [if_neg (show ¬ (false = true) by decide)] at H; exact H
    clear H
    have H := H1
    clear H1
    obtain ⟨y257, hy257⟩ : ∃ y_ : List Int, y_ = (([] : List Int)) := ⟨_, rfl⟩
    replace H : (impl_plane_isTwin.l0 kj2 l0 l1 y257 1) = some r := by first | (rw [hy257]; with_reducible exact H) | (have H2_ := (Option.bind_some _ _).symm.trans H; rw [hy257]; with_reducible exact H2_) | (have H2_ := (Option.bind_some _ _).symm.trans H; with_reducible exact H2_) | with_reducible exact H | (rw [hy257]; exact H) | exact H
    have Ny257 := Aside0.mk hy257
    clear hy257
    have H' := Aside0.mk H
    clear H
    go_wp2_with (first | ((with_reducible refine gate_dst (N := 42) rfl ?_); refine Kd.R_lit (Kd.int .i64) _ 3 ?hg (N := 42) ?hd (xs := ([] : List Int)) (inner := []) (ok := fun _ => True) (okp := fun _ => True) ?hr ?hp (fun _ hk => hk) trivial (Below.refl _ _) (Nat.le_refl _) (by simp) ?_; (case hd => rfl); (case hg => rfl); (case hr => first | (go_simp; done) | (go_simp; rfl)); (case hp => exact (Reps.none _ _)); intro v258 w21 ho22 hb hg_ hnew_; clear hg_ hnew_; (first | rw [← Ny257.out] at ho22 | (simp only [Int.reduceToNat] at ho22; rw [← Ny257.out] at ho22)); have n0_ := Aside0.mk (Kd.R_lower ho22 (below_size (bb_ HB))); have n1_ := Aside0.mk (below_step (bb_ HB) hb); clear HB; have HO259 := n0_; have HB := n1_; clear n0_ n1_; clear hb ho22))
    go_loopg [5, 6] kj2 (fun kq v5 v6 w' => ∃ (x5_2 : List Int) (x6_2 : Int), v6 = .int .i64 x6_2 ∧ Aside0 (impl_plane_isTwin.l0 kq l0 l1 x5_2 x6_2 = some r) ∧ Aside0 (kq ≤ kj2) ∧ Aside0 (Kd.R (Kd.int .i64) 3 w' w.heap.size (fun _ => True) v5 x5_2) ∧ Aside0 (Below w.heap.size w w'))
    case atStart => exact ⟨(y257), (1), (by first | rfl | (simp; done) | (simp [*]; done)), H', ⟨Nat.le_refl _⟩, ⟨rr_ HO259⟩, ⟨by repeat (first | (with_reducible first | exact HB.out | apply below_alloc | apply pw_below_drewN | apply below_drew1) | exact HB.out)⟩⟩
    case round =>
     clear H'
     try clear c1
     try clear c2
     try clear p2
     try clear c4
     try clear c4b0
     try clear c4b1
     try clear c6
     try clear c7
     try clear c8
     try clear c9
     try clear c12
     try clear c13
     try clear c14
     try clear c15
     try clear c20
     try clear p2
     obtain ⟨x5_2, x6_2, rfl, HA, HK2, HO_5, HB⟩ := hrel
     cases gk with
     | zero => exact absurd HA.out (by simp [impl_plane_isTwin.l0])
     | succ k2 =>
      have H := HA.out
      clear HA
      simp only [impl_plane_isTwin.l0] at H
      by_cases c23 : x6_2 ≤ 3
      ·rw [if_pos c23] at H
       have c23b0 : decide (x6_2 ≤ 3) = true := decide_eq_true c23
       clear c23
       by_cases c24 : 0 < (l1.length : Int)
       ·rw [if_pos c24] at H
        have c24b0 : decide (0 < (l1.length : Int)) = true := decide_eq_true c24
        have c24b1 : decide (0 < l1.length) = true := decide_eq_true (by omega)
        clear c24
        by_cases c25 : 0 ≤ x6_2
        ·rw [if_pos c25] at H
         have c25b0 : decide (0 ≤ x6_2) = true := decide_eq_true c25
         clear c25
         by_cases c26 : x6_2 < (l1.length : Int)
         ·rw [if_pos c26] at H
          have c26b0 : decide (x6_2 < (l1.length : Int)) = true := decide_eq_true c26
          clear c26
          replace H := Option.bind_eq_some_iff.mp H
          obtain ⟨t262, A270, H⟩ := H
          replace H : (if 0 ≤ (wrap64 (x6_2 + 3)) then (if (wrap64 (x6_2 + 3)) < (l1.length : Int) then ((impl_plane_on.f l0 (rd l1 (wrap64 (x6_2 + 3))) t262).bind fun t264 => (if t264 = true then ((slices_Contains_int_int.f k2 x5_2 t262).bind fun t265 => (if t265 = true then (some false) else (if x5_2.length < 17592186044416 then (impl_plane_isTwin.l0 k2 l0 l1 (x5_2 ++ [t262]) (wrap64 (x6_2 + 1))) else (none)))) else (some false))) else (none)) else (none)) = some r := H
          have A27 := Aside0.mk A270
          clear A270
          obtain ⟨ji28, hji28⟩ : ∃ j_ : Int, (wrap64 (x6_2 + 3)) = j_ := ⟨_, rfl⟩
          replace H : (if 0 ≤ (ji28) then (if (ji28) < (l1.length : Int) then ((impl_plane_on.f l0 (rd l1 (ji28)) t262).bind fun t264 => (if t264 = true then ((slices_Contains_int_int.f k2 x5_2 t262).bind fun t265 => (if t265 = true then (some false) else (if x5_2.length < 17592186044416 then (impl_plane_isTwin.l0 k2 l0 l1 (x5_2 ++ [t262]) (wrap64 (x6_2 + 1))) else (none)))) else (some false))) else (none)) else (none)) = some r := by first | (rw [hji28] at H; exact H) | (simp only [hji28] at H ⊢; exact H)
          (try rw [hji28] at A27)
          have hji28w : (IntKind.i64.wrap (x6_2 + 3)) = ji28 := (i64_w _).trans hji28
          by_cases c29 : 0 ≤ (ji28)
          ·rw [if_pos c29] at H
           have c29b0 : decide (0 ≤ (ji28)) = true := decide_eq_true c29
           clear c29
           by_cases c30 : (ji28) < (l1.length : Int)
           ·rw [if_pos c30] at H
            have c30b0 : decide ((ji28) < (l1.length : Int)) = true := decide_eq_true c30
            clear c30
            replace H := Option.bind_eq_some_iff.mp H
            obtain ⟨t264, A310, H⟩ := H
            replace H : (if t264 = true then ((slices_Contains_int_int.f k2 x5_2 t262).bind fun t265 => (if t265 = true then (some false) else (if x5_2.length < 17592186044416 then (impl_plane_isTwin.l0 k2 l0 l1 (x5_2 ++ [t262]) (wrap64 (x6_2 + 1))) else (none)))) else (some false)) = some r := H
            have A31 := Aside0.mk A310
            clear A310
            by_cases c32 : t264 = true
            ·subst c32
             have H1 : ((slices_Contains_int_int.f k2 x5_2 t262).bind fun t265 => (if t265 = true then (some false) else (if x5_2.length < 17592186044416 then (impl_plane_isTwin.l0 k2 l0 l1 (x5_2 ++ [t262]) (wrap64 (x6_2 + 1))) else (none)))) = some r := by rw [if_pos rfl] at H; exact H
             clear H
             have H := H1
             clear H1
             replace H := Option.bind_eq_some_iff.mp H
             obtain ⟨t265, A330, H⟩ := H
             replace H : (if t265 = true then (some false) else (if x5_2.length < 17592186044416 then (impl_plane_isTwin.l0 k2 l0 l1 (x5_2 ++ [t262]) (wrap64 (x6_2 + 1))) else (none))) = some r := H
             have A33 := Aside0.mk A330
             clear A330
             by_cases c34 : t265 = true
             ·subst c34
              have H1 : (some false) = some r := by rw [if_pos rfl] at H; exact H
              clear H
              have H := H1
              clear H1
              obtain rfl := Option.some.inj H
              try go_wp2
              have n0_ := Aside0.mk (Kd.R_drew HO_5.out)
              have n1_ := Aside0.mk (below_drew1 HB.out)
              clear HO_5
              clear HB
              have HO_5 := n0_
              have HB := n1_
              clear n0_ n1_
              have p260 : 0 ≤ (0 : Int) := (by omega)
              have q260 : 0 < (l1.length : Int) := dd_
              obtain ⟨ad260, e260, hx260_0⟩ := Kd.at_int HR1.out 0 p260 q260
              have hw260_0 := hx260_0
              (try rw [show ((0 : Int)).toNat = 0 from rfl] at hw260_0)
              (try rw [show 0 * 1 = 0 from rfl] at hw260_0)
              (try rw [Addr.add_zero'] at hw260_0)
              cases e260
              have qi260 : (0 < l1.length) = True := eq_true (by omega)
              (try rw [show ((0 : Int)).toNat = 0 from rfl] at hx260_0)
              (try rw [Addr.add_zero'] at hx260_0)
              replace hx260_0 := hc_ HB hx260_0
              replace p260 := eq_true p260
              replace q260 := eq_true q260
              have p261 : 0 ≤ (x6_2 : Int) := dd_
              have q261 : x6_2 < (l1.length : Int) := dd_
              obtain ⟨ad261, e261, hx261_0⟩ := Kd.at_int HR1.out x6_2 p261 q261
              have hw261_0 := hx261_0
              obtain rfl : ad260 = ad261 := (by injection e261)
              replace hx261_0 := hc_ HB hx261_0
              replace p261 := eq_true p261
              replace q261 := eq_true q261
              refine start_ (n := 10) (S := fun w' => w'.cell? ad260 = some (.int .i64 (rd l1 0)) ∧ w'.cell? (ad260.add (x6_2).toNat) = some (.int .i64 (rd l1 x6_2))) (ds := []) #[F_,F_,F_,F_,F_,F_,F_,F_,F_,F_] (by kernel_rfl) rfl rfl ⟨(hc_ HB hw260_0), (hc_ HB hw261_0)⟩ (fun hHeld => ?_); refine with_tabW impl_plane_isTwin.tab7 impl_plane_isTwin.bits7 (fun HT_ HW_ => ?_)
              generalize wr.drew = w35 at HO_5 HB hx260_0 hx261_0 hHeld ⊢
              refine p_ 0 47 (m_ 10 1) HT_.out ?_
              refine p_ 1 48 (m_ 10 3) HT_.out ?_
              refine p_ 2 49 (m_ 10 7) HT_.out ?_
              refine p_ 4 51 (m_ 10 23) HT_.out ?_
              refine p_ 5 52 (m_ 10 55) HT_.out ?_
              refine p_ 6 53 (m_ 10 119) HT_.out ?_
              refine t2_ 3 50 (m_ 10 127) HT_.out HW_.out hHeld ?_
              refine t2_ 7 54 (m_ 10 255) HT_.out HW_.out hHeld ?_
              refine one_ (i := 8) (N := some 55) (m_ 10 511) rfl rfl (one_of HT_.out (by kernel_rfl)) (by decide) (fun K hK => ?_)
              refine goes_ Try.func74 (by kernel_rfl) rfl #[.slice _ l0.length c0, .int .i64 (rd l1 0), .int .i64 (rd l1 x6_2)] (by rfl) rfl rfl ll_ ?_
              with_reducible refine (impl_plane_join.calls k2 _ _ l0 (rd l1 0) (rd l1 x6_2) t262 _ ?side1 ?side2 A27.out).mono ?_
              (case side1 => exact sb_ HR0 HB)
              (case side2 => exact HC0.out)
              rintro e w' ⟨rfl, ⟨nd, rfl⟩⟩
              refine ⟨_, rfl, ?_⟩
              refine hK.out _ _ ⟨(hc_ HB hw260_0), (hc_ HB hw261_0)⟩ (fun hHeld => ?_)
              clear hK K
              refine norm_ (a' := ?_) ?_ ?_; rotate_left; (show Act.put _ (some 55) _ = _; simp only [Act.put, List.setIfInBounds_toArray, List.set_cons_zero, List.set_cons_succ, i64_w, i32_w]; rfl)
              refine p_ 9 7 (m_ 10 1023) HT_.out ?_
              refine done_ (done_of HT_.out (by kernel_rfl)) ?_
              have p263 : 0 ≤ ((ji28) : Int) := dd_
              have q263 : (ji28) < (l1.length : Int) := dd_
              obtain ⟨ad263, e263, hx263_0⟩ := Kd.at_int HR1.out (ji28) p263 q263
              obtain rfl : ad260 = ad263 := (by injection e263)
              replace hx263_0 := hc_ HB hx263_0
              replace p263 := eq_true p263
              replace q263 := eq_true q263
              try go_wp2_with (first | (refine goesL_ (some 63) rfl rfl Try.func75 (by kernel_rfl) rfl #[.slice A0 l0.length c0, .int .i64 (rd l1 (ji28)), .int .i64 t262] rfl (by (try simp only [List.map_toArray, List.map_cons, List.map_nil]); first | done | (simp only [hji28]; rfl) | rfl | (simp only [List.length_drop, List.length_take]; rfl)) ?_; (with_reducible refine (impl_plane_on.calls _ _ l0 (rd l1 (ji28)) t262 true _ ?side1 ?side2 A31.out).mono ?_); (case side1 => repeat (first | exact (Kd.C_below HR0.out (bb_ HB)) | (with_reducible refine Kd.C_alloc ?_ _) | (with_reducible refine Kd.C_drewN ?_ _) | (with_reducible refine Kd.C_drew ?_))); (case side2 => exact HC0.out); rintro e w' ⟨rfl, ⟨nd, rfl⟩⟩; refine ⟨_, rfl, ?_⟩; obtain ⟨Ao36, co36, eo36⟩ := Kd.R_slice HO_5.out; subst eo36) | (go_at_call 90; (with_reducible refine (slices_Contains_int_int.calls k2 _ _ x5_2 t262 true _ ?side1 ?side2 A33.out).mono ?_); (case side1 => exact cc_ HO_5); (case side2 => exact (Kd.R_reads' HO_5.out).2.1); rintro e w' ⟨rfl, ⟨nd, rfl⟩⟩))
              go_ret
              exact ⟨by first | rfl | (simp [errW_none, errW_some] <;> rfl) | (simp only [← hji28]; first | rfl | (simp [errW_none, errW_some] <;> rfl)) | (simp [*, errW_none, errW_some] <;> rfl), bb_ HB⟩
             ·replace c34 := Bool.eq_false_iff.mpr c34
              subst c34
              have H1 : (if x5_2.length < 17592186044416 then (impl_plane_isTwin.l0 k2 l0 l1 (x5_2 ++ [t262]) (wrap64 (x6_2 + 1))) else (none)) = some r := by rw [if_neg (show ¬ (false = true) by decide)] at H; exact H
              clear H
              have H := H1
              clear H1
              by_cases c37 : x5_2.length < 17592186044416
              ·rw [if_pos c37] at H
               have LMc37 := Aside0.mk c37
               clear c37
               obtain ⟨y266, hy266⟩ : ∃ y_ : List Int, y_ = (x5_2 ++ [t262]) := ⟨_, rfl⟩
               replace H : (impl_plane_isTwin.l0 k2 l0 l1 y266 (wrap64 (x6_2 + 1))) = some r := by first | (rw [hy266]; with_reducible exact H) | (have H2_ := (Option.bind_some _ _).symm.trans H; rw [hy266]; with_reducible exact H2_) | (have H2_ := (Option.bind_some _ _).symm.trans H; with_reducible exact H2_) | with_reducible exact H | (rw [hy266]; exact H) | exact H
               have Ny266 := Aside0.mk hy266
               clear hy266
               have H' := Aside0.mk H
               clear H
               try go_wp2
               have n0_ := Aside0.mk (Kd.R_drew HO_5.out)
               have n1_ := Aside0.mk (below_drew1 HB.out)
               clear HO_5
               clear HB
               have HO_5 := n0_
               have HB := n1_
               clear n0_ n1_
               have p260 : 0 ≤ (0 : Int) := (by omega)
               have q260 : 0 < (l1.length : Int) := dd_
               obtain ⟨ad260, e260, hx260_0⟩ := Kd.at_int HR1.out 0 p260 q260
               have hw260_0 := hx260_0
               (try rw [show ((0 : Int)).toNat = 0 from rfl] at hw260_0)
               (try rw [show 0 * 1 = 0 from rfl] at hw260_0)
               (try rw [Addr.add_zero'] at hw260_0)
               cases e260
               have qi260 : (0 < l1.length) = True := eq_true (by omega)
               (try rw [show ((0 : Int)).toNat = 0 from rfl] at hx260_0)
               (try rw [Addr.add_zero'] at hx260_0)
               replace hx260_0 := hc_ HB hx260_0
               replace p260 := eq_true p260
               replace q260 := eq_true q260
               have p261 : 0 ≤ (x6_2 : Int) := dd_
               have q261 : x6_2 < (l1.length : Int) := dd_
               obtain ⟨ad261, e261, hx261_0⟩ := Kd.at_int HR1.out x6_2 p261 q261
               have hw261_0 := hx261_0
               obtain rfl : ad260 = ad261 := (by injection e261)
               replace hx261_0 := hc_ HB hx261_0
               replace p261 := eq_true p261
               replace q261 := eq_true q261
               refine start_ (n := 10) (S := fun w' => w'.cell? ad260 = some (.int .i64 (rd l1 0)) ∧ w'.cell? (ad260.add (x6_2).toNat) = some (.int .i64 (rd l1 x6_2))) (ds := []) #[F_,F_,F_,F_,F_,F_,F_,F_,F_,F_] (by kernel_rfl) rfl rfl ⟨(hc_ HB hw260_0), (hc_ HB hw261_0)⟩ (fun hHeld => ?_); refine with_tabW impl_plane_isTwin.tab7 impl_plane_isTwin.bits7 (fun HT_ HW_ => ?_)
               generalize wr.drew = w38 at HO_5 HB hx260_0 hx261_0 hHeld ⊢
               refine p_ 0 47 (m_ 10 1) HT_.out ?_
               refine p_ 1 48 (m_ 10 3) HT_.out ?_
               refine p_ 2 49 (m_ 10 7) HT_.out ?_
               refine p_ 4 51 (m_ 10 23) HT_.out ?_
               refine p_ 5 52 (m_ 10 55) HT_.out ?_
               refine p_ 6 53 (m_ 10 119) HT_.out ?_
               refine t2_ 3 50 (m_ 10 127) HT_.out HW_.out hHeld ?_
               refine t2_ 7 54 (m_ 10 255) HT_.out HW_.out hHeld ?_
               refine one_ (i := 8) (N := some 55) (m_ 10 511) rfl rfl (one_of HT_.out (by kernel_rfl)) (by decide) (fun K hK => ?_)
               refine goes_ Try.func74 (by kernel_rfl) rfl #[.slice _ l0.length c0, .int .i64 (rd l1 0), .int .i64 (rd l1 x6_2)] (by rfl) rfl rfl ll_ ?_
               with_reducible refine (impl_plane_join.calls k2 _ _ l0 (rd l1 0) (rd l1 x6_2) t262 _ ?side1 ?side2 A27.out).mono ?_
               (case side1 => exact sb_ HR0 HB)
               (case side2 => exact HC0.out)
               rintro e w' ⟨rfl, ⟨nd, rfl⟩⟩
               refine ⟨_, rfl, ?_⟩
               refine hK.out _ _ ⟨(hc_ HB hw260_0), (hc_ HB hw261_0)⟩ (fun hHeld => ?_)
               clear hK K
               refine norm_ (a' := ?_) ?_ ?_; rotate_left; (show Act.put _ (some 55) _ = _; simp only [Act.put, List.setIfInBounds_toArray, List.set_cons_zero, List.set_cons_succ, i64_w, i32_w]; rfl)
               refine p_ 9 7 (m_ 10 1023) HT_.out ?_
               refine done_ (done_of HT_.out (by kernel_rfl)) ?_
               have p263 : 0 ≤ ((ji28) : Int) := dd_
               have q263 : (ji28) < (l1.length : Int) := dd_
               obtain ⟨ad263, e263, hx263_0⟩ := Kd.at_int HR1.out (ji28) p263 q263
               obtain rfl : ad260 = ad263 := (by injection e263)
               replace hx263_0 := hc_ HB hx263_0
               replace p263 := eq_true p263
               replace q263 := eq_true q263
               try go_wp2_with (first | (refine goesL_ (some 63) rfl rfl Try.func75 (by kernel_rfl) rfl #[.slice A0 l0.length c0, .int .i64 (rd l1 (ji28)), .int .i64 t262] rfl (by (try simp only [List.map_toArray, List.map_cons, List.map_nil]); first | done | (simp only [hji28]; rfl) | rfl | (simp only [List.length_drop, List.length_take]; rfl)) ?_; (with_reducible refine (impl_plane_on.calls _ _ l0 (rd l1 (ji28)) t262 true _ ?side1 ?side2 A31.out).mono ?_); (case side1 => repeat (first | exact (Kd.C_below HR0.out (bb_ HB)) | (with_reducible refine Kd.C_alloc ?_ _) | (with_reducible refine Kd.C_drewN ?_ _) | (with_reducible refine Kd.C_drew ?_))); (case side2 => exact HC0.out); rintro e w' ⟨rfl, ⟨nd, rfl⟩⟩; refine ⟨_, rfl, ?_⟩; obtain ⟨Ao39, co39, eo39⟩ := Kd.R_slice HO_5.out; subst eo39) | (go_at_call 90; (with_reducible refine (slices_Contains_int_int.calls k2 _ _ x5_2 t262 false _ ?side1 ?side2 A33.out).mono ?_); (case side1 => exact cc_ HO_5); (case side2 => exact (Kd.R_reads' HO_5.out).2.1); rintro e w' ⟨rfl, ⟨nd, rfl⟩⟩) | (at_builtin; refine Kd.R_append (Kd.int .i64) (w0 := w) w.heap.size rfl (.tmp 70) (.tmp 72) 23 3 (.int .i64 0) 8 rfl Try.underlying23 info3 rfl (by decide) (by omega) (.slice Ao39 x5_2.length co39) x5_2 t262 [.int .i64 t262] (fun _ => True) (fun _ => False) rfl rfl ?aP (fun _ hk => hk.elim) ?aF ?aO ?aB ?aS ?aL ?_; (case aP => exact rfl); (case aB => exact (bb_ HB)); (case aF => exact (fun _ _ => trivial)); (case aO => exact (rr_ HO_5)); (case aS => exact (below_size (bb_ HB))); (case aL => have := LMc37.out; omega); intro v267 w40 ho hb hg hat; rw [← Ny266.out] at ho; have n0_ := Aside0.mk (hb); have n1_ := Aside0.mk (ho); clear HB; clear HO_5; have HB := n0_; have HO268 := n1_; clear n0_ n1_; clear ho hb hg hat))
               go_roundg k2
               case measure => have := HJ2.out; have := HK2.out; omega
               case rel => exact ⟨(y266), (wrap64 (x6_2 + 1)), (by first | rfl | (simp; done) | (simp [*]; done)), H', ⟨by have := HJ2.out; have := HK2.out; omega⟩, ⟨rr_ HO268⟩, ⟨by repeat (first | (with_reducible first | exact HB.out | apply below_alloc | apply pw_below_drewN | apply below_drew1) | exact HB.out)⟩⟩
              ·rw [if_neg c37] at H
               exact absurd H (by simp)
            ·replace c32 := Bool.eq_false_iff.mpr c32
             subst c32
             have H1 : (some false) = some r := by rw [if_neg (show ¬ (false = true) by decide)] at H; exact H
             clear H
             have H := H1
             clear H1
             obtain rfl := Option.some.inj H
             try go_wp2
             have n0_ := Aside0.mk (Kd.R_drew HO_5.out)
             have n1_ := Aside0.mk (below_drew1 HB.out)
             clear HO_5
             clear HB
             have HO_5 := n0_
             have HB := n1_
             clear n0_ n1_
             have p260 : 0 ≤ (0 : Int) := (by omega)
             have q260 : 0 < (l1.length : Int) := dd_
             obtain ⟨ad260, e260, hx260_0⟩ := Kd.at_int HR1.out 0 p260 q260
             have hw260_0 := hx260_0
             (try rw [show ((0 : Int)).toNat = 0 from rfl] at hw260_0)
             (try rw [show 0 * 1 = 0 from rfl] at hw260_0)
             (try rw [Addr.add_zero'] at hw260_0)
             cases e260
             have qi260 : (0 < l1.length) = True := eq_true (by omega)
             (try rw [show ((0 : Int)).toNat = 0 from rfl] at hx260_0)
             (try rw [Addr.add_zero'] at hx260_0)
             replace hx260_0 := hc_ HB hx260_0
             replace p260 := eq_true p260
             replace q260 := eq_true q260
             have p261 : 0 ≤ (x6_2 : Int) := dd_
             have q261 : x6_2 < (l1.length : Int) := dd_
             obtain ⟨ad261, e261, hx261_0⟩ := Kd.at_int HR1.out x6_2 p261 q261
             have hw261_0 := hx261_0
             obtain rfl : ad260 = ad261 := (by injection e261)
             replace hx261_0 := hc_ HB hx261_0
             replace p261 := eq_true p261
             replace q261 := eq_true q261
             refine start_ (n := 10) (S := fun w' => w'.cell? ad260 = some (.int .i64 (rd l1 0)) ∧ w'.cell? (ad260.add (x6_2).toNat) = some (.int .i64 (rd l1 x6_2))) (ds := []) #[F_,F_,F_,F_,F_,F_,F_,F_,F_,F_] (by kernel_rfl) rfl rfl ⟨(hc_ HB hw260_0), (hc_ HB hw261_0)⟩ (fun hHeld => ?_); refine with_tabW impl_plane_isTwin.tab7 impl_plane_isTwin.bits7 (fun HT_ HW_ => ?_)
             generalize wr.drew = w41 at HO_5 HB hx260_0 hx261_0 hHeld ⊢
             refine p_ 0 47 (m_ 10 1) HT_.out ?_
             refine p_ 1 48 (m_ 10 3) HT_.out ?_
             refine p_ 2 49 (m_ 10 7) HT_.out ?_
             refine p_ 4 51 (m_ 10 23) HT_.out ?_
             refine p_ 5 52 (m_ 10 55) HT_.out ?_
             refine p_ 6 53 (m_ 10 119) HT_.out ?_
             refine t2_ 3 50 (m_ 10 127) HT_.out HW_.out hHeld ?_
             refine t2_ 7 54 (m_ 10 255) HT_.out HW_.out hHeld ?_
             refine one_ (i := 8) (N := some 55) (m_ 10 511) rfl rfl (one_of HT_.out (by kernel_rfl)) (by decide) (fun K hK => ?_)
             refine goes_ Try.func74 (by kernel_rfl) rfl #[.slice _ l0.length c0, .int .i64 (rd l1 0), .int .i64 (rd l1 x6_2)] (by rfl) rfl rfl ll_ ?_
             with_reducible refine (impl_plane_join.calls k2 _ _ l0 (rd l1 0) (rd l1 x6_2) t262 _ ?side1 ?side2 A27.out).mono ?_
             (case side1 => exact sb_ HR0 HB)
             (case side2 => exact HC0.out)
             rintro e w' ⟨rfl, ⟨nd, rfl⟩⟩
             refine ⟨_, rfl, ?_⟩
             refine hK.out _ _ ⟨(hc_ HB hw260_0), (hc_ HB hw261_0)⟩ (fun hHeld => ?_)
             clear hK K
             refine norm_ (a' := ?_) ?_ ?_; rotate_left; (show Act.put _ (some 55) _ = _; simp only [Act.put, List.setIfInBounds_toArray, List.set_cons_zero, List.set_cons_succ, i64_w, i32_w]; rfl)
             refine p_ 9 7 (m_ 10 1023) HT_.out ?_
             refine done_ (done_of HT_.out (by kernel_rfl)) ?_
             have p263 : 0 ≤ ((ji28) : Int) := dd_
             have q263 : (ji28) < (l1.length : Int) := dd_
             obtain ⟨ad263, e263, hx263_0⟩ := Kd.at_int HR1.out (ji28) p263 q263
             obtain rfl : ad260 = ad263 := (by injection e263)
             replace hx263_0 := hc_ HB hx263_0
             replace p263 := eq_true p263
             replace q263 := eq_true q263
             try go_wp2_with (first | (refine goesL_ (some 63) rfl rfl Try.func75 (by kernel_rfl) rfl #[.slice A0 l0.length c0, .int .i64 (rd l1 (ji28)), .int .i64 t262] rfl (by (try simp only [List.map_toArray, List.map_cons, List.map_nil]); first | done | (simp only [hji28]; rfl) | rfl | (simp only [List.length_drop, List.length_take]; rfl)) ?_; (with_reducible refine (impl_plane_on.calls _ _ l0 (rd l1 (ji28)) t262 false _ ?side1 ?side2 A31.out).mono ?_); (case side1 => repeat (first | exact (Kd.C_below HR0.out (bb_ HB)) | (with_reducible refine Kd.C_alloc ?_ _) | (with_reducible refine Kd.C_drewN ?_ _) | (with_reducible refine Kd.C_drew ?_))); (case side2 => exact HC0.out); rintro e w' ⟨rfl, ⟨nd, rfl⟩⟩; refine ⟨_, rfl, ?_⟩))
             go_ret
             exact ⟨by first | rfl | (simp [errW_none, errW_some] <;> rfl) | (simp only [← hji28]; first | rfl | (simp [errW_none, errW_some] <;> rfl)) | (simp [*, errW_none, errW_some] <;> rfl), bb_ HB⟩
           ·rw [if_neg c30] at H
            exact absurd H (by simp)
          ·rw [if_neg c29] at H
           exact absurd H (by simp)
         ·rw [if_neg c26] at H
          exact absurd H (by simp)
        ·rw [if_neg c25] at H
         exact absurd H (by simp)
       ·rw [if_neg c24] at H
        exact absurd H (by simp)
      ·rw [if_neg c23] at H
       have c23b0 : decide (x6_2 ≤ 3) = false := decide_eq_false c23
       clear c23
       obtain rfl := Option.some.inj H
       go_wp2
       go_ret
       exact ⟨ee_, bb_ HB⟩
end Go.Proofs.Ytcbkoecanldlpaa.P

namespace Go.Proofs.Ytcbkoecanldlpaa.P
open Go.RowKit Go.Proofs.YtcbkoecanldlpaaW.PrintWords Go.Proofs.YtcbkoecanldlpaaW.PrintLast
set_option linter.unusedVariables false
set_option linter.unusedSimpArgs false

def impl_plane_crossing.f (k : Nat) (l0 : List Int) (a1 : Int) (a2 : Int) (a3 : Int) (a4 : Int) : Option (Int) := (impl_plane_join.f k l0 a1 a2).bind fun t302 => ((impl_plane_join.f k l0 a3 a4).bind fun t303 => ((impl_plane_meet.f k l0 t302 t303).bind fun t304 => (some t304)))
set_option maxHeartbeats 8000000 in
set_option maxRecDepth 100000 in
theorem impl_plane_crossing.calls (k : Nat) (A0 : Option Addr) (c0 : Nat) (l0 : List Int) (a1 : Int) (a2 : Int) (a3 : Int) (a4 : Int) (r : Int) (w : World) (hr0 : Kd.C (Kd.int .i64) w A0 l0.length l0) (hc0 : l0.length ≤ c0) (h : impl_plane_crossing.f k l0 a1 a2 a3 a4 = some r) :
  Calls Try.prog 132 #[.slice A0 l0.length c0, .int .i64 a1, .int .i64 a2, .int .i64 a3, .int .i64 a4] w fun e w' => e = .returned (.int .i64 r) ∧ Drawn0 w w' := by
 have HR0 := Aside0.mk hr0
 have HC0 := Aside0.mk hc0
 clear hr0 hc0
 have H : ((impl_plane_join.f k l0 a1 a2).bind fun t302 => ((impl_plane_join.f k l0 a3 a4).bind fun t303 => ((impl_plane_meet.f k l0 t302 t303).bind fun t304 => (some t304)))) = some r := h
 clear h
 replace H := Option.bind_eq_some_iff.mp H
 obtain ⟨t302, A60, H⟩ := H
 replace H : ((impl_plane_join.f k l0 a3 a4).bind fun t303 => ((impl_plane_meet.f k l0 t302 t303).bind fun t304 => (some t304))) = some r := H
 have A6 := Aside0.mk A60
 clear A60
 replace H := Option.bind_eq_some_iff.mp H
 obtain ⟨t303, A70, H⟩ := H
 replace H : ((impl_plane_meet.f k l0 t302 t303).bind fun t304 => (some t304)) = some r := H
 have A7 := Aside0.mk A70
 clear A70
 replace H := Option.bind_eq_some_iff.mp H
 obtain ⟨t304, A80, H⟩ := H
 replace H : (some t304) = some r := H
 have A8 := Aside0.mk A80
 clear A80
 obtain rfl := Option.some.inj H
 go_enter Try.func132, Try.ntmps132
 go_wp2_with (first | (refine goesL_ (some 15) rfl rfl Try.func74 (by kernel_rfl) rfl #[.slice A0 l0.length c0, .int .i64 a1, .int .i64 a2] rfl ll_ ?_; (with_reducible refine (impl_plane_join.calls k _ _ l0 a1 a2 t302 _ ?side1 ?side2 A6.out).mono ?_); (case side1 => exact ss_ HR0); (case side2 => exact HC0.out); rintro e w' ⟨rfl, ⟨nd, rfl⟩⟩; refine ⟨_, rfl, ?_⟩) | (refine goesL_ (some 19) rfl rfl Try.func74 (by kernel_rfl) rfl #[.slice A0 l0.length c0, .int .i64 a3, .int .i64 a4] rfl ll_ ?_; (with_reducible refine (impl_plane_join.calls k _ _ l0 a3 a4 t303 _ ?side1 ?side2 A7.out).mono ?_); (case side1 => exact ss_ HR0); (case side2 => exact HC0.out); rintro e w' ⟨rfl, ⟨nd, rfl⟩⟩; refine ⟨_, rfl, ?_⟩) | (refine goesL_ (some 20) rfl rfl Try.func141 (by kernel_rfl) rfl #[.slice A0 l0.length c0, .int .i64 t302, .int .i64 t303] rfl ll_ ?_; (with_reducible refine (impl_plane_meet.calls k _ _ l0 t302 t303 t304 _ ?side1 ?side2 A8.out).mono ?_); (case side1 => exact ss_ HR0); (case side2 => exact HC0.out); rintro e w' ⟨rfl, ⟨nd, rfl⟩⟩; refine ⟨_, rfl, ?_⟩))
 go_ret
 exact ⟨by first | rfl | (simp; done) | (simp [*]; done), by repeat (first | exact Drawn0.refl _ | apply Drawn0.step)⟩
end Go.Proofs.Ytcbkoecanldlpaa.P

namespace Go.Proofs.YtcbkoecanldlpaaW.PrintWords
theorem Reps.one {α : Type} {R : α → List Value → Prop} {ps : List α} {cs : List Value} {p : α} {v : Value} (hp : R p [v]) (h : Reps R 1 ps cs) : Reps R 1 (p :: ps) (v :: cs) := by
  refine ⟨by simp [h.1], fun j q hq => ?_⟩
  cases j with
  | zero =>
    simp only [List.getElem?_cons_zero, Option.some.injEq] at hq
    subst hq
    simpa using hp
  | succ j =>
    simp only [List.getElem?_cons_succ] at hq
    have h1 := h.2 j q hq
    simpa [Nat.mul_one] using h1
theorem Reps.front {α : Type} {R : α → List Value → Prop} {size : Nat} {ps : List α} {cs c all : List Value} {p : α} (hp : R p c) (hc : c.length = size) (h : Reps R size ps cs) (ha : c ++ cs = all) : Reps R size (p :: ps) all := by
  subst ha
  refine ⟨by rw [List.length_append, hc, h.1, List.length_cons, Nat.succ_mul, Nat.add_comm], fun j q hq => ?_⟩
  cases j with
  | zero =>
    simp only [List.getElem?_cons_zero, Option.some.injEq] at hq
    subst hq
    rw [Nat.zero_mul, List.drop_zero, List.take_append_of_le_length (by omega), List.take_of_length_le (by omega)]
    exact hp
  | succ j =>
    simp only [List.getElem?_cons_succ] at hq
    have h1 := h.2 j q hq
    rw [Nat.succ_mul, List.drop_append, List.drop_of_length_le (by rw [hc]; exact Nat.le_add_left _ _), List.nil_append, hc, Nat.add_sub_cancel]
    exact h1
theorem Reps.c2 {α : Type} {R : α → List Value → Prop} {ps : List α} {cs : List Value} {p : α} {va vb : Value} (hp : R p [va, vb]) (h : Reps R 2 ps cs) : Reps R 2 (p :: ps) (va :: vb :: cs) := Reps.front hp rfl h rfl
theorem Reps.c3 {α : Type} {R : α → List Value → Prop} {ps : List α} {cs : List Value} {p : α} {va vb vc : Value} (hp : R p [va, vb, vc]) (h : Reps R 3 ps cs) : Reps R 3 (p :: ps) (va :: vb :: vc :: cs) := Reps.front hp rfl h rfl
theorem Reps.c4 {α : Type} {R : α → List Value → Prop} {ps : List α} {cs : List Value} {p : α} {va vb vc vd : Value} (hp : R p [va, vb, vc, vd]) (h : Reps R 4 ps cs) : Reps R 4 (p :: ps) (va :: vb :: vc :: vd :: cs) := Reps.front hp rfl h rfl
theorem Reps.c5 {α : Type} {R : α → List Value → Prop} {ps : List α} {cs : List Value} {p : α} {va vb vc vd ve : Value} (hp : R p [va, vb, vc, vd, ve]) (h : Reps R 5 ps cs) : Reps R 5 (p :: ps) (va :: vb :: vc :: vd :: ve :: cs) := Reps.front hp rfl h rfl
theorem Reps.c6 {α : Type} {R : α → List Value → Prop} {ps : List α} {cs : List Value} {p : α} {va vb vc vd ve vf : Value} (hp : R p [va, vb, vc, vd, ve, vf]) (h : Reps R 6 ps cs) : Reps R 6 (p :: ps) (va :: vb :: vc :: vd :: ve :: vf :: cs) := Reps.front hp rfl h rfl
theorem Reps.c7 {α : Type} {R : α → List Value → Prop} {ps : List α} {cs : List Value} {p : α} {va vb vc vd ve vf vg : Value} (hp : R p [va, vb, vc, vd, ve, vf, vg]) (h : Reps R 7 ps cs) : Reps R 7 (p :: ps) (va :: vb :: vc :: vd :: ve :: vf :: vg :: cs) := Reps.front hp rfl h rfl
theorem Reps.c8 {α : Type} {R : α → List Value → Prop} {ps : List α} {cs : List Value} {p : α} {va vb vc vd ve vf vg vh : Value} (hp : R p [va, vb, vc, vd, ve, vf, vg, vh]) (h : Reps R 8 ps cs) : Reps R 8 (p :: ps) (va :: vb :: vc :: vd :: ve :: vf :: vg :: vh :: cs) := Reps.front hp rfl h rfl
theorem Reps.c9 {α : Type} {R : α → List Value → Prop} {ps : List α} {cs : List Value} {p : α} {va vb vc vd ve vf vg vh vi : Value} (hp : R p [va, vb, vc, vd, ve, vf, vg, vh, vi]) (h : Reps R 9 ps cs) : Reps R 9 (p :: ps) (va :: vb :: vc :: vd :: ve :: vf :: vg :: vh :: vi :: cs) := Reps.front hp rfl h rfl
theorem Reps.c10 {α : Type} {R : α → List Value → Prop} {ps : List α} {cs : List Value} {p : α} {va vb vc vd ve vf vg vh vi vj : Value} (hp : R p [va, vb, vc, vd, ve, vf, vg, vh, vi, vj]) (h : Reps R 10 ps cs) : Reps R 10 (p :: ps) (va :: vb :: vc :: vd :: ve :: vf :: vg :: vh :: vi :: vj :: cs) := Reps.front hp rfl h rfl
end Go.Proofs.YtcbkoecanldlpaaW.PrintWords

namespace Go.Proofs.Ytcbkoecanldlpaa.P
open Go.RowKit Go.Proofs.YtcbkoecanldlpaaW.PrintWords Go.Proofs.YtcbkoecanldlpaaW.PrintLast
set_option linter.unusedVariables false
set_option linter.unusedSimpArgs false

def impl_plane_twinPoints.f (k : Nat) (l0 : List Int) (l1 : List Int) : Option (List Int) := if 1 < (l1.length : Int) then (if 2 < (l1.length : Int) then (if 4 < (l1.length : Int) then (if 5 < (l1.length : Int) then ((impl_plane_crossing.f k l0 (rd l1 1) (rd l1 2) (rd l1 4) (rd l1 5)).bind fun t309 => (if 3 < (l1.length : Int) then (if 6 < (l1.length : Int) then ((impl_plane_crossing.f k l0 (rd l1 1) (rd l1 3) (rd l1 4) (rd l1 6)).bind fun t314 => ((impl_plane_crossing.f k l0 (rd l1 2) (rd l1 3) (rd l1 5) (rd l1 6)).bind fun t319 => (some (([t309, t314, t319] : List Int))))) else (none)) else (none))) else (none)) else (none)) else (none)) else (none)
def impl_plane_twinPoints.T1 : Bool × List (List Nat × List Nat) := (true, [([], []), ([], []), ([1], [1]), ([2], [2]), ([], []), ([4], [4]), ([5], [5]), ([], []), ([7], [7]), ([8], [8]), ([], []), ([10], [10]), ([11], [11]), ([0, 3, 6, 9, 12], [0, 3, 6, 9, 12]), ([], []), ([], []), ([15], [15]), ([16], [16]), ([], []), ([18], [18]), ([19], [19]), ([], []), ([21], [21]), ([22], [22]), ([], []), ([24], [24]), ([25], [25]), ([14, 17, 20, 23, 26, 13], [14, 17, 20, 23, 26]), ([], []), ([], []), ([29], [29]), ([30], [30]), ([], []), ([32], [32]), ([33], [33]), ([], []), ([35], [35]), ([36], [36]), ([], []), ([38], [38]), ([39], [39]), ([28, 31, 34, 37, 40, 27], [28, 31, 34, 37, 40]), ([13, 27, 41], [13, 27, 41]), ([42, 41, 0, 1, 2, 3, 4, 5, 6, 7, 8, 9, 10, 11, 12, 13, 14, 15, 16, 17, 18, 19, 20, 21, 22, 23, 24, 25, 26, 27, 28, 29, 30, 31, 32, 33, 34, 35, 36, 37, 38, 39, 40, 41, 42], [42])])
def impl_plane_twinPoints.B1 : List Nat := [0, 0, 2, 6, 0, 16, 48, 0, 128, 384, 0, 1024, 3072, 8191, 0, 0, 32768, 98304, 0, 262144, 786432, 0, 2097152, 6291456, 0, 16777216, 50331648, 134217727, 0, 0, 536870912, 1610612736, 0, 4294967296, 12884901888, 0, 34359738368, 103079215104, 0, 274877906944, 824633720832, 2199023255551, 4398046511103, 8796093022207]
theorem impl_plane_twinPoints.tab1 : rtab .any (opsOf Try.f67 1) = impl_plane_twinPoints.T1 := by kernel_rfl
theorem impl_plane_twinPoints.bits1 : waitsOk impl_plane_twinPoints.T1.2 impl_plane_twinPoints.B1 = true := by kernel_rfl
set_option maxHeartbeats 8000000 in
set_option maxRecDepth 100000 in
theorem impl_plane_twinPoints.calls (k : Nat) (A0 : Option Addr) (c0 : Nat) (l0 : List Int) (A1 : Option Addr) (c1 : Nat) (l1 : List Int) (r : List Int) (w : World) (hr0 : Kd.C (Kd.int .i64) w A0 l0.length l0) (hc0 : l0.length ≤ c0) (hr1 : Kd.C (Kd.int .i64) w A1 l1.length l1) (hc1 : l1.length ≤ c1) (h : impl_plane_twinPoints.f k l0 l1 = some r) :
  Calls Try.prog 67 #[.slice A0 l0.length c0, .slice A1 l1.length c1] w fun e w' => ∃ v0_ : Value, e = .returned (v0_) ∧ Kd.R (Kd.int .i64) 3 w' w.heap.size (fun _ => True) v0_ r ∧ Below w.heap.size w w' := by
 have HR0 := Aside0.mk hr0
 have HC0 := Aside0.mk hc0
 clear hr0 hc0
 have HR1 := Aside0.mk hr1
 have HC1 := Aside0.mk hc1
 clear hr1 hc1
 have HB := Aside0.mk (Below.refl w.heap.size w)
 have H : (if 1 < (l1.length : Int) then (if 2 < (l1.length : Int) then (if 4 < (l1.length : Int) then (if 5 < (l1.length : Int) then ((impl_plane_crossing.f k l0 (rd l1 1) (rd l1 2) (rd l1 4) (rd l1 5)).bind fun t309 => (if 3 < (l1.length : Int) then (if 6 < (l1.length : Int) then ((impl_plane_crossing.f k l0 (rd l1 1) (rd l1 3) (rd l1 4) (rd l1 6)).bind fun t314 => ((impl_plane_crossing.f k l0 (rd l1 2) (rd l1 3) (rd l1 5) (rd l1 6)).bind fun t319 => (some (([t309, t314, t319] : List Int))))) else (none)) else (none))) else (none)) else (none)) else (none)) else (none)) = some r := h
 clear h
 by_cases c3 : 1 < (l1.length : Int)
 ·rw [if_pos c3] at H
  have c3b0 : decide (1 < (l1.length : Int)) = true := decide_eq_true c3
  have c3b1 : decide (1 < l1.length) = true := decide_eq_true (by omega)
  clear c3
  by_cases c4 : 2 < (l1.length : Int)
  ·rw [if_pos c4] at H
   have c4b0 : decide (2 < (l1.length : Int)) = true := decide_eq_true c4
   have c4b1 : decide (2 < l1.length) = true := decide_eq_true (by omega)
   clear c4
   by_cases c5 : 4 < (l1.length : Int)
   ·rw [if_pos c5] at H
    have c5b0 : decide (4 < (l1.length : Int)) = true := decide_eq_true c5
    have c5b1 : decide (4 < l1.length) = true := decide_eq_true (by omega)
    clear c5
    by_cases c6 : 5 < (l1.length : Int)
    ·rw [if_pos c6] at H
     have c6b0 : decide (5 < (l1.length : Int)) = true := decide_eq_true c6
     have c6b1 : decide (5 < l1.length) = true := decide_eq_true (by omega)
     clear c6
     replace H := Option.bind_eq_some_iff.mp H
     obtain ⟨t309, A70, H⟩ := H
     replace H : (if 3 < (l1.length : Int) then (if 6 < (l1.length : Int) then ((impl_plane_crossing.f k l0 (rd l1 1) (rd l1 3) (rd l1 4) (rd l1 6)).bind fun t314 => ((impl_plane_crossing.f k l0 (rd l1 2) (rd l1 3) (rd l1 5) (rd l1 6)).bind fun t319 => (some (([t309, t314, t319] : List Int))))) else (none)) else (none)) = some r := H
     have A7 := Aside0.mk A70
     clear A70
     by_cases c8 : 3 < (l1.length : Int)
     ·rw [if_pos c8] at H
      have c8b0 : decide (3 < (l1.length : Int)) = true := decide_eq_true c8
      have c8b1 : decide (3 < l1.length) = true := decide_eq_true (by omega)
      clear c8
      by_cases c9 : 6 < (l1.length : Int)
      ·rw [if_pos c9] at H
       have c9b0 : decide (6 < (l1.length : Int)) = true := decide_eq_true c9
       have c9b1 : decide (6 < l1.length) = true := decide_eq_true (by omega)
       clear c9
       replace H := Option.bind_eq_some_iff.mp H
       obtain ⟨t314, A100, H⟩ := H
       replace H : ((impl_plane_crossing.f k l0 (rd l1 2) (rd l1 3) (rd l1 5) (rd l1 6)).bind fun t319 => (some (([t309, t314, t319] : List Int)))) = some r := H
       have A10 := Aside0.mk A100
       clear A100
       replace H := Option.bind_eq_some_iff.mp H
       obtain ⟨t319, A110, H⟩ := H
       replace H : (some (([t309, t314, t319] : List Int))) = some r := H
       have A11 := Aside0.mk A110
       clear A110
       obtain ⟨y320, hy320⟩ : ∃ y_ : List Int, y_ = (([t309, t314, t319] : List Int)) := ⟨_, rfl⟩
       replace H : (some y320) = some r := by first | (rw [hy320]; with_reducible exact H) | (have H2_ := (Option.bind_some _ _).symm.trans H; rw [hy320]; with_reducible exact H2_) | (have H2_ := (Option.bind_some _ _).symm.trans H; with_reducible exact H2_) | with_reducible exact H | (rw [hy320]; exact H) | exact H
       have Ny320 := Aside0.mk hy320
       clear hy320
       obtain rfl := Option.some.inj H
       go_enter Try.func67, Try.ntmps67
       try go_wp2
       have n0_ := Aside0.mk (below_drew1 HB.out)
       clear HB
       have HB := n0_
       clear n0_
       have p305 : 0 ≤ (1 : Int) := (by omega)
       have q305 : 1 < (l1.length : Int) := dd_
       obtain ⟨ad305, e305, hx305_0⟩ := Kd.at_int HR1.out 1 p305 q305
       have hw305_0 := hx305_0
       (try rw [show ((1 : Int)).toNat = 1 from rfl] at hw305_0)
       (try rw [show 1 * 1 = 1 from rfl] at hw305_0)
       (try simp only [Nat.reduceMul, Nat.reduceEqDiff, Go.Addr.add, ↓reduceIte] at hw305_0)
       cases e305
       (try simp only [show (1 : Int).toNat = 1 from rfl, Nat.reduceMul, Nat.reduceEqDiff, Go.Addr.add, ↓reduceIte] at hx305_0)
       have qi305 : (1 < l1.length) = True := eq_true (by omega)
       (try rw [show ((1 : Int)).toNat = 1 from rfl] at hx305_0)
       replace hx305_0 := hc_ HB hx305_0
       replace p305 := eq_true p305
       replace q305 := eq_true q305
       have p306 : 0 ≤ (2 : Int) := (by omega)
       have q306 : 2 < (l1.length : Int) := dd_
       obtain ⟨ad306, e306, hx306_0⟩ := Kd.at_int HR1.out 2 p306 q306
       have hw306_0 := hx306_0
       (try rw [show ((2 : Int)).toNat = 2 from rfl] at hw306_0)
       (try rw [show 2 * 1 = 2 from rfl] at hw306_0)
       (try simp only [Nat.reduceMul, Nat.reduceEqDiff, Go.Addr.add, ↓reduceIte] at hw306_0)
       obtain rfl : ad305 = ad306 := (by injection e306)
       (try simp only [show (2 : Int).toNat = 2 from rfl, Nat.reduceMul, Nat.reduceEqDiff, Go.Addr.add, ↓reduceIte] at hx306_0)
       have qi306 : (2 < l1.length) = True := eq_true (by omega)
       (try rw [show ((2 : Int)).toNat = 2 from rfl] at hx306_0)
       replace hx306_0 := hc_ HB hx306_0
       replace p306 := eq_true p306
       replace q306 := eq_true q306
       have p307 : 0 ≤ (4 : Int) := (by omega)
       have q307 : 4 < (l1.length : Int) := dd_
       obtain ⟨ad307, e307, hx307_0⟩ := Kd.at_int HR1.out 4 p307 q307
       have hw307_0 := hx307_0
       (try rw [show ((4 : Int)).toNat = 4 from rfl] at hw307_0)
       (try rw [show 4 * 1 = 4 from rfl] at hw307_0)
       (try simp only [Nat.reduceMul, Nat.reduceEqDiff, Go.Addr.add, ↓reduceIte] at hw307_0)
       obtain rfl : ad305 = ad307 := (by injection e307)
       (try simp only [show (4 : Int).toNat = 4 from rfl, Nat.reduceMul, Nat.reduceEqDiff, Go.Addr.add, ↓reduceIte] at hx307_0)
       have qi307 : (4 < l1.length) = True := eq_true (by omega)
       (try rw [show ((4 : Int)).toNat = 4 from rfl] at hx307_0)
       replace hx307_0 := hc_ HB hx307_0
       replace p307 := eq_true p307
       replace q307 := eq_true q307
       have p308 : 0 ≤ (5 : Int) := (by omega)
       have q308 : 5 < (l1.length : Int) := dd_
       obtain ⟨ad308, e308, hx308_0⟩ := Kd.at_int HR1.out 5 p308 q308
       have hw308_0 := hx308_0
       (try rw [show ((5 : Int)).toNat = 5 from rfl] at hw308_0)
       (try rw [show 5 * 1 = 5 from rfl] at hw308_0)
       (try simp only [Nat.reduceMul, Nat.reduceEqDiff, Go.Addr.add, ↓reduceIte] at hw308_0)
       obtain rfl : ad305 = ad308 := (by injection e308)
       (try simp only [show (5 : Int).toNat = 5 from rfl, Nat.reduceMul, Nat.reduceEqDiff, Go.Addr.add, ↓reduceIte] at hx308_0)
       have qi308 : (5 < l1.length) = True := eq_true (by omega)
       (try rw [show ((5 : Int)).toNat = 5 from rfl] at hx308_0)
       replace hx308_0 := hc_ HB hx308_0
       replace p308 := eq_true p308
       replace q308 := eq_true q308
       have p310 : 0 ≤ (1 : Int) := (by omega)
       have q310 : 1 < (l1.length : Int) := dd_
       obtain ⟨ad310, e310, hx310_0⟩ := Kd.at_int HR1.out 1 p310 q310
       have hw310_0 := hx310_0
       (try rw [show ((1 : Int)).toNat = 1 from rfl] at hw310_0)
       (try rw [show 1 * 1 = 1 from rfl] at hw310_0)
       (try simp only [Nat.reduceMul, Nat.reduceEqDiff, Go.Addr.add, ↓reduceIte] at hw310_0)
       obtain rfl : ad305 = ad310 := (by injection e310)
       (try simp only [show (1 : Int).toNat = 1 from rfl, Nat.reduceMul, Nat.reduceEqDiff, Go.Addr.add, ↓reduceIte] at hx310_0)
       have qi310 : (1 < l1.length) = True := eq_true (by omega)
       (try rw [show ((1 : Int)).toNat = 1 from rfl] at hx310_0)
       replace hx310_0 := hc_ HB hx310_0
       replace p310 := eq_true p310
       replace q310 := eq_true q310
       have p311 : 0 ≤ (3 : Int) := (by omega)
       have q311 : 3 < (l1.length : Int) := dd_
       obtain ⟨ad311, e311, hx311_0⟩ := Kd.at_int HR1.out 3 p311 q311
       have hw311_0 := hx311_0
       (try rw [show ((3 : Int)).toNat = 3 from rfl] at hw311_0)
       (try rw [show 3 * 1 = 3 from rfl] at hw311_0)
       (try simp only [Nat.reduceMul, Nat.reduceEqDiff, Go.Addr.add, ↓reduceIte] at hw311_0)
       obtain rfl : ad305 = ad311 := (by injection e311)
       (try simp only [show (3 : Int).toNat = 3 from rfl, Nat.reduceMul, Nat.reduceEqDiff, Go.Addr.add, ↓reduceIte] at hx311_0)
       have qi311 : (3 < l1.length) = True := eq_true (by omega)
       (try rw [show ((3 : Int)).toNat = 3 from rfl] at hx311_0)
       replace hx311_0 := hc_ HB hx311_0
       replace p311 := eq_true p311
       replace q311 := eq_true q311
       have p312 : 0 ≤ (4 : Int) := (by omega)
       have q312 : 4 < (l1.length : Int) := dd_
       obtain ⟨ad312, e312, hx312_0⟩ := Kd.at_int HR1.out 4 p312 q312
       have hw312_0 := hx312_0
       (try rw [show ((4 : Int)).toNat = 4 from rfl] at hw312_0)
       (try rw [show 4 * 1 = 4 from rfl] at hw312_0)
       (try simp only [Nat.reduceMul, Nat.reduceEqDiff, Go.Addr.add, ↓reduceIte] at hw312_0)
       obtain rfl : ad305 = ad312 := (by injection e312)
       (try simp only [show (4 : Int).toNat = 4 from rfl, Nat.reduceMul, Nat.reduceEqDiff, Go.Addr.add, ↓reduceIte] at hx312_0)
       have qi312 : (4 < l1.length) = True := eq_true (by omega)
       (try rw [show ((4 : Int)).toNat = 4 from rfl] at hx312_0)
       replace hx312_0 := hc_ HB hx312_0
       replace p312 := eq_true p312
       replace q312 := eq_true q312
       have p313 : 0 ≤ (6 : Int) := (by omega)
       have q313 : 6 < (l1.length : Int) := dd_
       obtain ⟨ad313, e313, hx313_0⟩ := Kd.at_int HR1.out 6 p313 q313
       have hw313_0 := hx313_0
       (try rw [show ((6 : Int)).toNat = 6 from rfl] at hw313_0)
       (try rw [show 6 * 1 = 6 from rfl] at hw313_0)
       (try simp only [Nat.reduceMul, Nat.reduceEqDiff, Go.Addr.add, ↓reduceIte] at hw313_0)
       obtain rfl : ad305 = ad313 := (by injection e313)
       (try simp only [show (6 : Int).toNat = 6 from rfl, Nat.reduceMul, Nat.reduceEqDiff, Go.Addr.add, ↓reduceIte] at hx313_0)
       have qi313 : (6 < l1.length) = True := eq_true (by omega)
       (try rw [show ((6 : Int)).toNat = 6 from rfl] at hx313_0)
       replace hx313_0 := hc_ HB hx313_0
       replace p313 := eq_true p313
       replace q313 := eq_true q313
       have p315 : 0 ≤ (2 : Int) := (by omega)
       have q315 : 2 < (l1.length : Int) := dd_
       obtain ⟨ad315, e315, hx315_0⟩ := Kd.at_int HR1.out 2 p315 q315
       have hw315_0 := hx315_0
       (try rw [show ((2 : Int)).toNat = 2 from rfl] at hw315_0)
       (try rw [show 2 * 1 = 2 from rfl] at hw315_0)
       (try simp only [Nat.reduceMul, Nat.reduceEqDiff, Go.Addr.add, ↓reduceIte] at hw315_0)
       obtain rfl : ad305 = ad315 := (by injection e315)
       (try simp only [show (2 : Int).toNat = 2 from rfl, Nat.reduceMul, Nat.reduceEqDiff, Go.Addr.add, ↓reduceIte] at hx315_0)
       have qi315 : (2 < l1.length) = True := eq_true (by omega)
       (try rw [show ((2 : Int)).toNat = 2 from rfl] at hx315_0)
       replace hx315_0 := hc_ HB hx315_0
       replace p315 := eq_true p315
       replace q315 := eq_true q315
       have p316 : 0 ≤ (3 : Int) := (by omega)
       have q316 : 3 < (l1.length : Int) := dd_
       obtain ⟨ad316, e316, hx316_0⟩ := Kd.at_int HR1.out 3 p316 q316
       have hw316_0 := hx316_0
       (try rw [show ((3 : Int)).toNat = 3 from rfl] at hw316_0)
       (try rw [show 3 * 1 = 3 from rfl] at hw316_0)
       (try simp only [Nat.reduceMul, Nat.reduceEqDiff, Go.Addr.add, ↓reduceIte] at hw316_0)
       obtain rfl : ad305 = ad316 := (by injection e316)
       (try simp only [show (3 : Int).toNat = 3 from rfl, Nat.reduceMul, Nat.reduceEqDiff, Go.Addr.add, ↓reduceIte] at hx316_0)
       have qi316 : (3 < l1.length) = True := eq_true (by omega)
       (try rw [show ((3 : Int)).toNat = 3 from rfl] at hx316_0)
       replace hx316_0 := hc_ HB hx316_0
       replace p316 := eq_true p316
       replace q316 := eq_true q316
       have p317 : 0 ≤ (5 : Int) := (by omega)
       have q317 : 5 < (l1.length : Int) := dd_
       obtain ⟨ad317, e317, hx317_0⟩ := Kd.at_int HR1.out 5 p317 q317
       have hw317_0 := hx317_0
       (try rw [show ((5 : Int)).toNat = 5 from rfl] at hw317_0)
       (try rw [show 5 * 1 = 5 from rfl] at hw317_0)
       (try simp only [Nat.reduceMul, Nat.reduceEqDiff, Go.Addr.add, ↓reduceIte] at hw317_0)
       obtain rfl : ad305 = ad317 := (by injection e317)
       (try simp only [show (5 : Int).toNat = 5 from rfl, Nat.reduceMul, Nat.reduceEqDiff, Go.Addr.add, ↓reduceIte] at hx317_0)
       have qi317 : (5 < l1.length) = True := eq_true (by omega)
       (try rw [show ((5 : Int)).toNat = 5 from rfl] at hx317_0)
       replace hx317_0 := hc_ HB hx317_0
       replace p317 := eq_true p317
       replace q317 := eq_true q317
       have p318 : 0 ≤ (6 : Int) := (by omega)
       have q318 : 6 < (l1.length : Int) := dd_
       obtain ⟨ad318, e318, hx318_0⟩ := Kd.at_int HR1.out 6 p318 q318
       have hw318_0 := hx318_0
       (try rw [show ((6 : Int)).toNat = 6 from rfl] at hw318_0)
       (try rw [show 6 * 1 = 6 from rfl] at hw318_0)
       (try simp only [Nat.reduceMul, Nat.reduceEqDiff, Go.Addr.add, ↓reduceIte] at hw318_0)
       obtain rfl : ad305 = ad318 := (by injection e318)
       (try simp only [show (6 : Int).toNat = 6 from rfl, Nat.reduceMul, Nat.reduceEqDiff, Go.Addr.add, ↓reduceIte] at hx318_0)
       have qi318 : (6 < l1.length) = True := eq_true (by omega)
       (try rw [show ((6 : Int)).toNat = 6 from rfl] at hx318_0)
       replace hx318_0 := hc_ HB hx318_0
       replace p318 := eq_true p318
       replace q318 := eq_true q318
       refine start_ (n := 44) (S := fun w' => w'.cell? ⟨ad305.block, ad305.off + 1, none⟩ = some (.int .i64 (rd l1 1)) ∧ w'.cell? ⟨ad305.block, ad305.off + 2, none⟩ = some (.int .i64 (rd l1 2)) ∧ w'.cell? ⟨ad305.block, ad305.off + 4, none⟩ = some (.int .i64 (rd l1 4)) ∧ w'.cell? ⟨ad305.block, ad305.off + 5, none⟩ = some (.int .i64 (rd l1 5)) ∧ w'.cell? ⟨ad305.block, ad305.off + 1, none⟩ = some (.int .i64 (rd l1 1)) ∧ w'.cell? ⟨ad305.block, ad305.off + 3, none⟩ = some (.int .i64 (rd l1 3)) ∧ w'.cell? ⟨ad305.block, ad305.off + 4, none⟩ = some (.int .i64 (rd l1 4)) ∧ w'.cell? ⟨ad305.block, ad305.off + 6, none⟩ = some (.int .i64 (rd l1 6)) ∧ w'.cell? ⟨ad305.block, ad305.off + 2, none⟩ = some (.int .i64 (rd l1 2)) ∧ w'.cell? ⟨ad305.block, ad305.off + 3, none⟩ = some (.int .i64 (rd l1 3)) ∧ w'.cell? ⟨ad305.block, ad305.off + 5, none⟩ = some (.int .i64 (rd l1 5)) ∧ w'.cell? ⟨ad305.block, ad305.off + 6, none⟩ = some (.int .i64 (rd l1 6))) (ds := []) #[F_,F_,F_,F_,F_,F_,F_,F_,F_,F_,F_,F_,F_,F_,F_,F_,F_,F_,F_,F_,F_,F_,F_,F_,F_,F_,F_,F_,F_,F_,F_,F_,F_,F_,F_,F_,F_,F_,F_,F_,F_,F_,F_,F_] (by kernel_rfl) rfl rfl ⟨(hc_ HB hw305_0), (hc_ HB hw306_0), (hc_ HB hw307_0), (hc_ HB hw308_0), (hc_ HB hw310_0), (hc_ HB hw311_0), (hc_ HB hw312_0), (hc_ HB hw313_0), (hc_ HB hw315_0), (hc_ HB hw316_0), (hc_ HB hw317_0), (hc_ HB hw318_0)⟩ (fun hHeld => ?_); refine with_tabW impl_plane_twinPoints.tab1 impl_plane_twinPoints.bits1 (fun HT_ HW_ => ?_)
       generalize w.drew = w12 at HB hx305_0 hx306_0 hx307_0 hx308_0 hx310_0 hx311_0 hx312_0 hx313_0 hx315_0 hx316_0 hx317_0 hx318_0 hHeld ⊢
       refine p_ 0 5 (m_ 44 1) HT_.out ?_
       refine p_ 1 6 (m_ 44 3) HT_.out ?_
       refine p_ 2 7 (m_ 44 7) HT_.out ?_
       refine p_ 4 9 (m_ 44 23) HT_.out ?_
       refine p_ 5 10 (m_ 44 55) HT_.out ?_
       refine p_ 7 12 (m_ 44 183) HT_.out ?_
       refine p_ 8 13 (m_ 44 439) HT_.out ?_
       refine p_ 10 15 (m_ 44 1463) HT_.out ?_
       refine p_ 11 16 (m_ 44 3511) HT_.out ?_
       refine p_ 14 19 (m_ 44 19895) HT_.out ?_
       refine p_ 15 20 (m_ 44 52663) HT_.out ?_
       refine p_ 16 21 (m_ 44 118199) HT_.out ?_
       refine p_ 18 23 (m_ 44 380343) HT_.out ?_
       refine p_ 19 24 (m_ 44 904631) HT_.out ?_
       refine p_ 21 26 (m_ 44 3001783) HT_.out ?_
       refine p_ 22 27 (m_ 44 7196087) HT_.out ?_
       refine p_ 24 29 (m_ 44 23973303) HT_.out ?_
       refine p_ 25 30 (m_ 44 57527735) HT_.out ?_
       refine p_ 28 33 (m_ 44 325963191) HT_.out ?_
       refine p_ 29 34 (m_ 44 862834103) HT_.out ?_
       refine p_ 30 35 (m_ 44 1936575927) HT_.out ?_
       refine p_ 32 37 (m_ 44 6231543223) HT_.out ?_
       refine p_ 33 38 (m_ 44 14821477815) HT_.out ?_
       refine p_ 35 40 (m_ 44 49181216183) HT_.out ?_
       refine p_ 36 41 (m_ 44 117900692919) HT_.out ?_
       refine p_ 38 43 (m_ 44 392778599863) HT_.out ?_
       refine p_ 39 44 (m_ 44 942534413751) HT_.out ?_
       refine take_ (i := 3) (N := some 8) (v := ?_) (a' := ?_) (m_ 44 942534413759) rfl rfl (take_ofW HT_.out HW_.out (by kernel_rfl)) (fun _ _ _ h => h) (Or.inl ⟨by rfl, ?_⟩) hHeld ?_ ?_; rotate_left; (rintro w' ⟨s0, s1, s2, s3, s4, s5, s6, s7, s8, s9, s10, s11⟩; go_simp; with_reducible rfl); rotate_left; (simp only [Act.put, List.setIfInBounds_toArray, List.set_cons_zero, List.set_cons_succ, i64_w, i32_w]; rfl)
       refine take_ (i := 6) (N := some 11) (v := ?_) (a' := ?_) (m_ 44 942534413823) rfl rfl (take_ofW HT_.out HW_.out (by kernel_rfl)) (fun _ _ _ h => h) (Or.inl ⟨by rfl, ?_⟩) hHeld ?_ ?_; rotate_left; (rintro w' ⟨s0, s1, s2, s3, s4, s5, s6, s7, s8, s9, s10, s11⟩; go_simp; with_reducible rfl); rotate_left; (simp only [Act.put, List.setIfInBounds_toArray, List.set_cons_zero, List.set_cons_succ, i64_w, i32_w]; rfl)
       refine take_ (i := 9) (N := some 14) (v := ?_) (a' := ?_) (m_ 44 942534414335) rfl rfl (take_ofW HT_.out HW_.out (by kernel_rfl)) (fun _ _ _ h => h) (Or.inl ⟨by rfl, ?_⟩) hHeld ?_ ?_; rotate_left; (rintro w' ⟨s0, s1, s2, s3, s4, s5, s6, s7, s8, s9, s10, s11⟩; go_simp; with_reducible rfl); rotate_left; (simp only [Act.put, List.setIfInBounds_toArray, List.set_cons_zero, List.set_cons_succ, i64_w, i32_w]; rfl)
       refine take_ (i := 12) (N := some 17) (v := ?_) (a' := ?_) (m_ 44 942534418431) rfl rfl (take_ofW HT_.out HW_.out (by kernel_rfl)) (fun _ _ _ h => h) (Or.inl ⟨by rfl, ?_⟩) hHeld ?_ ?_; rotate_left; (rintro w' ⟨s0, s1, s2, s3, s4, s5, s6, s7, s8, s9, s10, s11⟩; go_simp; with_reducible rfl); rotate_left; (simp only [Act.put, List.setIfInBounds_toArray, List.set_cons_zero, List.set_cons_succ, i64_w, i32_w]; rfl)
       refine take_ (i := 17) (N := some 22) (v := ?_) (a' := ?_) (m_ 44 942534549503) rfl rfl (take_ofW HT_.out HW_.out (by kernel_rfl)) (fun _ _ _ h => h) (Or.inl ⟨by rfl, ?_⟩) hHeld ?_ ?_; rotate_left; (rintro w' ⟨s0, s1, s2, s3, s4, s5, s6, s7, s8, s9, s10, s11⟩; go_simp; with_reducible rfl); rotate_left; (simp only [Act.put, List.setIfInBounds_toArray, List.set_cons_zero, List.set_cons_succ, i64_w, i32_w]; rfl)
       refine take_ (i := 20) (N := some 25) (v := ?_) (a' := ?_) (m_ 44 942535598079) rfl rfl (take_ofW HT_.out HW_.out (by kernel_rfl)) (fun _ _ _ h => h) (Or.inl ⟨by rfl, ?_⟩) hHeld ?_ ?_; rotate_left; (rintro w' ⟨s0, s1, s2, s3, s4, s5, s6, s7, s8, s9, s10, s11⟩; go_simp; with_reducible rfl); rotate_left; (simp only [Act.put, List.setIfInBounds_toArray, List.set_cons_zero, List.set_cons_succ, i64_w, i32_w]; rfl)
       refine take_ (i := 23) (N := some 28) (v := ?_) (a' := ?_) (m_ 44 942543986687) rfl rfl (take_ofW HT_.out HW_.out (by kernel_rfl)) (fun _ _ _ h => h) (Or.inl ⟨by rfl, ?_⟩) hHeld ?_ ?_; rotate_left; (rintro w' ⟨s0, s1, s2, s3, s4, s5, s6, s7, s8, s9, s10, s11⟩; go_simp; with_reducible rfl); rotate_left; (simp only [Act.put, List.setIfInBounds_toArray, List.set_cons_zero, List.set_cons_succ, i64_w, i32_w]; rfl)
       refine take_ (i := 26) (N := some 31) (v := ?_) (a' := ?_) (m_ 44 942611095551) rfl rfl (take_ofW HT_.out HW_.out (by kernel_rfl)) (fun _ _ _ h => h) (Or.inl ⟨by rfl, ?_⟩) hHeld ?_ ?_; rotate_left; (rintro w' ⟨s0, s1, s2, s3, s4, s5, s6, s7, s8, s9, s10, s11⟩; go_simp; with_reducible rfl); rotate_left; (simp only [Act.put, List.setIfInBounds_toArray, List.set_cons_zero, List.set_cons_succ, i64_w, i32_w]; rfl)
       refine take_ (i := 31) (N := some 36) (v := ?_) (a' := ?_) (m_ 44 944758579199) rfl rfl (take_ofW HT_.out HW_.out (by kernel_rfl)) (fun _ _ _ h => h) (Or.inl ⟨by rfl, ?_⟩) hHeld ?_ ?_; rotate_left; (rintro w' ⟨s0, s1, s2, s3, s4, s5, s6, s7, s8, s9, s10, s11⟩; go_simp; with_reducible rfl); rotate_left; (simp only [Act.put, List.setIfInBounds_toArray, List.set_cons_zero, List.set_cons_succ, i64_w, i32_w]; rfl)
       refine take_ (i := 34) (N := some 39) (v := ?_) (a' := ?_) (m_ 44 961938448383) rfl rfl (take_ofW HT_.out HW_.out (by kernel_rfl)) (fun _ _ _ h => h) (Or.inl ⟨by rfl, ?_⟩) hHeld ?_ ?_; rotate_left; (rintro w' ⟨s0, s1, s2, s3, s4, s5, s6, s7, s8, s9, s10, s11⟩; go_simp; with_reducible rfl); rotate_left; (simp only [Act.put, List.setIfInBounds_toArray, List.set_cons_zero, List.set_cons_succ, i64_w, i32_w]; rfl)
       refine take_ (i := 37) (N := some 42) (v := ?_) (a' := ?_) (m_ 44 1099377401855) rfl rfl (take_ofW HT_.out HW_.out (by kernel_rfl)) (fun _ _ _ h => h) (Or.inl ⟨by rfl, ?_⟩) hHeld ?_ ?_; rotate_left; (rintro w' ⟨s0, s1, s2, s3, s4, s5, s6, s7, s8, s9, s10, s11⟩; go_simp; with_reducible rfl); rotate_left; (simp only [Act.put, List.setIfInBounds_toArray, List.set_cons_zero, List.set_cons_succ, i64_w, i32_w]; rfl)
       refine take_ (i := 40) (N := some 45) (v := ?_) (a' := ?_) (m_ 44 2198889029631) rfl rfl (take_ofW HT_.out HW_.out (by kernel_rfl)) (fun _ _ _ h => h) (Or.inl ⟨by rfl, ?_⟩) hHeld ?_ ?_; rotate_left; (rintro w' ⟨s0, s1, s2, s3, s4, s5, s6, s7, s8, s9, s10, s11⟩; go_simp; with_reducible rfl); rotate_left; (simp only [Act.put, List.setIfInBounds_toArray, List.set_cons_zero, List.set_cons_succ, i64_w, i32_w]; rfl)
       refine one_ (i := 13) (N := some 18) (m_ 44 2198889037823) rfl rfl (one_of HT_.out (by kernel_rfl)) (by decide) (fun K hK => ?_)
       refine goes_ Try.func132 (by kernel_rfl) rfl #[.slice A0 l0.length c0, .int .i64 (rd l1 1), .int .i64 (rd l1 2), .int .i64 (rd l1 4), .int .i64 (rd l1 5)] (by rfl) rfl rfl ll_ ?_
       with_reducible refine (impl_plane_crossing.calls k _ _ l0 (rd l1 1) (rd l1 2) (rd l1 4) (rd l1 5) t309 _ ?side1 ?side2 A7.out).mono ?_
       (case side1 => exact sb_ HR0 HB)
       (case side2 => exact HC0.out)
       rintro e w' ⟨rfl, ⟨nd, rfl⟩⟩
       refine ⟨_, rfl, ?_⟩
       refine hK.out _ _ ⟨(hc_ HB hw305_0), (hc_ HB hw306_0), (hc_ HB hw307_0), (hc_ HB hw308_0), (hc_ HB hw310_0), (hc_ HB hw311_0), (hc_ HB hw312_0), (hc_ HB hw313_0), (hc_ HB hw315_0), (hc_ HB hw316_0), (hc_ HB hw317_0), (hc_ HB hw318_0)⟩ (fun hHeld => ?_)
       clear hK K
       refine norm_ (a' := ?_) ?_ ?_; rotate_left; (show Act.put _ (some 18) _ = _; simp only [Act.put, List.setIfInBounds_toArray, List.set_cons_zero, List.set_cons_succ, i64_w, i32_w]; rfl)
       refine one_ (i := 27) (N := some 32) (m_ 44 2199023255551) rfl rfl (one_of HT_.out (by kernel_rfl)) (by decide) (fun K hK => ?_)
       refine goes_ Try.func132 (by kernel_rfl) rfl #[.slice A0 l0.length c0, .int .i64 (rd l1 1), .int .i64 (rd l1 3), .int .i64 (rd l1 4), .int .i64 (rd l1 6)] (by rfl) rfl rfl ll_ ?_
       with_reducible refine (impl_plane_crossing.calls k _ _ l0 (rd l1 1) (rd l1 3) (rd l1 4) (rd l1 6) t314 _ ?side1 ?side2 A10.out).mono ?_
       (case side1 => repeat (first | exact (Kd.C_below HR0.out (bb_ HB)) | (with_reducible refine Kd.C_alloc ?_ _) | (with_reducible refine Kd.C_drewN ?_ _) | (with_reducible refine Kd.C_drew ?_)))
       (case side2 => exact HC0.out)
       rintro e w' ⟨rfl, ⟨nd, rfl⟩⟩
       refine ⟨_, rfl, ?_⟩
       refine hK.out _ _ ⟨(hc_ HB hw305_0), (hc_ HB hw306_0), (hc_ HB hw307_0), (hc_ HB hw308_0), (hc_ HB hw310_0), (hc_ HB hw311_0), (hc_ HB hw312_0), (hc_ HB hw313_0), (hc_ HB hw315_0), (hc_ HB hw316_0), (hc_ HB hw317_0), (hc_ HB hw318_0)⟩ (fun hHeld => ?_)
       clear hK K
       refine norm_ (a' := ?_) ?_ ?_; rotate_left; (show Act.put _ (some 32) _ = _; simp only [Act.put, List.setIfInBounds_toArray, List.set_cons_zero, List.set_cons_succ, i64_w, i32_w]; rfl)
       refine one_ (i := 41) (N := some 46) (m_ 44 4398046511103) rfl rfl (one_of HT_.out (by kernel_rfl)) (by decide) (fun K hK => ?_)
       refine goes_ Try.func132 (by kernel_rfl) rfl #[.slice A0 l0.length c0, .int .i64 (rd l1 2), .int .i64 (rd l1 3), .int .i64 (rd l1 5), .int .i64 (rd l1 6)] (by rfl) rfl rfl ll_ ?_
       with_reducible refine (impl_plane_crossing.calls k _ _ l0 (rd l1 2) (rd l1 3) (rd l1 5) (rd l1 6) t319 _ ?side1 ?side2 A11.out).mono ?_
       (case side1 => repeat (first | exact (Kd.C_below HR0.out (bb_ HB)) | (with_reducible refine Kd.C_alloc ?_ _) | (with_reducible refine Kd.C_drewN ?_ _) | (with_reducible refine Kd.C_drew ?_)))
       (case side2 => exact HC0.out)
       rintro e w' ⟨rfl, ⟨nd, rfl⟩⟩
       refine ⟨_, rfl, ?_⟩
       refine hK.out _ _ ⟨(hc_ HB hw305_0), (hc_ HB hw306_0), (hc_ HB hw307_0), (hc_ HB hw308_0), (hc_ HB hw310_0), (hc_ HB hw311_0), (hc_ HB hw312_0), (hc_ HB hw313_0), (hc_ HB hw315_0), (hc_ HB hw316_0), (hc_ HB hw317_0), (hc_ HB hw318_0)⟩ (fun hHeld => ?_)
       clear hK K
       refine norm_ (a' := ?_) ?_ ?_; rotate_left; (show Act.put _ (some 46) _ = _; simp only [Act.put, List.setIfInBounds_toArray, List.set_cons_zero, List.set_cons_succ, i64_w, i32_w]; rfl)
       refine one_ (i := 42) (N := some 47) (m_ 44 8796093022207) rfl rfl (one_of HT_.out (by kernel_rfl)) (by decide) (fun K hK => ?_)
       refine Kd.R_lit_step (Kd.int .i64) _ 3 ?hg (N := 47) ?hd (xs := ([t309, t314, t319] : List Int)) (inner := [.int .i64 t309, .int .i64 t314, .int .i64 t319]) (ok := fun _ => True) (okp := fun _ => True) ?hr ?hp (fun _ hk => hk) trivial (Below.refl _ _) (Nat.le_refl _) (by simp) ?_; (case hd => rfl); (case hg => rfl); (case hr => first | (go_simp; done) | (go_simp; rfl)); (case hp => exact (Reps.one (show Kd.M (Kd.int .i64) _ _ _ t309 [.int .i64 t309] from rfl) (Reps.one (show Kd.M (Kd.int .i64) _ _ _ t314 [.int .i64 t314] from rfl) (Reps.one (show Kd.M (Kd.int .i64) _ _ _ t319 [.int .i64 t319] from rfl) (Reps.none _ _)))))
       intro v321 w13 ho14 hb hg_ hnew_
       clear hg_ hnew_
       (first | rw [← Ny320.out] at ho14 | (simp only [Int.reduceToNat] at ho14; rw [← Ny320.out] at ho14))
       have n0_ := Aside0.mk (Kd.R_lower ho14 (below_size (bb_ HB)))
       have n1_ := Aside0.mk (below_step (bb_ HB) hb)
       clear HB
       have HO322 := n0_
       have HB := n1_
       clear n0_ n1_
       clear hb ho14
       refine hK.out _ _ ⟨(hc_ HB hw305_0), (hc_ HB hw306_0), (hc_ HB hw307_0), (hc_ HB hw308_0), (hc_ HB hw310_0), (hc_ HB hw311_0), (hc_ HB hw312_0), (hc_ HB hw313_0), (hc_ HB hw315_0), (hc_ HB hw316_0), (hc_ HB hw317_0), (hc_ HB hw318_0)⟩ (fun hHeld => ?_)
       clear hK K
       refine norm_ (a' := ?_) ?_ ?_; rotate_left; (show Act.put _ (some 47) _ = _; simp only [Act.put, List.setIfInBounds_toArray, List.set_cons_zero, List.set_cons_succ, i64_w, i32_w]; rfl)
       refine p_ 43 4 (m_ 44 17592186044415) HT_.out ?_
       refine done_ (done_of HT_.out (by kernel_rfl)) ?_
       try go_wp2
       go_ret
       exact ⟨_, ee_, by (with_reducible repeat (first | apply Kd.R_alloc | apply Kd.R_drewN | apply Kd.R_drew)); exact HO322.out, bb_ HB⟩
      ·rw [if_neg c9] at H
       exact absurd H (by simp)
     ·rw [if_neg c8] at H
      exact absurd H (by simp)
    ·rw [if_neg c6] at H
     exact absurd H (by simp)
   ·rw [if_neg c5] at H
    exact absurd H (by simp)
  ·rw [if_neg c4] at H
   exact absurd H (by simp)
 ·rw [if_neg c3] at H
  exact absurd H (by simp)
end Go.Proofs.Ytcbkoecanldlpaa.P

namespace Go.Proofs.YtcbkoecanldlpaaW.PrintWords
open Go.RowKit
def Foot (P : World → Prop) (W : World) (ok : Nat → Prop) : Prop := ∀ W' : World, (∀ k, ok k → k < W.heap.size → W'.heap[k]? = W.heap[k]?) → P W'
theorem heap_lt {W W1 : World} {k : Nat} (h : W1.heap[k]? = W.heap[k]?) (hlt : k < W.heap.size) : k < W1.heap.size := by
  rw [Array.getElem?_eq_getElem hlt] at h
  exact (Array.getElem?_eq_some_iff.1 h).1
namespace Foot
variable {P Q : World → Prop} {W W1 : World} {ok ok' : Nat → Prop}
theorem mono (h : Foot P W ok) (hok : ∀ k, ok k → ok' k) : Foot P W ok' := fun W' hW => h W' (fun k hk hlt => hW k (hok k hk) hlt)
theorem step (h : Foot P W ok) (hm : ∀ k, ok k → k < W.heap.size → W1.heap[k]? = W.heap[k]?) : Foot P W1 ok := fun W' hW => h W' (fun k hk hlt => (hW k hk (heap_lt (hm k hk hlt) hlt)).trans (hm k hk hlt))
end Foot
namespace Kd
def F {α : Type} (d : Kd α) (W : World) (ok : Nat → Prop) (A : Option Addr) (n : Nat) (xs : List α) : Prop := Foot (fun W => d.C W A n xs) W ok
def FK {α : Type} (d : Kd α) (W : World) (ok : Nat → Prop) (x : α) (c : List Value) : Prop := Foot (fun W => d.K W x c) W ok
section
variable {α β : Type} {d : Kd α} {e base n n' cc g N : Nat} {ok ok' okp S : Nat → Prop} {w w0 w1 W W1 : World} {A A' : Option Addr} {u v v1 : Value} {xs : List α} {xs' : List β} {d' : Kd β} {x : α} {c : List Value}
theorem F_nil (d : Kd α) (W : World) (ok : Nat → Prop) : F d W ok none ([] : List α).length [] := fun W' _ => C_nil d W'
theorem FK_of_M (h : d.M W base ok x c) : FK d W ok x c := fun _ hW => d.K_of_M (M_step h hW)
end
end Kd
end Go.Proofs.YtcbkoecanldlpaaW.PrintWords

namespace Go.Proofs.YtcbkoecanldlpaaW.PrintWords
open Go.RowKit
section
variable {P : Program}
end
namespace Kd
section
variable {P : Program} {ops : Array Oper} {rest : List Oper} {o : Oper} {a : Act} {Q : Exit → Act → World → Prop} {Kc : Act → World → Prop} {α : Type}
end
section
variable {α : Type} {d : Kd α} {e : Nat} {w : World} {base : Nat} {ok : Nat → Prop} {v : Value} {xs : List α}
end
section
variable {P : Program} {ops : Array Oper} {rest : List Oper} {o : Oper} {a : Act} {Q : Exit → Act → World → Prop} {Kc : Act → World → Prop} {α : Type}
end
end Kd
end Go.Proofs.YtcbkoecanldlpaaW.PrintWords

namespace Go.Proofs.YtcbkoecanldlpaaW.PrintWords
open Go.RowKit
namespace Kd
def chunks (sz : Nat) (n : Nat) (inner : List Value) : List (List Value) := (List.range n).map fun j => (inner.drop (j * sz)).take sz
theorem chunks_length (sz n : Nat) (inner : List Value) : (chunks sz n inner).length = n := by simp [chunks]
theorem chunks_at {sz n : Nat} {inner : List Value} {j : Nat} (hj : j < n) : (chunks sz n inner)[j]? = some ((inner.drop (j * sz)).take sz) := by simp [chunks, hj]
theorem chunks_get {sz n : Nat} {inner : List Value} {j : Nat} {c : List Value} (h : (chunks sz n inner)[j]? = some c) : c = (inner.drop (j * sz)).take sz := by
  have hj : j < n := by have := (List.getElem?_eq_some_iff.1 h).1; rwa [chunks_length] at this
  rw [chunks_at hj] at h
  injection h with h
  exact h.symm
theorem reps_raw {α : Type} {Rr : α → List Value → Prop} {sz : Nat} {xs : List α} {inner : List Value} (h : Reps Rr sz xs inner) (hR : ∀ x c, Rr x c → c.length = sz ∧ ∀ u ∈ c, u.oneCell' = true) : Reps (fun x cs => cs = x ∧ cs.length = sz ∧ ∀ u ∈ cs, u.oneCell' = true) sz (chunks sz xs.length inner) inner := by
  refine ⟨by rw [chunks_length]; exact h.1, fun j p hj => ?_⟩
  have hjl : j < xs.length := by have := (List.getElem?_eq_some_iff.1 hj).1; rwa [chunks_length] at this
  have hp := chunks_get hj
  exact ⟨hp.symm, hR _ _ (h.2 j _ (List.getElem?_eq_getElem hjl))⟩
section
variable {α : Type} {d : Kd α} {e base n cc g : Nat} {ok ok' okp S : Nat → Prop} {w w1 W W1 : World} {A : Option Addr} {u v v1 : Value} {xs : List α} {x : α} {c : List Value}
def N {α : Type} (d : Kd α) (e : Nat) (w : World) (base : Nat) (ok : Nat → Prop) (v : Value) (xs : List α) : Prop :=
  (∀ k, v.ownBlock = some k → ok k) ∧ ∃ rows : List (List Value), rows.length = xs.length ∧ (raw d.sz).R e w base (fun k => some k = v.ownBlock) v rows ∧ ∀ (j : Nat) (x : α) (c : List Value), xs[j]? = some x → rows[j]? = some c → FK d w (fun k => ok k ∧ some k ≠ v.ownBlock) x c
theorem R_N (h : d.R e w base ok v xs) : N d e w base ok v xs := by
  obtain ⟨h0, inner, ho, hr⟩ := h
  refine ⟨h0, chunks d.sz xs.length inner, chunks_length _ _ _, ⟨fun k hk => hk.symm, inner, by rw [chunks_length]; exact ho, reps_raw hr (fun x c hp => ⟨d.K_len (d.K_of_M hp), d.K_one (d.K_of_M hp)⟩)⟩, fun j x c hx hc => ?_⟩
  rw [chunks_get hc]
  exact FK_of_M (hr.2 j x hx)
theorem N_nil (d : Kd α) (e : Nat) (w : World) (base : Nat) (ok : Nat → Prop) : N d e w base ok (.slice none 0 0) [] := R_N (R_nil _ _ _ _ _)
end
end Kd
end Go.Proofs.YtcbkoecanldlpaaW.PrintWords

namespace Go.Proofs.YtcbkoecanldlpaaW.PrintWords
open Go.RowKit
namespace Kd
section
variable {α : Type} {d : Kd α} {e base g o n cap : Nat} {ok okp : Nat → Prop} {w W : World} {v : Value} {xs : List α}
end
section
variable {α : Type} {enc : α → Value} {h1 : ∀ x, (enc x).oneCell' = true} {e base g o n cap : Nat} {ok : Nat → Prop} {W : World} {xs : List α}
end
end Kd
end Go.Proofs.YtcbkoecanldlpaaW.PrintWords

namespace Go.Proofs.YtcbkoecanldlpaaW.PrintWords
open Go.RowKit
namespace Kd
section
variable {α : Type} {d : Kd α} {e base n cap g : Nat} {ok ok' okp : Nat → Prop} {w w1 W : World} {v v1 : Value} {xs ys : List α}
end
section
variable {P : Program} {ops : Array Oper} {rest : List Oper} {o : Oper} {a : Act} {Q : Exit → Act → World → Prop} {Kc : Act → World → Prop} {α : Type}
end
end Kd
end Go.Proofs.YtcbkoecanldlpaaW.PrintWords

namespace Go.Proofs.YtcbkoecanldlpaaW.PrintMore
open Go.RowKit Go.Proofs.YtcbkoecanldlpaaW.PrintWords
namespace Kd
open Go.Proofs.YtcbkoecanldlpaaW.PrintWords.Kd
end Kd

namespace Kd
open Go.Proofs.YtcbkoecanldlpaaW.PrintWords.Kd
section
variable {α : Type} {d : Kd α} {e base g N : Nat} {ok : Nat → Prop} {W w1 : World} {u v : Value} {xs : List α}
theorem R_oldK (hu : d.R e W base (fun k => ok k ∧ k ≠ g) u xs) (hk : KeepBut W w1 g none) : d.R e w1 base (fun k => ok k ∧ k < W.heap.size) u xs :=
  R_mono (R_keep (R_bound hu) hk (fun _ h => h.1.2)) (fun _ h => ⟨h.1.1, h.2.2.1⟩)
theorem R_told (h : d.R e w1 base (fun k => ok k ∧ k < N) u xs) (hbase : ∀ k, v.ownBlock = some k → N ≤ k) : d.R e w1 base (fun k => (ok k ∧ some k ≠ v.ownBlock) ∧ k < N) u xs :=
  R_mono h (fun k hk => ⟨⟨hk.1, fun e => Nat.lt_irrefl _ (Nat.lt_of_lt_of_le hk.2 (hbase k e.symm))⟩, hk.2⟩)
end
end Kd
end Go.Proofs.YtcbkoecanldlpaaW.PrintMore
namespace Go.Proofs.YtcbkoecanldlpaaW.PrintWords
open Go.RowKit
section
variable {P : Program} {ops : Array Oper} {rest : List Oper} {o : Oper} {a : Act} {Q : Exit → Act → World → Prop} {W : World}
end
namespace Kd
section
variable {α : Type} {d : Kd α} {e base : Nat} {ok : Nat → Prop} {W w1 : World} {v : Value} {xs : List α}
end
section
variable {α : Type} {d : Kd α} {e base g n cap : Nat} {ok oki okp : Nat → Prop} {W : World} {xs : List α} {i : Int} {c : List Value}
end
section
variable {α : Type} {d : Kd α} {e base b b' g N : Nat} {ok ok1 : Nat → Prop} {W W2 w1 : World} {u v : Value} {xs ys : List α} {S : Nat → Prop}
end
end Kd
end Go.Proofs.YtcbkoecanldlpaaW.PrintWords
namespace Go.Proofs.YtcbkoecanldlpaaW.PrintWords
open Go.RowKit
namespace Kd
def V {α : Type} (d : Kd α) (_e : Nat) (W : World) (_base : Nat) (ok : Nat → Prop) (v : Value) (xs : List α) : Prop := ∃ A c, v = .slice A xs.length c ∧ xs.length ≤ c ∧ F d W ok A xs.length xs
section
variable {α β : Type} {d : Kd α} {e base base' n m c g N' lo hi : Nat} {ok ok' S : Nat → Prop} {w W w1 : World} {A : Option Addr} {ad : Addr} {u v v1 : Value} {xs : List α}
theorem V_nil (d : Kd α) (e : Nat) (W : World) (base : Nat) (ok : Nat → Prop) : V d e W base ok (.slice none 0 0) [] := ⟨none, 0, rfl, Nat.le_refl _, F_nil d W ok⟩
end
end Kd
end Go.Proofs.YtcbkoecanldlpaaW.PrintWords

namespace Go.Proofs.Ytcbkoecanldlpaa.P
open Go.RowKit Go.Proofs.YtcbkoecanldlpaaW.PrintWords Go.Proofs.YtcbkoecanldlpaaW.PrintLast Go.Proofs.YtcbkoecanldlpaaW.PrintMore
set_option linter.unusedVariables false
set_option linter.unusedSimpArgs false

def impl_TwinPoints.f (k : Nat) (l0 : List Int) (l1 : List Int) : Option (List Int × Bool) := (impl_isSystem.f l0).bind fun t323 => (if t323 = true then ((impl_plane_isTwin.f k l0 l1).bind fun t324 => (if t324 = true then ((impl_plane_twinPoints.f k l0 l1).bind fun t325 => (some (t325, true))) else (some (([] : List Int), false)))) else (some (([] : List Int), false)))
set_option maxHeartbeats 8000000 in
set_option maxRecDepth 100000 in
theorem impl_TwinPoints.calls (k : Nat) (A0 : Option Addr) (c0 : Nat) (l0 : List Int) (A1 : Option Addr) (c1 : Nat) (l1 : List Int) (r1 : List Int) (r2 : Bool) (w : World) (hr0 : Kd.C (Kd.int .i64) w A0 l0.length l0) (hc0 : l0.length ≤ c0) (hr1 : Kd.C (Kd.int .i64) w A1 l1.length l1) (hc1 : l1.length ≤ c1) (h : impl_TwinPoints.f k l0 l1 = some (r1, r2)) :
  Calls Try.prog 18 #[.slice A0 l0.length c0, .slice A1 l1.length c1] w fun e w' => ∃ v0_ : Value, e = .returned (.tuple #[v0_, .bool r2]) ∧ Kd.R (Kd.int .i64) 3 w' w.heap.size (fun _ => True) v0_ r1 ∧ Below w.heap.size w w' := by
 have HR0 := Aside0.mk hr0
 have HC0 := Aside0.mk hc0
 clear hr0 hc0
 have HR1 := Aside0.mk hr1
 have HC1 := Aside0.mk hc1
 clear hr1 hc1
 have HB := Aside0.mk (Below.refl w.heap.size w)
 have H : ((impl_isSystem.f l0).bind fun t323 => (if t323 = true then ((impl_plane_isTwin.f k l0 l1).bind fun t324 => (if t324 = true then ((impl_plane_twinPoints.f k l0 l1).bind fun t325 => (some (t325, true))) else (some (([] : List Int), false)))) else (some (([] : List Int), false)))) = some (r1, r2) := h
 clear h
 replace H := Option.bind_eq_some_iff.mp H
 obtain ⟨t323, A30, H⟩ := H
 replace H : (if t323 = true then ((impl_plane_isTwin.f k l0 l1).bind fun t324 => (if t324 = true then ((impl_plane_twinPoints.f k l0 l1).bind fun t325 => (some (t325, true))) else (some (([] : List Int), false)))) else (some (([] : List Int), false))) = some (r1, r2) := H
 have A3 := Aside0.mk A30
 clear A30
 by_cases c4 : t323 = true
 ·subst c4
  have H1 : ((impl_plane_isTwin.f k l0 l1).bind fun t324 => (if t324 = true then ((impl_plane_twinPoints.f k l0 l1).bind fun t325 => (some (t325, true))) else (some (([] : List Int), false)))) = some (r1, r2) := by rw [if_pos rfl] at H; exact H
  clear H
  have H := H1
  clear H1
  replace H := Option.bind_eq_some_iff.mp H
  obtain ⟨t324, A50, H⟩ := H
  replace H : (if t324 = true then ((impl_plane_twinPoints.f k l0 l1).bind fun t325 => (some (t325, true))) else (some (([] : List Int), false))) = some (r1, r2) := H
  have A5 := Aside0.mk A50
  clear A50
  by_cases c6 : t324 = true
  ·subst c6
   have H1 : ((impl_plane_twinPoints.f k l0 l1).bind fun t325 => (some (t325, true))) = some (r1, r2) := by rw [if_pos rfl] at H; exact H
   clear H
   have H := H1
   clear H1
   replace H := Option.bind_eq_some_iff.mp H
   obtain ⟨t325, A70, H⟩ := H
   replace H : (some (t325, true)) = some (r1, r2) := H
   have A7 := Aside0.mk A70
   clear A70
   simp only [Option.some.injEq, Prod.mk.injEq] at H
   obtain ⟨rfl, rfl⟩ := H
   go_enter Try.func18, Try.ntmps18
   go_wp2_with (first | (refine goesL_ (some 7) rfl rfl Try.func61 (by kernel_rfl) rfl #[.slice A0 l0.length c0] rfl ll_ ?_; (with_reducible refine (impl_isSystem.calls _ _ l0 true _ ?side1 ?side2 A3.out).mono ?_); (case side1 => exact ss_ HR0); (case side2 => exact HC0.out); rintro e w8 ⟨rfl, hb⟩; refine ⟨_, rfl, ?_⟩; have n0_ := Aside0.mk (below_step (bb_ HB) hb); clear HB; have HB := n0_; clear n0_; (try clear hb); (try clear hb2); (try clear hk); (try clear hi)) | (go_at_call 62; (with_reducible refine (impl_plane_isTwin.calls k _ _ l0 _ _ l1 true _ ?side1 ?side2 ?side3 ?side4 A5.out).mono ?_); (case side1 => exact sb_ HR0 HB); (case side2 => exact HC0.out); (case side3 => exact sb_ HR1 HB); (case side4 => exact HC1.out); rintro e w9 ⟨rfl, hb⟩; have n0_ := Aside0.mk (below_step (bb_ HB) hb); clear HB; have HB := n0_; clear n0_; (try clear hb); (try clear hb2); (try clear hk); (try clear hi)) | (refine goesL_ (some 17) rfl rfl Try.func67 (by kernel_rfl) rfl #[.slice A0 l0.length c0, .slice A1 l1.length c1] rfl ll_ ?_; (with_reducible refine (impl_plane_twinPoints.calls k _ _ l0 _ _ l1 t325 _ ?side1 ?side2 ?side3 ?side4 A7.out).mono ?_); (case side1 => exact sb_ HR0 HB); (case side2 => exact HC0.out); (case side3 => exact sb_ HR1 HB); (case side4 => exact HC1.out); rintro e w10 ⟨v326, rfl, ho0, hb⟩; refine ⟨_, rfl, ?_⟩; have n0_ := Aside0.mk (Kd.R_lower ho0 (below_size (bb_ HB))); have n1_ := Aside0.mk (below_step (bb_ HB) hb); clear HB; have HO327 := n0_; have HB := n1_; clear n0_ n1_; (try clear hb); (try clear hb2); (try clear hk); (try clear hi); (try clear ho0)))
   go_ret2
   exact ⟨_, ee_, by (with_reducible repeat (first | apply Kd.R_alloc | apply Kd.R_drewN | apply Kd.R_drew)); exact HO327.out, bb_ HB⟩
  ·replace c6 := Bool.eq_false_iff.mpr c6
   subst c6
   have H1 : (some (([] : List Int), false)) = some (r1, r2) := by rw [if_neg (show ¬ (false = true) by decide)] at H; exact H
   clear H
   have H := H1
   clear H1
   simp only [Option.some.injEq, Prod.mk.injEq] at H
   obtain ⟨rfl, rfl⟩ := H
   go_enter Try.func18, Try.ntmps18
   go_wp2_with (first | (refine goesL_ (some 7) rfl rfl Try.func61 (by kernel_rfl) rfl #[.slice A0 l0.length c0] rfl ll_ ?_; (with_reducible refine (impl_isSystem.calls _ _ l0 true _ ?side1 ?side2 A3.out).mono ?_); (case side1 => exact ss_ HR0); (case side2 => exact HC0.out); rintro e w11 ⟨rfl, hb⟩; refine ⟨_, rfl, ?_⟩; have n0_ := Aside0.mk (below_step (bb_ HB) hb); clear HB; have HB := n0_; clear n0_; (try clear hb); (try clear hb2); (try clear hk); (try clear hi)) | (go_at_call 62; (with_reducible refine (impl_plane_isTwin.calls k _ _ l0 _ _ l1 false _ ?side1 ?side2 ?side3 ?side4 A5.out).mono ?_); (case side1 => exact sb_ HR0 HB); (case side2 => exact HC0.out); (case side3 => exact sb_ HR1 HB); (case side4 => exact HC1.out); rintro e w12 ⟨rfl, hb⟩; have n0_ := Aside0.mk (below_step (bb_ HB) hb); clear HB; have HB := n0_; clear n0_; (try clear hb); (try clear hb2); (try clear hk); (try clear hi)))
   go_ret2
   exact ⟨_, ee_, by first | exact Kd.R_nil _ _ _ _ _ | exact Kd.N_nil _ _ _ _ _ | exact Kd.V_nil _ _ _ _ _ | exact Kd.Q_nil _ _ _ _ _ | exact Kd.S_nil _ _ _ _ _, bb_ HB⟩
 ·replace c4 := Bool.eq_false_iff.mpr c4
  subst c4
  have H1 : (some (([] : List Int), false)) = some (r1, r2) := by rw [if_neg (show ¬ (false = true) by decide)] at H; exact H
  clear H
  have H := H1
  clear H1
  simp only [Option.some.injEq, Prod.mk.injEq] at H
  obtain ⟨rfl, rfl⟩ := H
  go_enter Try.func18, Try.ntmps18
  go_wp2_with (first | (refine goesL_ (some 7) rfl rfl Try.func61 (by kernel_rfl) rfl #[.slice A0 l0.length c0] rfl ll_ ?_; (with_reducible refine (impl_isSystem.calls _ _ l0 false _ ?side1 ?side2 A3.out).mono ?_); (case side1 => exact ss_ HR0); (case side2 => exact HC0.out); rintro e w13 ⟨rfl, hb⟩; refine ⟨_, rfl, ?_⟩; have n0_ := Aside0.mk (below_step (bb_ HB) hb); clear HB; have HB := n0_; clear n0_; (try clear hb); (try clear hb2); (try clear hk); (try clear hi)))
  go_ret2
  exact ⟨_, ee_, by first | exact Kd.R_nil _ _ _ _ _ | exact Kd.N_nil _ _ _ _ _ | exact Kd.V_nil _ _ _ _ _ | exact Kd.Q_nil _ _ _ _ _ | exact Kd.S_nil _ _ _ _ _, bb_ HB⟩
end Go.Proofs.Ytcbkoecanldlpaa.P

namespace Go.Proofs.Ytcbkoecanldlpaa.P
open Go.RowKit Go.Proofs.YtcbkoecanldlpaaW.PrintWords Go.Proofs.YtcbkoecanldlpaaW.PrintLast
set_option linter.unusedVariables false
set_option linter.unusedSimpArgs false

def laws_sameInts.l0 : Nat → List Int → List Int → Int → Option (Bool)
 | 0, _, _, _ => none
 | k + 1, x0, x1, x5 => if x5 < (x0.length : Int) then (if 0 ≤ x5 then (if x5 < (x1.length : Int) then (if (rd x0 x5) = (rd x1 x5) then (laws_sameInts.l0 k x0 x1 (wrap64 (x5 + 1))) else (some false)) else (none)) else (none)) else (some true)
def laws_sameInts.f (k : Nat) (l0 : List Int) (l1 : List Int) : Option (Bool) := if (l0.length : Int) = (l1.length : Int) then (laws_sameInts.l0 k l0 l1 0) else (some false)
set_option maxHeartbeats 8000000 in
set_option maxRecDepth 100000 in
theorem laws_sameInts.calls (k : Nat) (A0 : Option Addr) (c0 : Nat) (l0 : List Int) (A1 : Option Addr) (c1 : Nat) (l1 : List Int) (r : Bool) (w : World) (hr0 : Kd.C (Kd.int .i64) w A0 l0.length l0) (hc0 : l0.length ≤ c0) (hr1 : Kd.C (Kd.int .i64) w A1 l1.length l1) (hc1 : l1.length ≤ c1) (h : laws_sameInts.f k l0 l1 = some r) :
  Calls Try.prog 25 #[.slice A0 l0.length c0, .slice A1 l1.length c1] w fun e w' => e = .returned (.bool r) ∧ Drawn0 w w' := by
 have HR0 := Aside0.mk hr0
 have HC0 := Aside0.mk hc0
 clear hr0 hc0
 have HR1 := Aside0.mk hr1
 have HC1 := Aside0.mk hc1
 clear hr1 hc1
 have H : (if (l0.length : Int) = (l1.length : Int) then (laws_sameInts.l0 k l0 l1 0) else (some false)) = some r := h
 clear h
 by_cases c3 : (l0.length : Int) = (l1.length : Int)
 ·rw [if_pos c3] at H
  have c3b0 : ((l0.length : Int) == (l1.length : Int)) = true := beq_iff_eq.mpr c3
  have c3b1 : ((l0.length : Int) != (l1.length : Int)) = false := bne_eq_false_iff_eq.mpr c3
  have c3b2 : (l0.length == l1.length) = true := by first | simpa using c3 | (simp at c3 ⊢; omega)
  clear c3
  have H' := Aside0.mk H
  clear H
  go_enter Try.func25, Try.ntmps25
  go_wp2
  repeat (go_quiet (fail); try go_wp2)
  go_loopg [5] k (fun kq v5 w' => ∃ (x5_1 : Int), v5 = .int .i64 x5_1 ∧ Aside0 (laws_sameInts.l0 kq l0 l1 x5_1 = some r) ∧ Aside0 (kq ≤ k) ∧ Drawn0 w w')
  case atStart => exact ⟨(0), (by first | rfl | (simp; done) | (simp [*]; done)), H', ⟨Nat.le_refl _⟩, by repeat (first | exact Drawn0.refl _ | apply Drawn0.step)⟩
  case round =>
   clear H'
   try clear c1
   try clear c2
   try clear p2
   try clear c3
   try clear c3b0
   try clear c3b1
   try clear c3b2
   obtain ⟨x5_1, rfl, HA, HK1, ⟨m1, rfl⟩⟩ := hrel
   cases gk with
   | zero => exact absurd HA.out (by simp [laws_sameInts.l0])
   | succ k1 =>
    have H := HA.out
    clear HA
    simp only [laws_sameInts.l0] at H
    by_cases c4 : x5_1 < (l0.length : Int)
    ·rw [if_pos c4] at H
     have c4b0 : decide (x5_1 < (l0.length : Int)) = true := decide_eq_true c4
     clear c4
     by_cases c5 : 0 ≤ x5_1
     ·rw [if_pos c5] at H
      have c5b0 : decide (0 ≤ x5_1) = true := decide_eq_true c5
      clear c5
      by_cases c6 : x5_1 < (l1.length : Int)
      ·rw [if_pos c6] at H
       have c6b0 : decide (x5_1 < (l1.length : Int)) = true := decide_eq_true c6
       clear c6
       by_cases c7 : (rd l0 x5_1) = (rd l1 x5_1)
       ·rw [if_pos c7] at H
        have c7b0 : ((rd l0 x5_1) == (rd l1 x5_1)) = true := beq_iff_eq.mpr c7
        have c7b1 : ((rd l0 x5_1) != (rd l1 x5_1)) = false := bne_eq_false_iff_eq.mpr c7
        clear c7
        have H' := Aside0.mk H
        clear H
        have p446 : 0 ≤ (x5_1 : Int) := dd_
        have q446 : x5_1 < (l0.length : Int) := dd_
        obtain ⟨ad446, e446, hx446_0⟩ := Kd.at_int HR0.out x5_1 p446 q446
        cases e446
        replace p446 := eq_true p446
        replace q446 := eq_true q446
        have p447 : 0 ≤ (x5_1 : Int) := dd_
        have q447 : x5_1 < (l1.length : Int) := dd_
        obtain ⟨ad447, e447, hx447_0⟩ := Kd.at_int HR1.out x5_1 p447 q447
        cases e447
        replace p447 := eq_true p447
        replace q447 := eq_true q447
        go_wp2
        repeat (go_quiet (fail); try go_wp2)
        go_roundg k1
        case measure => have := HK1.out; omega
        case rel => exact ⟨(wrap64 (x5_1 + 1)), (by first | rfl | (simp; done) | (simp [*]; done)), H', ⟨by have := HK1.out; omega⟩, by repeat (first | exact Drawn0.refl _ | apply Drawn0.step)⟩
       ·rw [if_neg c7] at H
        have c7b0 : ((rd l0 x5_1) == (rd l1 x5_1)) = false := beq_eq_false_iff_ne.mpr c7
        have c7b1 : ((rd l0 x5_1) != (rd l1 x5_1)) = true := bne_iff_ne.mpr c7
        obtain rfl := Option.some.inj H
        have p446 : 0 ≤ (x5_1 : Int) := dd_
        have q446 : x5_1 < (l0.length : Int) := dd_
        obtain ⟨ad446, e446, hx446_0⟩ := Kd.at_int HR0.out x5_1 p446 q446
        cases e446
        replace p446 := eq_true p446
        replace q446 := eq_true q446
        have p447 : 0 ≤ (x5_1 : Int) := dd_
        have q447 : x5_1 < (l1.length : Int) := dd_
        obtain ⟨ad447, e447, hx447_0⟩ := Kd.at_int HR1.out x5_1 p447 q447
        cases e447
        replace p447 := eq_true p447
        replace q447 := eq_true q447
        go_wp2
        repeat (go_quiet (fail); try go_wp2)
        go_ret
        exact ⟨by first | rfl | (simp; done) | (simp [*]; done), by repeat (first | exact Drawn0.refl _ | apply Drawn0.step)⟩
      ·rw [if_neg c6] at H
       exact absurd H (by simp)
     ·rw [if_neg c5] at H
      exact absurd H (by simp)
    ·rw [if_neg c4] at H
     have c4b0 : decide (x5_1 < (l0.length : Int)) = false := decide_eq_false c4
     clear c4
     obtain rfl := Option.some.inj H
     go_wp2
     repeat (go_quiet (fail); try go_wp2)
     go_ret
     exact ⟨by first | rfl | (simp; done) | (simp [*]; done), by repeat (first | exact Drawn0.refl _ | apply Drawn0.step)⟩
 ·rw [if_neg c3] at H
  have c3b0 : ((l0.length : Int) == (l1.length : Int)) = false := beq_eq_false_iff_ne.mpr c3
  have c3b1 : ((l0.length : Int) != (l1.length : Int)) = true := bne_iff_ne.mpr c3
  have c3b2 : (l0.length == l1.length) = false := by first | simpa using c3 | (simp at c3 ⊢; omega)
  obtain rfl := Option.some.inj H
  go_enter Try.func25, Try.ntmps25
  go_wp2
  repeat (go_quiet (fail); try go_wp2)
  go_ret
  exact ⟨by first | rfl | (simp; done) | (simp [*]; done), by repeat (first | exact Drawn0.refl _ | apply Drawn0.step)⟩
end Go.Proofs.Ytcbkoecanldlpaa.P

namespace Go.Proofs.Ytcbkoecanldlpaa.P
open Go.RowKit Go.Proofs.YtcbkoecanldlpaaW.PrintWords Go.Proofs.YtcbkoecanldlpaaW.PrintLast
set_option linter.unusedVariables false
set_option linter.unusedSimpArgs false

def spec_l6In.f (a0 : Int) (a1 : Int) (a2 : Int) : Option (Bool) := if a0 ≥ a1 then (some (decide (a0 ≤ a2))) else (some false)
set_option maxHeartbeats 8000000 in
set_option maxRecDepth 100000 in
theorem spec_l6In.calls (a0 : Int) (a1 : Int) (a2 : Int) (r : Bool) (w : World) (h : spec_l6In.f a0 a1 a2 = some r) :
  Calls Try.prog 87 #[.int .i64 a0, .int .i64 a1, .int .i64 a2] w fun e w' => e = .returned (.bool r) ∧ Drawn0 w w' := by
 have H : (if a0 ≥ a1 then (some (decide (a0 ≤ a2))) else (some false)) = some r := h
 clear h
 by_cases c4 : a0 ≥ a1
 ·rw [if_pos c4] at H
  have c4b0 : decide (a1 ≤ a0) = true := decide_eq_true c4
  clear c4
  obtain rfl := Option.some.inj H
  go_enter Try.func87, Try.ntmps87
  go_wp2
  go_ret
  exact ⟨by first | rfl | (simp; done) | (simp [*]; done), by repeat (first | exact Drawn0.refl _ | apply Drawn0.step)⟩
 ·rw [if_neg c4] at H
  have c4b0 : decide (a1 ≤ a0) = false := decide_eq_false c4
  clear c4
  obtain rfl := Option.some.inj H
  go_enter Try.func87, Try.ntmps87
  go_wp2
  go_ret
  exact ⟨by first | rfl | (simp; done) | (simp [*]; done), by repeat (first | exact Drawn0.refl _ | apply Drawn0.step)⟩
end Go.Proofs.Ytcbkoecanldlpaa.P

namespace Go.Proofs.Ytcbkoecanldlpaa.P
open Go.RowKit Go.Proofs.YtcbkoecanldlpaaW.PrintWords Go.Proofs.YtcbkoecanldlpaaW.PrintLast
set_option linter.unusedVariables false
set_option linter.unusedSimpArgs false

def spec_l1In.f (a0 : Int) : Option (Bool) := (spec_l6In.f a0 0 8).bind fun t165 => (some t165)
set_option maxHeartbeats 8000000 in
set_option maxRecDepth 100000 in
theorem spec_l1In.calls (a0 : Int) (r : Bool) (w : World) (h : spec_l1In.f a0 = some r) :
  Calls Try.prog 165 #[.int .i64 a0] w fun e w' => e = .returned (.bool r) ∧ Drawn0 w w' := by
 have H : ((spec_l6In.f a0 0 8).bind fun t165 => (some t165)) = some r := h
 clear h
 replace H := Option.bind_eq_some_iff.mp H
 obtain ⟨t165, A20, H⟩ := H
 replace H : (some t165) = some r := H
 have A2 := Aside0.mk A20
 clear A20
 obtain rfl := Option.some.inj H
 go_enter Try.func165, Try.ntmps165
 go_wp2_with (first | (refine goesL_ (some 4) rfl rfl Try.func87 (by kernel_rfl) rfl #[.int .i64 a0, .int .i64 0, .int .i64 8] rfl ll_ ?_; (with_reducible refine (spec_l6In.calls a0 0 8 t165 _ A2.out).mono ?_); rintro e w' ⟨rfl, ⟨nd, rfl⟩⟩; refine ⟨_, rfl, ?_⟩))
 go_ret
 exact ⟨by first | rfl | (simp; done) | (simp [*]; done), by repeat (first | exact Drawn0.refl _ | apply Drawn0.step)⟩
end Go.Proofs.Ytcbkoecanldlpaa.P

namespace Go.Proofs.Ytcbkoecanldlpaa.P
open Go.RowKit Go.Proofs.YtcbkoecanldlpaaW.PrintWords Go.Proofs.YtcbkoecanldlpaaW.PrintLast
set_option linter.unusedVariables false
set_option linter.unusedSimpArgs false

def spec_l2Table.l0 : Nat → List Int → Int → Option (Bool)
 | 0, _, _ => none
 | k + 1, x0, x3 => if x3 < (x0.length : Int) then (if 0 ≤ x3 then ((spec_l1In.f (rd x0 x3)).bind fun t167 => (if t167 = true then (spec_l2Table.l0 k x0 (wrap64 (x3 + 1))) else (some false))) else (none)) else (some ((x0.length : Int) == 81))
def spec_l2Table.f (k : Nat) (l0 : List Int) : Option (Bool) := spec_l2Table.l0 k l0 0
set_option maxHeartbeats 8000000 in
set_option maxRecDepth 100000 in
theorem spec_l2Table.calls (k : Nat) (A0 : Option Addr) (c0 : Nat) (l0 : List Int) (r : Bool) (w : World) (hr0 : Kd.C (Kd.int .i64) w A0 l0.length l0) (hc0 : l0.length ≤ c0) (h : spec_l2Table.f k l0 = some r) :
  Calls Try.prog 128 #[.slice A0 l0.length c0] w fun e w' => e = .returned (.bool r) ∧ Drawn0 w w' := by
 have HR0 := Aside0.mk hr0
 have HC0 := Aside0.mk hc0
 clear hr0 hc0
 have H : (spec_l2Table.l0 k l0 0) = some r := h
 clear h
 have H' := Aside0.mk H
 clear H
 go_enter Try.func128, Try.ntmps128
 go_wp2
 go_loopg [3] k (fun kq v3 w' => ∃ (x3_1 : Int), v3 = .int .i64 x3_1 ∧ Aside0 (spec_l2Table.l0 kq l0 x3_1 = some r) ∧ Aside0 (kq ≤ k) ∧ Drawn0 w w')
 case atStart => exact ⟨(0), (by first | rfl | (simp; done) | (simp [*]; done)), H', ⟨Nat.le_refl _⟩, by repeat (first | exact Drawn0.refl _ | apply Drawn0.step)⟩
 case round =>
  clear H'
  try clear c1
  obtain ⟨x3_1, rfl, HA, HK1, ⟨m1, rfl⟩⟩ := hrel
  cases gk with
  | zero => exact absurd HA.out (by simp [spec_l2Table.l0])
  | succ k1 =>
   have H := HA.out
   clear HA
   simp only [spec_l2Table.l0] at H
   by_cases c2 : x3_1 < (l0.length : Int)
   ·rw [if_pos c2] at H
    have c2b0 : decide (x3_1 < (l0.length : Int)) = true := decide_eq_true c2
    clear c2
    by_cases c3 : 0 ≤ x3_1
    ·rw [if_pos c3] at H
     have c3b0 : decide (0 ≤ x3_1) = true := decide_eq_true c3
     clear c3
     replace H := Option.bind_eq_some_iff.mp H
     obtain ⟨t167, A40, H⟩ := H
     replace H : (if t167 = true then (spec_l2Table.l0 k1 l0 (wrap64 (x3_1 + 1))) else (some false)) = some r := H
     have A4 := Aside0.mk A40
     clear A40
     by_cases c5 : t167 = true
     ·subst c5
      have H1 : (spec_l2Table.l0 k1 l0 (wrap64 (x3_1 + 1))) = some r := by rw [if_pos rfl] at H; exact H
      clear H
      have H := H1
      clear H1
      have H' := Aside0.mk H
      clear H
      have p166 : 0 ≤ (x3_1 : Int) := dd_
      have q166 : x3_1 < (l0.length : Int) := dd_
      obtain ⟨ad166, e166, hx166_0⟩ := Kd.at_int HR0.out x3_1 p166 q166
      cases e166
      replace p166 := eq_true p166
      replace q166 := eq_true q166
      go_wp2_with (first | (refine goesL_ (some 14) rfl rfl Try.func165 (by kernel_rfl) rfl #[.int .i64 (rd l0 x3_1)] rfl ll_ ?_; (with_reducible refine (spec_l1In.calls (rd l0 x3_1) true _ A4.out).mono ?_); rintro e w' ⟨rfl, ⟨nd, rfl⟩⟩; refine ⟨_, rfl, ?_⟩))
      go_roundg k1
      case measure => have := HK1.out; omega
      case rel => exact ⟨(wrap64 (x3_1 + 1)), (by first | rfl | (simp; done) | (simp [*]; done)), H', ⟨by have := HK1.out; omega⟩, by repeat (first | exact Drawn0.refl _ | apply Drawn0.step)⟩
     ·replace c5 := Bool.eq_false_iff.mpr c5
      subst c5
      have H1 : (some false) = some r := by rw [if_neg (show ¬ (false = true) by decide)] at H; exact H
      clear H
      have H := H1
      clear H1
      obtain rfl := Option.some.inj H
      have p166 : 0 ≤ (x3_1 : Int) := dd_
      have q166 : x3_1 < (l0.length : Int) := dd_
      obtain ⟨ad166, e166, hx166_0⟩ := Kd.at_int HR0.out x3_1 p166 q166
      cases e166
      replace p166 := eq_true p166
      replace q166 := eq_true q166
      go_wp2_with (first | (refine goesL_ (some 14) rfl rfl Try.func165 (by kernel_rfl) rfl #[.int .i64 (rd l0 x3_1)] rfl ll_ ?_; (with_reducible refine (spec_l1In.calls (rd l0 x3_1) false _ A4.out).mono ?_); rintro e w' ⟨rfl, ⟨nd, rfl⟩⟩; refine ⟨_, rfl, ?_⟩))
      go_ret
      exact ⟨by first | rfl | (simp; done) | (simp [*]; done), by repeat (first | exact Drawn0.refl _ | apply Drawn0.step)⟩
    ·rw [if_neg c3] at H
     exact absurd H (by simp)
   ·rw [if_neg c2] at H
    have c2b0 : decide (x3_1 < (l0.length : Int)) = false := decide_eq_false c2
    clear c2
    obtain rfl := Option.some.inj H
    go_wp2
    go_ret
    exact ⟨by first | rfl | (simp; done) | (simp [*]; done), by repeat (first | exact Drawn0.refl _ | apply Drawn0.step)⟩
end Go.Proofs.Ytcbkoecanldlpaa.P

namespace Go.Proofs.Ytcbkoecanldlpaa.P
open Go.RowKit Go.Proofs.YtcbkoecanldlpaaW.PrintWords Go.Proofs.YtcbkoecanldlpaaW.PrintLast
set_option linter.unusedVariables false
set_option linter.unusedSimpArgs false

def spec_l2Units.l0 : Nat → List Int → Int → Option (Bool)
 | 0, _, _ => none
 | k + 1, x0, x3 => if x3 < 9 then (if 0 ≤ x3 then (if x3 < (x0.length : Int) then (if (rd x0 x3) = 0 then (if 0 ≤ (wrap64 (9 * x3)) then (if (wrap64 (9 * x3)) < (x0.length : Int) then (if (rd x0 (wrap64 (9 * x3))) = 0 then (if 0 ≤ (wrap64 (9 + x3)) then (if (wrap64 (9 + x3)) < (x0.length : Int) then (if (rd x0 (wrap64 (9 + x3))) = x3 then (if 0 ≤ (wrap64 ((wrap64 (9 * x3)) + 1)) then (if (wrap64 ((wrap64 (9 * x3)) + 1)) < (x0.length : Int) then (if (rd x0 (wrap64 ((wrap64 (9 * x3)) + 1))) = x3 then (spec_l2Units.l0 k x0 (wrap64 (x3 + 1))) else (some false)) else (none)) else (none)) else (some false)) else (none)) else (none)) else (some false)) else (none)) else (none)) else (some false)) else (none)) else (none)) else (some true)
def spec_l2Units.f (k : Nat) (l0 : List Int) : Option (Bool) := spec_l2Units.l0 k l0 0
set_option maxHeartbeats 8000000 in
set_option maxRecDepth 100000 in
theorem spec_l2Units.calls (k : Nat) (A0 : Option Addr) (c0 : Nat) (l0 : List Int) (r : Bool) (w : World) (hr0 : Kd.C (Kd.int .i64) w A0 l0.length l0) (hc0 : l0.length ≤ c0) (h : spec_l2Units.f k l0 = some r) :
  Calls Try.prog 129 #[.slice A0 l0.length c0] w fun e w' => e = .returned (.bool r) ∧ Drawn0 w w' := by
 have HR0 := Aside0.mk hr0
 have HC0 := Aside0.mk hc0
 clear hr0 hc0
 have H : (spec_l2Units.l0 k l0 0) = some r := h
 clear h
 have H' := Aside0.mk H
 clear H
 go_enter Try.func129, Try.ntmps129
 go_wp2
 go_loopg [3] k (fun kq v3 w' => ∃ (x3_1 : Int), v3 = .int .i64 x3_1 ∧ Aside0 (spec_l2Units.l0 kq l0 x3_1 = some r) ∧ Aside0 (kq ≤ k) ∧ Drawn0 w w')
 case atStart => exact ⟨(0), (by first | rfl | (simp; done) | (simp [*]; done)), H', ⟨Nat.le_refl _⟩, by repeat (first | exact Drawn0.refl _ | apply Drawn0.step)⟩
 case round =>
  clear H'
  try clear c1
  obtain ⟨x3_1, rfl, HA, HK1, ⟨m1, rfl⟩⟩ := hrel
  cases gk with
  | zero => exact absurd HA.out (by simp [spec_l2Units.l0])
  | succ k1 =>
   have H := HA.out
   clear HA
   simp only [spec_l2Units.l0] at H
   by_cases c2 : x3_1 < 9
   ·rw [if_pos c2] at H
    have c2b0 : decide (x3_1 < 9) = true := decide_eq_true c2
    clear c2
    by_cases c3 : 0 ≤ x3_1
    ·rw [if_pos c3] at H
     have c3b0 : decide (0 ≤ x3_1) = true := decide_eq_true c3
     clear c3
     by_cases c4 : x3_1 < (l0.length : Int)
     ·rw [if_pos c4] at H
      have c4b0 : decide (x3_1 < (l0.length : Int)) = true := decide_eq_true c4
      clear c4
      by_cases c5 : (rd l0 x3_1) = 0
      ·rw [if_pos c5] at H
       have c5b0 : ((rd l0 x3_1) == 0) = true := beq_iff_eq.mpr c5
       have c5b1 : ((rd l0 x3_1) != 0) = false := bne_eq_false_iff_eq.mpr c5
       clear c5
       obtain ⟨ji6, hji6⟩ : ∃ j_ : Int, (wrap64 (9 * x3_1)) = j_ := ⟨_, rfl⟩
       replace H : (if 0 ≤ (ji6) then (if (ji6) < (l0.length : Int) then (if (rd l0 (ji6)) = 0 then (if 0 ≤ (wrap64 (9 + x3_1)) then (if (wrap64 (9 + x3_1)) < (l0.length : Int) then (if (rd l0 (wrap64 (9 + x3_1))) = x3_1 then (if 0 ≤ (wrap64 ((ji6) + 1)) then (if (wrap64 ((ji6) + 1)) < (l0.length : Int) then (if (rd l0 (wrap64 ((ji6) + 1))) = x3_1 then (spec_l2Units.l0 k1 l0 (wrap64 (x3_1 + 1))) else (some false)) else (none)) else (none)) else (some false)) else (none)) else (none)) else (some false)) else (none)) else (none)) = some r := by first | (rw [hji6] at H; exact H) | (simp only [hji6] at H ⊢; exact H)
       have hji6w : (IntKind.i64.wrap (9 * x3_1)) = ji6 := (i64_w _).trans hji6
       by_cases c7 : 0 ≤ (ji6)
       ·rw [if_pos c7] at H
        have c7b0 : decide (0 ≤ (ji6)) = true := decide_eq_true c7
        clear c7
        by_cases c8 : (ji6) < (l0.length : Int)
        ·rw [if_pos c8] at H
         have c8b0 : decide ((ji6) < (l0.length : Int)) = true := decide_eq_true c8
         clear c8
         by_cases c9 : (rd l0 (ji6)) = 0
         ·rw [if_pos c9] at H
          have c9b0 : ((rd l0 (ji6)) == 0) = true := beq_iff_eq.mpr c9
          have c9b1 : ((rd l0 (ji6)) != 0) = false := bne_eq_false_iff_eq.mpr c9
          clear c9
          obtain ⟨ji10, hji10⟩ : ∃ j_ : Int, (wrap64 (9 + x3_1)) = j_ := ⟨_, rfl⟩
          replace H : (if 0 ≤ (ji10) then (if (ji10) < (l0.length : Int) then (if (rd l0 (ji10)) = x3_1 then (if 0 ≤ (wrap64 ((ji6) + 1)) then (if (wrap64 ((ji6) + 1)) < (l0.length : Int) then (if (rd l0 (wrap64 ((ji6) + 1))) = x3_1 then (spec_l2Units.l0 k1 l0 (wrap64 (x3_1 + 1))) else (some false)) else (none)) else (none)) else (some false)) else (none)) else (none)) = some r := by first | (rw [hji10] at H; exact H) | (simp only [hji10] at H ⊢; exact H)
          have hji10w : (IntKind.i64.wrap (9 + x3_1)) = ji10 := (i64_w _).trans hji10
          by_cases c11 : 0 ≤ (ji10)
          ·rw [if_pos c11] at H
           have c11b0 : decide (0 ≤ (ji10)) = true := decide_eq_true c11
           clear c11
           by_cases c12 : (ji10) < (l0.length : Int)
           ·rw [if_pos c12] at H
            have c12b0 : decide ((ji10) < (l0.length : Int)) = true := decide_eq_true c12
            clear c12
            by_cases c13 : (rd l0 (ji10)) = x3_1
            ·rw [if_pos c13] at H
             have c13b0 : ((rd l0 (ji10)) == x3_1) = true := beq_iff_eq.mpr c13
             have c13b1 : ((rd l0 (ji10)) != x3_1) = false := bne_eq_false_iff_eq.mpr c13
             clear c13
             obtain ⟨ji14, hji14⟩ : ∃ j_ : Int, (wrap64 ((ji6) + 1)) = j_ := ⟨_, rfl⟩
             replace H : (if 0 ≤ (ji14) then (if (ji14) < (l0.length : Int) then (if (rd l0 (ji14)) = x3_1 then (spec_l2Units.l0 k1 l0 (wrap64 (x3_1 + 1))) else (some false)) else (none)) else (none)) = some r := by first | (rw [hji14] at H; exact H) | (simp only [hji14] at H ⊢; exact H)
             have hji14w : (IntKind.i64.wrap ((ji6) + 1)) = ji14 := (i64_w _).trans hji14
             by_cases c15 : 0 ≤ (ji14)
             ·rw [if_pos c15] at H
              have c15b0 : decide (0 ≤ (ji14)) = true := decide_eq_true c15
              clear c15
              by_cases c16 : (ji14) < (l0.length : Int)
              ·rw [if_pos c16] at H
               have c16b0 : decide ((ji14) < (l0.length : Int)) = true := decide_eq_true c16
               clear c16
               by_cases c17 : (rd l0 (ji14)) = x3_1
               ·rw [if_pos c17] at H
                have c17b0 : ((rd l0 (ji14)) == x3_1) = true := beq_iff_eq.mpr c17
                have c17b1 : ((rd l0 (ji14)) != x3_1) = false := bne_eq_false_iff_eq.mpr c17
                clear c17
                have H' := Aside0.mk H
                clear H
                have p168 : 0 ≤ (x3_1 : Int) := dd_
                have q168 : x3_1 < (l0.length : Int) := dd_
                obtain ⟨ad168, e168, hx168_0⟩ := Kd.at_int HR0.out x3_1 p168 q168
                cases e168
                replace p168 := eq_true p168
                replace q168 := eq_true q168
                have p169 : 0 ≤ ((ji6) : Int) := dd_
                have q169 : (ji6) < (l0.length : Int) := dd_
                obtain ⟨ad169, e169, hx169_0⟩ := Kd.at_int HR0.out (ji6) p169 q169
                obtain rfl : ad168 = ad169 := (by injection e169)
                replace p169 := eq_true p169
                replace q169 := eq_true q169
                have p170 : 0 ≤ ((ji10) : Int) := dd_
                have q170 : (ji10) < (l0.length : Int) := dd_
                obtain ⟨ad170, e170, hx170_0⟩ := Kd.at_int HR0.out (ji10) p170 q170
                obtain rfl : ad168 = ad170 := (by injection e170)
                replace p170 := eq_true p170
                replace q170 := eq_true q170
                have p171 : 0 ≤ ((ji14) : Int) := dd_
                have q171 : (ji14) < (l0.length : Int) := dd_
                obtain ⟨ad171, e171, hx171_0⟩ := Kd.at_int HR0.out (ji14) p171 q171
                obtain rfl : ad168 = ad171 := (by injection e171)
                replace p171 := eq_true p171
                replace q171 := eq_true q171
                go_wp2
                go_roundg k1
                case measure => have := HK1.out; omega
                case rel => exact ⟨(wrap64 (x3_1 + 1)), (by first | rfl | (simp; done) | (simp [*]; done)), H', ⟨by have := HK1.out; omega⟩, by repeat (first | exact Drawn0.refl _ | apply Drawn0.step)⟩
               ·rw [if_neg c17] at H
                have c17b0 : ((rd l0 (ji14)) == x3_1) = false := beq_eq_false_iff_ne.mpr c17
                have c17b1 : ((rd l0 (ji14)) != x3_1) = true := bne_iff_ne.mpr c17
                obtain rfl := Option.some.inj H
                have p168 : 0 ≤ (x3_1 : Int) := dd_
                have q168 : x3_1 < (l0.length : Int) := dd_
                obtain ⟨ad168, e168, hx168_0⟩ := Kd.at_int HR0.out x3_1 p168 q168
                cases e168
                replace p168 := eq_true p168
                replace q168 := eq_true q168
                have p169 : 0 ≤ ((ji6) : Int) := dd_
                have q169 : (ji6) < (l0.length : Int) := dd_
                obtain ⟨ad169, e169, hx169_0⟩ := Kd.at_int HR0.out (ji6) p169 q169
                obtain rfl : ad168 = ad169 := (by injection e169)
                replace p169 := eq_true p169
                replace q169 := eq_true q169
                have p170 : 0 ≤ ((ji10) : Int) := dd_
                have q170 : (ji10) < (l0.length : Int) := dd_
                obtain ⟨ad170, e170, hx170_0⟩ := Kd.at_int HR0.out (ji10) p170 q170
                obtain rfl : ad168 = ad170 := (by injection e170)
                replace p170 := eq_true p170
                replace q170 := eq_true q170
                have p171 : 0 ≤ ((ji14) : Int) := dd_
                have q171 : (ji14) < (l0.length : Int) := dd_
                obtain ⟨ad171, e171, hx171_0⟩ := Kd.at_int HR0.out (ji14) p171 q171
                obtain rfl : ad168 = ad171 := (by injection e171)
                replace p171 := eq_true p171
                replace q171 := eq_true q171
                go_wp2
                go_ret
                exact ⟨by first | rfl | (simp; done) | (simp only [← hji6, ← hji10, ← hji14] <;> (first | rfl | simp)) | (simp [*]; done), by repeat (first | exact Drawn0.refl _ | apply Drawn0.step)⟩
              ·rw [if_neg c16] at H
               exact absurd H (by simp)
             ·rw [if_neg c15] at H
              exact absurd H (by simp)
            ·rw [if_neg c13] at H
             have c13b0 : ((rd l0 (ji10)) == x3_1) = false := beq_eq_false_iff_ne.mpr c13
             have c13b1 : ((rd l0 (ji10)) != x3_1) = true := bne_iff_ne.mpr c13
             obtain rfl := Option.some.inj H
             have p168 : 0 ≤ (x3_1 : Int) := dd_
             have q168 : x3_1 < (l0.length : Int) := dd_
             obtain ⟨ad168, e168, hx168_0⟩ := Kd.at_int HR0.out x3_1 p168 q168
             cases e168
             replace p168 := eq_true p168
             replace q168 := eq_true q168
             have p169 : 0 ≤ ((ji6) : Int) := dd_
             have q169 : (ji6) < (l0.length : Int) := dd_
             obtain ⟨ad169, e169, hx169_0⟩ := Kd.at_int HR0.out (ji6) p169 q169
             obtain rfl : ad168 = ad169 := (by injection e169)
             replace p169 := eq_true p169
             replace q169 := eq_true q169
             have p170 : 0 ≤ ((ji10) : Int) := dd_
             have q170 : (ji10) < (l0.length : Int) := dd_
             obtain ⟨ad170, e170, hx170_0⟩ := Kd.at_int HR0.out (ji10) p170 q170
             obtain rfl : ad168 = ad170 := (by injection e170)
             replace p170 := eq_true p170
             replace q170 := eq_true q170
             go_wp2
             go_ret
             exact ⟨by first | rfl | (simp; done) | (simp only [← hji6, ← hji10] <;> (first | rfl | simp)) | (simp [*]; done), by repeat (first | exact Drawn0.refl _ | apply Drawn0.step)⟩
           ·rw [if_neg c12] at H
            exact absurd H (by simp)
          ·rw [if_neg c11] at H
           exact absurd H (by simp)
         ·rw [if_neg c9] at H
          have c9b0 : ((rd l0 (ji6)) == 0) = false := beq_eq_false_iff_ne.mpr c9
          have c9b1 : ((rd l0 (ji6)) != 0) = true := bne_iff_ne.mpr c9
          obtain rfl := Option.some.inj H
          have p168 : 0 ≤ (x3_1 : Int) := dd_
          have q168 : x3_1 < (l0.length : Int) := dd_
          obtain ⟨ad168, e168, hx168_0⟩ := Kd.at_int HR0.out x3_1 p168 q168
          cases e168
          replace p168 := eq_true p168
          replace q168 := eq_true q168
          have p169 : 0 ≤ ((ji6) : Int) := dd_
          have q169 : (ji6) < (l0.length : Int) := dd_
          obtain ⟨ad169, e169, hx169_0⟩ := Kd.at_int HR0.out (ji6) p169 q169
          obtain rfl : ad168 = ad169 := (by injection e169)
          replace p169 := eq_true p169
          replace q169 := eq_true q169
          go_wp2
          go_ret
          exact ⟨by first | rfl | (simp; done) | (simp only [← hji6] <;> (first | rfl | simp)) | (simp [*]; done), by repeat (first | exact Drawn0.refl _ | apply Drawn0.step)⟩
        ·rw [if_neg c8] at H
         exact absurd H (by simp)
       ·rw [if_neg c7] at H
        exact absurd H (by simp)
      ·rw [if_neg c5] at H
       have c5b0 : ((rd l0 x3_1) == 0) = false := beq_eq_false_iff_ne.mpr c5
       have c5b1 : ((rd l0 x3_1) != 0) = true := bne_iff_ne.mpr c5
       obtain rfl := Option.some.inj H
       have p168 : 0 ≤ (x3_1 : Int) := dd_
       have q168 : x3_1 < (l0.length : Int) := dd_
       obtain ⟨ad168, e168, hx168_0⟩ := Kd.at_int HR0.out x3_1 p168 q168
       cases e168
       replace p168 := eq_true p168
       replace q168 := eq_true q168
       go_wp2
       go_ret
       exact ⟨by first | rfl | (simp; done) | (simp [*]; done), by repeat (first | exact Drawn0.refl _ | apply Drawn0.step)⟩
     ·rw [if_neg c4] at H
      exact absurd H (by simp)
    ·rw [if_neg c3] at H
     exact absurd H (by simp)
   ·rw [if_neg c2] at H
    have c2b0 : decide (x3_1 < 9) = false := decide_eq_false c2
    clear c2
    obtain rfl := Option.some.inj H
    go_wp2
    go_ret
    exact ⟨by first | rfl | (simp; done) | (simp [*]; done), by repeat (first | exact Drawn0.refl _ | apply Drawn0.step)⟩
end Go.Proofs.Ytcbkoecanldlpaa.P

namespace Go.Proofs.Ytcbkoecanldlpaa.P
open Go.RowKit Go.Proofs.YtcbkoecanldlpaaW.PrintWords Go.Proofs.YtcbkoecanldlpaaW.PrintLast
set_option linter.unusedVariables false
set_option linter.unusedSimpArgs false

mutual
def spec_SystemIn.j0 : Nat → List Int → Bool → Option (Bool)
 | 0, _, _ => none
 | k + 1, x0, x17 => if x17 = true then (some false) else (spec_SystemIn.l0 k x0 0)
def spec_SystemIn.l0 : Nat → List Int → Int → Option (Bool)
 | 0, _, _ => none
 | k + 1, x0, x3 => if x3 < 9 then (spec_SystemIn.l1 k x0 x3 0) else (some true)
def spec_SystemIn.l1 : Nat → List Int → Int → Int → Option (Bool)
 | 0, _, _, _ => none
 | k + 1, x0, x3, x4 => if x4 < x3 then ((spec_l2Solves.f x0 x3 x4).bind fun t175 => (if t175 = true then (spec_SystemIn.l1 k x0 x3 (wrap64 (x4 + 1))) else (some false))) else (spec_SystemIn.l0 k x0 (wrap64 (x3 + 1)))
end
def spec_SystemIn.f (k : Nat) (l0 : List Int) : Option (Bool) := (spec_l2Table.f k l0).bind fun t172 => (if t172 = true then ((spec_l2Units.f k l0).bind fun t173 => (if t173 = true then ((spec_l2Shares.f l0).bind fun t174 => (spec_SystemIn.j0 k l0 (!t174))) else (spec_SystemIn.j0 k l0 true))) else (spec_SystemIn.j0 k l0 true))
set_option maxHeartbeats 8000000 in
set_option maxRecDepth 100000 in
theorem spec_SystemIn.calls (k : Nat) (A0 : Option Addr) (c0 : Nat) (l0 : List Int) (r : Bool) (w : World) (hr0 : Kd.C (Kd.int .i64) w A0 l0.length l0) (hc0 : l0.length ≤ c0) (h : spec_SystemIn.f k l0 = some r) :
  Calls Try.prog 63 #[.slice A0 l0.length c0] w fun e w' => e = .returned (.bool r) ∧ Below w.heap.size w w' := by
 have HR0 := Aside0.mk hr0
 have HC0 := Aside0.mk hc0
 clear hr0 hc0
 have HB := Aside0.mk (Below.refl w.heap.size w)
 have H : ((spec_l2Table.f k l0).bind fun t172 => (if t172 = true then ((spec_l2Units.f k l0).bind fun t173 => (if t173 = true then ((spec_l2Shares.f l0).bind fun t174 => (spec_SystemIn.j0 k l0 (!t174))) else (spec_SystemIn.j0 k l0 true))) else (spec_SystemIn.j0 k l0 true))) = some r := h
 clear h
 have HC2 := Aside0.mk H
 clear H
 go_enter Try.func63, Try.ntmps63
 go_upto_region 1 with (fail)
 go_cut [17] (fun v17 wc => ∃ (kq : Nat) (x17_1 : Bool), v17 = .bool x17_1 ∧ Aside0 (spec_SystemIn.j0 kq l0 x17_1 = some r) ∧ Aside0 (kq ≤ k) ∧ Aside0 (Below w.heap.size w wc))
 case first =>
  have H := HC2.out
  clear HC2
  replace H := Option.bind_eq_some_iff.mp H
  obtain ⟨t172, A30, H⟩ := H
  replace H : (if t172 = true then ((spec_l2Units.f k l0).bind fun t173 => (if t173 = true then ((spec_l2Shares.f l0).bind fun t174 => (spec_SystemIn.j0 k l0 (!t174))) else (spec_SystemIn.j0 k l0 true))) else (spec_SystemIn.j0 k l0 true)) = some r := H
  have A3 := Aside0.mk A30
  clear A30
  by_cases c4 : t172 = true
  ·subst c4
   have H1 : ((spec_l2Units.f k l0).bind fun t173 => (if t173 = true then ((spec_l2Shares.f l0).bind fun t174 => (spec_SystemIn.j0 k l0 (!t174))) else (spec_SystemIn.j0 k l0 true))) = some r := by rw [if_pos rfl] at H; exact H
   clear H
   have H := H1
   clear H1
   replace H := Option.bind_eq_some_iff.mp H
   obtain ⟨t173, A50, H⟩ := H
   replace H : (if t173 = true then ((spec_l2Shares.f l0).bind fun t174 => (spec_SystemIn.j0 k l0 (!t174))) else (spec_SystemIn.j0 k l0 true)) = some r := H
   have A5 := Aside0.mk A50
   clear A50
   by_cases c6 : t173 = true
   ·subst c6
    have H1 : ((spec_l2Shares.f l0).bind fun t174 => (spec_SystemIn.j0 k l0 (!t174))) = some r := by rw [if_pos rfl] at H; exact H
    clear H
    have H := H1
    clear H1
    replace H := Option.bind_eq_some_iff.mp H
    obtain ⟨t174, A70, H⟩ := H
    replace H : (spec_SystemIn.j0 k l0 (!t174)) = some r := H
    have A7 := Aside0.mk A70
    clear A70
    have H' := Aside0.mk H
    clear H
    go_wp2_with (first | (refine goesL_ (some 6) rfl rfl Try.func128 (by kernel_rfl) rfl #[.slice A0 l0.length c0] rfl ll_ ?_; (with_reducible refine (spec_l2Table.calls k _ _ l0 true _ ?side1 ?side2 A3.out).mono ?_); (case side1 => exact sb_ HR0 HB); (case side2 => exact HC0.out); rintro e w' ⟨rfl, ⟨nd, rfl⟩⟩; refine ⟨_, rfl, ?_⟩) | (go_at_call 129; (with_reducible refine (spec_l2Units.calls k _ _ l0 true _ ?side1 ?side2 A5.out).mono ?_); (case side1 => repeat (first | exact (Kd.C_below HR0.out (bb_ HB)) | (with_reducible refine Kd.C_alloc ?_ _) | (with_reducible refine Kd.C_drewN ?_ _) | (with_reducible refine Kd.C_drew ?_))); (case side2 => exact HC0.out); rintro e w' ⟨rfl, ⟨nd, rfl⟩⟩) | (go_at_call 130; (with_reducible refine (spec_l2Shares.calls _ _ l0 t174 _ ?side1 ?side2 A7.out).mono ?_); (case side1 => repeat (first | exact (Kd.C_below HR0.out (bb_ HB)) | (with_reducible refine Kd.C_alloc ?_ _) | (with_reducible refine Kd.C_drewN ?_ _) | (with_reducible refine Kd.C_drew ?_))); (case side2 => exact HC0.out); rintro e w' ⟨rfl, ⟨nd, rfl⟩⟩))
    go_meet
    case rel => exact ⟨_, (!t174), (by first | rfl | (simp; done) | (simp [*]; done)), H', ⟨by first | omega | exact Nat.le_refl _⟩, ⟨by repeat (first | (with_reducible first | exact HB.out | apply below_alloc | apply pw_below_drewN | apply below_drew1) | exact HB.out)⟩⟩
   ·replace c6 := Bool.eq_false_iff.mpr c6
    subst c6
    have H1 : (spec_SystemIn.j0 k l0 true) = some r := by rw [if_neg (show ¬ (false = true) by decide)] at H; exact H
    clear H
    have H := H1
    clear H1
    have H' := Aside0.mk H
    clear H
    go_wp2_with (first | (refine goesL_ (some 6) rfl rfl Try.func128 (by kernel_rfl) rfl #[.slice A0 l0.length c0] rfl ll_ ?_; (with_reducible refine (spec_l2Table.calls k _ _ l0 true _ ?side1 ?side2 A3.out).mono ?_); (case side1 => exact sb_ HR0 HB); (case side2 => exact HC0.out); rintro e w' ⟨rfl, ⟨nd, rfl⟩⟩; refine ⟨_, rfl, ?_⟩) | (go_at_call 129; (with_reducible refine (spec_l2Units.calls k _ _ l0 false _ ?side1 ?side2 A5.out).mono ?_); (case side1 => repeat (first | exact (Kd.C_below HR0.out (bb_ HB)) | (with_reducible refine Kd.C_alloc ?_ _) | (with_reducible refine Kd.C_drewN ?_ _) | (with_reducible refine Kd.C_drew ?_))); (case side2 => exact HC0.out); rintro e w' ⟨rfl, ⟨nd, rfl⟩⟩))
    go_meet
    case rel => exact ⟨_, (true), (by first | rfl | (simp; done) | (simp [*]; done)), H', ⟨by first | omega | exact Nat.le_refl _⟩, ⟨by repeat (first | (with_reducible first | exact HB.out | apply below_alloc | apply pw_below_drewN | apply below_drew1) | exact HB.out)⟩⟩
  ·replace c4 := Bool.eq_false_iff.mpr c4
   subst c4
   have H1 : (spec_SystemIn.j0 k l0 true) = some r := by rw [if_neg (show ¬ (false = true) by decide)] at H; exact H
   clear H
   have H := H1
   clear H1
   have H' := Aside0.mk H
   clear H
   go_wp2_with (first | (refine goesL_ (some 6) rfl rfl Try.func128 (by kernel_rfl) rfl #[.slice A0 l0.length c0] rfl ll_ ?_; (with_reducible refine (spec_l2Table.calls k _ _ l0 false _ ?side1 ?side2 A3.out).mono ?_); (case side1 => exact sb_ HR0 HB); (case side2 => exact HC0.out); rintro e w' ⟨rfl, ⟨nd, rfl⟩⟩; refine ⟨_, rfl, ?_⟩))
   go_meet
   case rel => exact ⟨_, (true), (by first | rfl | (simp; done) | (simp [*]; done)), H', ⟨by first | omega | exact Nat.le_refl _⟩, ⟨by repeat (first | (with_reducible first | exact HB.out | apply below_alloc | apply pw_below_drewN | apply below_drew1) | exact HB.out)⟩⟩
 case rest =>
  clear HC2
  try clear c1
  try clear p2
  try clear c4
  try clear c6
  obtain ⟨kq, x17_1, rfl, HA, HJ1, HB⟩ := hcut
  cases kq with
  | zero => exact absurd HA.out (by simp [spec_SystemIn.j0])
  | succ kj1 =>
   have H := HA.out
   clear HA
   simp only [spec_SystemIn.j0] at H
   by_cases c8 : x17_1 = true
   ·subst c8
    have H1 : (some false) = some r := by rw [if_pos rfl] at H; exact H
    clear H
    have H := H1
    clear H1
    obtain rfl := Option.some.inj H
    go_wp2
    go_ret
    exact ⟨ee_, bb_ HB⟩
   ·replace c8 := Bool.eq_false_iff.mpr c8
    subst c8
    have H1 : (spec_SystemIn.l0 kj1 l0 0) = some r := by rw [if_neg (show ¬ (false = true) by decide)] at H; exact H
    clear H
    have H := H1
    clear H1
    have H' := Aside0.mk H
    clear H
    go_wp2
    go_loopg [3] kj1 (fun kq v3 w' => ∃ (x3_2 : Int), v3 = .int .i64 x3_2 ∧ Aside0 (spec_SystemIn.l0 kq l0 x3_2 = some r) ∧ Aside0 (kq ≤ kj1) ∧ Aside0 (Below w.heap.size w w'))
    case atStart => exact ⟨(0), (by first | rfl | (simp; done) | (simp [*]; done)), H', ⟨Nat.le_refl _⟩, ⟨by repeat (first | (with_reducible first | exact HB.out | apply below_alloc | apply pw_below_drewN | apply below_drew1) | exact HB.out)⟩⟩
    case round =>
     clear H'
     try clear c1
     try clear p2
     try clear c4
     try clear c6
     try clear c8
     try clear p2
     obtain ⟨x3_2, rfl, HA, HK2, HB⟩ := hrel
     cases gk with
     | zero => exact absurd HA.out (by simp [spec_SystemIn.l0])
     | succ k2 =>
      have H := HA.out
      clear HA
      simp only [spec_SystemIn.l0] at H
      by_cases c9 : x3_2 < 9
      ·rw [if_pos c9] at H
       have c9b0 : decide (x3_2 < 9) = true := decide_eq_true c9
       clear c9
       have H' := Aside0.mk H
       clear H
       go_wp2
       go_loopg [4] k2 (fun kq v4 w' => ∃ (x4_3 : Int), v4 = .int .i64 x4_3 ∧ Aside0 (spec_SystemIn.l1 kq l0 x3_2 x4_3 = some r) ∧ Aside0 (kq ≤ k2) ∧ Aside0 (Below w.heap.size w w'))
       case atStart => exact ⟨(0), (by first | rfl | (simp; done) | (simp [*]; done)), H', ⟨Nat.le_refl _⟩, ⟨by repeat (first | (with_reducible first | exact HB.out | apply below_alloc | apply pw_below_drewN | apply below_drew1) | exact HB.out)⟩⟩
       case round =>
        clear H'
        try clear c1
        try clear p2
        try clear c4
        try clear c6
        try clear c8
        try clear c9
        try clear c9b0
        try clear p2
        obtain ⟨x4_3, rfl, HA, HK3, HB⟩ := hrel
        cases gk with
        | zero => exact absurd HA.out (by simp [spec_SystemIn.l1])
        | succ k3 =>
         have H := HA.out
         clear HA
         simp only [spec_SystemIn.l1] at H
         by_cases c10 : x4_3 < x3_2
         ·rw [if_pos c10] at H
          have c10b0 : decide (x4_3 < x3_2) = true := decide_eq_true c10
          clear c10
          replace H := Option.bind_eq_some_iff.mp H
          obtain ⟨t175, A110, H⟩ := H
          replace H : (if t175 = true then (spec_SystemIn.l1 k3 l0 x3_2 (wrap64 (x4_3 + 1))) else (some false)) = some r := H
          have A11 := Aside0.mk A110
          clear A110
          by_cases c12 : t175 = true
          ·subst c12
           have H1 : (spec_SystemIn.l1 k3 l0 x3_2 (wrap64 (x4_3 + 1))) = some r := by rw [if_pos rfl] at H; exact H
           clear H
           have H := H1
           clear H1
           have H' := Aside0.mk H
           clear H
           go_wp2_with (first | (refine goesL_ (some 30) rfl rfl Try.func131 (by kernel_rfl) rfl #[.slice A0 l0.length c0, .int .i64 x3_2, .int .i64 x4_3] rfl ll_ ?_; (with_reducible refine (spec_l2Solves.calls _ _ l0 x3_2 x4_3 true _ ?side1 ?side2 A11.out).mono ?_); (case side1 => exact sb_ HR0 HB); (case side2 => exact HC0.out); rintro e w13 ⟨rfl, hb⟩; refine ⟨_, rfl, ?_⟩; have n0_ := Aside0.mk (below_step (bb_ HB) hb); clear HB; have HB := n0_; clear n0_; (try clear hb); (try clear hb2); (try clear hk); (try clear hi)))
           go_roundg k3
           case measure => have := HJ1.out; have := HK2.out; have := HK3.out; omega
           case rel => exact ⟨(wrap64 (x4_3 + 1)), (by first | rfl | (simp; done) | (simp [*]; done)), H', ⟨by have := HJ1.out; have := HK2.out; have := HK3.out; omega⟩, ⟨by repeat (first | (with_reducible first | exact HB.out | apply below_alloc | apply pw_below_drewN | apply below_drew1) | exact HB.out)⟩⟩
          ·replace c12 := Bool.eq_false_iff.mpr c12
           subst c12
           have H1 : (some false) = some r := by rw [if_neg (show ¬ (false = true) by decide)] at H; exact H
           clear H
           have H := H1
           clear H1
           obtain rfl := Option.some.inj H
           go_wp2_with (first | (refine goesL_ (some 30) rfl rfl Try.func131 (by kernel_rfl) rfl #[.slice A0 l0.length c0, .int .i64 x3_2, .int .i64 x4_3] rfl ll_ ?_; (with_reducible refine (spec_l2Solves.calls _ _ l0 x3_2 x4_3 false _ ?side1 ?side2 A11.out).mono ?_); (case side1 => exact sb_ HR0 HB); (case side2 => exact HC0.out); rintro e w14 ⟨rfl, hb⟩; refine ⟨_, rfl, ?_⟩; have n0_ := Aside0.mk (below_step (bb_ HB) hb); clear HB; have HB := n0_; clear n0_; (try clear hb); (try clear hb2); (try clear hk); (try clear hi)))
           go_ret
           exact ⟨ee_, bb_ HB⟩
         ·rw [if_neg c10] at H
          have c10b0 : decide (x4_3 < x3_2) = false := decide_eq_false c10
          clear c10
          have H' := Aside0.mk H
          clear H
          go_wp2
          go_roundg k3
          case measure => have := HJ1.out; have := HK2.out; have := HK3.out; omega
          case rel => exact ⟨(wrap64 (x3_2 + 1)), (by first | rfl | (simp; done) | (simp [*]; done)), H', ⟨by have := HJ1.out; have := HK2.out; have := HK3.out; omega⟩, ⟨by repeat (first | (with_reducible first | exact HB.out | apply below_alloc | apply pw_below_drewN | apply below_drew1) | exact HB.out)⟩⟩
      ·rw [if_neg c9] at H
       have c9b0 : decide (x3_2 < 9) = false := decide_eq_false c9
       clear c9
       obtain rfl := Option.some.inj H
       go_wp2
       go_ret
       exact ⟨ee_, bb_ HB⟩
end Go.Proofs.Ytcbkoecanldlpaa.P

namespace Go.Proofs.Ytcbkoecanldlpaa.P
open Go.RowKit Go.Proofs.YtcbkoecanldlpaaW.PrintWords Go.Proofs.YtcbkoecanldlpaaW.PrintLast
set_option linter.unusedVariables false
set_option linter.unusedSimpArgs false

def spec_l3In.f (a0 : Int) : Option (Bool) := (spec_l6In.f a0 0 90).bind fun t180 => (some t180)
set_option maxHeartbeats 8000000 in
set_option maxRecDepth 100000 in
theorem spec_l3In.calls (a0 : Int) (r : Bool) (w : World) (h : spec_l3In.f a0 = some r) :
  Calls Try.prog 83 #[.int .i64 a0] w fun e w' => e = .returned (.bool r) ∧ Drawn0 w w' := by
 have H : ((spec_l6In.f a0 0 90).bind fun t180 => (some t180)) = some r := h
 clear h
 replace H := Option.bind_eq_some_iff.mp H
 obtain ⟨t180, A20, H⟩ := H
 replace H : (some t180) = some r := H
 have A2 := Aside0.mk A20
 clear A20
 obtain rfl := Option.some.inj H
 go_enter Try.func83, Try.ntmps83
 go_wp2_with (first | (refine goesL_ (some 4) rfl rfl Try.func87 (by kernel_rfl) rfl #[.int .i64 a0, .int .i64 0, .int .i64 90] rfl ll_ ?_; (with_reducible refine (spec_l6In.calls a0 0 90 t180 _ A2.out).mono ?_); rintro e w' ⟨rfl, ⟨nd, rfl⟩⟩; refine ⟨_, rfl, ?_⟩))
 go_ret
 exact ⟨by first | rfl | (simp; done) | (simp [*]; done), by repeat (first | exact Drawn0.refl _ | apply Drawn0.step)⟩
end Go.Proofs.Ytcbkoecanldlpaa.P

namespace Go.Proofs.Ytcbkoecanldlpaa.P
open Go.RowKit Go.Proofs.YtcbkoecanldlpaaW.PrintWords Go.Proofs.YtcbkoecanldlpaaW.PrintLast
set_option linter.unusedVariables false
set_option linter.unusedSimpArgs false

def spec_l3On.f (l0 : List Int) (a1 : Int) (a2 : Int) : Option (Bool) := if a2 = 90 then (some (decide (a1 ≥ 81))) else (if a2 ≥ 81 then (if a1 = 90 then (some true) else (if a1 < 81 then (some ((wrap64 (Int.tdiv a1 9)) == (wrap64 (a2 - 81)))) else (some false))) else (if a1 ≥ 81 then (some ((wrap64 (a1 - 81)) == (wrap64 (Int.tdiv a2 9)))) else (if 0 ≤ (wrap64 ((wrap64 ((wrap64 (Int.tdiv a1 9)) * 9)) + (wrap64 (Int.tdiv a2 9)))) then (if (wrap64 ((wrap64 ((wrap64 (Int.tdiv a1 9)) * 9)) + (wrap64 (Int.tdiv a2 9)))) < (l0.length : Int) then ((spec_l1Add.f (rd l0 (wrap64 ((wrap64 ((wrap64 (Int.tdiv a1 9)) * 9)) + (wrap64 (Int.tdiv a2 9))))) (Int.tmod a2 9)).bind fun t177 => (some ((Int.tmod a1 9) == t177))) else (none)) else (none))))
set_option maxHeartbeats 8000000 in
set_option maxRecDepth 100000 in
theorem spec_l3On.calls (A0 : Option Addr) (c0 : Nat) (l0 : List Int) (a1 : Int) (a2 : Int) (r : Bool) (w : World) (hr0 : Kd.C (Kd.int .i64) w A0 l0.length l0) (hc0 : l0.length ≤ c0) (h : spec_l3On.f l0 a1 a2 = some r) :
  Calls Try.prog 106 #[.slice A0 l0.length c0, .int .i64 a1, .int .i64 a2] w fun e w' => e = .returned (.bool r) ∧ Drawn0 w w' := by
 have HR0 := Aside0.mk hr0
 have HC0 := Aside0.mk hc0
 clear hr0 hc0
 have H : (if a2 = 90 then (some (decide (a1 ≥ 81))) else (if a2 ≥ 81 then (if a1 = 90 then (some true) else (if a1 < 81 then (some ((wrap64 (Int.tdiv a1 9)) == (wrap64 (a2 - 81)))) else (some false))) else (if a1 ≥ 81 then (some ((wrap64 (a1 - 81)) == (wrap64 (Int.tdiv a2 9)))) else (if 0 ≤ (wrap64 ((wrap64 ((wrap64 (Int.tdiv a1 9)) * 9)) + (wrap64 (Int.tdiv a2 9)))) then (if (wrap64 ((wrap64 ((wrap64 (Int.tdiv a1 9)) * 9)) + (wrap64 (Int.tdiv a2 9)))) < (l0.length : Int) then ((spec_l1Add.f (rd l0 (wrap64 ((wrap64 ((wrap64 (Int.tdiv a1 9)) * 9)) + (wrap64 (Int.tdiv a2 9))))) (Int.tmod a2 9)).bind fun t177 => (some ((Int.tmod a1 9) == t177))) else (none)) else (none))))) = some r := h
 clear h
 by_cases c4 : a2 = 90
 ·rw [if_pos c4] at H
  have c4b0 : (a2 == 90) = true := beq_iff_eq.mpr c4
  have c4b1 : (a2 != 90) = false := bne_eq_false_iff_eq.mpr c4
  clear c4
  obtain rfl := Option.some.inj H
  go_enter Try.func106, Try.ntmps106
  go_wp2
  go_ret
  exact ⟨by first | rfl | (simp; done) | (simp [*]; done), by repeat (first | exact Drawn0.refl _ | apply Drawn0.step)⟩
 ·rw [if_neg c4] at H
  have c4b0 : (a2 == 90) = false := beq_eq_false_iff_ne.mpr c4
  have c4b1 : (a2 != 90) = true := bne_iff_ne.mpr c4
  by_cases c5 : a2 ≥ 81
  ·rw [if_pos c5] at H
   have c5b0 : decide (81 ≤ a2) = true := decide_eq_true c5
   clear c5
   by_cases c6 : a1 = 90
   ·rw [if_pos c6] at H
    have c6b0 : (a1 == 90) = true := beq_iff_eq.mpr c6
    have c6b1 : (a1 != 90) = false := bne_eq_false_iff_eq.mpr c6
    clear c6
    obtain rfl := Option.some.inj H
    go_enter Try.func106, Try.ntmps106
    go_wp2
    go_ret
    exact ⟨by first | rfl | (simp; done) | (simp [*]; done), by repeat (first | exact Drawn0.refl _ | apply Drawn0.step)⟩
   ·rw [if_neg c6] at H
    have c6b0 : (a1 == 90) = false := beq_eq_false_iff_ne.mpr c6
    have c6b1 : (a1 != 90) = true := bne_iff_ne.mpr c6
    by_cases c7 : a1 < 81
    ·rw [if_pos c7] at H
     have c7b0 : decide (a1 < 81) = true := decide_eq_true c7
     clear c7
     obtain rfl := Option.some.inj H
     go_enter Try.func106, Try.ntmps106
     go_wp2
     go_ret
     exact ⟨by first | rfl | (simp; done) | (simp [*]; done), by repeat (first | exact Drawn0.refl _ | apply Drawn0.step)⟩
    ·rw [if_neg c7] at H
     have c7b0 : decide (a1 < 81) = false := decide_eq_false c7
     clear c7
     obtain rfl := Option.some.inj H
     go_enter Try.func106, Try.ntmps106
     go_wp2
     go_ret
     exact ⟨by first | rfl | (simp; done) | (simp [*]; done), by repeat (first | exact Drawn0.refl _ | apply Drawn0.step)⟩
  ·rw [if_neg c5] at H
   have c5b0 : decide (81 ≤ a2) = false := decide_eq_false c5
   clear c5
   by_cases c8 : a1 ≥ 81
   ·rw [if_pos c8] at H
    have c8b0 : decide (81 ≤ a1) = true := decide_eq_true c8
    clear c8
    obtain rfl := Option.some.inj H
    go_enter Try.func106, Try.ntmps106
    go_wp2
    go_ret
    exact ⟨by first | rfl | (simp; done) | (simp [*]; done), by repeat (first | exact Drawn0.refl _ | apply Drawn0.step)⟩
   ·rw [if_neg c8] at H
    have c8b0 : decide (81 ≤ a1) = false := decide_eq_false c8
    clear c8
    obtain ⟨ji9, hji9⟩ : ∃ j_ : Int, (wrap64 ((wrap64 ((wrap64 (Int.tdiv a1 9)) * 9)) + (wrap64 (Int.tdiv a2 9)))) = j_ := ⟨_, rfl⟩
    replace H : (if 0 ≤ (ji9) then (if (ji9) < (l0.length : Int) then ((spec_l1Add.f (rd l0 (ji9)) (Int.tmod a2 9)).bind fun t177 => (some ((Int.tmod a1 9) == t177))) else (none)) else (none)) = some r := by first | (rw [hji9] at H; exact H) | (simp only [hji9] at H ⊢; exact H)
    have hji9w : (IntKind.i64.wrap ((wrap64 ((wrap64 (Int.tdiv a1 9)) * 9)) + (wrap64 (Int.tdiv a2 9)))) = ji9 := (i64_w _).trans hji9
    by_cases c10 : 0 ≤ (ji9)
    ·rw [if_pos c10] at H
     have c10b0 : decide (0 ≤ (ji9)) = true := decide_eq_true c10
     clear c10
     by_cases c11 : (ji9) < (l0.length : Int)
     ·rw [if_pos c11] at H
      have c11b0 : decide ((ji9) < (l0.length : Int)) = true := decide_eq_true c11
      clear c11
      replace H := Option.bind_eq_some_iff.mp H
      obtain ⟨t177, A120, H⟩ := H
      replace H : (some ((Int.tmod a1 9) == t177)) = some r := H
      have A12 := Aside0.mk A120
      clear A120
      obtain rfl := Option.some.inj H
      have p176 : 0 ≤ ((ji9) : Int) := dd_
      have q176 : (ji9) < (l0.length : Int) := dd_
      obtain ⟨ad176, e176, hx176_0⟩ := Kd.at_int HR0.out (ji9) p176 q176
      cases e176
      replace p176 := eq_true p176
      replace q176 := eq_true q176
      go_enter Try.func106, Try.ntmps106
      go_wp2_with (first | (refine goesL_ (some 49) rfl rfl Try.func146 (by kernel_rfl) rfl #[.int .i64 (rd l0 (ji9)), .int .i64 (Int.tmod a2 9)] rfl (by (try simp only [List.map_toArray, List.map_cons, List.map_nil]); first | done | (simp only [hji9]; rfl) | rfl | (simp only [List.length_drop, List.length_take]; rfl)) ?_; (with_reducible refine (spec_l1Add.calls (rd l0 (ji9)) (Int.tmod a2 9) t177 _ A12.out).mono ?_); rintro e w' ⟨rfl, ⟨nd, rfl⟩⟩; refine ⟨_, rfl, ?_⟩))
      go_ret
      exact ⟨by first | rfl | (simp; done) | (simp only [← hji9] <;> (first | rfl | simp)) | (simp [*]; done), by repeat (first | exact Drawn0.refl _ | apply Drawn0.step)⟩
     ·rw [if_neg c11] at H
      exact absurd H (by simp)
    ·rw [if_neg c10] at H
     exact absurd H (by simp)
end Go.Proofs.Ytcbkoecanldlpaa.P

namespace Go.Proofs.Ytcbkoecanldlpaa.P
open Go.RowKit Go.Proofs.YtcbkoecanldlpaaW.PrintWords Go.Proofs.YtcbkoecanldlpaaW.PrintLast
set_option linter.unusedVariables false
set_option linter.unusedSimpArgs false

def spec_l3Join.l0 : Nat → List Int → Int → Int → Int → Option (Int)
 | 0, _, _, _, _ => none
 | k + 1, x0, x1, x2, x7 => if x7 < 91 then ((spec_l3On.f x0 x1 x7).bind fun t178 => (if t178 = true then ((spec_l3On.f x0 x2 x7).bind fun t179 => (if t179 = true then (some x7) else (spec_l3Join.l0 k x0 x1 x2 (wrap64 (x7 + 1))))) else (spec_l3Join.l0 k x0 x1 x2 (wrap64 (x7 + 1))))) else (some 0)
def spec_l3Join.f (k : Nat) (l0 : List Int) (a1 : Int) (a2 : Int) : Option (Int) := spec_l3Join.l0 k l0 a1 a2 0
set_option maxHeartbeats 8000000 in
set_option maxRecDepth 100000 in
theorem spec_l3Join.calls (k : Nat) (A0 : Option Addr) (c0 : Nat) (l0 : List Int) (a1 : Int) (a2 : Int) (r : Int) (w : World) (hr0 : Kd.C (Kd.int .i64) w A0 l0.length l0) (hc0 : l0.length ≤ c0) (h : spec_l3Join.f k l0 a1 a2 = some r) :
  Calls Try.prog 66 #[.slice A0 l0.length c0, .int .i64 a1, .int .i64 a2] w fun e w' => e = .returned (.int .i64 r) ∧ Drawn0 w w' := by
 have HR0 := Aside0.mk hr0
 have HC0 := Aside0.mk hc0
 clear hr0 hc0
 have H : (spec_l3Join.l0 k l0 a1 a2 0) = some r := h
 clear h
 have H' := Aside0.mk H
 clear H
 go_enter Try.func66, Try.ntmps66
 go_wp2
 go_loopg [7] k (fun kq v7 w' => ∃ (x7_1 : Int), v7 = .int .i64 x7_1 ∧ Aside0 (spec_l3Join.l0 kq l0 a1 a2 x7_1 = some r) ∧ Aside0 (kq ≤ k) ∧ Drawn0 w w')
 case atStart => exact ⟨(0), (by first | rfl | (simp; done) | (simp [*]; done)), H', ⟨Nat.le_refl _⟩, by repeat (first | exact Drawn0.refl _ | apply Drawn0.step)⟩
 case round =>
  clear H'
  try clear p2
  obtain ⟨x7_1, rfl, HA, HK1, ⟨m1, rfl⟩⟩ := hrel
  cases gk with
  | zero => exact absurd HA.out (by simp [spec_l3Join.l0])
  | succ k1 =>
   have H := HA.out
   clear HA
   simp only [spec_l3Join.l0] at H
   by_cases c4 : x7_1 < 91
   ·rw [if_pos c4] at H
    have c4b0 : decide (x7_1 < 91) = true := decide_eq_true c4
    clear c4
    replace H := Option.bind_eq_some_iff.mp H
    obtain ⟨t178, A50, H⟩ := H
    replace H : (if t178 = true then ((spec_l3On.f l0 a2 x7_1).bind fun t179 => (if t179 = true then (some x7_1) else (spec_l3Join.l0 k1 l0 a1 a2 (wrap64 (x7_1 + 1))))) else (spec_l3Join.l0 k1 l0 a1 a2 (wrap64 (x7_1 + 1)))) = some r := H
    have A5 := Aside0.mk A50
    clear A50
    by_cases c6 : t178 = true
    ·subst c6
     have H1 : ((spec_l3On.f l0 a2 x7_1).bind fun t179 => (if t179 = true then (some x7_1) else (spec_l3Join.l0 k1 l0 a1 a2 (wrap64 (x7_1 + 1))))) = some r := by rw [if_pos rfl] at H; exact H
     clear H
     have H := H1
     clear H1
     replace H := Option.bind_eq_some_iff.mp H
     obtain ⟨t179, A70, H⟩ := H
     replace H : (if t179 = true then (some x7_1) else (spec_l3Join.l0 k1 l0 a1 a2 (wrap64 (x7_1 + 1)))) = some r := H
     have A7 := Aside0.mk A70
     clear A70
     by_cases c8 : t179 = true
     ·subst c8
      have H1 : (some x7_1) = some r := by rw [if_pos rfl] at H; exact H
      clear H
      have H := H1
      clear H1
      obtain rfl := Option.some.inj H
      go_wp2_with (first | (refine goesL_ (some 15) rfl rfl Try.func106 (by kernel_rfl) rfl #[.slice A0 l0.length c0, .int .i64 a1, .int .i64 x7_1] rfl ll_ ?_; (with_reducible refine (spec_l3On.calls _ _ l0 a1 x7_1 true _ ?side1 ?side2 A5.out).mono ?_); (case side1 => exact ss_ HR0); (case side2 => exact HC0.out); rintro e w' ⟨rfl, ⟨nd, rfl⟩⟩; refine ⟨_, rfl, ?_⟩) | (go_at_call 106; (with_reducible refine (spec_l3On.calls _ _ l0 a2 x7_1 true _ ?side1 ?side2 A7.out).mono ?_); (case side1 => exact ss_ HR0); (case side2 => exact HC0.out); rintro e w' ⟨rfl, ⟨nd, rfl⟩⟩))
      go_ret
      exact ⟨by first | rfl | (simp; done) | (simp [*]; done), by repeat (first | exact Drawn0.refl _ | apply Drawn0.step)⟩
     ·replace c8 := Bool.eq_false_iff.mpr c8
      subst c8
      have H1 : (spec_l3Join.l0 k1 l0 a1 a2 (wrap64 (x7_1 + 1))) = some r := by rw [if_neg (show ¬ (false = true) by decide)] at H; exact H
      clear H
      have H := H1
      clear H1
      have H' := Aside0.mk H
      clear H
      go_wp2_with (first | (refine goesL_ (some 15) rfl rfl Try.func106 (by kernel_rfl) rfl #[.slice A0 l0.length c0, .int .i64 a1, .int .i64 x7_1] rfl ll_ ?_; (with_reducible refine (spec_l3On.calls _ _ l0 a1 x7_1 true _ ?side1 ?side2 A5.out).mono ?_); (case side1 => exact ss_ HR0); (case side2 => exact HC0.out); rintro e w' ⟨rfl, ⟨nd, rfl⟩⟩; refine ⟨_, rfl, ?_⟩) | (go_at_call 106; (with_reducible refine (spec_l3On.calls _ _ l0 a2 x7_1 false _ ?side1 ?side2 A7.out).mono ?_); (case side1 => exact ss_ HR0); (case side2 => exact HC0.out); rintro e w' ⟨rfl, ⟨nd, rfl⟩⟩))
      go_roundg k1
      case measure => have := HK1.out; omega
      case rel => exact ⟨(wrap64 (x7_1 + 1)), (by first | rfl | (simp; done) | (simp [*]; done)), H', ⟨by have := HK1.out; omega⟩, by repeat (first | exact Drawn0.refl _ | apply Drawn0.step)⟩
    ·replace c6 := Bool.eq_false_iff.mpr c6
     subst c6
     have H1 : (spec_l3Join.l0 k1 l0 a1 a2 (wrap64 (x7_1 + 1))) = some r := by rw [if_neg (show ¬ (false = true) by decide)] at H; exact H
     clear H
     have H := H1
     clear H1
     have H' := Aside0.mk H
     clear H
     go_wp2_with (first | (refine goesL_ (some 15) rfl rfl Try.func106 (by kernel_rfl) rfl #[.slice A0 l0.length c0, .int .i64 a1, .int .i64 x7_1] rfl ll_ ?_; (with_reducible refine (spec_l3On.calls _ _ l0 a1 x7_1 false _ ?side1 ?side2 A5.out).mono ?_); (case side1 => exact ss_ HR0); (case side2 => exact HC0.out); rintro e w' ⟨rfl, ⟨nd, rfl⟩⟩; refine ⟨_, rfl, ?_⟩))
     go_roundg k1
     case measure => have := HK1.out; omega
     case rel => exact ⟨(wrap64 (x7_1 + 1)), (by first | rfl | (simp; done) | (simp [*]; done)), H', ⟨by have := HK1.out; omega⟩, by repeat (first | exact Drawn0.refl _ | apply Drawn0.step)⟩
   ·rw [if_neg c4] at H
    have c4b0 : decide (x7_1 < 91) = false := decide_eq_false c4
    clear c4
    obtain rfl := Option.some.inj H
    go_wp2
    go_ret
    exact ⟨by first | rfl | (simp; done) | (simp [*]; done), by repeat (first | exact Drawn0.refl _ | apply Drawn0.step)⟩
end Go.Proofs.Ytcbkoecanldlpaa.P

namespace Go.Proofs.Ytcbkoecanldlpaa.P
open Go.RowKit Go.Proofs.YtcbkoecanldlpaaW.PrintWords Go.Proofs.YtcbkoecanldlpaaW.PrintLast
set_option linter.unusedVariables false
set_option linter.unusedSimpArgs false

def spec_PlaneJoin.f (k : Nat) (l0 : List Int) (a1 : Int) (a2 : Int) : Option (Int × Bool) := (spec_SystemIn.f k l0).bind fun t181 => (if t181 = true then ((spec_l3In.f a1).bind fun t182 => (if t182 = true then ((spec_l3In.f a2).bind fun t183 => (if t183 = true then (if a1 = a2 then (some (0, false)) else ((spec_l3Join.f k l0 a1 a2).bind fun t184 => (some (t184, true)))) else (some (0, false)))) else (some (0, false)))) else (some (0, false)))
set_option maxHeartbeats 8000000 in
set_option maxRecDepth 100000 in
theorem spec_PlaneJoin.calls (k : Nat) (A0 : Option Addr) (c0 : Nat) (l0 : List Int) (a1 : Int) (a2 : Int) (r1 : Int) (r2 : Bool) (w : World) (hr0 : Kd.C (Kd.int .i64) w A0 l0.length l0) (hc0 : l0.length ≤ c0) (h : spec_PlaneJoin.f k l0 a1 a2 = some (r1, r2)) :
  Calls Try.prog 118 #[.slice A0 l0.length c0, .int .i64 a1, .int .i64 a2] w fun e w' => e = .returned (.tuple #[.int .i64 r1, .bool r2]) ∧ Below w.heap.size w w' := by
 have HR0 := Aside0.mk hr0
 have HC0 := Aside0.mk hc0
 clear hr0 hc0
 have HB := Aside0.mk (Below.refl w.heap.size w)
 have H : ((spec_SystemIn.f k l0).bind fun t181 => (if t181 = true then ((spec_l3In.f a1).bind fun t182 => (if t182 = true then ((spec_l3In.f a2).bind fun t183 => (if t183 = true then (if a1 = a2 then (some (0, false)) else ((spec_l3Join.f k l0 a1 a2).bind fun t184 => (some (t184, true)))) else (some (0, false)))) else (some (0, false)))) else (some (0, false)))) = some (r1, r2) := h
 clear h
 replace H := Option.bind_eq_some_iff.mp H
 obtain ⟨t181, A40, H⟩ := H
 replace H : (if t181 = true then ((spec_l3In.f a1).bind fun t182 => (if t182 = true then ((spec_l3In.f a2).bind fun t183 => (if t183 = true then (if a1 = a2 then (some (0, false)) else ((spec_l3Join.f k l0 a1 a2).bind fun t184 => (some (t184, true)))) else (some (0, false)))) else (some (0, false)))) else (some (0, false))) = some (r1, r2) := H
 have A4 := Aside0.mk A40
 clear A40
 by_cases c5 : t181 = true
 ·subst c5
  have H1 : ((spec_l3In.f a1).bind fun t182 => (if t182 = true then ((spec_l3In.f a2).bind fun t183 => (if t183 = true then (if a1 = a2 then (some (0, false)) else ((spec_l3Join.f k l0 a1 a2).bind fun t184 => (some (t184, true)))) else (some (0, false)))) else (some (0, false)))) = some (r1, r2) := by rw [if_pos rfl] at H; exact H
  clear H
  have H := H1
  clear H1
  replace H := Option.bind_eq_some_iff.mp H
  obtain ⟨t182, A60, H⟩ := H
  replace H : (if t182 = true then ((spec_l3In.f a2).bind fun t183 => (if t183 = true then (if a1 = a2 then (some (0, false)) else ((spec_l3Join.f k l0 a1 a2).bind fun t184 => (some (t184, true)))) else (some (0, false)))) else (some (0, false))) = some (r1, r2) := H
  have A6 := Aside0.mk A60
  clear A60
  by_cases c7 : t182 = true
  ·subst c7
   have H1 : ((spec_l3In.f a2).bind fun t183 => (if t183 = true then (if a1 = a2 then (some (0, false)) else ((spec_l3Join.f k l0 a1 a2).bind fun t184 => (some (t184, true)))) else (some (0, false)))) = some (r1, r2) := by rw [if_pos rfl] at H; exact H
   clear H
   have H := H1
   clear H1
   replace H := Option.bind_eq_some_iff.mp H
   obtain ⟨t183, A80, H⟩ := H
   replace H : (if t183 = true then (if a1 = a2 then (some (0, false)) else ((spec_l3Join.f k l0 a1 a2).bind fun t184 => (some (t184, true)))) else (some (0, false))) = some (r1, r2) := H
   have A8 := Aside0.mk A80
   clear A80
   by_cases c9 : t183 = true
   ·subst c9
    have H1 : (if a1 = a2 then (some (0, false)) else ((spec_l3Join.f k l0 a1 a2).bind fun t184 => (some (t184, true)))) = some (r1, r2) := by rw [if_pos rfl] at H; exact H
    clear H
    have H := H1
    clear H1
    by_cases c10 : a1 = a2
    ·rw [if_pos c10] at H
     have c10b0 : (a1 == a2) = true := beq_iff_eq.mpr c10
     have c10b1 : (a1 != a2) = false := bne_eq_false_iff_eq.mpr c10
     clear c10
     simp only [Option.some.injEq, Prod.mk.injEq] at H
     obtain ⟨rfl, rfl⟩ := H
     go_enter Try.func118, Try.ntmps118
     go_wp2_with (first | (refine goesL_ (some 9) rfl rfl Try.func63 (by kernel_rfl) rfl #[.slice A0 l0.length c0] rfl ll_ ?_; (with_reducible refine (spec_SystemIn.calls k _ _ l0 true _ ?side1 ?side2 A4.out).mono ?_); (case side1 => exact ss_ HR0); (case side2 => exact HC0.out); rintro e w11 ⟨rfl, hb⟩; refine ⟨_, rfl, ?_⟩; have n0_ := Aside0.mk (below_step (bb_ HB) hb); clear HB; have HB := n0_; clear n0_; (try clear hb); (try clear hb2); (try clear hk); (try clear hi)) | (go_at_call 83; (with_reducible refine (spec_l3In.calls a1 true _ A6.out).mono ?_); rintro e w' ⟨rfl, ⟨nd, rfl⟩⟩) | (go_at_call 83; (with_reducible refine (spec_l3In.calls a2 true _ A8.out).mono ?_); rintro e w' ⟨rfl, ⟨nd, rfl⟩⟩))
     go_ret2
     exact ⟨ee_, bb_ HB⟩
    ·rw [if_neg c10] at H
     have c10b0 : (a1 == a2) = false := beq_eq_false_iff_ne.mpr c10
     have c10b1 : (a1 != a2) = true := bne_iff_ne.mpr c10
     replace H := Option.bind_eq_some_iff.mp H
     obtain ⟨t184, A120, H⟩ := H
     replace H : (some (t184, true)) = some (r1, r2) := H
     have A12 := Aside0.mk A120
     clear A120
     simp only [Option.some.injEq, Prod.mk.injEq] at H
     obtain ⟨rfl, rfl⟩ := H
     go_enter Try.func118, Try.ntmps118
     go_wp2_with (first | (refine goesL_ (some 9) rfl rfl Try.func63 (by kernel_rfl) rfl #[.slice A0 l0.length c0] rfl ll_ ?_; (with_reducible refine (spec_SystemIn.calls k _ _ l0 true _ ?side1 ?side2 A4.out).mono ?_); (case side1 => exact ss_ HR0); (case side2 => exact HC0.out); rintro e w13 ⟨rfl, hb⟩; refine ⟨_, rfl, ?_⟩; have n0_ := Aside0.mk (below_step (bb_ HB) hb); clear HB; have HB := n0_; clear n0_; (try clear hb); (try clear hb2); (try clear hk); (try clear hi)) | (go_at_call 83; (with_reducible refine (spec_l3In.calls a1 true _ A6.out).mono ?_); rintro e w' ⟨rfl, ⟨nd, rfl⟩⟩) | (go_at_call 83; (with_reducible refine (spec_l3In.calls a2 true _ A8.out).mono ?_); rintro e w' ⟨rfl, ⟨nd, rfl⟩⟩) | (refine goesL_ (some 29) rfl rfl Try.func66 (by kernel_rfl) rfl #[.slice A0 l0.length c0, .int .i64 a1, .int .i64 a2] rfl ll_ ?_; (with_reducible refine (spec_l3Join.calls k _ _ l0 a1 a2 t184 _ ?side1 ?side2 A12.out).mono ?_); (case side1 => repeat (first | exact (Kd.C_below HR0.out (bb_ HB)) | (with_reducible refine Kd.C_alloc ?_ _) | (with_reducible refine Kd.C_drewN ?_ _) | (with_reducible refine Kd.C_drew ?_))); (case side2 => exact HC0.out); rintro e w' ⟨rfl, ⟨nd, rfl⟩⟩; refine ⟨_, rfl, ?_⟩))
     go_ret2
     exact ⟨ee_, bb_ HB⟩
   ·replace c9 := Bool.eq_false_iff.mpr c9
    subst c9
    have H1 : (some (0, false)) = some (r1, r2) := by rw [if_neg (show ¬ (false = true) by decide)] at H; exact H
    clear H
    have H := H1
    clear H1
    simp only [Option.some.injEq, Prod.mk.injEq] at H
    obtain ⟨rfl, rfl⟩ := H
    go_enter Try.func118, Try.ntmps118
    go_wp2_with (first | (refine goesL_ (some 9) rfl rfl Try.func63 (by kernel_rfl) rfl #[.slice A0 l0.length c0] rfl ll_ ?_; (with_reducible refine (spec_SystemIn.calls k _ _ l0 true _ ?side1 ?side2 A4.out).mono ?_); (case side1 => exact ss_ HR0); (case side2 => exact HC0.out); rintro e w14 ⟨rfl, hb⟩; refine ⟨_, rfl, ?_⟩; have n0_ := Aside0.mk (below_step (bb_ HB) hb); clear HB; have HB := n0_; clear n0_; (try clear hb); (try clear hb2); (try clear hk); (try clear hi)) | (go_at_call 83; (with_reducible refine (spec_l3In.calls a1 true _ A6.out).mono ?_); rintro e w' ⟨rfl, ⟨nd, rfl⟩⟩) | (go_at_call 83; (with_reducible refine (spec_l3In.calls a2 false _ A8.out).mono ?_); rintro e w' ⟨rfl, ⟨nd, rfl⟩⟩))
    go_ret2
    exact ⟨ee_, bb_ HB⟩
  ·replace c7 := Bool.eq_false_iff.mpr c7
   subst c7
   have H1 : (some (0, false)) = some (r1, r2) := by rw [if_neg (show ¬ (false = true) by decide)] at H; exact H
   clear H
   have H := H1
   clear H1
   simp only [Option.some.injEq, Prod.mk.injEq] at H
   obtain ⟨rfl, rfl⟩ := H
   go_enter Try.func118, Try.ntmps118
   go_wp2_with (first | (refine goesL_ (some 9) rfl rfl Try.func63 (by kernel_rfl) rfl #[.slice A0 l0.length c0] rfl ll_ ?_; (with_reducible refine (spec_SystemIn.calls k _ _ l0 true _ ?side1 ?side2 A4.out).mono ?_); (case side1 => exact ss_ HR0); (case side2 => exact HC0.out); rintro e w15 ⟨rfl, hb⟩; refine ⟨_, rfl, ?_⟩; have n0_ := Aside0.mk (below_step (bb_ HB) hb); clear HB; have HB := n0_; clear n0_; (try clear hb); (try clear hb2); (try clear hk); (try clear hi)) | (go_at_call 83; (with_reducible refine (spec_l3In.calls a1 false _ A6.out).mono ?_); rintro e w' ⟨rfl, ⟨nd, rfl⟩⟩))
   go_ret2
   exact ⟨ee_, bb_ HB⟩
 ·replace c5 := Bool.eq_false_iff.mpr c5
  subst c5
  have H1 : (some (0, false)) = some (r1, r2) := by rw [if_neg (show ¬ (false = true) by decide)] at H; exact H
  clear H
  have H := H1
  clear H1
  simp only [Option.some.injEq, Prod.mk.injEq] at H
  obtain ⟨rfl, rfl⟩ := H
  go_enter Try.func118, Try.ntmps118
  go_wp2_with (first | (refine goesL_ (some 9) rfl rfl Try.func63 (by kernel_rfl) rfl #[.slice A0 l0.length c0] rfl ll_ ?_; (with_reducible refine (spec_SystemIn.calls k _ _ l0 false _ ?side1 ?side2 A4.out).mono ?_); (case side1 => exact ss_ HR0); (case side2 => exact HC0.out); rintro e w16 ⟨rfl, hb⟩; refine ⟨_, rfl, ?_⟩; have n0_ := Aside0.mk (below_step (bb_ HB) hb); clear HB; have HB := n0_; clear n0_; (try clear hb); (try clear hb2); (try clear hk); (try clear hi)))
  go_ret2
  exact ⟨ee_, bb_ HB⟩
end Go.Proofs.Ytcbkoecanldlpaa.P

namespace Go.Proofs.Ytcbkoecanldlpaa.P
open Go.RowKit Go.Proofs.YtcbkoecanldlpaaW.PrintWords Go.Proofs.YtcbkoecanldlpaaW.PrintLast
set_option linter.unusedVariables false
set_option linter.unusedSimpArgs false

def IsS76 (w0 W : World) (g : Nat) (f0 : List Int) (f1 : Int) : Prop := ∃ A0 c0, W.heap[g]? = some (.cells #[.slice A0 f0.length c0, .int .i64 f1] 76 (0, 0)) ∧ w0.heap.size ≤ g ∧ Kd.C (Kd.int .u8) w0 A0 f0.length f0
theorem IsS76.grown {w0 W : World} {g : Nat} {f0 : List Int} {f1 : Int} {W1 : World} {row : Option Nat} (h : IsS76 w0 W g f0 f1) (hw : W.grownBy W1 row) (hne : some g ≠ row) : IsS76 w0 W1 g f0 f1 := by
 obtain ⟨A0, c0, hb, hg, hr0⟩ := h
 exact ⟨A0, c0, blk_grown hb hw hne, hg, hr0⟩
theorem IsS76.kept {w0 W : World} {g : Nat} {f0 : List Int} {f1 : Int} {W1 : World} {S : Nat → Prop} (h : IsS76 w0 W g f0 f1) (hk : Kept W W1 S) (hne : ¬ S g) : IsS76 w0 W1 g f0 f1 := by
 obtain ⟨A0, c0, hb, hg, hr0⟩ := h
 exact ⟨A0, c0, blk_kept hb hk hne, hg, hr0⟩
theorem IsS76.below {w0 W : World} {g : Nat} {f0 : List Int} {f1 : Int} {W1 : World} (h : IsS76 w0 W g f0 f1) (hw : Below W.heap.size W W1) : IsS76 w0 W1 g f0 f1 := h.grown (grown_of_below hw none) (by simp)
theorem IsS76.alloc {w0 W : World} {g : Nat} {f0 : List Int} {f1 : Int} (h : IsS76 w0 W g f0 f1) (o : Obj) : IsS76 w0 (W.alloc o) g f0 f1 := h.below (below_alloc (Below.refl _ _) o)
theorem IsS76.drewN {w0 W : World} {g : Nat} {f0 : List Int} {f1 : Int} (h : IsS76 w0 W g f0 f1) (m : Nat) : IsS76 w0 (W.drewN m) g f0 f1 := h
theorem IsS76.drew {w0 W : World} {g : Nat} {f0 : List Int} {f1 : Int} (h : IsS76 w0 W g f0 f1) : IsS76 w0 W.drew g f0 f1 := h
theorem IsS76.at_ {w0 W : World} {g : Nat} {f0 : List Int} {f1 : Int} {w' : World} {m : Nat} (hq : W.drewN m = w') (h : IsS76 w0 W g f0 f1) : IsS76 w0 w' g f0 f1 := by subst hq; exact IsS76.drewN h m
theorem IsS76.apart {w0 W : World} {g : Nat} {f0 : List Int} {f1 : Int} {α : Type} {d : Kd α} {e : Nat} {base : Nat} {ok : Nat → Prop} {v : Value} {xs : List α} (h : IsS76 w0 W g f0 f1) (ho : d.R e W base ok v xs) (ht : ∀ q, q ∈ e :: d.E → q ≠ 76) : d.R e W base (fun k => ok k ∧ k ≠ g) v xs := by
 obtain ⟨A0, c0, hb, hg, hr0⟩ := h
 exact Kd.R_types ho hb ht
theorem IsS76.own_ne {w0 W : World} {g : Nat} {f0 : List Int} {f1 : Int} {α : Type} {d : Kd α} {e : Nat} {base : Nat} {ok : Nat → Prop} {v : Value} {xs : List α} (h : IsS76 w0 W g f0 f1) (ho : d.R e W base ok v xs) (ht : e ≠ 76) : some g ≠ v.ownBlock := by
 obtain ⟨A0, c0, hb, hg, hr0⟩ := h
 exact Kd.R_ne ho hb ht
theorem IsS76.lt {w0 W : World} {g : Nat} {f0 : List Int} {f1 : Int} (h : IsS76 w0 W g f0 f1) : g < W.heap.size := by
 obtain ⟨A0, c0, hb, hg, hr0⟩ := h
 exact blk_lt hb
theorem IsS76.ge {w0 W : World} {g : Nat} {f0 : List Int} {f1 : Int} (h : IsS76 w0 W g f0 f1) : w0.heap.size ≤ g := by
 obtain ⟨A0, c0, hb, hg, hr0⟩ := h
 exact hg
theorem cellS76_0 {W : World} {g : Nat} {A0 : Option Addr} {c0 : Nat} {f0 : List Int} {f1 : Int} (h : W.heap[g]? = some (.cells #[.slice A0 f0.length c0, .int .i64 f1] 76 (0, 0))) : W.cell? ⟨g, 0, none⟩ = some (.slice A0 f0.length c0) := (blk_cell h 0).trans rfl
theorem cellS76_1 {W : World} {g : Nat} {A0 : Option Addr} {c0 : Nat} {f0 : List Int} {f1 : Int} (h : W.heap[g]? = some (.cells #[.slice A0 f0.length c0, .int .i64 f1] 76 (0, 0))) : W.cell? ⟨g, 1, none⟩ = some (.int .i64 f1) := (blk_cell h 1).trans rfl
theorem IsS76.set_1 {w0 W : World} {g : Nat} {f0 : List Int} {f1 : Int} (h : IsS76 w0 W g f0 f1) (x : Int) : IsS76 w0 (W.setCell ⟨g, 1, none⟩ (.int .i64 x)) g f0 x := by
 obtain ⟨A0, c0, hb, hg, hr0⟩ := h
 exact ⟨A0, c0, by simpa using blk_set hb 1 (.int .i64 x), hg, hr0⟩
def spec_l6Open.f (l0 : List Int) : Option (List Int × Int) := if (l0.length : Int) > 2000 then (if 2000 ≤ (l0.length : Int) then (some (l0.take 2000, 0)) else (none)) else (some (l0, 0))
set_option maxHeartbeats 8000000 in
set_option maxRecDepth 100000 in
theorem spec_l6Open.calls (A0 : Option Addr) (c0 : Nat) (l0 : List Int) (r1 : List Int) (r2 : Int) (w0 w : World) (hB : Below w0.heap.size w0 w) (hr0 : Kd.C (Kd.int .u8) w0 A0 l0.length l0) (hc0 : l0.length ≤ c0) (h : spec_l6Open.f l0 = some (r1, r2)) :
  Calls Try.prog 76 #[.slice A0 l0.length c0] w fun e w' => ∃ g_ : Nat, e = .returned (.pointer (some ⟨g_, 0, none⟩)) ∧ IsS76 w0 w' g_ r1 r2 ∧ Below w0.heap.size w0 w' ∧ Below w.heap.size w w' := by
 have hu76 := Try.underlying76
 have HR0 := Aside0.mk hr0
 have HC0 := Aside0.mk hc0
 clear hr0 hc0
 have HBW := Aside0.mk (Below.refl w.heap.size w)
 have HW0 := Aside0.mk hB.size
 have HB := Aside0.mk hB
 clear hB
 have H : (if (l0.length : Int) > 2000 then (if 2000 ≤ (l0.length : Int) then (some (l0.take 2000, 0)) else (none)) else (some (l0, 0))) = some (r1, r2) := h
 clear h
 by_cases c2 : (l0.length : Int) > 2000
 ·rw [if_pos c2] at H
  have c2b0 : decide (2000 < (l0.length : Int)) = true := decide_eq_true c2
  have c2b1 : decide (2000 < l0.length) = true := decide_eq_true (by omega)
  clear c2
  by_cases c3 : 2000 ≤ (l0.length : Int)
  ·rw [if_pos c3] at H
   have c3b0 := eq_true c3
   have c3b1 : decide (2000 ≤ (l0.length : Int)) = true := decide_eq_true c3
   clear c3
   simp only [Option.some.injEq, Prod.mk.injEq] at H
   obtain ⟨rfl, rfl⟩ := H
   obtain ⟨i04, hi04, _, hsz4, _⟩ := info_parts info5
   obtain ⟨hcut4, hA4, hC4⟩ := print_take_of (P := Try.prog) (Value.int .u8) 0 22 5 .i64 Try.underlying22 hi04 hsz4 A0 c0 l0 2000 (by omega) (dd_) HC0.out
   have HR101 := Aside0.mk (Kd.C_of_reads (h1 := fun _ => rfl) (hA4 _ (Kd.reads_of_C HR0.out)))
   have HC101 := Aside0.mk hC4
   clear hA4 hC4 hi04 hsz4
   go_enter Try.func76, Try.ntmps76
   go_wp2_with (first | ((with_reducible refine gate_dst (N := 10) rfl ?_); refine box_event ?hg (N := 10) ?hd (cs := #[.slice A0 (l0.take 2000).length c0, .int .i64 0]) (t := 76) ?hr ?_; (case hd => rfl); (case hg => rfl); (case hr => first | (go_simp; done) | (go_simp; rfl)); intro gb102 hg w5 hbox hb; have n0_ := Aside0.mk (below_step HBW.out hb); have n1_ := Aside0.mk (below_step (bb_ HB) hb); have n2_ := Aside0.mk (hbox); have n3_ := Aside0.mk ((by rw [hg]; exact (below_size (by repeat (first | (with_reducible first | exact HBW.out | apply below_alloc | apply pw_below_drewN | apply below_drew1) | exact HBW.out))) : w.heap.size ≤ gb102)); have n4_ := Aside0.mk ((Nat.le_trans HW0.out (by rw [hg]; exact (below_size (by repeat (first | (with_reducible first | exact HBW.out | apply below_alloc | apply pw_below_drewN | apply below_drew1) | exact HBW.out))) : w.heap.size ≤ gb102) : w0.heap.size ≤ gb102)); clear HBW; clear HB; have HBW := n0_; have HB := n1_; have BK102 := n2_; have GW102 := n3_; have GE102 := n4_; clear n0_ n1_ n2_ n3_ n4_; clear hb hbox hg))
   go_ret
   exact ⟨_, rfl, (show IsS76 w0 _ gb102 (l0.take 2000) 0 from ⟨_, _, by (with_reducible repeat (first | refine blk_drewN ?_ _ | refine blk_drew ?_ | refine blk_alloc ?_ _)); exact BK102.out, GE102.out, HR101.out⟩), by repeat (first | (with_reducible first | exact HB.out | apply below_alloc | apply pw_below_drewN | apply below_drew1 | refine below_set ?_ GE102.out) | exact HB.out), by repeat (first | (with_reducible first | exact HBW.out | apply below_alloc | apply pw_below_drewN | apply below_drew1 | refine below_set ?_ GW102.out) | exact HBW.out)⟩
  ·rw [if_neg c3] at H
   exact absurd H (by simp)
 ·rw [if_neg c2] at H
  have c2b0 : decide (2000 < (l0.length : Int)) = false := decide_eq_false c2
  have c2b1 : decide (2000 < l0.length) = false := decide_eq_false (by omega)
  clear c2
  simp only [Option.some.injEq, Prod.mk.injEq] at H
  obtain ⟨rfl, rfl⟩ := H
  go_enter Try.func76, Try.ntmps76
  go_wp2_with (first | ((with_reducible refine gate_dst (N := 10) rfl ?_); refine box_event ?hg (N := 10) ?hd (cs := #[.slice A0 l0.length c0, .int .i64 0]) (t := 76) ?hr ?_; (case hd => rfl); (case hg => rfl); (case hr => first | (go_simp; done) | (go_simp; rfl)); intro gb103 hg w6 hbox hb; have n0_ := Aside0.mk (below_step HBW.out hb); have n1_ := Aside0.mk (below_step (bb_ HB) hb); have n2_ := Aside0.mk (hbox); have n3_ := Aside0.mk ((by rw [hg]; exact (below_size (by repeat (first | (with_reducible first | exact HBW.out | apply below_alloc | apply pw_below_drewN | apply below_drew1) | exact HBW.out))) : w.heap.size ≤ gb103)); have n4_ := Aside0.mk ((Nat.le_trans HW0.out (by rw [hg]; exact (below_size (by repeat (first | (with_reducible first | exact HBW.out | apply below_alloc | apply pw_below_drewN | apply below_drew1) | exact HBW.out))) : w.heap.size ≤ gb103) : w0.heap.size ≤ gb103)); clear HBW; clear HB; have HBW := n0_; have HB := n1_; have BK103 := n2_; have GW103 := n3_; have GE103 := n4_; clear n0_ n1_ n2_ n3_ n4_; clear hb hbox hg))
  go_ret
  exact ⟨_, rfl, (show IsS76 w0 _ gb103 l0 0 from ⟨_, _, by (with_reducible repeat (first | refine blk_drewN ?_ _ | refine blk_drew ?_ | refine blk_alloc ?_ _)); exact BK103.out, GE103.out, HR0.out⟩), by repeat (first | (with_reducible first | exact HB.out | apply below_alloc | apply pw_below_drewN | apply below_drew1 | refine below_set ?_ GE103.out) | exact HB.out), by repeat (first | (with_reducible first | exact HBW.out | apply below_alloc | apply pw_below_drewN | apply below_drew1 | refine below_set ?_ GW103.out) | exact HBW.out)⟩
end Go.Proofs.Ytcbkoecanldlpaa.P

namespace Go.Proofs.Ytcbkoecanldlpaa.P
open Go.RowKit Go.Proofs.YtcbkoecanldlpaaW.PrintWords Go.Proofs.YtcbkoecanldlpaaW.PrintLast
set_option linter.unusedVariables false
set_option linter.unusedSimpArgs false

def spec_l6Rd_pick.j0 : Nat → Int → Bool → List Int → Int → Option (Int × Int)
 | 0, _, _, _, _ => none
 | k + 1, x1, x24, x1000, x1001 => if x24 = true then (some (0, x1001)) else (if (wrap64 (x1001 - 1)) < (x1000.length : Int) then (if 0 ≤ (wrap64 (x1001 - 1)) then (if x1 = 0 then (none) else (some (Int.tmod (wrap64 (rd x1000 (wrap64 (x1001 - 1)))) x1, x1001))) else (none)) else (if (x1000.length : Int) = 0 then (none) else (if 0 ≤ (Int.tmod (wrap64 (x1001 - 1)) (x1000.length : Int)) then (if (Int.tmod (wrap64 (x1001 - 1)) (x1000.length : Int)) < (x1000.length : Int) then (if 0 ≤ (Int.tmod (wrap64 ((wrap64 ((wrap64 (x1001 - 1)) * 7)) + 3)) (x1000.length : Int)) then (if (Int.tmod (wrap64 ((wrap64 ((wrap64 (x1001 - 1)) * 7)) + 3)) (x1000.length : Int)) < (x1000.length : Int) then (if x1 = 0 then (none) else (some (Int.tmod (Go.bits .xor .i64 (wrap64 ((wrap64 ((wrap64 ((wrap64 ((wrap64 (rd x1000 (Int.tmod (wrap64 (x1001 - 1)) (x1000.length : Int)))) * 131)) + (wrap64 ((wrap64 (rd x1000 (Int.tmod (wrap64 ((wrap64 ((wrap64 (x1001 - 1)) * 7)) + 3)) (x1000.length : Int)))) * 1117)))) + (wrap64 ((wrap64 (x1001 - 1)) * 29)))) + (wrap64 ((wrap64 (Int.tdiv (wrap64 (x1001 - 1)) (x1000.length : Int))) * 53)))) (wrap64 (Int.tdiv (wrap64 ((wrap64 ((wrap64 ((wrap64 ((wrap64 (rd x1000 (Int.tmod (wrap64 (x1001 - 1)) (x1000.length : Int)))) * 131)) + (wrap64 ((wrap64 (rd x1000 (Int.tmod (wrap64 ((wrap64 ((wrap64 (x1001 - 1)) * 7)) + 3)) (x1000.length : Int)))) * 1117)))) + (wrap64 ((wrap64 (x1001 - 1)) * 29)))) + (wrap64 ((wrap64 (Int.tdiv (wrap64 (x1001 - 1)) (x1000.length : Int))) * 53)))) 64))) x1, x1001))) else (none)) else (none)) else (none)) else (none))))
def spec_l6Rd_pick.f (k : Nat) (s0_0 : List Int) (s0_1 : Int) (a1 : Int) : Option (Int × Int) := if a1 < 1 then (spec_l6Rd_pick.j0 k a1 true s0_0 (wrap64 (s0_1 + 1))) else (spec_l6Rd_pick.j0 k a1 ((s0_0.length : Int) == 0) s0_0 (wrap64 (s0_1 + 1)))
set_option maxHeartbeats 8000000 in
set_option maxRecDepth 100000 in
theorem spec_l6Rd_pick.calls (k : Nat) (g : Nat) (s0_0 : List Int) (s0_1 : Int) (a1 : Int) (r1 : Int) (r2 : Int) (w0 w : World) (hI : IsS76 w0 w g s0_0 s0_1) (hB : Below w0.heap.size w0 w) (h : spec_l6Rd_pick.f k s0_0 s0_1 a1 = some (r1, r2)) :
  Calls Try.prog 79 #[.pointer (some ⟨g, 0, none⟩), .int .i64 a1] w fun e w' => e = .returned (.int .i64 r1) ∧ IsS76 w0 w' g s0_0 r2 ∧ Below w0.heap.size w0 w' ∧ KeepBut w w' g none := by
 have HI0 := Aside0.mk hI
 have HK := Aside0.mk (KeepBut.refl w g none)
 have HL := Aside0.mk hB.size
 clear hI
 have HW0 := Aside0.mk hB.size
 have HB := Aside0.mk hB
 clear hB
 have H : (if a1 < 1 then (spec_l6Rd_pick.j0 k a1 true s0_0 (wrap64 (s0_1 + 1))) else (spec_l6Rd_pick.j0 k a1 ((s0_0.length : Int) == 0) s0_0 (wrap64 (s0_1 + 1)))) = some (r1, r2) := h
 clear h
 have HC3 := Aside0.mk H
 clear H
 obtain ⟨ASz4_0, cSz4_0, HGz4, hgz4, HSz4_0⟩ := HI0.out
 have hcz4_0 := cellS76_0 HGz4
 have hcz4_1 := cellS76_1 HGz4
 have hfz4_1 := blk_frozen HGz4 1
 clear HGz4 hgz4
 go_enter Try.func79, Try.ntmps79
 go_upto_region 2 with (fail)
 repeat (go_quiet (fail); go_upto_region 2 with (fail))
 go_cut [24] (fun v24 wc => ∃ (kq : Nat) (x24_2 : Bool), v24 = .bool x24_2 ∧ Aside0 (spec_l6Rd_pick.j0 kq a1 x24_2 s0_0 (wrap64 (s0_1 + 1)) = some (r1, r2)) ∧ Aside0 (kq ≤ k) ∧ Aside0 (IsS76 w0 wc g s0_0 (wrap64 (s0_1 + 1))) ∧ Aside0 (KeepBut w wc g none) ∧ Aside0 (Below w0.heap.size w0 wc))
 case first =>
  have H := HC3.out
  clear HC3
  by_cases c5 : a1 < 1
  ·rw [if_pos c5] at H
   have c5b0 : decide (a1 < 1) = true := decide_eq_true c5
   clear c5
   (first | rw [c5b0] | (simp only [i64_w, i32_w]; rw [c5b0]) | skip)
   have H' := Aside0.mk H
   clear H
   go_wp2
   repeat (go_quiet (fail); try go_wp2)
   go_meet
   case rel => exact ⟨_, (true), (by first | rfl | (simp; done) | (simp [*]; done)), H', ⟨by first | omega | exact Nat.le_refl _⟩, ⟨by repeat (first | (with_reducible first | exact HI0.out | apply IsS76.alloc | apply IsS76.drewN | apply IsS76.drew | apply IsS76.set_1) | exact HI0.out)⟩, ⟨by repeat (first | (with_reducible first | exact HK.out | apply KeepBut.set_ | apply keep_drewN | apply keep_drew | apply keep_alloc) | exact HK.out)⟩, ⟨by repeat (first | (with_reducible first | exact HB.out | apply below_alloc | apply pw_below_drewN | apply below_drew1 | refine below_set ?_ (IsS76.ge HI0.out)) | exact HB.out)⟩⟩
  ·rw [if_neg c5] at H
   have c5b0 : decide (a1 < 1) = false := decide_eq_false c5
   clear c5
   (first | rw [c5b0] | (simp only [i64_w, i32_w]; rw [c5b0]) | skip)
   have H' := Aside0.mk H
   clear H
   obtain ⟨ASz6_0, cSz6_0, HGz6, hgz6, HSz6_0⟩ := HI0.out
   have hcz6_0 := cellS76_0 HGz6
   have hcz6_1 := cellS76_1 HGz6
   have hfz6_1 := blk_frozen HGz6 1
   clear HGz6 hgz6
   go_wp2
   repeat (go_quiet (fail); try go_wp2)
   go_meet
   case rel => exact ⟨_, (((s0_0.length : Int) == 0)), (by first | rfl | (simp; done) | (simp [*]; done)), H', ⟨by first | omega | exact Nat.le_refl _⟩, ⟨by repeat (first | (with_reducible first | exact HI0.out | apply IsS76.alloc | apply IsS76.drewN | apply IsS76.drew | apply IsS76.set_1) | exact HI0.out)⟩, ⟨by repeat (first | (with_reducible first | exact HK.out | apply KeepBut.set_ | apply keep_drewN | apply keep_drew | apply keep_alloc) | exact HK.out)⟩, ⟨by repeat (first | (with_reducible first | exact HB.out | apply below_alloc | apply pw_below_drewN | apply below_drew1 | refine below_set ?_ (IsS76.ge HI0.out)) | exact HB.out)⟩⟩
 case rest =>
  clear HC3
  try clear p2
  try clear c5
  try clear c5b0
  try clear p6
  try clear hcz4_0
  try clear hcz4_1
  try clear hcz6_0
  try clear hcz6_1
  try clear hfz4_1
  try clear hfz6_1
  obtain ⟨kq, x24_2, rfl, HA, HJ2, HI0, HK, HB⟩ := hcut
  cases kq with
  | zero => exact absurd HA.out (by simp [spec_l6Rd_pick.j0])
  | succ kj2 =>
   have H := HA.out
   clear HA
   simp only [spec_l6Rd_pick.j0] at H
   by_cases c7 : x24_2 = true
   ·subst c7
    have H1 : (some (0, (wrap64 (s0_1 + 1)))) = some (r1, r2) := by rw [if_pos rfl] at H; exact H
    clear H
    have H := H1
    clear H1
    simp only [Option.some.injEq, Prod.mk.injEq] at H
    obtain ⟨rfl, rfl⟩ := H
    go_wp2
    repeat (go_quiet (fail); try go_wp2)
    go_ret
    exact ⟨ee_, by repeat (first | (with_reducible first | exact HI0.out | apply IsS76.alloc | apply IsS76.drewN | apply IsS76.drew | apply IsS76.set_1) | exact HI0.out), by repeat (first | (with_reducible first | exact HB.out | apply below_alloc | apply pw_below_drewN | apply below_drew1 | refine below_set ?_ (IsS76.ge HI0.out)) | exact HB.out), by repeat (first | (with_reducible first | exact HK.out | apply KeepBut.set_ | apply keep_drewN | apply keep_drew | apply keep_alloc) | exact HK.out)⟩
   ·replace c7 := Bool.eq_false_iff.mpr c7
    subst c7
    have H1 : (if (wrap64 ((wrap64 (s0_1 + 1)) - 1)) < (s0_0.length : Int) then (if 0 ≤ (wrap64 ((wrap64 (s0_1 + 1)) - 1)) then (if a1 = 0 then (none) else (some (Int.tmod (wrap64 (rd s0_0 (wrap64 ((wrap64 (s0_1 + 1)) - 1)))) a1, (wrap64 (s0_1 + 1))))) else (none)) else (if (s0_0.length : Int) = 0 then (none) else (if 0 ≤ (Int.tmod (wrap64 ((wrap64 (s0_1 + 1)) - 1)) (s0_0.length : Int)) then (if (Int.tmod (wrap64 ((wrap64 (s0_1 + 1)) - 1)) (s0_0.length : Int)) < (s0_0.length : Int) then (if 0 ≤ (Int.tmod (wrap64 ((wrap64 ((wrap64 ((wrap64 (s0_1 + 1)) - 1)) * 7)) + 3)) (s0_0.length : Int)) then (if (Int.tmod (wrap64 ((wrap64 ((wrap64 ((wrap64 (s0_1 + 1)) - 1)) * 7)) + 3)) (s0_0.length : Int)) < (s0_0.length : Int) then (if a1 = 0 then (none) else (some (Int.tmod (Go.bits .xor .i64 (wrap64 ((wrap64 ((wrap64 ((wrap64 ((wrap64 (rd s0_0 (Int.tmod (wrap64 ((wrap64 (s0_1 + 1)) - 1)) (s0_0.length : Int)))) * 131)) + (wrap64 ((wrap64 (rd s0_0 (Int.tmod (wrap64 ((wrap64 ((wrap64 ((wrap64 (s0_1 + 1)) - 1)) * 7)) + 3)) (s0_0.length : Int)))) * 1117)))) + (wrap64 ((wrap64 ((wrap64 (s0_1 + 1)) - 1)) * 29)))) + (wrap64 ((wrap64 (Int.tdiv (wrap64 ((wrap64 (s0_1 + 1)) - 1)) (s0_0.length : Int))) * 53)))) (wrap64 (Int.tdiv (wrap64 ((wrap64 ((wrap64 ((wrap64 ((wrap64 (rd s0_0 (Int.tmod (wrap64 ((wrap64 (s0_1 + 1)) - 1)) (s0_0.length : Int)))) * 131)) + (wrap64 ((wrap64 (rd s0_0 (Int.tmod (wrap64 ((wrap64 ((wrap64 ((wrap64 (s0_1 + 1)) - 1)) * 7)) + 3)) (s0_0.length : Int)))) * 1117)))) + (wrap64 ((wrap64 ((wrap64 (s0_1 + 1)) - 1)) * 29)))) + (wrap64 ((wrap64 (Int.tdiv (wrap64 ((wrap64 (s0_1 + 1)) - 1)) (s0_0.length : Int))) * 53)))) 64))) a1, (wrap64 (s0_1 + 1))))) else (none)) else (none)) else (none)) else (none)))) = some (r1, r2) := by rw [if_neg (show ¬ (false = true) by decide)] at H; exact H
    clear H
    have H := H1
    clear H1
    by_cases c8 : (wrap64 ((wrap64 (s0_1 + 1)) - 1)) < (s0_0.length : Int)
    ·rw [if_pos c8] at H
     have c8b0 : decide ((wrap64 ((wrap64 (s0_1 + 1)) - 1)) < (s0_0.length : Int)) = true := decide_eq_true c8
     clear c8
     obtain ⟨ji9, hji9⟩ : ∃ j_ : Int, (wrap64 ((wrap64 (s0_1 + 1)) - 1)) = j_ := ⟨_, rfl⟩
     replace H : (if 0 ≤ (ji9) then (if a1 = 0 then (none) else (some (Int.tmod (wrap64 (rd s0_0 (ji9))) a1, (wrap64 (s0_1 + 1))))) else (none)) = some (r1, r2) := by first | (rw [hji9] at H; exact H) | (simp only [hji9] at H ⊢; exact H)
     (try rw [hji9] at c8b0)
     have hji9w : (IntKind.i64.wrap ((wrap64 (s0_1 + 1)) - 1)) = ji9 := (i64_w _).trans hji9
     by_cases c10 : 0 ≤ (ji9)
     ·rw [if_pos c10] at H
      have c10b0 : decide (0 ≤ (ji9)) = true := decide_eq_true c10
      clear c10
      by_cases c11 : a1 = 0
      ·rw [if_pos c11] at H
       exact absurd H (by simp)
      ·rw [if_neg c11] at H
       have c11b0 : (a1 == 0) = false := beq_eq_false_iff_ne.mpr c11
       have c11b1 : (a1 != 0) = true := bne_iff_ne.mpr c11
       simp only [Option.some.injEq, Prod.mk.injEq] at H
       obtain ⟨rfl, rfl⟩ := H
       obtain ⟨ASz12_0, cSz12_0, HGz12, hgz12, HSz12_0⟩ := HI0.out
       have hcz12_0 := cellS76_0 HGz12
       have hcz12_1 := cellS76_1 HGz12
       have hfz12_1 := blk_frozen HGz12 1
       clear HGz12 hgz12
       have p104 : 0 ≤ ((ji9) : Int) := dd_
       have q104 : (ji9) < (s0_0.length : Int) := dd_
       obtain ⟨ad104, e104, hx104_0⟩ := Kd.at_int HSz12_0 (ji9) p104 q104
       cases e104
       replace hx104_0 := pw_cell_below HB.out hx104_0
       replace p104 := eq_true p104
       replace q104 := eq_true q104
       go_wp2
       repeat (go_quiet (fail); try go_wp2)
       go_ret
       exact ⟨by first | rfl | (simp [errW_none, errW_some] <;> rfl) | (simp only [← hji9]; first | rfl | (simp [errW_none, errW_some] <;> rfl)) | (simp [*, errW_none, errW_some] <;> rfl), by repeat (first | (with_reducible first | exact HI0.out | apply IsS76.alloc | apply IsS76.drewN | apply IsS76.drew | apply IsS76.set_1) | exact HI0.out), by repeat (first | (with_reducible first | exact HB.out | apply below_alloc | apply pw_below_drewN | apply below_drew1 | refine below_set ?_ (IsS76.ge HI0.out)) | exact HB.out), by repeat (first | (with_reducible first | exact HK.out | apply KeepBut.set_ | apply keep_drewN | apply keep_drew | apply keep_alloc) | exact HK.out)⟩
     ·rw [if_neg c10] at H
      exact absurd H (by simp)
    ·rw [if_neg c8] at H
     have c8b0 : decide ((wrap64 ((wrap64 (s0_1 + 1)) - 1)) < (s0_0.length : Int)) = false := decide_eq_false c8
     clear c8
     by_cases c13 : (s0_0.length : Int) = 0
     ·rw [if_pos c13] at H
      exact absurd H (by simp)
     ·rw [if_neg c13] at H
      have c13b0 : ((s0_0.length : Int) == 0) = false := beq_eq_false_iff_ne.mpr c13
      have c13b1 : ((s0_0.length : Int) != 0) = true := bne_iff_ne.mpr c13
      have c13b2 : ¬ (s0_0 = []) := fun h_ => c13 (by rw [h_]; rfl)
      obtain ⟨ji14, hji14⟩ : ∃ j_ : Int, (Int.tmod (wrap64 ((wrap64 (s0_1 + 1)) - 1)) (s0_0.length : Int)) = j_ := ⟨_, rfl⟩
      replace H : (if 0 ≤ (ji14) then (if (ji14) < (s0_0.length : Int) then (if 0 ≤ (Int.tmod (wrap64 ((wrap64 ((wrap64 ((wrap64 (s0_1 + 1)) - 1)) * 7)) + 3)) (s0_0.length : Int)) then (if (Int.tmod (wrap64 ((wrap64 ((wrap64 ((wrap64 (s0_1 + 1)) - 1)) * 7)) + 3)) (s0_0.length : Int)) < (s0_0.length : Int) then (if a1 = 0 then (none) else (some (Int.tmod (Go.bits .xor .i64 (wrap64 ((wrap64 ((wrap64 ((wrap64 ((wrap64 (rd s0_0 (ji14))) * 131)) + (wrap64 ((wrap64 (rd s0_0 (Int.tmod (wrap64 ((wrap64 ((wrap64 ((wrap64 (s0_1 + 1)) - 1)) * 7)) + 3)) (s0_0.length : Int)))) * 1117)))) + (wrap64 ((wrap64 ((wrap64 (s0_1 + 1)) - 1)) * 29)))) + (wrap64 ((wrap64 (Int.tdiv (wrap64 ((wrap64 (s0_1 + 1)) - 1)) (s0_0.length : Int))) * 53)))) (wrap64 (Int.tdiv (wrap64 ((wrap64 ((wrap64 ((wrap64 ((wrap64 (rd s0_0 (ji14))) * 131)) + (wrap64 ((wrap64 (rd s0_0 (Int.tmod (wrap64 ((wrap64 ((wrap64 ((wrap64 (s0_1 + 1)) - 1)) * 7)) + 3)) (s0_0.length : Int)))) * 1117)))) + (wrap64 ((wrap64 ((wrap64 (s0_1 + 1)) - 1)) * 29)))) + (wrap64 ((wrap64 (Int.tdiv (wrap64 ((wrap64 (s0_1 + 1)) - 1)) (s0_0.length : Int))) * 53)))) 64))) a1, (wrap64 (s0_1 + 1))))) else (none)) else (none)) else (none)) else (none)) = some (r1, r2) := by first | (rw [hji14] at H; exact H) | (simp only [hji14] at H ⊢; exact H)
      by_cases c15 : 0 ≤ (ji14)
      ·rw [if_pos c15] at H
       have c15b0 : decide (0 ≤ (ji14)) = true := decide_eq_true c15
       clear c15
       by_cases c16 : (ji14) < (s0_0.length : Int)
       ·rw [if_pos c16] at H
        have c16b0 : decide ((ji14) < (s0_0.length : Int)) = true := decide_eq_true c16
        clear c16
        obtain ⟨ji17, hji17⟩ : ∃ j_ : Int, (Int.tmod (wrap64 ((wrap64 ((wrap64 ((wrap64 (s0_1 + 1)) - 1)) * 7)) + 3)) (s0_0.length : Int)) = j_ := ⟨_, rfl⟩
        replace H : (if 0 ≤ (ji17) then (if (ji17) < (s0_0.length : Int) then (if a1 = 0 then (none) else (some (Int.tmod (Go.bits .xor .i64 (wrap64 ((wrap64 ((wrap64 ((wrap64 ((wrap64 (rd s0_0 (ji14))) * 131)) + (wrap64 ((wrap64 (rd s0_0 (ji17))) * 1117)))) + (wrap64 ((wrap64 ((wrap64 (s0_1 + 1)) - 1)) * 29)))) + (wrap64 ((wrap64 (Int.tdiv (wrap64 ((wrap64 (s0_1 + 1)) - 1)) (s0_0.length : Int))) * 53)))) (wrap64 (Int.tdiv (wrap64 ((wrap64 ((wrap64 ((wrap64 ((wrap64 (rd s0_0 (ji14))) * 131)) + (wrap64 ((wrap64 (rd s0_0 (ji17))) * 1117)))) + (wrap64 ((wrap64 ((wrap64 (s0_1 + 1)) - 1)) * 29)))) + (wrap64 ((wrap64 (Int.tdiv (wrap64 ((wrap64 (s0_1 + 1)) - 1)) (s0_0.length : Int))) * 53)))) 64))) a1, (wrap64 (s0_1 + 1))))) else (none)) else (none)) = some (r1, r2) := by first | (rw [hji17] at H; exact H) | (simp only [hji17] at H ⊢; exact H)
        by_cases c18 : 0 ≤ (ji17)
        ·rw [if_pos c18] at H
         have c18b0 : decide (0 ≤ (ji17)) = true := decide_eq_true c18
         clear c18
         by_cases c19 : (ji17) < (s0_0.length : Int)
         ·rw [if_pos c19] at H
          have c19b0 : decide ((ji17) < (s0_0.length : Int)) = true := decide_eq_true c19
          clear c19
          by_cases c20 : a1 = 0
          ·rw [if_pos c20] at H
           exact absurd H (by simp)
          ·rw [if_neg c20] at H
           have c20b0 : (a1 == 0) = false := beq_eq_false_iff_ne.mpr c20
           have c20b1 : (a1 != 0) = true := bne_iff_ne.mpr c20
           simp only [Option.some.injEq, Prod.mk.injEq] at H
           obtain ⟨rfl, rfl⟩ := H
           obtain ⟨ASz21_0, cSz21_0, HGz21, hgz21, HSz21_0⟩ := HI0.out
           have hcz21_0 := cellS76_0 HGz21
           have hcz21_1 := cellS76_1 HGz21
           have hfz21_1 := blk_frozen HGz21 1
           clear HGz21 hgz21
           have p105 : 0 ≤ ((ji14) : Int) := dd_
           have q105 : (ji14) < (s0_0.length : Int) := dd_
           obtain ⟨ad105, e105, hx105_0⟩ := Kd.at_int HSz21_0 (ji14) p105 q105
           cases e105
           replace hx105_0 := pw_cell_below HB.out hx105_0
           replace p105 := eq_true p105
           replace q105 := eq_true q105
           have p106 : 0 ≤ ((ji17) : Int) := dd_
           have q106 : (ji17) < (s0_0.length : Int) := dd_
           obtain ⟨ad106, e106, hx106_0⟩ := Kd.at_int HSz21_0 (ji17) p106 q106
           obtain rfl : ad105 = ad106 := (by injection e106)
           replace hx106_0 := pw_cell_below HB.out hx106_0
           replace p106 := eq_true p106
           replace q106 := eq_true q106
           go_wp2
           repeat (go_quiet (fail); try go_wp2)
           go_ret
           exact ⟨by first | rfl | (simp [errW_none, errW_some] <;> rfl) | (simp only [← hji14, ← hji17]; first | rfl | (simp [errW_none, errW_some] <;> rfl)) | (simp [*, errW_none, errW_some] <;> rfl), by repeat (first | (with_reducible first | exact HI0.out | apply IsS76.alloc | apply IsS76.drewN | apply IsS76.drew | apply IsS76.set_1) | exact HI0.out), by repeat (first | (with_reducible first | exact HB.out | apply below_alloc | apply pw_below_drewN | apply below_drew1 | refine below_set ?_ (IsS76.ge HI0.out)) | exact HB.out), by repeat (first | (with_reducible first | exact HK.out | apply KeepBut.set_ | apply keep_drewN | apply keep_drew | apply keep_alloc) | exact HK.out)⟩
         ·rw [if_neg c19] at H
          exact absurd H (by simp)
        ·rw [if_neg c18] at H
         exact absurd H (by simp)
       ·rw [if_neg c16] at H
        exact absurd H (by simp)
      ·rw [if_neg c15] at H
       exact absurd H (by simp)
end Go.Proofs.Ytcbkoecanldlpaa.P

namespace Go.Proofs.Ytcbkoecanldlpaa.P
open Go.RowKit Go.Proofs.YtcbkoecanldlpaaW.PrintWords Go.Proofs.YtcbkoecanldlpaaW.PrintLast
set_option linter.unusedVariables false
set_option linter.unusedSimpArgs false

def spec_l3Points.l0 : Nat → List Int → Int → List Int → Int → Option (List Int)
 | 0, _, _, _, _ => none
 | k + 1, x0, x1, x5, x6 => if x6 < 91 then ((spec_l3On.f x0 x6 x1).bind fun t188 => (if t188 = true then (if x5.length < 17592186044416 then (spec_l3Points.l0 k x0 x1 (x5 ++ [x6]) (wrap64 (x6 + 1))) else (none)) else (spec_l3Points.l0 k x0 x1 x5 (wrap64 (x6 + 1))))) else (some x5)
def spec_l3Points.f (k : Nat) (l0 : List Int) (a1 : Int) : Option (List Int) := spec_l3Points.l0 k l0 a1 (([] : List Int)) 0
set_option maxHeartbeats 8000000 in
set_option maxRecDepth 100000 in
theorem spec_l3Points.calls (k : Nat) (A0 : Option Addr) (c0 : Nat) (l0 : List Int) (a1 : Int) (r : List Int) (w : World) (hr0 : Kd.C (Kd.int .i64) w A0 l0.length l0) (hc0 : l0.length ≤ c0) (h : spec_l3Points.f k l0 a1 = some r) :
  Calls Try.prog 162 #[.slice A0 l0.length c0, .int .i64 a1] w fun e w' => ∃ v0_ : Value, e = .returned (v0_) ∧ Kd.R (Kd.int .i64) 3 w' w.heap.size (fun _ => True) v0_ r ∧ Below w.heap.size w w' := by
 have HR0 := Aside0.mk hr0
 have HC0 := Aside0.mk hc0
 clear hr0 hc0
 have HB := Aside0.mk (Below.refl w.heap.size w)
 have H : (spec_l3Points.l0 k l0 a1 (([] : List Int)) 0) = some r := h
 clear h
 obtain ⟨y185, hy185⟩ : ∃ y_ : List Int, y_ = (([] : List Int)) := ⟨_, rfl⟩
 replace H : (spec_l3Points.l0 k l0 a1 y185 0) = some r := by first | (rw [hy185]; with_reducible exact H) | (have H2_ := (Option.bind_some _ _).symm.trans H; rw [hy185]; with_reducible exact H2_) | (have H2_ := (Option.bind_some _ _).symm.trans H; with_reducible exact H2_) | with_reducible exact H | (rw [hy185]; exact H) | exact H
 have Ny185 := Aside0.mk hy185
 clear hy185
 have H' := Aside0.mk H
 clear H
 go_enter Try.func162, Try.ntmps162
 go_wp2_with (first | ((with_reducible refine gate_dst (N := 7) rfl ?_); refine Kd.R_lit (Kd.int .i64) _ 3 ?hg (N := 7) ?hd (xs := ([] : List Int)) (inner := []) (ok := fun _ => True) (okp := fun _ => True) ?hr ?hp (fun _ hk => hk) trivial (Below.refl _ _) (Nat.le_refl _) (by simp) ?_; (case hd => rfl); (case hg => rfl); (case hr => first | (go_simp; done) | (go_simp; rfl)); (case hp => exact (Reps.none _ _)); intro v186 w3 ho4 hb hg_ hnew_; clear hg_ hnew_; (first | rw [← Ny185.out] at ho4 | (simp only [Int.reduceToNat] at ho4; rw [← Ny185.out] at ho4)); have n0_ := Aside0.mk (Kd.R_lower ho4 (below_size (bb_ HB))); have n1_ := Aside0.mk (below_step (bb_ HB) hb); clear HB; have HO187 := n0_; have HB := n1_; clear n0_ n1_; clear hb ho4))
 go_loopg [5, 6] k (fun kq v5 v6 w' => ∃ (x5_1 : List Int) (x6_1 : Int), v6 = .int .i64 x6_1 ∧ Aside0 (spec_l3Points.l0 kq l0 a1 x5_1 x6_1 = some r) ∧ Aside0 (kq ≤ k) ∧ Aside0 (Kd.R (Kd.int .i64) 3 w' w.heap.size (fun _ => True) v5 x5_1) ∧ Aside0 (Below w.heap.size w w'))
 case atStart => exact ⟨(y185), (0), (by first | rfl | (simp; done) | (simp [*]; done)), H', ⟨Nat.le_refl _⟩, ⟨rr_ HO187⟩, ⟨by repeat (first | (with_reducible first | exact HB.out | apply below_alloc | apply pw_below_drewN | apply below_drew1) | exact HB.out)⟩⟩
 case round =>
  clear H'
  try clear c1
  try clear p2
  obtain ⟨x5_1, x6_1, rfl, HA, HK1, HO_5, HB⟩ := hrel
  cases gk with
  | zero => exact absurd HA.out (by simp [spec_l3Points.l0])
  | succ k1 =>
   have H := HA.out
   clear HA
   simp only [spec_l3Points.l0] at H
   by_cases c5 : x6_1 < 91
   ·rw [if_pos c5] at H
    have c5b0 : decide (x6_1 < 91) = true := decide_eq_true c5
    clear c5
    replace H := Option.bind_eq_some_iff.mp H
    obtain ⟨t188, A60, H⟩ := H
    replace H : (if t188 = true then (if x5_1.length < 17592186044416 then (spec_l3Points.l0 k1 l0 a1 (x5_1 ++ [x6_1]) (wrap64 (x6_1 + 1))) else (none)) else (spec_l3Points.l0 k1 l0 a1 x5_1 (wrap64 (x6_1 + 1)))) = some r := H
    have A6 := Aside0.mk A60
    clear A60
    by_cases c7 : t188 = true
    ·subst c7
     have H1 : (if x5_1.length < 17592186044416 then (spec_l3Points.l0 k1 l0 a1 (x5_1 ++ [x6_1]) (wrap64 (x6_1 + 1))) else (none)) = some r := by rw [if_pos rfl] at H; exact H
     clear H
     have H := H1
     clear H1
     by_cases c8 : x5_1.length < 17592186044416
     ·rw [if_pos c8] at H
      have LMc8 := Aside0.mk c8
      clear c8
      obtain ⟨y189, hy189⟩ : ∃ y_ : List Int, y_ = (x5_1 ++ [x6_1]) := ⟨_, rfl⟩
      replace H : (spec_l3Points.l0 k1 l0 a1 y189 (wrap64 (x6_1 + 1))) = some r := by first | (rw [hy189]; with_reducible exact H) | (have H2_ := (Option.bind_some _ _).symm.trans H; rw [hy189]; with_reducible exact H2_) | (have H2_ := (Option.bind_some _ _).symm.trans H; with_reducible exact H2_) | with_reducible exact H | (rw [hy189]; exact H) | exact H
      have Ny189 := Aside0.mk hy189
      clear hy189
      have H' := Aside0.mk H
      clear H
      go_wp2_with (first | (refine goesL_ (some 15) rfl rfl Try.func106 (by kernel_rfl) rfl #[.slice A0 l0.length c0, .int .i64 x6_1, .int .i64 a1] rfl ll_ ?_; (with_reducible refine (spec_l3On.calls _ _ l0 x6_1 a1 true _ ?side1 ?side2 A6.out).mono ?_); (case side1 => exact sb_ HR0 HB); (case side2 => exact HC0.out); rintro e w' ⟨rfl, ⟨nd, rfl⟩⟩; refine ⟨_, rfl, ?_⟩) | (at_builtin; refine Kd.R_append (Kd.int .i64) (w0 := w) w.heap.size rfl (.tmp 16) (.tmp 18) 23 3 (.int .i64 0) 8 rfl Try.underlying23 info3 rfl (by decide) (by omega) u5 x5_1 x6_1 [.int .i64 x6_1] (fun _ => True) (fun _ => False) rfl rfl ?aP (fun _ hk => hk.elim) ?aF ?aO ?aB ?aS ?aL ?_; (case aP => exact rfl); (case aB => exact (bb_ HB)); (case aF => exact (fun _ _ => trivial)); (case aO => exact (rr_ HO_5)); (case aS => exact (below_size (bb_ HB))); (case aL => have := LMc8.out; omega); intro v190 w9 ho hb hg hat; rw [← Ny189.out] at ho; have n0_ := Aside0.mk (hb); have n1_ := Aside0.mk (ho); clear HB; clear HO_5; have HB := n0_; have HO191 := n1_; clear n0_ n1_; clear ho hb hg hat))
      go_roundg k1
      case measure => have := HK1.out; omega
      case rel => exact ⟨(y189), (wrap64 (x6_1 + 1)), (by first | rfl | (simp; done) | (simp [*]; done)), H', ⟨by have := HK1.out; omega⟩, ⟨rr_ HO191⟩, ⟨by repeat (first | (with_reducible first | exact HB.out | apply below_alloc | apply pw_below_drewN | apply below_drew1) | exact HB.out)⟩⟩
     ·rw [if_neg c8] at H
      exact absurd H (by simp)
    ·replace c7 := Bool.eq_false_iff.mpr c7
     subst c7
     have H1 : (spec_l3Points.l0 k1 l0 a1 x5_1 (wrap64 (x6_1 + 1))) = some r := by rw [if_neg (show ¬ (false = true) by decide)] at H; exact H
     clear H
     have H := H1
     clear H1
     have H' := Aside0.mk H
     clear H
     go_wp2_with (first | (refine goesL_ (some 15) rfl rfl Try.func106 (by kernel_rfl) rfl #[.slice A0 l0.length c0, .int .i64 x6_1, .int .i64 a1] rfl ll_ ?_; (with_reducible refine (spec_l3On.calls _ _ l0 x6_1 a1 false _ ?side1 ?side2 A6.out).mono ?_); (case side1 => exact sb_ HR0 HB); (case side2 => exact HC0.out); rintro e w' ⟨rfl, ⟨nd, rfl⟩⟩; refine ⟨_, rfl, ?_⟩))
     go_roundg k1
     case measure => have := HK1.out; omega
     case rel => exact ⟨(x5_1), (wrap64 (x6_1 + 1)), (by first | rfl | (simp; done) | (simp [*]; done)), H', ⟨by have := HK1.out; omega⟩, ⟨rr_ HO_5⟩, ⟨by repeat (first | (with_reducible first | exact HB.out | apply below_alloc | apply pw_below_drewN | apply below_drew1) | exact HB.out)⟩⟩
   ·rw [if_neg c5] at H
    have c5b0 : decide (x6_1 < 91) = false := decide_eq_false c5
    clear c5
    obtain rfl := Option.some.inj H
    go_wp2
    go_ret
    exact ⟨_, ee_, by (with_reducible repeat (first | apply Kd.R_alloc | apply Kd.R_drewN | apply Kd.R_drew)); exact HO_5.out, bb_ HB⟩
end Go.Proofs.Ytcbkoecanldlpaa.P
