/- The law FnSpreadJoin of the given program: for every input the call returns true, and each argument reads afterwards as it read before. No conditions. (Part 5 of 5; the last part holds the theorem.) -/
import Derived.Test.YtcbkoecanldlpaaMFnSpreadJoin3
import Derived.Test.YtcbkoecanldlpaaMFnSpreadJoin0
import Derived.Test.YtcbkoecanldlpaaMFnSpreadJoin1
import Derived.Test.YtcbkoecanldlpaaMFnSpreadJoin2
import Derived.SizedLaws
import Derived.ChangeSlices
import Derived.Test.YtcbkoecanldlpaaRows
import Derived.WalkKit
import Derived.ProofKit
import Derived.OpenShut
import Derived.ShutString
import Derived.ChangeOld
import Derived.Below
set_option linter.unusedVariables false
set_option linter.unusedSimpArgs false
namespace Go.Proofs.Ytcbkoecanldlpaa.X
open Go.RowKit Go.Proofs.YtcbkoecanldlpaaW.PrintWords Go.Proofs.YtcbkoecanldlpaaW.PrintLast Go.Proofs.Ytcbkoecanldlpaa.P

def FnS (g : Nat) (lb : Array Value) (w : World) (D : List Int → Prop) (p : List Int → Bool) : Prop :=
  ∀ (W : World) (A : Option Addr) (c : Nat) (x : List Int), Below w.heap.size w W → D x → Kd.C (Kd.int .i64) W A x.length x → x.length ≤ c → Calls Try.prog g (#[.slice A x.length c] ++ lb) W fun e W' => e = .returned (.bool (p x)) ∧ Below W.heap.size W W'
def idxS (p : List Int → Bool) (l : List (List Int)) : Int := match l.findIdx? p with | some i => i | none => -1
theorem rd_L1_get {l : List (List Int)} {j : Nat} (h : j < l.length) : rd_LI l (j : Int) = l[j] := by
  unfold rd_LI
  rw [List.getD_eq_getElem?_getD]
  simp [h]
theorem idxS_none {p : List Int → Bool} {l : List (List Int)} (h : ∀ j : Nat, (j : Int) < l.length → p (rd_LI l j) = false) : idxS p l = -1 := by
  have : l.findIdx? p = none := by
    rw [List.findIdx?_eq_none_iff]
    intro x hx
    obtain ⟨j, hj, rfl⟩ := List.mem_iff_getElem.1 hx
    have := h j (by omega)
    rwa [rd_L1_get hj] at this
  unfold idxS; rw [this]
theorem idxS_some {p : List Int → Bool} {l : List (List Int)} (i : Int) (h0 : 0 ≤ i) (h1 : i < l.length) (hp : p (rd_LI l i) = true) (h : ∀ j : Nat, (j : Int) < i → p (rd_LI l j) = false) : idxS p l = i := by
  have : l.findIdx? p = some i.toNat := by
    rw [List.findIdx?_eq_some_iff_getElem]
    refine ⟨by omega, ?_, ?_⟩
    · rw [← rd_L1_get (by omega), Int.toNat_of_nonneg h0]; exact hp
    · intro j hj
      have := h j (by omega)
      rw [rd_L1_get (by omega)] at this
      rw [this]; decide
  unfold idxS; rw [this]; show ((i.toNat : Nat) : Int) = i; omega
theorem idxS_any (p : List Int → Bool) (l : List (List Int)) : decide (0 ≤ idxS p l) = l.any p := by
  unfold idxS
  cases h : l.findIdx? p with
  | none =>
    rw [List.findIdx?_eq_none_iff] at h
    have : l.any p = false := by rw [List.any_eq_false]; intro x hx; simp [h x hx]
    rw [this]; rfl
  | some i =>
    obtain ⟨hi, hp, _⟩ := List.findIdx?_eq_some_iff_getElem.1 h
    have : l.any p = true := List.any_eq_true.2 ⟨_, List.getElem_mem hi, hp⟩
    rw [this]; simp
theorem rd_L1_mem {l : List (List Int)} {i : Int} (h1 : i < l.length) (h0 : 0 ≤ i) : rd_LI l i ∈ l := by
  unfold rd_LI
  rw [List.getD_eq_getElem?_getD, List.getElem?_eq_getElem (by omega)]
  exact List.getElem_mem _
set_option maxHeartbeats 4000000 in
theorem indexFuncS_calls (g : Nat) (lb : Array Value) (eg : Eg g) (p : List Int → Bool) (A0 : Option Addr) (c0 : Nat) (l : List (List Int)) (w : World) (hr : Kd.C (Kd.slice 3 (Kd.int .i64)) w A0 l.length l) (hp : FnS g lb w (fun x => x ∈ l) p) :
    Calls Try.prog 98 #[.slice A0 l.length c0, .func (.func g) #[] lb] w fun e w' => e = .returned (.int .i64 (idxS p l)) ∧ Below w.heap.size w w' := by
  have HR0 := Aside0.mk hr
  have HP := Aside0.mk hp
  have hm : l.length ≤ 9223372036854775807 := hr.2.1
  clear hr hp
  unfold Eg at eg
  go_enter Try.func98, Try.ntmps98
  go_wp2
  go_loopg [8] l.length (fun kq v8 w' => ∃ i : Int, v8 = .int .i64 i ∧ Aside0 (0 ≤ i ∧ i ≤ l.length) ∧ Aside0 ((l.length : Int) - i ≤ kq) ∧ Aside0 (∀ j : Nat, (j : Int) < i → p (rd_LI l j) = false) ∧ Aside0 (Below w.heap.size w w'))
  case atStart => exact ⟨0, rfl, ⟨by omega⟩, ⟨by omega⟩, ⟨fun j hj => by omega⟩, ⟨Below.refl _ _⟩⟩
  case round =>
    obtain ⟨i, rfl, HI, HK, HA, HB⟩ := hrel
    have h0 : 0 ≤ i := HI.out.1
    by_cases c6 : i < (l.length : Int)
    · obtain ⟨ad, A1, c1, e1, hx, hcap, hin⟩ := at_LI HR0.out i h0 c6
      cases e1
      replace hx := pw_cell_below HB.out hx
      have hcall := HP.out wr A1 c1 (rd_LI l i) HB.out (rd_L1_mem c6 h0) (Kd.C_below hin HB.out) hcap
      clear hin hcap
      by_cases hv : p (rd_LI l i) = true
      · rw [hv] at hcall
        have HV := Aside0.mk hv
        have HC := Aside0.mk hcall
        clear hcall hv
        go_wp2_with (go_at_fn g; refine HC.out.mono ?_; rintro e w' ⟨rfl, hb'⟩)
        go_ret
        exact ⟨by rw [idxS_some i h0 c6 HV.out HA.out]; rfl, bstep HB.out hb'⟩
      · have hv := Bool.eq_false_iff.2 hv
        rw [hv] at hcall
        have HV := Aside0.mk hv
        have HC := Aside0.mk hcall
        clear hcall hv
        go_wp2_with (go_at_fn g; refine HC.out.mono ?_; rintro e w' ⟨rfl, hb'⟩)
        go_roundg (l.length - (i.toNat + 1))
        case measure => have := HK.out; omega
        case rel =>
          refine ⟨i + 1, rfl, ⟨by omega⟩, ⟨by omega⟩, ⟨fun j hj => ?_⟩, ⟨bstep HB.out hb'⟩⟩
          by_cases e : (j : Int) = i
          · rw [e]; exact HV.out
          · exact HA.out j (by omega)
    · go_wp2
      go_ret
      have hi : i = l.length := by have := HI.out; omega
      exact ⟨by rw [idxS_none (fun j hj => HA.out j (by omega))]; rfl, HB.out⟩
set_option maxHeartbeats 1000000 in
theorem containsFuncS_calls (g : Nat) (lb : Array Value) (eg : Eg g) (p : List Int → Bool) (A0 : Option Addr) (c0 : Nat) (l : List (List Int)) (w : World) (hr : Kd.C (Kd.slice 3 (Kd.int .i64)) w A0 l.length l) (hp : FnS g lb w (fun x => x ∈ l) p) :
    Calls Try.prog 184 #[.slice A0 l.length c0, .func (.func g) #[] lb] w fun e w' => e = .returned (.bool (l.any p)) ∧ Below w.heap.size w w' := by
  have HC := Aside0.mk (indexFuncS_calls g lb eg p A0 c0 l w hr hp)
  rw [← idxS_any]
  clear hr hp
  go_enter Try.func184, Try.ntmps184
  go_wp2_with (go_at_call 98; refine HC.out.mono ?_; rintro e w' ⟨rfl, hb'⟩)
  go_ret
  exact ⟨rfl, hb'⟩
theorem equal_loop (a b : List Int) (hl : a.length ≤ 1099511627776) (hab : a.length = b.length) (d : Nat) : ∀ (i : Int), 0 ≤ i → i + d = a.length → (∀ j : Nat, (j : Int) < i → rd a (j : Int) = rd b (j : Int)) → Ev (fun k => slices_Equal_int_int.l0 k a b (a.length : Int) i) (decide (a = b)) := by
  induction d with
  | zero =>
    intro i h0 h1 h
    refine Ev.step (fun k => by rw [slices_Equal_int_int.l0]) ?_
    refine Ev.neg (by omega) (Ev.done ?_)
    rw [decide_eq_true (ext_rd hab fun j hj => h j (by omega))]
  | succ d ih =>
    intro i h0 h1 h
    refine Ev.step (fun k => by rw [slices_Equal_int_int.l0]) ?_
    rw [w64 (x := i + 1) (by omega) (by omega)]
    refine Ev.pos (by omega) (Ev.pos (by omega) (Ev.pos (by omega) (Ev.pos (by omega) ?_)))
    by_cases e : rd a i = rd b i
    · refine Ev.pos e (ih (i + 1) (by omega) (by omega) fun j hj => ?_)
      by_cases ej : (j : Int) = i
      · rw [ej]; exact e
      · exact h j (by omega)
    · refine Ev.neg e (Ev.done ?_)
      rw [decide_eq_false (fun hab => e (by rw [hab]))]
theorem equal_ev (a b : List Int) (hl : a.length ≤ 1099511627776) : Ev (fun k => slices_Equal_int_int.f k a b) (decide (a = b)) := by
  unfold slices_Equal_int_int.f
  by_cases h : a.length = b.length
  · exact Ev.pos (by omega) (equal_loop a b hl h a.length 0 (by omega) (by omega) fun j hj => by omega)
  · refine Ev.neg (by omega) (Ev.done ?_)
    rw [decide_eq_false (fun hab => h (by rw [hab]))]
set_option maxHeartbeats 1000000 in
theorem hasLeaf1_calls (b : Nat) (A0 : Option Addr) (c0 : Nat) (t : List Int) (w : World) (hb : BoxT w b A0 c0 t) (hc0 : t.length ≤ c0) (A : Option Addr) (c : Nat) (x : List Int) (hl : x.length ≤ 1099511627776) (hx : Kd.C (Kd.int .i64) w A x.length x) (hc : x.length ≤ c) :
    Calls Try.prog 185 #[.slice A x.length c, .pointer (some ⟨b, 0, none⟩)] w fun e w' => e = .returned (.bool (decide (x = t))) ∧ Below w.heap.size w w' := by
  obtain ⟨k, hk⟩ := (equal_ev x t hl).rounds
  have HC := Aside0.mk (slices_Equal_int_int.calls k A c x A0 c0 t _ w hx hc hb.read hc0 hk)
  have hcell := hb.cell
  clear hb hx hk
  go_enter Try.func185, Try.ntmps185
  go_wp2_with (go_at_call 186; refine HC.out.mono ?_; rintro e w' ⟨rfl, ⟨nd, rfl⟩⟩)
  go_ret
  exact ⟨rfl, Drawn0.below ⟨⟨_, rfl⟩⟩⟩
theorem entersHL1 : Eg 185 := enters_of Try.func185 (by kernel_rfl) rfl
set_option maxHeartbeats 1000000 in
theorem hasLeaf_calls (A0 : Option Addr) (c0 : Nat) (l : List (List Int)) (A1 : Option Addr) (c1 : Nat) (t : List Int) (w : World) (hr : Kd.C (Kd.slice 3 (Kd.int .i64)) w A0 l.length l) (hr1 : Kd.C (Kd.int .i64) w A1 t.length t) (hc1 : t.length ≤ c1) (hl : ∀ x ∈ l, x.length ≤ 1099511627776) :
    Calls Try.prog 156 #[.slice A0 l.length c0, .slice A1 t.length c1] w fun e w' => e = .returned (.bool (decide (t ∈ l))) ∧ Below w.heap.size w w' := by
  have hmf : ∀ (fn : Fn) (first cap : Array Value) (w : World), (Instr.makeFunc fn first cap).run Try.prog w = .ok (.func fn first cap) w := fun _ _ _ _ => rfl
  have hb0 : Below w.heap.size w (w.alloc (.cells #[.slice A1 t.length c1] 23)) := (Below.refl _ _).alloc (Nat.le_refl _) _
  have hb1 : (w.alloc (.cells #[.slice A1 t.length c1] 23)).cell? ⟨w.heap.size, 0, none⟩ = some (.slice A1 t.length c1) := World.cell?_alloc_new w _ _ 0
  have hbx : BoxT (w.alloc (.cells #[.slice A1 t.length c1] 23)) w.heap.size A1 c1 t := ⟨hb1, Kd.C_below hr1 hb0⟩
  have hcall := containsFuncS_calls 185 #[.pointer (some ⟨w.heap.size, 0, none⟩)] entersHL1 (fun x => decide (x = t)) A0 c0 l _ (Kd.C_below hr hb0)
    (fun W A c x hW hd hx hc => hasLeaf1_calls _ A1 c1 t W (hbx.below hW) hc1 A c x (hl x hd) hx hc)
  have e : (l.any fun x => decide (x = t)) = decide (t ∈ l) := by
    cases h : l.any fun x => decide (x = t) with
    | true => obtain ⟨x, hx, hxt⟩ := List.any_eq_true.1 h; have := of_decide_eq_true hxt; subst this; exact (decide_eq_true hx).symm
    | false => exact (decide_eq_false fun ht => by have := List.any_eq_false.1 h t ht; exact this (decide_eq_true rfl)).symm
  rw [e] at hcall
  have HC := Aside0.mk hcall
  have HB := Aside0.mk hb0
  clear hr hr1 hb0 hb1 hbx hcall e hl
  go_enter Try.func156, Try.ntmps156
  go_wp2_with (go_at_call 184; refine HC.out.mono ?_; rintro e w' ⟨rfl, hb⟩)
  go_ret
  exact ⟨rfl, bstep HB.out hb⟩
end Go.Proofs.Ytcbkoecanldlpaa.X
namespace Go.Proofs.Ytcbkoecanldlpaa.P
open Go.RowKit Go.Proofs.YtcbkoecanldlpaaW.PrintWords Go.Proofs.YtcbkoecanldlpaaW.PrintLast
def impl_hasLeaf.f (l0 : List (List Int)) (l1 : List Int) : Option Bool := if (l0.all fun x => decide (x.length ≤ 1099511627776)) = true then some (decide (l1 ∈ l0)) else none
theorem impl_hasLeaf.calls (A0 : Option Addr) (c0 : Nat) (l0 : List (List Int)) (A1 : Option Addr) (c1 : Nat) (l1 : List Int) (r : Bool) (w : World) (hr0 : Kd.C (Kd.slice 3 (Kd.int .i64)) w A0 l0.length l0) (hc0 : l0.length ≤ c0) (hr1 : Kd.C (Kd.int .i64) w A1 l1.length l1) (hc1 : l1.length ≤ c1) (h : impl_hasLeaf.f l0 l1 = some r) :
    Calls Try.prog 156 #[.slice A0 l0.length c0, .slice A1 l1.length c1] w fun e w' => e = .returned (.bool r) ∧ Below w.heap.size w w' := by
  unfold impl_hasLeaf.f at h
  by_cases hl : (l0.all fun x => decide (x.length ≤ 1099511627776)) = true
  · rw [if_pos hl] at h
    obtain rfl := Option.some.inj h
    exact X.hasLeaf_calls A0 c0 l0 A1 c1 l1 w hr0 hr1 hc1 fun x hx => of_decide_eq_true (List.all_eq_true.1 hl x hx)
  · rw [if_neg hl] at h; exact absurd h (by simp)
end Go.Proofs.Ytcbkoecanldlpaa.P

set_option linter.unusedVariables false
set_option linter.unusedSimpArgs false
namespace Go.Proofs.Ytcbkoecanldlpaa.X
open Go.RowKit Go.Proofs.YtcbkoecanldlpaaW.PrintWords Go.Proofs.YtcbkoecanldlpaaW.PrintLast Go.Proofs.Ytcbkoecanldlpaa.P

def gapN (p q : Int) : Int := addF p (9 * minusN (q / 9) + minusN (q % 9))
def joinOk (l : List (List Int)) (p q : Int) : Bool := spreadB l && (nearB p && (nearB q && (p != q)))
def sjoinR (l : List (List Int)) (p q : Int) : Int × Bool := if joinOk l p q = true then (idxS (fun leaf => decide (gapN p q ∈ leaf)) l, true) else (0, false)
theorem isNear_calls (p : Int) (w : World) : Calls Try.prog 89 #[.int .i64 p] w fun e w' => e = .returned (.bool (nearB p)) ∧ Drawn0 w w' := impl_isNear.calls p _ w (isNear_eq p)
theorem addNear_calls (p q : Int) (hp : nearB p = true) (hq : nearB q = true) (w : World) : Calls Try.prog 91 #[.int .i64 p, .int .i64 q] w fun e w' => e = .returned (.int .i64 (addF p q)) ∧ Drawn0 w w' := impl_addNear.calls p q _ w (addNear_eq hp hq)
set_option maxHeartbeats 1000000 in
theorem spreadJoin1_calls (b : Nat) (g : Int) (w : World) (hb : w.cell? ⟨b, 0, none⟩ = some (.int .i64 g)) (A : Option Addr) (c : Nat) (x : List Int) (hl : x.length ≤ 1048576) (hx : Kd.C (Kd.int .i64) w A x.length x) (hc : x.length ≤ c) :
    Calls Try.prog 99 #[.slice A x.length c, .pointer (some ⟨b, 0, none⟩)] w fun e w' => e = .returned (.bool (decide (g ∈ x))) ∧ Below w.heap.size w w' := by
  have HC := Aside0.mk (contains_calls A c x hl g w hx hc)
  clear hx
  go_enter Try.func99, Try.ntmps99
  go_wp2_with (go_at_call 90; refine HC.out.mono ?_; rintro e w' ⟨rfl, ⟨nd, rfl⟩⟩)
  go_ret
  exact ⟨rfl, Drawn0.below ⟨⟨_, rfl⟩⟩⟩
theorem entersSJ1 : Eg 99 := enters_of Try.func99 (by kernel_rfl) rfl
theorem spread_len {l : List (List Int)} (h : spreadB l = true) {x : List Int} (hx : x ∈ l) : x.length = 9 := by
  obtain ⟨hl, h⟩ := spreadB_parts h
  obtain ⟨j, hj, rfl⟩ := List.mem_iff_getElem.1 hx
  have := (leafB_parts (leafOk_parts (h (j : Int) (by omega) (by omega))).1).1
  rwa [rd_L1_get hj] at this
set_option maxRecDepth 100000 in
set_option maxHeartbeats 8000000 in
theorem spreadJoin_calls (A0 : Option Addr) (c0 : Nat) (l : List (List Int)) (p q : Int) (w : World) (hr : Kd.C (Kd.slice 3 (Kd.int .i64)) w A0 l.length l) :
    Calls Try.prog 42 #[.slice A0 l.length c0, .int .i64 p, .int .i64 q] w fun e w' => e = .returned (.tuple #[.int .i64 (sjoinR l p q).1, .bool (sjoinR l p q).2]) ∧ Below w.heap.size w w' := by
  have hmf : ∀ (fn : Fn) (first cap : Array Value) (w : World), (Instr.makeFunc fn first cap).run Try.prog w = .ok (.func fn first cap) w := fun _ _ _ _ => rfl
  have hcall := isSpread_calls A0 c0 l w hr
  have HR := Aside0.mk hr
  have N1 := Aside0.mk (isNear_calls p)
  have N2 := Aside0.mk (isNear_calls q)
  clear hr
  unfold sjoinR
  by_cases hs : spreadB l = true
  case neg =>
    have hs := Bool.eq_false_iff.2 hs
    rw [show joinOk l p q = false by unfold joinOk; rw [hs]; rfl]
    rw [hs] at hcall
    have HC := Aside0.mk hcall
    clear hcall hs
    go_enter Try.func42, Try.ntmps42
    go_wp2_with (go_at_call 96; refine HC.out.mono ?_; rintro e w' ⟨rfl, hb⟩)
    go_ret2
    exact ⟨rfl, hb⟩
  case pos =>
  rw [hs] at hcall
  have HS := Aside0.mk hs
  have HC := Aside0.mk hcall
  clear hcall hs
  by_cases hp : nearB p = true
  case neg =>
    have hp := Bool.eq_false_iff.2 hp
    rw [show joinOk l p q = false by unfold joinOk; rw [hp]; simp]
    rw [hp] at N1
    clear hp
    go_enter Try.func42, Try.ntmps42
    go_wp2_with (first | (go_at_call 96; refine HC.out.mono ?_; rintro e w' ⟨rfl, hb⟩; have HB := Aside0.mk hb; clear hb) | (go_at_call 89; refine (N1.out _).mono ?_; rintro e w' ⟨rfl, ⟨nd, rfl⟩⟩))
    go_ret2
    exact ⟨rfl, pw_below_drewN HB.out _⟩
  case pos =>
  have HP := Aside0.mk hp
  rw [hp] at N1
  clear hp
  by_cases hq : nearB q = true
  case neg =>
    have hq := Bool.eq_false_iff.2 hq
    rw [show joinOk l p q = false by unfold joinOk; rw [hq]; simp]
    rw [hq] at N2
    clear hq
    go_enter Try.func42, Try.ntmps42
    go_wp2_with (first | (go_at_call 96; refine HC.out.mono ?_; rintro e w' ⟨rfl, hb⟩; have HB := Aside0.mk hb; clear hb) | (go_at_call 89; with_reducible refine (N1.out _).mono ?_; rintro e w' ⟨rfl, ⟨nd, rfl⟩⟩) | (go_at_call 89; with_reducible refine (N2.out _).mono ?_; rintro e w' ⟨rfl, ⟨nd, rfl⟩⟩))
    go_ret2
    exact ⟨rfl, by first | exact pw_below_drewN (pw_below_drewN HB.out _) _ | exact pw_below_drewN HB.out _⟩
  case pos =>
  have HQ := Aside0.mk hq
  rw [hq] at N2
  clear hq
  by_cases hpq : p = q
  case pos =>
    subst hpq
    rw [show joinOk l p p = false by unfold joinOk; simp]
    have e1 : (p == p) = true := beq_self_eq_true p
    go_enter Try.func42, Try.ntmps42
    go_wp2_with (first | (go_at_call 96; refine HC.out.mono ?_; rintro e w' ⟨rfl, hb⟩; have HB := Aside0.mk hb; clear hb) | (go_at_call 89; with_reducible refine (N1.out _).mono ?_; rintro e w' ⟨rfl, ⟨nd, rfl⟩⟩))
    go_ret2
    exact ⟨rfl, by first | exact pw_below_drewN (pw_below_drewN HB.out _) _ | exact pw_below_drewN HB.out _⟩
  case neg =>
  have e1 : (p == q) = false := beq_eq_false_iff_ne.2 hpq
  rw [show joinOk l p q = true by unfold joinOk; rw [HS.out, HP.out, HQ.out, bne, e1]; rfl]
  obtain ⟨q0, q1⟩ := nearB_iff.1 HQ.out
  have M1 := Aside0.mk (minus_calls (q / 9) ⟨by omega, by omega⟩)
  have M2 := Aside0.mk (minus_calls (q % 9) ⟨by omega, by omega⟩)
  obtain ⟨r0, r1⟩ := minusN_range (q / 9)
  obtain ⟨s0, s1⟩ := minusN_range (q % 9)
  have A1 := Aside0.mk (addNear_calls p (9 * minusN (q / 9) + minusN (q % 9)) HP.out (nearB_iff.2 ⟨by omega, by omega⟩))
  have hg : addF p (9 * minusN (q / 9) + minusN (q % 9)) = gapN p q := rfl
  rw [hg] at A1
  clear hg hpq
  obtain ⟨g, hg⟩ : ∃ g, gapN p q = g := ⟨_, rfl⟩
  rw [hg] at A1 ⊢
  clear hg
  obtain ⟨a, ha⟩ : ∃ a, minusN (q / 9) = a := ⟨_, rfl⟩
  obtain ⟨b, hb⟩ : ∃ b, minusN (q % 9) = b := ⟨_, rfl⟩
  rw [ha] at M1 A1 r0 r1
  rw [hb] at M2 A1 s0 s1
  clear ha hb
  have d1 : q.tdiv 9 = q / 9 := tdiv_nn q0
  have d2 : q.tmod 9 = q % 9 := tmod_nn q0
  go_enter Try.func42, Try.ntmps42
  go_wp2_with (first
    | (go_at_call 96; refine HC.out.mono ?_; rintro e w1 ⟨rfl, hb⟩; have HB := Aside0.mk hb; clear hb; have hnc : ∀ n, ((w1.drewN n).alloc (.cells #[.int .i64 0] 3)).cell? ⟨w1.heap.size, 0, none⟩ = some (.int .i64 0) := fun n => World.cell?_alloc_new (w1.drewN n) _ _ 0; have hnf : ∀ n, ((w1.drewN n).alloc (.cells #[.int .i64 0] 3)).frozen? ⟨w1.heap.size, 0, none⟩ = false := fun n => World.frozen?_alloc_new (w1.drewN n) _ _ 0)
    | (go_at_call 89; with_reducible refine (N1.out _).mono ?_; rintro e w' ⟨rfl, ⟨nd, rfl⟩⟩)
    | (go_at_call 89; with_reducible refine (N2.out _).mono ?_; rintro e w' ⟨rfl, ⟨nd, rfl⟩⟩)
    | (go_at_call 97; with_reducible refine (M1.out _).mono ?_; rintro e w' ⟨rfl, ⟨nd, rfl⟩⟩)
    | (go_at_call 97; with_reducible refine (M2.out _).mono ?_; rintro e w' ⟨rfl, ⟨nd, rfl⟩⟩)
    | (go_at_call 91; with_reducible refine (A1.out _).mono ?_; rintro e w' ⟨rfl, ⟨nd, rfl⟩⟩))
  generalize hW : World.setCell _ _ _ = W
  have hb : Below w1.heap.size w1 W := by
    subst hW
    refine below_set ?_ (Nat.le_refl _)
    exact below_alloc (pw_below_drewN (Below.refl _ _) _) _
  have hc : W.cell? ⟨w1.heap.size, 0, none⟩ = some (.int .i64 g) := by
    subst hW
    exact World.cell?_setCell_same _ _ _ (hnc _)
  have HB2 := Aside0.mk hb
  have hcall := indexFuncS_calls 99 #[.pointer (some ⟨w1.heap.size, 0, none⟩)] entersSJ1 (fun x => decide (g ∈ x)) A0 c0 l W (Kd.C_below HR.out (bstep HB.out hb))
    (fun V A c x hV hx hC hcc => spreadJoin1_calls _ g V (pw_cell_below hV hc) A c x (by have := spread_len HS.out hx; omega) hC hcc)
  have HC7 := Aside0.mk hcall
  clear hb hc hcall hW hnc hnf
  go_wp2_with (go_at_call 98; refine HC7.out.mono ?_; rintro e w' ⟨rfl, hb'⟩)
  go_ret2
  exact ⟨rfl, bstep HB.out (bstep HB2.out hb')⟩
end Go.Proofs.Ytcbkoecanldlpaa.X
namespace Go.Proofs.Ytcbkoecanldlpaa.P
open Go.RowKit Go.Proofs.YtcbkoecanldlpaaW.PrintWords Go.Proofs.YtcbkoecanldlpaaW.PrintLast
def impl_SpreadJoin.f (l0 : List (List Int)) (a1 a2 : Int) : Option (Int × Bool) := some (X.sjoinR l0 a1 a2)
theorem impl_SpreadJoin.calls (A0 : Option Addr) (c0 : Nat) (l0 : List (List Int)) (a1 a2 : Int) (r1 : Int) (r2 : Bool) (w : World) (hr0 : Kd.C (Kd.slice 3 (Kd.int .i64)) w A0 l0.length l0) (hc0 : l0.length ≤ c0) (h : impl_SpreadJoin.f l0 a1 a2 = some (r1, r2)) :
    Calls Try.prog 42 #[.slice A0 l0.length c0, .int .i64 a1, .int .i64 a2] w fun e w' => e = .returned (.tuple #[.int .i64 r1, .bool r2]) ∧ Below w.heap.size w w' := by
  have h := Option.some.inj h
  have := X.spreadJoin_calls A0 c0 l0 a1 a2 w hr0
  rw [h] at this
  exact this
end Go.Proofs.Ytcbkoecanldlpaa.P

namespace Go.Proofs.Ytcbkoecanldlpaa.P
open Go.RowKit Go.Proofs.YtcbkoecanldlpaaW.PrintWords Go.Proofs.YtcbkoecanldlpaaW.PrintLast Go.Proofs.YtcbkoecanldlpaaW.PrintMore
set_option linter.unusedVariables false
set_option linter.unusedSimpArgs false

mutual
def laws_FnSpreadJoin.j0 : Nat → List (List Int) → Int → Int → Int → Bool → Int → Bool → Bool → Option (Bool)
 | 0, _, _, _, _, _, _, _, _ => none
 | k + 1, x3, x4, x5, x6, x7, x8, x9, x49 => if x49 = true then (if (x7 == x9) = true then (some (x6 == x8)) else (some false)) else ((impl_SpreadJoin.f x3 x5 x4).bind fun bt1131 => (laws_FnSpreadJoin.l0 k x3 x6 bt1131.1 bt1131.2 1))
def laws_FnSpreadJoin.l0 : Nat → List (List Int) → Int → Int → Bool → Int → Option (Bool)
 | 0, _, _, _, _, _ => none
 | k + 1, x3, x6, x10, x11, x12 => if x12 < 9 then (if 0 ≤ x6 then (if x6 < (x3.length : Int) then (if 0 ≤ x12 then (if x12 < ((rd_LI x3 x6).length : Int) then ((impl_SpreadJoin.f x3 0 (rd (rd_LI x3 x6) x12)).bind fun bt1135 => (if bt1135.2 = true then (if bt1135.1 = x6 then (laws_FnSpreadJoin.l0 k x3 x6 x10 x11 (wrap64 (x12 + 1))) else (some false)) else (some false))) else (none)) else (none)) else (none)) else (none)) else (if x11 = true then (some (x10 == x6)) else (some false))
end
def laws_FnSpreadJoin.f (k : Nat) (l0 : List Int) : Option (Bool) := if (l0.length : Int) > 1048576 then (some true) else ((spec_DrawSpreadJoin.f k l0).bind fun bt1122 => ((impl_SpreadJoin.f bt1122.1 bt1122.2.1 bt1122.2.2).bind fun bt1127 => ((spec_SpreadJoin.f k bt1122.1 bt1122.2.1 bt1122.2.2).bind fun bt1129 => (if (bt1127.2 != bt1129.2) = true then (laws_FnSpreadJoin.j0 k bt1122.1 bt1122.2.1 bt1122.2.2 bt1127.1 bt1127.2 bt1129.1 bt1129.2 true) else (if bt1127.1 = bt1129.1 then (laws_FnSpreadJoin.j0 k bt1122.1 bt1122.2.1 bt1122.2.2 bt1127.1 bt1127.2 bt1129.1 bt1129.2 (!bt1127.2)) else (laws_FnSpreadJoin.j0 k bt1122.1 bt1122.2.1 bt1122.2.2 bt1127.1 bt1127.2 bt1129.1 bt1129.2 true))))))
set_option maxHeartbeats 8000000 in
set_option maxRecDepth 100000 in
theorem laws_FnSpreadJoin.calls (k : Nat) (A0 : Option Addr) (c0 : Nat) (l0 : List Int) (r : Bool) (w : World) (hr0 : Kd.C (Kd.int .u8) w A0 l0.length l0) (hc0 : l0.length ≤ c0) (h : laws_FnSpreadJoin.f k l0 = some r) :
  Calls Try.prog 10 #[.slice A0 l0.length c0] w fun e w' => e = .returned (.bool r) ∧ Below w.heap.size w w' := by
 have HR0 := Aside0.mk hr0
 have HC0 := Aside0.mk hc0
 clear hr0 hc0
 have HB := Aside0.mk (Below.refl w.heap.size w)
 have H : (if (l0.length : Int) > 1048576 then (some true) else ((spec_DrawSpreadJoin.f k l0).bind fun bt1122 => ((impl_SpreadJoin.f bt1122.1 bt1122.2.1 bt1122.2.2).bind fun bt1127 => ((spec_SpreadJoin.f k bt1122.1 bt1122.2.1 bt1122.2.2).bind fun bt1129 => (if (bt1127.2 != bt1129.2) = true then (laws_FnSpreadJoin.j0 k bt1122.1 bt1122.2.1 bt1122.2.2 bt1127.1 bt1127.2 bt1129.1 bt1129.2 true) else (if bt1127.1 = bt1129.1 then (laws_FnSpreadJoin.j0 k bt1122.1 bt1122.2.1 bt1122.2.2 bt1127.1 bt1127.2 bt1129.1 bt1129.2 (!bt1127.2)) else (laws_FnSpreadJoin.j0 k bt1122.1 bt1122.2.1 bt1122.2.2 bt1127.1 bt1127.2 bt1129.1 bt1129.2 true))))))) = some r := h
 clear h
 by_cases c2 : (l0.length : Int) > 1048576
 ·rw [if_pos c2] at H
  have c2b0 : decide (1048576 < (l0.length : Int)) = true := decide_eq_true c2
  have c2b1 : decide (1048576 < l0.length) = true := decide_eq_true (by omega)
  clear c2
  obtain rfl := Option.some.inj H
  go_enter Try.func10, Try.ntmps10
  go_wp2
  go_ret
  exact ⟨ee_, bb_ HB⟩
 ·rw [if_neg c2] at H
  have c2b0 : decide (1048576 < (l0.length : Int)) = false := decide_eq_false c2
  have c2b1 : decide (1048576 < l0.length) = false := decide_eq_false (by omega)
  clear c2
  replace H := Option.bind_eq_some_iff.mp H
  obtain ⟨⟨t1122, t1125, t1126⟩, A30, H⟩ := H
  replace H : ((impl_SpreadJoin.f t1122 t1125 t1126).bind fun bt1127 => ((spec_SpreadJoin.f k t1122 t1125 t1126).bind fun bt1129 => (if (bt1127.2 != bt1129.2) = true then (laws_FnSpreadJoin.j0 k t1122 t1125 t1126 bt1127.1 bt1127.2 bt1129.1 bt1129.2 true) else (if bt1127.1 = bt1129.1 then (laws_FnSpreadJoin.j0 k t1122 t1125 t1126 bt1127.1 bt1127.2 bt1129.1 bt1129.2 (!bt1127.2)) else (laws_FnSpreadJoin.j0 k t1122 t1125 t1126 bt1127.1 bt1127.2 bt1129.1 bt1129.2 true))))) = some r := H
  have A3 := Aside0.mk A30
  clear A30
  replace H := Option.bind_eq_some_iff.mp H
  obtain ⟨⟨t1127, t1128⟩, A40, H⟩ := H
  replace H : ((spec_SpreadJoin.f k t1122 t1125 t1126).bind fun bt1129 => (if (t1128 != bt1129.2) = true then (laws_FnSpreadJoin.j0 k t1122 t1125 t1126 t1127 t1128 bt1129.1 bt1129.2 true) else (if t1127 = bt1129.1 then (laws_FnSpreadJoin.j0 k t1122 t1125 t1126 t1127 t1128 bt1129.1 bt1129.2 (!t1128)) else (laws_FnSpreadJoin.j0 k t1122 t1125 t1126 t1127 t1128 bt1129.1 bt1129.2 true)))) = some r := H
  have A4 := Aside0.mk A40
  clear A40
  replace H := Option.bind_eq_some_iff.mp H
  obtain ⟨⟨t1129, t1130⟩, A50, H⟩ := H
  replace H : (if (t1128 != t1130) = true then (laws_FnSpreadJoin.j0 k t1122 t1125 t1126 t1127 t1128 t1129 t1130 true) else (if t1127 = t1129 then (laws_FnSpreadJoin.j0 k t1122 t1125 t1126 t1127 t1128 t1129 t1130 (!t1128)) else (laws_FnSpreadJoin.j0 k t1122 t1125 t1126 t1127 t1128 t1129 t1130 true))) = some r := H
  have A5 := Aside0.mk A50
  clear A50
  have HC6 := Aside0.mk H
  clear H
  go_enter Try.func10, Try.ntmps10
  go_upto_region 6 with (first | (refine goesL_ (some 20) rfl rfl Try.func41 (by kernel_rfl) rfl #[.slice A0 l0.length c0] rfl ll_ ?_; (with_reducible refine (spec_DrawSpreadJoin.calls k _ _ l0 t1122 t1125 t1126 _ ?side1 ?side2 A3.out).mono ?_); (case side1 => exact ss_ HR0); (case side2 => exact HC0.out); rintro e w7 ⟨v1123, rfl, ho0, hb⟩; refine ⟨_, rfl, ?_⟩; have n0_ := Aside0.mk (Kd.N_lower (Kd.N_mono (ok' := fun k_ => True) ho0 (fun k_ hk_ => trivial)) (below_size (bb_ HB))); have n1_ := Aside0.mk (below_step (bb_ HB) hb); clear HB; have HO1124 := n0_; have HB := n1_; clear n0_ n1_; (try clear hb); (try clear hb2); (try clear hk); (try clear hi); (try clear ho0); obtain ⟨Ao8, co8, eo8⟩ := Kd.N_slice HO1124.out; subst eo8) | (refine goesL_ (some 28) rfl rfl Try.func42 (by kernel_rfl) rfl #[.slice Ao8 t1122.length co8, .int .i64 t1125, .int .i64 t1126] rfl ll_ ?_; (with_reducible refine (impl_SpreadJoin.calls _ _ t1122 t1125 t1126 t1127 t1128 _ ?side1 ?side2 A4.out).mono ?_); (case side1 => repeat (first | exact (Kd.N_reads' HO1124.out).2.2 | (with_reducible refine Kd.C_alloc ?_ _) | (with_reducible refine Kd.C_drewN ?_ _) | (with_reducible refine Kd.C_drew ?_))); (case side2 => exact (Kd.N_reads' HO1124.out).2.1); rintro e w9 ⟨rfl, hb⟩; refine ⟨_, rfl, ?_⟩; have n0_ := Aside0.mk (Kd.N_below (by (with_reducible repeat (first | apply Kd.N_alloc | apply Kd.N_drewN | apply Kd.N_drew)); exact HO1124.out) hb); have n1_ := Aside0.mk (below_step (bb_ HB) hb); clear HO1124; clear HB; have HO1124 := n0_; have HB := n1_; clear n0_ n1_; (try clear hb); (try clear hb2); (try clear hk); (try clear hi)) | (refine goesL_ (some 35) rfl rfl Try.func43 (by kernel_rfl) rfl #[.slice Ao8 t1122.length co8, .int .i64 t1125, .int .i64 t1126] rfl ll_ ?_; (with_reducible refine (spec_SpreadJoin.calls k _ _ t1122 t1125 t1126 t1129 t1130 _ ?side1 ?side2 A5.out).mono ?_); (case side1 => repeat (first | exact (Kd.N_reads' HO1124.out).2.2 | (with_reducible refine Kd.C_alloc ?_ _) | (with_reducible refine Kd.C_drewN ?_ _) | (with_reducible refine Kd.C_drew ?_))); (case side2 => exact (Kd.N_reads' HO1124.out).2.1); rintro e w10 ⟨rfl, hb⟩; refine ⟨_, rfl, ?_⟩; have n0_ := Aside0.mk (Kd.N_below (by (with_reducible repeat (first | apply Kd.N_alloc | apply Kd.N_drewN | apply Kd.N_drew)); exact HO1124.out) hb); have n1_ := Aside0.mk (below_step (bb_ HB) hb); clear HO1124; clear HB; have HO1124 := n0_; have HB := n1_; clear n0_ n1_; (try clear hb); (try clear hb2); (try clear hk); (try clear hi)))
  (try simp only [Act.put, List.setIfInBounds_toArray, List.set_cons_zero, List.set_cons_succ])
  go_cut [49] (fun v49 wc => ∃ (kq : Nat) (x49_5 : Bool), v49 = .bool x49_5 ∧ Aside0 (laws_FnSpreadJoin.j0 kq t1122 t1125 t1126 t1127 t1128 t1129 t1130 x49_5 = some r) ∧ Aside0 (kq ≤ k) ∧ Aside0 (Kd.N (Kd.slice 3 (Kd.int .i64)) 23 wc w.heap.size (fun _ => True) (.slice Ao8 t1122.length co8) t1122) ∧ Aside0 (Below w.heap.size w wc))
  case first =>
   have H := HC6.out
   clear HC6
   by_cases c11 : (t1128 != t1130) = true
   ·rw [if_pos c11] at H
    have c11b0 : (t1128 != t1130) = true := c11
    (try (have c11b1 : decide (t1128 = t1130) = false := by simpa using c11))
    (try (have c11b2 : (t1128 == t1130) = false := by simpa using c11))
    (try (have c11b3 : ¬ (t1128 = t1130) := by simpa using c11))
    clear c11
    (first | rw [c11b0] | (simp only [i64_w, i32_w]; rw [c11b0]) | skip)
    have H' := Aside0.mk H
    clear H
    go_wp2
    go_meet
    case rel => exact ⟨_, (true), (by first | rfl | (simp; done) | (simp [*]; done)), H', ⟨by first | omega | exact Nat.le_refl _⟩, ⟨by (with_reducible repeat (first | apply Kd.N_alloc | apply Kd.N_drewN | apply Kd.N_drew)); exact HO1124.out⟩, ⟨by repeat (first | (with_reducible first | exact HB.out | apply below_alloc | apply pw_below_drewN | apply below_drew1) | exact HB.out)⟩⟩
   ·rw [if_neg c11] at H
    have c11b0 : (t1128 != t1130) = false := by simpa using c11
    (try (have c11b1 : decide (t1128 = t1130) = true := by simpa using c11))
    (try (have c11b2 : (t1128 == t1130) = true := by simpa using c11))
    clear c11
    (first | rw [c11b0] | (simp only [i64_w, i32_w]; rw [c11b0]) | skip)
    by_cases c12 : t1127 = t1129
    ·rw [if_pos c12] at H
     have c12b0 : (t1127 == t1129) = true := beq_iff_eq.mpr c12
     have c12b1 : (t1127 != t1129) = false := bne_eq_false_iff_eq.mpr c12
     clear c12
     have H' := Aside0.mk H
     clear H
     go_wp2
     go_meet
     case rel => exact ⟨_, (!t1128), (by first | rfl | (simp; done) | (simp [*]; done)), H', ⟨by first | omega | exact Nat.le_refl _⟩, ⟨by (with_reducible repeat (first | apply Kd.N_alloc | apply Kd.N_drewN | apply Kd.N_drew)); exact HO1124.out⟩, ⟨by repeat (first | (with_reducible first | exact HB.out | apply below_alloc | apply pw_below_drewN | apply below_drew1) | exact HB.out)⟩⟩
    ·rw [if_neg c12] at H
     have c12b0 : (t1127 == t1129) = false := beq_eq_false_iff_ne.mpr c12
     have c12b1 : (t1127 != t1129) = true := bne_iff_ne.mpr c12
     have H' := Aside0.mk H
     clear H
     go_wp2
     go_meet
     case rel => exact ⟨_, (true), (by first | rfl | (simp; done) | (simp [*]; done)), H', ⟨by first | omega | exact Nat.le_refl _⟩, ⟨by (with_reducible repeat (first | apply Kd.N_alloc | apply Kd.N_drewN | apply Kd.N_drew)); exact HO1124.out⟩, ⟨by repeat (first | (with_reducible first | exact HB.out | apply below_alloc | apply pw_below_drewN | apply below_drew1) | exact HB.out)⟩⟩
  case rest =>
   clear HC6
   try clear c1
   try clear c2
   try clear c2b0
   try clear c2b1
   try clear p2
   try clear c4
   try clear c10
   try clear c11
   try clear c11b0
   try clear c11b1
   try clear c11b2
   try clear c12
   try clear c12b0
   try clear c12b1
   obtain ⟨kq, x49_5, rfl, HA, HJ5, HO_3, HB⟩ := hcut
   cases kq with
   | zero => exact absurd HA.out (by simp [laws_FnSpreadJoin.j0])
   | succ kj5 =>
    have H := HA.out
    clear HA
    simp only [laws_FnSpreadJoin.j0] at H
    by_cases c13 : x49_5 = true
    ·subst c13
     have H1 : (if (t1128 == t1130) = true then (some (t1127 == t1129)) else (some false)) = some r := by rw [if_pos rfl] at H; exact H
     clear H
     have H := H1
     clear H1
     by_cases c14 : (t1128 == t1130) = true
     ·rw [if_pos c14] at H
      have c14b0 : (t1128 == t1130) = true := c14
      (try (have c14b1 : decide (t1128 = t1130) = true := by simpa using c14))
      (try (have c14b2 : (t1128 == t1130) = true := by simpa using c14))
      clear c14
      obtain rfl := Option.some.inj H
      go_wp2
      go_ret
      exact ⟨ee_, bb_ HB⟩
     ·rw [if_neg c14] at H
      have c14b0 : (t1128 == t1130) = false := by simpa using c14
      (try (have c14b1 : decide (t1128 = t1130) = false := by simpa using c14))
      (try (have c14b2 : (t1128 == t1130) = false := by simpa using c14))
      (try (have c14b3 : ¬ (t1128 = t1130) := by simpa using c14))
      clear c14
      obtain rfl := Option.some.inj H
      go_wp2
      go_ret
      exact ⟨ee_, bb_ HB⟩
    ·replace c13 := Bool.eq_false_iff.mpr c13
     subst c13
     have H1 : ((impl_SpreadJoin.f t1122 t1126 t1125).bind fun bt1131 => (laws_FnSpreadJoin.l0 kj5 t1122 t1127 bt1131.1 bt1131.2 1)) = some r := by rw [if_neg (show ¬ (false = true) by decide)] at H; exact H
     clear H
     have H := H1
     clear H1
     replace H := Option.bind_eq_some_iff.mp H
     obtain ⟨⟨t1131, t1132⟩, A150, H⟩ := H
     replace H : (laws_FnSpreadJoin.l0 kj5 t1122 t1127 t1131 t1132 1) = some r := H
     have A15 := Aside0.mk A150
     clear A150
     have H' := Aside0.mk H
     clear H
     go_wp2_with (first | (refine goesL_ (some 62) rfl rfl Try.func42 (by kernel_rfl) rfl #[.slice Ao8 t1122.length co8, .int .i64 t1126, .int .i64 t1125] rfl ll_ ?_; (with_reducible refine (impl_SpreadJoin.calls _ _ t1122 t1126 t1125 t1131 t1132 _ ?side1 ?side2 A15.out).mono ?_); (case side1 => repeat (first | exact (Kd.N_reads' HO_3.out).2.2 | (with_reducible refine Kd.C_alloc ?_ _) | (with_reducible refine Kd.C_drewN ?_ _) | (with_reducible refine Kd.C_drew ?_))); (case side2 => exact (Kd.N_reads' HO_3.out).2.1); rintro e w16 ⟨rfl, hb⟩; refine ⟨_, rfl, ?_⟩; have n0_ := Aside0.mk (Kd.N_below (by (with_reducible repeat (first | apply Kd.N_alloc | apply Kd.N_drewN | apply Kd.N_drew)); exact HO_3.out) hb); have n1_ := Aside0.mk (below_step (bb_ HB) hb); clear HO_3; clear HB; have HO_3 := n0_; have HB := n1_; clear n0_ n1_; (try clear hb); (try clear hb2); (try clear hk); (try clear hi)))
     go_loopg [12] kj5 (fun kq v12 w' => ∃ (x12_2 : Int), v12 = .int .i64 x12_2 ∧ Aside0 (laws_FnSpreadJoin.l0 kq t1122 t1127 t1131 t1132 x12_2 = some r) ∧ Aside0 (kq ≤ kj5) ∧ Aside0 (Kd.N (Kd.slice 3 (Kd.int .i64)) 23 w' w.heap.size (fun _ => True) (.slice Ao8 t1122.length co8) t1122) ∧ Aside0 (Below w.heap.size w w'))
     case atStart => exact ⟨(1), (by first | rfl | (simp; done) | (simp [*]; done)), H', ⟨Nat.le_refl _⟩, ⟨by (with_reducible repeat (first | apply Kd.N_alloc | apply Kd.N_drewN | apply Kd.N_drew)); exact HO_3.out⟩, ⟨by repeat (first | (with_reducible first | exact HB.out | apply below_alloc | apply pw_below_drewN | apply below_drew1) | exact HB.out)⟩⟩
     case round =>
      clear H'
      try clear c1
      try clear c2
      try clear c2b0
      try clear c2b1
      try clear p2
      try clear c4
      try clear c10
      try clear c11
      try clear c11b0
      try clear c11b1
      try clear c11b2
      try clear c12
      try clear c12b0
      try clear c12b1
      try clear c13
      try clear c14
      try clear c14b0
      try clear c14b1
      try clear c14b2
      try clear p2
      obtain ⟨x12_2, rfl, HA, HK2, HO_3, HB⟩ := hrel
      cases gk with
      | zero => exact absurd HA.out (by simp [laws_FnSpreadJoin.l0])
      | succ k2 =>
       have H := HA.out
       clear HA
       simp only [laws_FnSpreadJoin.l0] at H
       by_cases c17 : x12_2 < 9
       ·rw [if_pos c17] at H
        have c17b0 : decide (x12_2 < 9) = true := decide_eq_true c17
        clear c17
        by_cases c18 : 0 ≤ t1127
        ·rw [if_pos c18] at H
         have c18b0 : decide (0 ≤ t1127) = true := decide_eq_true c18
         clear c18
         by_cases c19 : t1127 < (t1122.length : Int)
         ·rw [if_pos c19] at H
          have c19b0 : decide (t1127 < (t1122.length : Int)) = true := decide_eq_true c19
          clear c19
          by_cases c20 : 0 ≤ x12_2
          ·rw [if_pos c20] at H
           have c20b0 : decide (0 ≤ x12_2) = true := decide_eq_true c20
           clear c20
           by_cases c21 : x12_2 < ((rd_LI t1122 t1127).length : Int)
           ·rw [if_pos c21] at H
            have c21b0 : decide (x12_2 < ((rd_LI t1122 t1127).length : Int)) = true := decide_eq_true c21
            clear c21
            replace H := Option.bind_eq_some_iff.mp H
            obtain ⟨⟨t1135, t1136⟩, A220, H⟩ := H
            replace H : (if t1136 = true then (if t1135 = t1127 then (laws_FnSpreadJoin.l0 k2 t1122 t1127 t1131 t1132 (wrap64 (x12_2 + 1))) else (some false)) else (some false)) = some r := H
            have A22 := Aside0.mk A220
            clear A220
            by_cases c23 : t1136 = true
            ·subst c23
             have H1 : (if t1135 = t1127 then (laws_FnSpreadJoin.l0 k2 t1122 t1127 t1131 t1132 (wrap64 (x12_2 + 1))) else (some false)) = some r := by rw [if_pos rfl] at H; exact H
             clear H
             have H := H1
             clear H1
             by_cases c24 : t1135 = t1127
             ·rw [if_pos c24] at H
              have c24b0 : (t1135 == t1127) = true := beq_iff_eq.mpr c24
              have c24b1 : (t1135 != t1127) = false := bne_eq_false_iff_eq.mpr c24
              clear c24
              have H' := Aside0.mk H
              clear H
              have p1133 : 0 ≤ (t1127 : Int) := dd_
              have q1133 : t1127 < (t1122.length : Int) := dd_
              obtain ⟨ad1133, A1133_0, c1133_0, e1133, hx1133_0, hl1133_0, hi1133_0⟩ := at_LI (Kd.N_reads' HO_3.out).2.2 t1127 p1133 q1133
              cases e1133
              obtain ⟨ce1133, hce1133, hMe1133, hcc1133⟩ := Kd.N_get HO_3.out [] t1127 p1133 (by first | exact q1133 | exact dd_ | (have e_ := (Kd.N_reads' HO_3.out).1; omega))
              obtain ⟨ua1133_0, uc1133_0, rfl, ul1133_0, ge1133_0⟩ := Kd.FK_slice_open hMe1133
              have hv1133_0 := hcc1133 0 _ rfl
              rw [Nat.add_zero, show ((Kd.slice 3 (Kd.int .i64))).sz = 1 from rfl, Nat.mul_one] at hv1133_0
              replace hv1133_0 := Option.some.inj (hv1133_0.symm.trans hx1133_0)
              injection hv1133_0 with hva_ hvn_ hvc_
              rw [hva_] at ge1133_0
              rw [hvc_] at ul1133_0
              have HL1133_0 := Aside0.mk (show Kd.V (Kd.int .i64) 3 _ w.heap.size _ _ (rd_LI t1122 t1127) from Kd.V_mk ul1133_0 ge1133_0)
              clear hva_ hvn_ hvc_ ge1133_0 ul1133_0
              clear hcc1133 hce1133
              have HR1133_0 := Aside0.mk hi1133_0
              have HC1133_0 := Aside0.mk hl1133_0
              clear hi1133_0 hl1133_0
              replace p1133 := eq_true p1133
              replace q1133 := eq_true q1133
              have p1134 : 0 ≤ (x12_2 : Int) := dd_
              have q1134 : x12_2 < ((rd_LI t1122 t1127).length : Int) := dd_
              obtain ⟨ad1134, e1134, hx1134_0⟩ := Kd.at_int (by repeat (first | (with_reducible exact HR1133_0.out) | (with_reducible refine Kd.C_alloc ?_ _) | (with_reducible refine Kd.C_drewN ?_ _) | (with_reducible refine Kd.C_drew ?_) | exact HR1133_0.out)) x12_2 p1134 q1134
              cases e1134
              replace p1134 := eq_true p1134
              replace q1134 := eq_true q1134
              go_wp2_with (first | (refine goesL_ (some 78) rfl rfl Try.func42 (by kernel_rfl) rfl #[.slice (some ad1133) t1122.length co8, .int .i64 0, .int .i64 (rd (rd_LI t1122 t1127) x12_2)] rfl ll_ ?_; (with_reducible refine (impl_SpreadJoin.calls _ _ t1122 0 (rd (rd_LI t1122 t1127) x12_2) t1135 true _ ?side1 ?side2 A22.out).mono ?_); (case side1 => repeat (first | exact (Kd.N_reads' HO_3.out).2.2 | (with_reducible refine Kd.C_alloc ?_ _) | (with_reducible refine Kd.C_drewN ?_ _) | (with_reducible refine Kd.C_drew ?_))); (case side2 => exact (Kd.N_reads' HO_3.out).2.1); rintro e w25 ⟨rfl, hb⟩; refine ⟨_, rfl, ?_⟩; have n0_ := Aside0.mk (Kd.N_below (by (with_reducible repeat (first | apply Kd.N_alloc | apply Kd.N_drewN | apply Kd.N_drew)); exact HO_3.out) hb); have n1_ := Aside0.mk (Kd.V_below (by (with_reducible repeat (first | apply Kd.V_alloc | apply Kd.V_drewN | apply Kd.V_drew)); exact HL1133_0.out) hb); have n2_ := Aside0.mk (Kd.C_below (by repeat (first | (with_reducible exact HR1133_0.out) | (with_reducible refine Kd.C_alloc ?_ _) | (with_reducible refine Kd.C_drewN ?_ _) | (with_reducible refine Kd.C_drew ?_) | exact HR1133_0.out)) hb); have n3_ := Aside0.mk (below_step (bb_ HB) hb); clear HO_3; clear HL1133_0; clear HR1133_0; clear HB; have HO_3 := n0_; have HL1133_0 := n1_; have HR1133_0 := n2_; have HB := n3_; clear n0_ n1_ n2_ n3_; (try clear hb); (try clear hb2); (try clear hk); (try clear hi)))
              go_roundg k2
              case measure => have := HJ5.out; have := HK2.out; omega
              case rel => exact ⟨(wrap64 (x12_2 + 1)), (by first | rfl | (simp; done) | (simp [*]; done)), H', ⟨by have := HJ5.out; have := HK2.out; omega⟩, ⟨by (with_reducible repeat (first | apply Kd.N_alloc | apply Kd.N_drewN | apply Kd.N_drew)); exact HO_3.out⟩, ⟨by repeat (first | (with_reducible first | exact HB.out | apply below_alloc | apply pw_below_drewN | apply below_drew1) | exact HB.out)⟩⟩
             ·rw [if_neg c24] at H
              have c24b0 : (t1135 == t1127) = false := beq_eq_false_iff_ne.mpr c24
              have c24b1 : (t1135 != t1127) = true := bne_iff_ne.mpr c24
              obtain rfl := Option.some.inj H
              have p1133 : 0 ≤ (t1127 : Int) := dd_
              have q1133 : t1127 < (t1122.length : Int) := dd_
              obtain ⟨ad1133, A1133_0, c1133_0, e1133, hx1133_0, hl1133_0, hi1133_0⟩ := at_LI (Kd.N_reads' HO_3.out).2.2 t1127 p1133 q1133
              cases e1133
              obtain ⟨ce1133, hce1133, hMe1133, hcc1133⟩ := Kd.N_get HO_3.out [] t1127 p1133 (by first | exact q1133 | exact dd_ | (have e_ := (Kd.N_reads' HO_3.out).1; omega))
              obtain ⟨ua1133_0, uc1133_0, rfl, ul1133_0, ge1133_0⟩ := Kd.FK_slice_open hMe1133
              have hv1133_0 := hcc1133 0 _ rfl
              rw [Nat.add_zero, show ((Kd.slice 3 (Kd.int .i64))).sz = 1 from rfl, Nat.mul_one] at hv1133_0
              replace hv1133_0 := Option.some.inj (hv1133_0.symm.trans hx1133_0)
              injection hv1133_0 with hva_ hvn_ hvc_
              rw [hva_] at ge1133_0
              rw [hvc_] at ul1133_0
              have HL1133_0 := Aside0.mk (show Kd.V (Kd.int .i64) 3 _ w.heap.size _ _ (rd_LI t1122 t1127) from Kd.V_mk ul1133_0 ge1133_0)
              clear hva_ hvn_ hvc_ ge1133_0 ul1133_0
              clear hcc1133 hce1133
              have HR1133_0 := Aside0.mk hi1133_0
              have HC1133_0 := Aside0.mk hl1133_0
              clear hi1133_0 hl1133_0
              replace p1133 := eq_true p1133
              replace q1133 := eq_true q1133
              have p1134 : 0 ≤ (x12_2 : Int) := dd_
              have q1134 : x12_2 < ((rd_LI t1122 t1127).length : Int) := dd_
              obtain ⟨ad1134, e1134, hx1134_0⟩ := Kd.at_int (by repeat (first | (with_reducible exact HR1133_0.out) | (with_reducible refine Kd.C_alloc ?_ _) | (with_reducible refine Kd.C_drewN ?_ _) | (with_reducible refine Kd.C_drew ?_) | exact HR1133_0.out)) x12_2 p1134 q1134
              cases e1134
              replace p1134 := eq_true p1134
              replace q1134 := eq_true q1134
              go_wp2_with (first | (refine goesL_ (some 78) rfl rfl Try.func42 (by kernel_rfl) rfl #[.slice (some ad1133) t1122.length co8, .int .i64 0, .int .i64 (rd (rd_LI t1122 t1127) x12_2)] rfl ll_ ?_; (with_reducible refine (impl_SpreadJoin.calls _ _ t1122 0 (rd (rd_LI t1122 t1127) x12_2) t1135 true _ ?side1 ?side2 A22.out).mono ?_); (case side1 => repeat (first | exact (Kd.N_reads' HO_3.out).2.2 | (with_reducible refine Kd.C_alloc ?_ _) | (with_reducible refine Kd.C_drewN ?_ _) | (with_reducible refine Kd.C_drew ?_))); (case side2 => exact (Kd.N_reads' HO_3.out).2.1); rintro e w26 ⟨rfl, hb⟩; refine ⟨_, rfl, ?_⟩; have n0_ := Aside0.mk (Kd.N_below (by (with_reducible repeat (first | apply Kd.N_alloc | apply Kd.N_drewN | apply Kd.N_drew)); exact HO_3.out) hb); have n1_ := Aside0.mk (Kd.V_below (by (with_reducible repeat (first | apply Kd.V_alloc | apply Kd.V_drewN | apply Kd.V_drew)); exact HL1133_0.out) hb); have n2_ := Aside0.mk (Kd.C_below (by repeat (first | (with_reducible exact HR1133_0.out) | (with_reducible refine Kd.C_alloc ?_ _) | (with_reducible refine Kd.C_drewN ?_ _) | (with_reducible refine Kd.C_drew ?_) | exact HR1133_0.out)) hb); have n3_ := Aside0.mk (below_step (bb_ HB) hb); clear HO_3; clear HL1133_0; clear HR1133_0; clear HB; have HO_3 := n0_; have HL1133_0 := n1_; have HR1133_0 := n2_; have HB := n3_; clear n0_ n1_ n2_ n3_; (try clear hb); (try clear hb2); (try clear hk); (try clear hi)))
              go_ret
              exact ⟨ee_, bb_ HB⟩
            ·replace c23 := Bool.eq_false_iff.mpr c23
             subst c23
             have H1 : (some false) = some r := by rw [if_neg (show ¬ (false = true) by decide)] at H; exact H
             clear H
             have H := H1
             clear H1
             obtain rfl := Option.some.inj H
             have p1133 : 0 ≤ (t1127 : Int) := dd_
             have q1133 : t1127 < (t1122.length : Int) := dd_
             obtain ⟨ad1133, A1133_0, c1133_0, e1133, hx1133_0, hl1133_0, hi1133_0⟩ := at_LI (Kd.N_reads' HO_3.out).2.2 t1127 p1133 q1133
             cases e1133
             obtain ⟨ce1133, hce1133, hMe1133, hcc1133⟩ := Kd.N_get HO_3.out [] t1127 p1133 (by first | exact q1133 | exact dd_ | (have e_ := (Kd.N_reads' HO_3.out).1; omega))
             obtain ⟨ua1133_0, uc1133_0, rfl, ul1133_0, ge1133_0⟩ := Kd.FK_slice_open hMe1133
             have hv1133_0 := hcc1133 0 _ rfl
             rw [Nat.add_zero, show ((Kd.slice 3 (Kd.int .i64))).sz = 1 from rfl, Nat.mul_one] at hv1133_0
             replace hv1133_0 := Option.some.inj (hv1133_0.symm.trans hx1133_0)
             injection hv1133_0 with hva_ hvn_ hvc_
             rw [hva_] at ge1133_0
             rw [hvc_] at ul1133_0
             have HL1133_0 := Aside0.mk (show Kd.V (Kd.int .i64) 3 _ w.heap.size _ _ (rd_LI t1122 t1127) from Kd.V_mk ul1133_0 ge1133_0)
             clear hva_ hvn_ hvc_ ge1133_0 ul1133_0
             clear hcc1133 hce1133
             have HR1133_0 := Aside0.mk hi1133_0
             have HC1133_0 := Aside0.mk hl1133_0
             clear hi1133_0 hl1133_0
             replace p1133 := eq_true p1133
             replace q1133 := eq_true q1133
             have p1134 : 0 ≤ (x12_2 : Int) := dd_
             have q1134 : x12_2 < ((rd_LI t1122 t1127).length : Int) := dd_
             obtain ⟨ad1134, e1134, hx1134_0⟩ := Kd.at_int (by repeat (first | (with_reducible exact HR1133_0.out) | (with_reducible refine Kd.C_alloc ?_ _) | (with_reducible refine Kd.C_drewN ?_ _) | (with_reducible refine Kd.C_drew ?_) | exact HR1133_0.out)) x12_2 p1134 q1134
             cases e1134
             replace p1134 := eq_true p1134
             replace q1134 := eq_true q1134
             go_wp2_with (first | (refine goesL_ (some 78) rfl rfl Try.func42 (by kernel_rfl) rfl #[.slice (some ad1133) t1122.length co8, .int .i64 0, .int .i64 (rd (rd_LI t1122 t1127) x12_2)] rfl ll_ ?_; (with_reducible refine (impl_SpreadJoin.calls _ _ t1122 0 (rd (rd_LI t1122 t1127) x12_2) t1135 false _ ?side1 ?side2 A22.out).mono ?_); (case side1 => repeat (first | exact (Kd.N_reads' HO_3.out).2.2 | (with_reducible refine Kd.C_alloc ?_ _) | (with_reducible refine Kd.C_drewN ?_ _) | (with_reducible refine Kd.C_drew ?_))); (case side2 => exact (Kd.N_reads' HO_3.out).2.1); rintro e w27 ⟨rfl, hb⟩; refine ⟨_, rfl, ?_⟩; have n0_ := Aside0.mk (Kd.N_below (by (with_reducible repeat (first | apply Kd.N_alloc | apply Kd.N_drewN | apply Kd.N_drew)); exact HO_3.out) hb); have n1_ := Aside0.mk (Kd.V_below (by (with_reducible repeat (first | apply Kd.V_alloc | apply Kd.V_drewN | apply Kd.V_drew)); exact HL1133_0.out) hb); have n2_ := Aside0.mk (Kd.C_below (by repeat (first | (with_reducible exact HR1133_0.out) | (with_reducible refine Kd.C_alloc ?_ _) | (with_reducible refine Kd.C_drewN ?_ _) | (with_reducible refine Kd.C_drew ?_) | exact HR1133_0.out)) hb); have n3_ := Aside0.mk (below_step (bb_ HB) hb); clear HO_3; clear HL1133_0; clear HR1133_0; clear HB; have HO_3 := n0_; have HL1133_0 := n1_; have HR1133_0 := n2_; have HB := n3_; clear n0_ n1_ n2_ n3_; (try clear hb); (try clear hb2); (try clear hk); (try clear hi)))
             go_ret
             exact ⟨ee_, bb_ HB⟩
           ·rw [if_neg c21] at H
            exact absurd H (by simp)
          ·rw [if_neg c20] at H
           exact absurd H (by simp)
         ·rw [if_neg c19] at H
          exact absurd H (by simp)
        ·rw [if_neg c18] at H
         exact absurd H (by simp)
       ·rw [if_neg c17] at H
        have c17b0 : decide (x12_2 < 9) = false := decide_eq_false c17
        clear c17
        by_cases c28 : t1132 = true
        ·subst c28
         have H1 : (some (t1131 == t1127)) = some r := by rw [if_pos rfl] at H; exact H
         clear H
         have H := H1
         clear H1
         obtain rfl := Option.some.inj H
         go_wp2
         go_ret
         exact ⟨ee_, bb_ HB⟩
        ·replace c28 := Bool.eq_false_iff.mpr c28
         subst c28
         have H1 : (some false) = some r := by rw [if_neg (show ¬ (false = true) by decide)] at H; exact H
         clear H
         have H := H1
         clear H1
         obtain rfl := Option.some.inj H
         go_wp2
         go_ret
         exact ⟨ee_, bb_ HB⟩
def laws_FnSpreadJoin.Pure : Prop := ∀ (l0 : List Int), l0.length ≤ maxLen → l0.length * 1 ≤ 140737488351232 → (∀ x ∈ l0, (Lit.int .u8 x).wf = true) → ∃ k, laws_FnSpreadJoin.f k l0 = some true
theorem laws_FnSpreadJoin.walk (P : laws_FnSpreadJoin.Pure) (a0 : Option Addr) (len0 cap0 : Nat) (z0 : List Int) (w : World) (w0 : (a0 = none ∧ len0 = 0 ∧ cap0 = 0 ∧ z0 = []) ∨ ∃ x, a0 = some x ∧ len0 ≤ cap0 ∧ cap0 ≤ maxLen ∧ z0.length = cap0 ∧ (∀ i, i < z0.length → w.cell? (x.add i) = some (.int .u8 (z0.getD i 0))) ∧ ∀ n ∈ z0, (Lit.int .u8 n).wf = true) (y0 : len0 * 1 ≤ 140737488351232) :
  Calls Try.prog 10 #[.slice a0 len0 cap0] w fun e w' => e = .returned (.bool true) ∧ Below w.heap.size w w' := by
 obtain ⟨l0, rfl, hr0, hm0, hw0, hc0⟩ := ReadsInt.ofRowC w0
 obtain ⟨k, h⟩ := P l0 hm0 y0 hw0
 refine (laws_FnSpreadJoin.calls k _ _ l0 true w (Kd.C_of_reads (d := (0 : Int)) (h1 := fun _ => rfl) hr0) hc0 h).mono ?_
 rintro e w' ⟨rfl, hd⟩
 exact ⟨rfl, hd⟩
end Go.Proofs.Ytcbkoecanldlpaa.P

set_option linter.unusedVariables false
set_option linter.unusedSimpArgs false
namespace Go.Proofs.Ytcbkoecanldlpaa.X
open Go.RowKit Go.Proofs.YtcbkoecanldlpaaW.PrintWords Go.Proofs.YtcbkoecanldlpaaW.PrintLast Go.Proofs.Ytcbkoecanldlpaa.P

theorem l6In_eq (a b c : Int) : spec_l6In.f a b c = some (decide (b ≤ a) && decide (a ≤ c)) := by
  unfold spec_l6In.f
  by_cases h : a ≥ b
  · rw [if_pos h, decide_eq_true h]; simp
  · rw [if_neg h, decide_eq_false h]; simp
theorem l1In_eq (a : Int) : spec_l1In.f a = some (isN a) := by
  unfold spec_l1In.f isN
  rw [l6In_eq]
  show some _ = _
  rw [show decide (a ≤ 8) = decide (a < 9) from decide_eq_decide.2 (by omega)]
theorem l2Table_loop (l : List Int) (hl : l.length ≤ 1048576) (d : Nat) : ∀ (i : Int), 0 ≤ i → i + d = l.length → (∀ j : Nat, (j : Int) < i → isN (rd l j) = true) → Ev (fun k => spec_l2Table.l0 k l i) (ninesB l 81) := by
  induction d with
  | zero =>
    intro i h0 h1 h
    refine Ev.step (fun k => by rw [spec_l2Table.l0]) ?_
    refine Ev.neg (by omega) (Ev.done ?_)
    have ha : l.all isN = true := by
      rw [List.all_eq_true]
      intro x hx
      obtain ⟨j, hj, rfl⟩ := List.mem_iff_getElem.1 hx
      rw [← rd_cast l j hj]
      exact h j (by omega)
    unfold ninesB
    rw [ha, Bool.and_true]
    congr 1
    rw [Bool.eq_iff_iff]; simp; omega
  | succ d ih =>
    intro i h0 h1 h
    refine Ev.step (fun k => by rw [spec_l2Table.l0]) ?_
    simp (disch := omega) only [w64, l1In_eq, Option.bind_some]
    refine Ev.pos (by omega) (Ev.pos (by omega) ?_)
    by_cases e : isN (rd l i) = true
    · refine Ev.pos e (ih (i + 1) (by omega) (by omega) fun j hj => ?_)
      by_cases ej : (j : Int) = i
      · rw [ej]; exact e
      · exact h j (by omega)
    · refine Ev.neg e (Ev.done ?_)
      have : l.all isN = false := by
        rw [List.all_eq_false]
        exact ⟨rd l i, rd_mem (by omega) h0, e⟩
      unfold ninesB
      rw [this, Bool.and_false]
theorem l2Table_ev (l : List Int) (hl : l.length ≤ 1048576) : Ev (fun k => spec_l2Table.f k l) (ninesB l 81) :=
  l2Table_loop l hl l.length 0 (by omega) (by omega) (fun j h => by omega)
theorem l2Units_loop (t : List Int) (hl : t.length = 81) (d : Nat) : ∀ (i : Int), 0 ≤ i → i + d = 9 → (∀ x : Int, 0 ≤ x → x < i → unitB t x = true) → Ev (fun k => spec_l2Units.l0 k t i) (unitsB t) := by
  induction d with
  | zero =>
    intro i h0 h1 h
    refine Ev.step (fun k => by rw [spec_l2Units.l0]) ?_
    refine Ev.neg (by omega) (Ev.done ?_)
    rw [unitsB_iff.2 fun x x0 x1 => h x x0 (by omega)]
  | succ d ih =>
    intro i h0 h1 h
    have hu : unitB t i = (decide (rd t i = 0) && decide (rd t (9 * i) = 0) && decide (rd t (9 + i) = i) && decide (rd t (9 * i + 1) = i)) := rfl
    refine Ev.step (fun k => by rw [spec_l2Units.l0]) ?_
    have z1 : wrap64 (9 * i) = 9 * i := w64 (by omega) (by omega)
    have z2 : wrap64 (9 + i) = 9 + i := w64 (by omega) (by omega)
    have z3 : wrap64 (9 * i + 1) = 9 * i + 1 := w64 (by omega) (by omega)
    have z4 : wrap64 (i + 1) = i + 1 := w64 (by omega) (by omega)
    simp only [z1, z2, z3, z4]
    refine Ev.pos (by omega) (Ev.pos (by omega) (Ev.pos (by omega) ?_))
    by_cases e1 : rd t i = 0
    case neg => exact Ev.neg e1 (Ev.done (by rw [unitsB_hit h0 (by omega) (by rw [hu, decide_eq_false e1]; rfl)]))
    refine Ev.pos e1 (Ev.pos (by omega) (Ev.pos (by omega) ?_))
    by_cases e2 : rd t (9 * i) = 0
    case neg => exact Ev.neg e2 (Ev.done (by rw [unitsB_hit h0 (by omega) (by rw [hu, decide_eq_false e2, Bool.and_false]; rfl)]))
    refine Ev.pos e2 (Ev.pos (by omega) (Ev.pos (by omega) ?_))
    by_cases e3 : rd t (9 + i) = i
    case neg => exact Ev.neg e3 (Ev.done (by rw [unitsB_hit h0 (by omega) (by rw [hu, decide_eq_false e3, Bool.and_false]; rfl)]))
    refine Ev.pos e3 (Ev.pos (by omega) (Ev.pos (by omega) ?_))
    by_cases e4 : rd t (9 * i + 1) = i
    case neg => exact Ev.neg e4 (Ev.done (by rw [unitsB_hit h0 (by omega) (by rw [hu, decide_eq_false e4, Bool.and_false])]))
    refine Ev.pos e4 (ih (i + 1) (by omega) (by omega) fun x x0 x1 => ?_)
    by_cases e : x = i
    · rw [e, hu, decide_eq_true e1, decide_eq_true e2, decide_eq_true e3, decide_eq_true e4]; rfl
    · exact h x x0 (by omega)
theorem l2Units_ev (t : List Int) (hl : t.length = 81) : Ev (fun k => spec_l2Units.f k t) (unitsB t) :=
  l2Units_loop t hl 9 0 (by omega) (by omega) (fun x h0 h1 => by omega)
theorem SystemIn_l1 (t : List Int) (hn : ninesB t 81 = true) (c : Int) (hc : In9 c) (hr : (∀ d : Int, 0 ≤ d → d < c → gapsB t c d = true) → Ev (fun k => spec_SystemIn.l0 k t (c + 1)) (solvesB t)) (n : Nat) :
    ∀ (d : Int), 0 ≤ d → d + n = c → (∀ x : Int, 0 ≤ x → x < d → gapsB t c x = true) → Ev (fun k => spec_SystemIn.l1 k t c d) (solvesB t) := by
  obtain ⟨c0, c1⟩ := hc
  induction n with
  | zero =>
    intro d h0 h1 h
    refine Ev.step (fun k => by rw [spec_SystemIn.l1]) ?_
    simp (disch := omega) only [w64]
    exact Ev.neg (by omega) (hr fun x x0 x1 => h x x0 (by omega))
  | succ n ih =>
    intro d h0 h1 h
    refine Ev.step (fun k => by rw [spec_SystemIn.l1]) ?_
    have hs : spec_l2Solves.f t c d = some (gapsB t c d) := by unfold spec_l2Solves.f; exact if_pos ⟨hn, ⟨c0, c1⟩, ⟨h0, by omega⟩⟩
    simp (disch := omega) only [w64, hs, Option.bind_some]
    refine Ev.pos (by omega) ?_
    by_cases e : gapsB t c d = true
    · refine Ev.pos e (ih (d + 1) (by omega) (by omega) fun x x0 x1 => ?_)
      by_cases ex : x = d
      · rw [ex]; exact e
      · exact h x x0 (by omega)
    · refine Ev.neg e (Ev.done ?_)
      rw [solvesB_hit h0 (by omega) c1 (Bool.eq_false_iff.2 e)]
theorem SystemIn_l0 (t : List Int) (hn : ninesB t 81 = true) (n : Nat) : ∀ (c : Int), 0 ≤ c → c + n = 9 → (∀ x y : Int, 0 ≤ y → y < x → x < c → gapsB t x y = true) → Ev (fun k => spec_SystemIn.l0 k t c) (solvesB t) := by
  induction n with
  | zero =>
    intro c h0 h1 h
    refine Ev.step (fun k => by rw [spec_SystemIn.l0]) ?_
    refine Ev.neg (by omega) (Ev.done ?_)
    rw [solvesB_all fun x y y0 yx x9 => h x y y0 yx (by omega)]
  | succ n ih =>
    intro c h0 h1 h
    refine Ev.step (fun k => by rw [spec_SystemIn.l0]) ?_
    refine Ev.pos (by omega) ?_
    refine SystemIn_l1 t hn c ⟨h0, by omega⟩ (fun hg => ih (c + 1) (by omega) (by omega) fun x y y0 yx x1 => ?_) c.toNat 0 (by omega) (by omega) (fun x x0 x1 => by omega)
    by_cases e : x = c
    · subst e; exact hg y y0 yx
    · exact h x y y0 yx (by omega)
theorem SystemIn_ev (t : List Int) (hl : t.length ≤ 1048576) : Ev (fun k => spec_SystemIn.f k t) (sysB t) := by
  unfold spec_SystemIn.f
  refine Ev.bind (l2Table_ev t hl) ?_
  by_cases hn : ninesB t 81 = true
  case neg =>
    refine Ev.neg hn (Ev.step (fun k => by rw [spec_SystemIn.j0]) (Ev.pos rfl (Ev.done ?_)))
    unfold sysB; rw [Bool.eq_false_iff.2 hn]; rfl
  refine Ev.pos hn (Ev.bind (l2Units_ev t (ninesB_iff.1 hn).1) ?_)
  by_cases hu : unitsB t = true
  case neg =>
    refine Ev.neg hu (Ev.step (fun k => by rw [spec_SystemIn.j0]) (Ev.pos rfl (Ev.done ?_)))
    rw [sysB_of hn, Bool.eq_false_iff.2 hu]; rfl
  have hs : spec_l2Shares.f t = some (sharesB t) := by unfold spec_l2Shares.f; exact if_pos hn
  refine Ev.pos hu (Ev.fix hs ?_)
  rw [sysB_of hn, hu]
  by_cases h : sharesB t = true
  · rw [h]
    refine Ev.step (fun k => by rw [spec_SystemIn.j0]) ?_
    refine Ev.neg (by simp) ?_
    exact SystemIn_l0 t hn 9 0 (by omega) (by omega) (fun x y h0 h1 h2 => by omega)
  · rw [Bool.eq_false_iff.2 h]
    refine Ev.step (fun k => by rw [spec_SystemIn.j0]) ?_
    exact Ev.pos rfl (Ev.done rfl)
end Go.Proofs.Ytcbkoecanldlpaa.X

set_option linter.unusedVariables false
set_option linter.unusedSimpArgs false
namespace Go.Proofs.Ytcbkoecanldlpaa.X
open Go.RowKit Go.Proofs.YtcbkoecanldlpaaW.PrintWords Go.Proofs.YtcbkoecanldlpaaW.PrintLast Go.Proofs.Ytcbkoecanldlpaa.P

def bL (n : Nat) (s : Nat → Bool) : List Bool := (List.range n).map s
theorem bL_length (n : Nat) (s : Nat → Bool) : (bL n s).length = n := by simp [bL]
theorem bL_replicate (n : Nat) : List.replicate n false = bL n (fun _ => false) := by
  unfold bL; rw [List.map_const']; simp
theorem bL_rd {n : Nat} {s : Nat → Bool} (v : Int) (h0 : 0 ≤ v) (h1 : v < n) : rdOf false (bL n s) v = s v.toNat := by
  unfold rdOf bL
  rw [List.getD_eq_getElem?_getD, List.getElem?_map, List.getElem?_range (by omega)]
  rfl
theorem bL_set {n : Nat} {s : Nat → Bool} (v : Int) (b : Bool) : (bL n s).set v.toNat b = bL n (fun x => if x = v.toNat then b else s x) := by
  apply List.ext_getElem?
  intro i
  rw [List.getElem?_set]
  by_cases hi : i < n
  · by_cases hj : v.toNat = i
    · subst hj; simp [bL, hi]
    · simp [bL, hi, hj, Ne.symm hj]
  · by_cases hj : v.toNat = i
    · subst hj; simp [bL, hi]
    · simp [bL, hi, hj]
theorem bL_congr {n : Nat} {s s' : Nat → Bool} (h : ∀ j, j < n → s j = s' j) : bL n s = bL n s' := by
  unfold bL
  exact List.map_congr_left fun j hj => h j (List.mem_range.1 hj)
end Go.Proofs.Ytcbkoecanldlpaa.X

set_option linter.unusedVariables false
set_option linter.unusedSimpArgs false
namespace Go.Proofs.Ytcbkoecanldlpaa.X
open Go.RowKit Go.Proofs.YtcbkoecanldlpaaW.PrintWords Go.Proofs.YtcbkoecanldlpaaW.PrintLast Go.Proofs.Ytcbkoecanldlpaa.P

theorem rdL_cast (l : List (List Int)) (i : Nat) (h : i < l.length) : rd_LI l (i : Int) = l[i] := by
  unfold rd_LI
  rw [List.getD_eq_getElem?_getD]
  simp [h]
theorem rdL_int {l : List (List Int)} {i : Int} (h0 : 0 ≤ i) (h1 : i < l.length) : rd_LI l i = l[i.toNat]'(by omega) := by
  rw [← rdL_cast l i.toNat (by omega), Int.toNat_of_nonneg h0]
theorem rdL_mem {l : List (List Int)} {i : Int} (h0 : 0 ≤ i) (h1 : i < l.length) : rd_LI l i ∈ l := by
  rw [rdL_int h0 h1]; exact List.getElem_mem _
end Go.Proofs.Ytcbkoecanldlpaa.X

set_option linter.unusedVariables false
set_option linter.unusedSimpArgs false
namespace Go.Proofs.Ytcbkoecanldlpaa.X
open Go.RowKit Go.Proofs.YtcbkoecanldlpaaW.PrintWords Go.Proofs.YtcbkoecanldlpaaW.PrintLast Go.Proofs.Ytcbkoecanldlpaa.P

theorem l6lLess_loop (a b : List Int) (ha : a.length = 9) (hb : b.length = 9) (d : Nat) : ∀ i : Int, 0 ≤ i → i + d = 9 → (∀ j : Int, 0 ≤ j → j < i → rd a j = rd b j) → Ev (fun k => spec_l6lLess.l0 k a b i) (lessB a b) := by
  induction d with
  | zero =>
    intro i h0 h1 h
    refine Ev.step (fun k => by rw [spec_l6lLess.l0]) ?_
    refine Ev.neg (by omega) (Ev.done ?_)
    have : gapI a b = -1 := firstI_none fun j j0 j1 => by rw [h j j0 (by omega)]; simp
    unfold lessB; rw [this]; rfl
  | succ d ih =>
    intro i h0 h1 h
    refine Ev.step (fun k => by rw [spec_l6lLess.l0]) ?_
    rw [w64 (x := i + 1) (by omega) (by omega)]
    refine Ev.pos (by omega) (Ev.pos h0 (Ev.pos (by omega) (Ev.pos (by omega) ?_)))
    by_cases e : rd a i = rd b i
    · refine Ev.pos e (ih (i + 1) (by omega) (by omega) fun j j0 j1 => ?_)
      by_cases ej : j = i
      · rw [ej]; exact e
      · exact h j j0 (by omega)
    · refine Ev.neg e (Ev.done ?_)
      have : gapI a b = i := firstI_some i h0 (by omega) (by simpa using e) fun j j0 j1 => by rw [h j j0 j1]; simp
      unfold lessB; rw [this, decide_eq_true h0, Bool.true_and]
theorem l6lLess_ev (a b : List Int) (ha : a.length = 9) (hb : b.length = 9) : Ev (fun k => spec_l6lLess.f k a b) (lessB a b) :=
  l6lLess_loop a b ha hb 9 0 (by omega) (by omega) (fun j j0 j1 => by omega)
theorem seenS_iff {l : List (List Int)} {i p : Int} : seenS l i p = true ↔ ∃ j : Nat, (j : Int) < i ∧ p ∈ rd_LI l (j : Int) := by
  unfold seenS
  simp only [List.any_eq_true, List.mem_range, decide_eq_true_eq]
  constructor
  · rintro ⟨j, hj, h⟩; exact ⟨j, by omega, h⟩
  · rintro ⟨j, hj, h⟩; exact ⟨j, by omega, h⟩
theorem fresh_rd {l : List (List Int)} {i : Int} (h : freshB l i = true) {p : Int} (hp : p ∈ rd_LI l i) (h0 : 0 < p) : seenS l i p = false := by
  unfold freshB at h
  have := List.all_eq_true.1 h p hp
  rw [decide_eq_false (by omega), Bool.false_or, Bool.not_eq_true'] at this
  exact this
theorem spread_apart {l : List (List Int)} (h : spreadB l = true) {i j p : Int} (i0 : 0 ≤ i) (ij : i < j) (j1 : j < 10) (h0 : 0 < p) (hi : p ∈ rd_LI l i) (hj : p ∈ rd_LI l j) : False := by
  have := fresh_rd (leafOk_parts ((spreadB_parts h).2 j (by omega) j1)).2.2 hj h0
  have h2 := seenS_iff.2 ⟨i.toNat, (by omega : (i.toNat : Int) < j), (by rw [Int.toNat_of_nonneg i0]; exact hi : p ∈ rd_LI l (i.toNat : Int))⟩
  rw [this] at h2; exact absurd h2 (by decide)
theorem spread_leaf {l : List (List Int)} (h : spreadB l = true) {i : Int} (i0 : 0 ≤ i) (i1 : i < 10) : leafB (rd_LI l i) = true := (leafOk_parts ((spreadB_parts h).2 i i0 i1)).1
theorem spread_cover {l : List (List Int)} (h : spreadB l = true) {g : Int} (g0 : 0 ≤ g) (g1 : g < 81) : ∃ j : Int, 0 ≤ j ∧ j < 10 ∧ g ∈ rd_LI l j := by
  by_cases hg : g = 0
  · have hl := spread_leaf h (i := 0) (by omega) (by omega)
    refine ⟨0, by omega, by omega, ?_⟩
    have hm := rd_mem (t := rd_LI l 0) (i := 0) (by have := (leafB_parts hl).1; omega) (by omega)
    rw [leaf_zero hl] at hm
    rw [hg]; exact hm
  have hv : ∀ n : Nat, n < 80 → rd (rd_LI l ((n / 8 : Nat) : Int)) ((n % 8 : Nat) + 1 : Int) ∈ rd_LI l ((n / 8 : Nat) : Int) ∧ 0 < rd (rd_LI l ((n / 8 : Nat) : Int)) ((n % 8 : Nat) + 1 : Int) ∧ rd (rd_LI l ((n / 8 : Nat) : Int)) ((n % 8 : Nat) + 1 : Int) < 81 := fun n hn => by
    have hl := spread_leaf h (i := ((n / 8 : Nat) : Int)) (by omega) (by omega)
    exact ⟨rd_mem (by have := (leafB_parts hl).1; omega) (by omega), leaf_pos hl (by omega) (by omega), (leaf_near hl (by omega) (by omega)).2⟩
  obtain ⟨n, hn, e⟩ := pigeon 80 (fun n => (rd (rd_LI l ((n / 8 : Nat) : Int)) ((n % 8 : Nat) + 1 : Int) - 1).toNat) (fun n hn => by have := hv n hn; omega)
    (fun n m hnm hm e => by
      obtain ⟨a1, a2, a3⟩ := hv n (by omega)
      obtain ⟨b1, b2, b3⟩ := hv m hm
      have ee : rd (rd_LI l ((n / 8 : Nat) : Int)) ((n % 8 : Nat) + 1 : Int) = rd (rd_LI l ((m / 8 : Nat) : Int)) ((m % 8 : Nat) + 1 : Int) := by omega
      by_cases hq : n / 8 = m / 8
      · rw [hq] at ee
        have := leaf_asc (spread_leaf h (i := ((m / 8 : Nat) : Int)) (by omega) (by omega)) (i := (n % 8 : Nat) + 1) (j := (m % 8 : Nat) + 1) (by omega) (by omega) (by omega)
        omega
      · rw [ee] at a1 a2
        exact spread_apart h (i := ((n / 8 : Nat) : Int)) (j := ((m / 8 : Nat) : Int)) (by omega) (by omega) (by omega) a2 a1 b1) (g - 1).toNat (by omega)
  obtain ⟨a1, a2, a3⟩ := hv n hn
  exact ⟨((n / 8 : Nat) : Int), by omega, by omega, by rw [show g = rd (rd_LI l ((n / 8 : Nat) : Int)) ((n % 8 : Nat) + 1 : Int) by omega]; exact a1⟩
def bitR (l : List (List Int)) (i k : Int) (p : Nat) : Bool := decide (0 < (p : Int)) && (seenS l i (p : Int) || decide ((p : Int) ∈ (rd_LI l i).take k.toNat))
theorem specSpread_l1 (l : List (List Int)) (hl : l.length = 10) (i : Int) (i0 : 0 ≤ i) (i1 : i < 10) (hlf : leafB (rd_LI l i) = true) (hor : ordB l i = true)
    (hr : leafOk l i = true → Ev (fun k => spec_SpreadIn.l0 k l (bL 81 fun p => decide (0 < (p : Int)) && seenS l (i + 1) (p : Int)) (i + 1)) (spreadB l)) (d : Nat) :
    ∀ k : Int, 1 ≤ k → k + d = 9 → (∀ j : Int, 0 ≤ j → j < k → (decide (rd (rd_LI l i) j ≤ 0) || !seenS l i (rd (rd_LI l i) j)) = true) → Ev (fun n => spec_SpreadIn.l1 n l (bL 81 (bitR l i k)) i k) (spreadB l) := by
  have hl9 := (leafB_parts hlf).1
  induction d with
  | zero =>
    intro k k0 k1 h
    have e9 : k = 9 := by omega
    subst e9
    refine Ev.step (fun n => by rw [spec_SpreadIn.l1]) ?_
    rw [w64 (x := i + 1) (by omega) (by omega)]
    have hfr : freshB l i = true := by
      unfold freshB
      rw [List.all_eq_true]
      intro p hp
      obtain ⟨j, j0, j1, rfl⟩ := mem_rd hp
      exact h j j0 (by omega)
    have hb : bL 81 (bitR l i 9) = bL 81 fun p => decide (0 < (p : Int)) && seenS l (i + 1) (p : Int) := bL_congr fun j hj => by
      unfold bitR
      rw [seenS_succ l i0, List.take_of_length_le (by omega)]
    rw [hb]
    exact Ev.neg (by omega) (hr (by unfold leafOk; rw [hlf, hor, hfr]; rfl))
  | succ d ih =>
    intro k k0 k1 h
    obtain ⟨p0, p1⟩ := leaf_near hlf (i := k) (by omega) (by omega)
    have pp := leaf_pos hlf (i := k) (by omega) (by omega)
    have hnt := leaf_take hlf (i := k) (by omega) (by omega)
    have hbit : rdOf false (bL 81 (bitR l i k)) (rd (rd_LI l i) k) = seenS l i (rd (rd_LI l i) k) := by
      rw [bL_rd _ p0 p1]
      unfold bitR
      rw [Int.toNat_of_nonneg p0, decide_eq_true pp, decide_eq_false hnt, Bool.or_false, Bool.true_and]
    have hset : (bL 81 (bitR l i k)).set (rd (rd_LI l i) k).toNat true = bL 81 (bitR l i (k + 1)) := by
      rw [bL_set]
      refine bL_congr fun j hj => ?_
      unfold bitR
      rw [show (k + 1).toNat = k.toNat + 1 by omega, List.take_add_one, List.getElem?_eq_getElem (by omega), Option.toList_some]
      have e2 : (rd_LI l i)[k.toNat]'(by omega) = rd (rd_LI l i) k := (rd_getElem (by omega) (by omega)).symm
      rw [e2]
      by_cases e : j = (rd (rd_LI l i) k).toNat
      · rw [if_pos e, decide_eq_true (by omega : (0 : Int) < j)]
        have : (j : Int) ∈ (rd_LI l i).take k.toNat ++ [rd (rd_LI l i) k] := by rw [List.mem_append]; right; rw [List.mem_singleton]; omega
        rw [decide_eq_true this, Bool.or_true]; rfl
      · rw [if_neg e]
        congr 2
        refine decide_eq_decide.2 ?_
        rw [List.mem_append, List.mem_singleton]
        exact ⟨fun h => .inl h, fun h => h.elim id fun h => absurd h (by omega)⟩
    refine Ev.step (fun n => by rw [spec_SpreadIn.l1]) ?_
    rw [hbit, hset, bL_length, w64 (x := k + 1) (by omega) (by omega)]
    refine Ev.pos (by omega) (Ev.pos i0 (Ev.pos (by omega) (Ev.pos (by omega) (Ev.pos (by omega) (Ev.pos p0 (Ev.pos p1 ?_))))))
    by_cases hs : seenS l i (rd (rd_LI l i) k) = true
    · refine Ev.pos hs (Ev.done ?_)
      have hfr : freshB l i = false := by
        cases e : freshB l i with
        | false => rfl
        | true =>
          have := fresh_rd e (rd_mem (i := k) (by omega) (by omega)) pp
          rw [hs] at this; exact absurd this (by decide)
      rw [spreadB_hit i0 i1 (by unfold leafOk; rw [hfr, Bool.and_false, Bool.and_false])]
    · refine Ev.neg hs (ih (k + 1) (by omega) (by omega) fun j j0 j1 => ?_)
      by_cases e : j = k
      · rw [e, Bool.eq_false_iff.2 hs, Bool.not_false, Bool.or_true]
      · exact h j j0 (by omega)
theorem specSpread_l0 (l : List (List Int)) (hl : l.length = 10) (d : Nat) : ∀ i : Int, 0 ≤ i → i + d = 10 → (∀ j : Int, 0 ≤ j → j < i → leafOk l j = true) → Ev (fun k => spec_SpreadIn.l0 k l (bL 81 fun p => decide (0 < (p : Int)) && seenS l i (p : Int)) i) (spreadB l) := by
  induction d with
  | zero =>
    intro i h0 h1 h
    refine Ev.step (fun k => by rw [spec_SpreadIn.l0]) ?_
    refine Ev.neg (by omega) (Ev.done ?_)
    rw [spreadB_all hl fun j j0 j1 => h j j0 (by omega)]
  | succ d ih =>
    intro i h0 h1 h
    refine Ev.step (fun k => by rw [spec_SpreadIn.l0]) ?_
    refine Ev.pos (by omega) (Ev.pos h0 (Ev.pos (by omega) (Ev.bind (specLeaf_ev _) ?_)))
    by_cases hlf : leafB (rd_LI l i) = true
    case neg =>
      refine Ev.neg hlf (Ev.step (fun k => by rw [spec_SpreadIn.j1]) (Ev.pos rfl (Ev.done ?_)))
      rw [spreadB_hit h0 (by omega) (by unfold leafOk; rw [Bool.eq_false_iff.2 hlf]; rfl)]
    refine Ev.pos hlf ?_
    have hz : (bL 81 fun p => decide (0 < (p : Int)) && seenS l i (p : Int)) = bL 81 (bitR l i 1) := bL_congr fun j hj => by
      unfold bitR
      have hl9 := (leafB_parts hlf).1
      have ht : (rd_LI l i).take (1 : Int).toNat = [0] := by
        rw [show (1 : Int).toNat = 0 + 1 by rfl, List.take_add_one, List.getElem?_eq_getElem (by omega), Option.toList_some]
        have := leaf_zero hlf
        rw [rd_getElem (by omega) (by omega)] at this
        have e3 : (rd_LI l i)[0]'(by omega) = 0 := this
        rw [e3]; rfl
      rw [ht]
      by_cases e : 0 < (j : Int)
      · rw [decide_eq_true e, decide_eq_false (by rw [List.mem_singleton]; omega), Bool.or_false]
      · rw [decide_eq_false e]; rfl
    have tail : ordB l i = true → Ev (fun k => spec_SpreadIn.j1 k l (bL 81 fun p => decide (0 < (p : Int)) && seenS l i (p : Int)) i false) (spreadB l) := fun hor => by
      refine Ev.step (fun k => by rw [spec_SpreadIn.j1]) (Ev.neg (by decide) ?_)
      rw [hz]
      refine specSpread_l1 l hl i h0 (by omega) hlf hor (fun hok => ih (i + 1) (by omega) (by omega) fun j j0 j1 => ?_) 8 1 (by omega) (by omega) fun j j0 j1 => ?_
      · by_cases e : j = i
        · rw [e]; exact hok
        · exact h j j0 (by omega)
      · rw [show j = 0 by omega, leaf_zero hlf]; rfl
    by_cases hi : i > 0
    · have hlp := (leafOk_parts (h (i - 1) (by omega) (by omega))).1
      have hor : ordB l i = lessB (rd_LI l (i - 1)) (rd_LI l i) := by unfold ordB; rw [decide_eq_false (by omega), Bool.false_or]
      rw [w64 (x := i - 1) (by omega) (by omega)]
      refine Ev.pos hi (Ev.pos (by omega) (Ev.pos (by omega) (Ev.bind (l6lLess_ev _ _ (leafB_parts hlp).1 (leafB_parts hlf).1) ?_)))
      rw [← hor]
      by_cases ho : ordB l i = true
      · rw [ho]; exact tail ho
      · have ho := Bool.eq_false_iff.2 ho
        rw [ho]
        refine Ev.step (fun k => by rw [spec_SpreadIn.j1]) ?_
        refine Ev.pos rfl (Ev.done ?_)
        rw [spreadB_hit h0 (by omega) (by unfold leafOk; rw [ho, Bool.false_and, Bool.and_false])]
    · exact Ev.neg hi (tail (by unfold ordB; rw [decide_eq_true (by omega)]; rfl))
theorem specSpread_ev (l : List (List Int)) : Ev (fun k => spec_SpreadIn.f k l) (spreadB l) := by
  unfold spec_SpreadIn.f
  by_cases hl : l.length = 10
  · refine Ev.pos (by omega) (Ev.pos (by omega) ?_)
    rw [bL_replicate]
    have := specSpread_l0 l hl 10 0 (by omega) (by omega) (fun j j0 j1 => by omega)
    have e : (bL 81 fun p => decide (0 < (p : Int)) && seenS l 0 (p : Int)) = bL 81 fun _ => false := bL_congr fun j hj => by rw [seenS_zero, Bool.and_false]
    rwa [e] at this
  · refine Ev.neg (by omega) (Ev.done ?_)
    unfold spreadB; rw [decide_eq_false hl]; rfl
end Go.Proofs.Ytcbkoecanldlpaa.X

set_option linter.unusedVariables false
set_option linter.unusedSimpArgs false
namespace Go.Proofs.Ytcbkoecanldlpaa.X
open Go.RowKit Go.Proofs.YtcbkoecanldlpaaW.PrintWords Go.Proofs.YtcbkoecanldlpaaW.PrintLast Go.Proofs.Ytcbkoecanldlpaa.P

def insL : List (List Int) → List Int → List (List Int)
  | [], x => [x]
  | a :: r, x => if lessB a x = true then a :: insL r x else x :: a :: r
theorem insL_length (l : List (List Int)) (x : List Int) : (insL l x).length = l.length + 1 := by
  induction l with
  | nil => rfl
  | cons a r ih =>
    unfold insL
    by_cases h : lessB a x = true
    · rw [if_pos h, List.length_cons, ih, List.length_cons]
    · rw [if_neg h]; rfl
theorem mem_insL {l : List (List Int)} {x y : List Int} : y ∈ insL l x ↔ y = x ∨ y ∈ l := by
  induction l with
  | nil => unfold insL; simp
  | cons a r ih =>
    unfold insL
    by_cases h : lessB a x = true
    · rw [if_pos h, List.mem_cons, ih, List.mem_cons]
      exact ⟨fun h => h.elim (fun h => .inr (.inl h)) fun h => h.elim .inl fun h => .inr (.inr h), fun h => h.elim (fun h => .inr (.inl h)) fun h => h.elim .inl fun h => .inr (.inr h)⟩
    · rw [if_neg h]; simp
theorem insL_at (x : List Int) : ∀ (n : Nat) (l : List (List Int)), n ≤ l.length → (∀ j : Nat, j < n → lessB (rd_LI l (j : Int)) x = true) → insL l x = l.take n ++ insL (l.drop n) x := by
  intro n
  induction n with
  | zero => intro l _ _; simp
  | succ n ih =>
    intro l hl h
    match l with
    | [] => simp at hl
    | a :: r =>
      have h0 := h 0 (by omega)
      have ea : rd_LI (a :: r) ((0 : Nat) : Int) = a := by rw [rdL_cast _ 0 (by simp)]; rfl
      rw [ea] at h0
      have := ih r (by simp at hl; omega) fun j hj => by
        have := h (j + 1) (by omega)
        rw [rdL_cast _ (j + 1) (by simp at hl ⊢; omega)] at this
        rw [rdL_cast _ j (by simp at hl; omega)]
        exact this
      show (if lessB a x = true then a :: insL r x else x :: a :: r) = _
      rw [if_pos h0, this]
      rfl
theorem insL_stop {l : List (List Int)} {x : List Int} {n : Nat} (hn : n < l.length) (h : ¬ lessB (rd_LI l (n : Int)) x = true) : insL (l.drop n) x = x :: l.drop n := by
  rw [List.drop_eq_getElem_cons hn]
  show (if lessB l[n] x = true then _ else _) = _
  rw [rdL_cast l n hn] at h
  rw [if_neg h]
theorem put_l0 {l : List (List Int)} {x : List Int} (h9 : ∀ a ∈ l, a.length = 9) (hx : x.length = 9) (hl : l.length ≤ 1000) (d : Nat) : ∀ i : Int, 0 ≤ i → i + d = l.length → (∀ j : Nat, (j : Int) < i → lessB (rd_LI l (j : Int)) x = true) → Ev (fun k => spec_l6lPut.l0 k l x i) (insL l x) := by
  induction d with
  | zero =>
    intro i i0 i1 h
    have e := insL_at x i.toNat l (by omega) fun j hj => h j (by omega)
    rw [e, show l.drop i.toNat = [] from List.drop_eq_nil_of_le (by omega)]
    have hlt : (l.take i.toNat).length ≤ 1000 := by rw [List.length_take]; omega
    refine Ev.step (fun k => by rw [spec_l6lPut.l0]) ?_
    refine Ev.neg (by omega) (Ev.fix rfl (Ev.pos i0 (Ev.pos (by omega) (Ev.fix rfl (Ev.pos (by rw [List.length_nil]; omega) ?_)))))
    refine Ev.fix rfl (Ev.fix rfl (Ev.pos (by rw [List.nil_append, List.length_singleton]; omega) (Ev.fix rfl (Ev.fix rfl (Ev.pos ?_ (Ev.done ?_))))))
    · rw [List.nil_append, List.length_append, List.length_singleton, List.length_drop]; omega
    · rw [show l.drop i.toNat = [] from List.drop_eq_nil_of_le (by omega)]; simp [insL]
  | succ d ih =>
    intro i i0 i1 h
    have hm : rd_LI l i ∈ l := rdL_mem i0 (by omega)
    have hlt : (l.take i.toNat).length ≤ 1000 := by rw [List.length_take]; omega
    refine Ev.step (fun k => by rw [spec_l6lPut.l0]) ?_
    rw [w64 (x := i + 1) (by omega) (by omega)]
    refine Ev.pos (by omega) (Ev.pos i0 (Ev.bind (l6lLess_ev _ _ (h9 _ hm) hx) ?_))
    by_cases hc : lessB (rd_LI l i) x = true
    · refine Ev.pos hc (ih (i + 1) (by omega) (by omega) fun j hj => ?_)
      by_cases ej : (j : Int) = i
      · rw [ej]; exact hc
      · exact h j (by omega)
    · have e := insL_at x i.toNat l (by omega) fun j hj => h j (by omega)
      rw [e, insL_stop (by omega) (by rw [Int.toNat_of_nonneg i0]; exact hc)]
      refine Ev.neg hc (Ev.fix rfl (Ev.pos (by omega) (Ev.fix rfl (Ev.pos (by rw [List.length_nil]; omega) ?_))))
      refine Ev.fix rfl (Ev.fix rfl (Ev.pos (by rw [List.nil_append, List.length_singleton]; omega) (Ev.fix rfl (Ev.fix rfl (Ev.pos ?_ (Ev.done ?_))))))
      · rw [List.nil_append, List.length_append, List.length_singleton, List.length_drop]; omega
      · simp
theorem put_ev {l : List (List Int)} {x : List Int} (h9 : ∀ a ∈ l, a.length = 9) (hx : x.length = 9) (hl : l.length ≤ 1000) : Ev (fun k => spec_l6lPut.f k l x) (insL l x) := put_l0 h9 hx hl l.length 0 (by omega) (by omega) fun j hj => by omega
theorem insL_nines {l : List (List Int)} {x : List Int} (h9 : ∀ a ∈ l, a.length = 9) (hx : x.length = 9) : ∀ a ∈ insL l x, a.length = 9 := fun a ha => (mem_insL.1 ha).elim (fun e => by rw [e]; exact hx) (h9 a)
end Go.Proofs.Ytcbkoecanldlpaa.X

set_option linter.unusedVariables false
set_option linter.unusedSimpArgs false
namespace Go.Proofs.Ytcbkoecanldlpaa.X
open Go.RowKit Go.Proofs.YtcbkoecanldlpaaW.PrintWords Go.Proofs.YtcbkoecanldlpaaW.PrintLast Go.Proofs.Ytcbkoecanldlpaa.P

def leaf0 : List Int := [0, 1, 2, 3, 4, 5, 6, 7, 8]
def leafF (t : List Int) (m x : Int) : Int := 9 * x + rd t (9 * x + m)
def leafM (t : List Int) (m : Int) : List Int := mapI 9 (leafF t m)
def spreadN (t : List Int) : Nat → List (List Int)
  | 0 => [leaf0]
  | n + 1 => insL (spreadN t n) (leafM t (n : Int))
def spreadR (t : List Int) : List (List Int) × Bool := if sysB t = true then (spreadN t 9, true) else ([], false)
theorem leafM_length (t : List Int) (m : Int) : (leafM t m).length = 9 := mapI_length _ _
theorem spreadN_length (t : List Int) (n : Nat) : (spreadN t n).length = n + 1 := by
  induction n with
  | zero => rfl
  | succ n ih => show (insL _ _).length = _; rw [insL_length, ih]
theorem spreadN_nines (t : List Int) (n : Nat) : ∀ a ∈ spreadN t n, a.length = 9 := by
  induction n with
  | zero => intro a ha; rw [List.mem_singleton.1 ha]; rfl
  | succ n ih => exact insL_nines ih (leafM_length t n)
theorem spreadOf_l1 {t : List Int} (hn : ninesB t 81 = true) (L : List (List Int)) (h9 : ∀ a ∈ L, a.length = 9) (hL : L.length ≤ 100) {m : Nat} (hm : m < 9) {r : List (List Int) × Bool} (hr : Ev (fun k => spec_SpreadOf.l0 k t (insL L (leafM t (m : Int))) ((m : Int) + 1)) r) (d : Nat) :
    ∀ x : Nat, x + d = 9 → Ev (fun k => spec_SpreadOf.l1 k t L (m : Int) (mapI x (leafF t (m : Int))) (x : Int)) r := by
  have ht := (ninesB_iff.1 hn).1
  induction d with
  | zero =>
    intro x hx
    obtain rfl : x = 9 := by omega
    refine Ev.step (fun k => by rw [spec_SpreadOf.l1]) ?_
    refine Ev.neg (by omega) (Ev.bind (put_ev h9 (leafM_length t m) (by omega)) ?_)
    rw [w64 (x := (m : Int) + 1) (by omega) (by omega)]
    exact hr
  | succ d ih =>
    intro x hx
    have nx := ih (x + 1) (by omega)
    rw [mapI_succ] at nx
    have hv := nines_rd hn (i := 9 * (x : Int) + m) (by omega) (by omega)
    have hml : (mapI x (leafF t (m : Int))).length = x := mapI_length _ _
    refine Ev.step (fun k => by rw [spec_SpreadOf.l1]) ?_
    rw [w64 (x := 9 * (x : Int)) (by omega) (by omega), w64 (x := 9 * (x : Int) + m) (by omega) (by omega), w64 (x := 9 * (x : Int) + rd t (9 * (x : Int) + m)) (by omega) (by omega), w64 (x := (x : Int) + 1) (by omega) (by omega)]
    exact Ev.pos (by omega) (Ev.pos (by omega) (Ev.pos (by omega) (Ev.pos (by omega) nx)))
theorem spreadOf_l0 {t : List Int} (hn : ninesB t 81 = true) (d : Nat) : ∀ m : Nat, m + d = 9 → Ev (fun k => spec_SpreadOf.l0 k t (spreadN t m) (m : Int)) (spreadN t 9, true) := by
  induction d with
  | zero =>
    intro m hm
    obtain rfl : m = 9 := by omega
    refine Ev.step (fun k => by rw [spec_SpreadOf.l0]) ?_
    exact Ev.neg (by omega) (Ev.done rfl)
  | succ d ih =>
    intro m hm
    refine Ev.step (fun k => by rw [spec_SpreadOf.l0]) ?_
    exact Ev.pos (by omega) (spreadOf_l1 hn _ (spreadN_nines t m) (by rw [spreadN_length]; omega) (by omega) (ih (m + 1) (by omega)) 9 0 (by omega))
theorem specSpreadOf_ev {t : List Int} (ht : t.length ≤ 1048576) : Ev (fun k => spec_SpreadOf.f k t) (spreadR t) := by
  unfold spec_SpreadOf.f spreadR
  refine Ev.bind (SystemIn_ev t ht) ?_
  by_cases hs : sysB t = true
  · rw [if_pos hs]
    exact Ev.pos hs (spreadOf_l0 (sysB_parts hs).1 9 0 (by omega))
  · rw [if_neg hs]
    exact Ev.neg hs (Ev.done rfl)
end Go.Proofs.Ytcbkoecanldlpaa.X

set_option linter.unusedVariables false
set_option linter.unusedSimpArgs false
namespace Go.Proofs.Ytcbkoecanldlpaa.X
open Go.RowKit Go.Proofs.YtcbkoecanldlpaaW.PrintWords Go.Proofs.YtcbkoecanldlpaaW.PrintLast Go.Proofs.Ytcbkoecanldlpaa.P

def RdS (s : List Int) : Prop := s.length ≤ 2000 ∧ ∀ x ∈ s, 0 ≤ x ∧ x ≤ 255
theorem u8_range {x : Int} (h : (Lit.int .u8 x).wf = true) : 0 ≤ x ∧ x ≤ 255 := by
  simp [Lit.wf, IntKind.min, IntKind.max, IntKind.signed, IntKind.bits] at h
  omega
theorem open_ev (l : List Int) (h : ∀ x ∈ l, (Lit.int .u8 x).wf = true) : ∃ s, RdS s ∧ spec_l6Open.f l = some (s, 0) := by
  unfold spec_l6Open.f
  by_cases hl : (l.length : Int) > 2000
  · rw [if_pos hl, if_pos (by omega)]
    exact ⟨_, ⟨by rw [List.length_take]; omega, fun x hx => u8_range (h x (List.mem_of_mem_take hx))⟩, rfl⟩
  · rw [if_neg hl]
    exact ⟨_, ⟨by omega, fun x hx => u8_range (h x hx)⟩, rfl⟩
theorem xor_nn {a b : Int} (h0 : 0 ≤ a) (h1 : a < 9223372036854775808) (h2 : 0 ≤ b) (h3 : b < 9223372036854775808) : 0 ≤ Go.bits .xor .i64 a b := by
  obtain ⟨x, rfl⟩ := Int.eq_ofNat_of_zero_le h0
  obtain ⟨y, rfl⟩ := Int.eq_ofNat_of_zero_le h2
  have hx : x ^^^ y < 2 ^ 63 := Nat.xor_lt_two_pow (by omega) (by omega)
  have e1 : (BitVec.ofInt 64 (x : Int)).toNat = x := by
    rw [BitVec.ofInt_natCast, BitVec.toNat_ofNat]; exact Nat.mod_eq_of_lt (by omega)
  have e2 : (BitVec.ofInt 64 (y : Int)).toNat = y := by
    rw [BitVec.ofInt_natCast, BitVec.toNat_ofNat]; exact Nat.mod_eq_of_lt (by omega)
  have e : Go.bits .xor .i64 (x : Int) (y : Int) = IntKind.i64.wrap ((BitVec.ofInt 64 (x : Int) ^^^ BitVec.ofInt 64 (y : Int)).toNat : Int) := rfl
  rw [e, BitVec.toNat_xor, e1, e2]
  generalize x ^^^ y = z at hx
  simp [IntKind.wrap, IntKind.bits, IntKind.signed]
  omega
theorem tmod_range {a n : Int} (h : 0 ≤ a) (hn : 1 ≤ n) : 0 ≤ Int.tmod a n ∧ Int.tmod a n < n := by
  rw [tmod_nn h]
  exact ⟨Int.emod_nonneg _ (by omega), Int.emod_lt_of_pos _ (by omega)⟩
theorem rd_byte {s : List Int} (hs : RdS s) {i : Int} (h0 : 0 ≤ i) (h1 : i < s.length) : 0 ≤ rd s i ∧ rd s i ≤ 255 := hs.2 _ (rd_mem h1 h0)
theorem pick_j0 (s : List Int) (hs : RdS s) (p : Int) (h0 : 0 ≤ p) (h1 : p ≤ 1099511627776) (n : Int) (n0 : 1 ≤ n) (n1 : n ≤ 1000000) :
    ∃ v, (0 ≤ v ∧ v < n) ∧ Ev (fun k => spec_l6Rd_pick.j0 k n ((s.length : Int) == 0) s (p + 1)) (v, p + 1) := by
  have hl := hs.1
  by_cases e : s.length = 0
  · refine ⟨0, by omega, ?_⟩
    refine Ev.step (fun k => by rw [spec_l6Rd_pick.j0]) ?_
    refine Ev.pos (by rw [e]; rfl) (Ev.done rfl)
  have ez : wrap64 (p + 1 - 1) = p := by rw [w64 (by omega) (by omega)]; omega
  have er : ∀ i : Int, 0 ≤ i → i < s.length → wrap64 (rd s i) = rd s i := fun i i0 i1 => by
    have := rd_byte hs i0 i1; exact w64 (by omega) (by omega)
  by_cases hp : p < s.length
  · obtain ⟨b0, b1⟩ := rd_byte hs h0 hp
    refine ⟨Int.tmod (rd s p) n, tmod_range b0 n0, ?_⟩
    refine Ev.step (fun k => by rw [spec_l6Rd_pick.j0]) ?_
    rw [ez]
    refine Ev.neg (by simp; intro hh; apply e; simp [hh]) (Ev.pos hp (Ev.pos h0 (Ev.neg (by omega) ?_)))
    rw [er p h0 hp]
    exact Ev.done rfl
  · have hL : (1 : Int) ≤ s.length := by omega
    have ha : 0 ≤ p % (s.length : Int) ∧ p % (s.length : Int) < s.length := ⟨Int.emod_nonneg _ (by omega), Int.emod_lt_of_pos _ (by omega)⟩
    have hb : 0 ≤ (p * 7 + 3) % (s.length : Int) ∧ (p * 7 + 3) % (s.length : Int) < s.length := ⟨Int.emod_nonneg _ (by omega), Int.emod_lt_of_pos _ (by omega)⟩
    have hd : 0 ≤ p / (s.length : Int) ∧ p / (s.length : Int) ≤ p := ⟨Int.ediv_nonneg h0 (by omega), Int.ediv_le_self _ h0⟩
    obtain ⟨a0, a1⟩ := rd_byte hs ha.1 ha.2
    obtain ⟨b0, b1⟩ := rd_byte hs hb.1 hb.2
    have ea := er _ ha.1 ha.2
    have eb := er _ hb.1 hb.2
    have e7 : wrap64 (wrap64 (p * 7) + 3) = p * 7 + 3 := by rw [w64 (x := p * 7) (by omega) (by omega), w64 (by omega) (by omega)]
    have em : Int.tmod p (s.length : Int) = p % (s.length : Int) := tmod_nn h0
    have en : Int.tmod (p * 7 + 3) (s.length : Int) = (p * 7 + 3) % (s.length : Int) := tmod_nn (by omega)
    have ed : Int.tdiv p (s.length : Int) = p / (s.length : Int) := tdiv_nn h0
    generalize hA : rd s (p % (s.length : Int)) = A at *
    generalize hB : rd s ((p * 7 + 3) % (s.length : Int)) = B at *
    generalize hD : p / (s.length : Int) = D at *
    have eX : wrap64 (wrap64 (wrap64 (wrap64 (A * 131) + wrap64 (B * 1117)) + wrap64 (p * 29)) + wrap64 (wrap64 D * 53)) = A * 131 + B * 1117 + p * 29 + D * 53 := by
      rw [w64 (x := A * 131) (by omega) (by omega), w64 (x := B * 1117) (by omega) (by omega), w64 (x := A * 131 + B * 1117) (by omega) (by omega), w64 (x := p * 29) (by omega) (by omega), w64 (x := D) (by omega) (by omega), w64 (x := D * 53) (by omega) (by omega), w64 (x := A * 131 + B * 1117 + p * 29) (by omega) (by omega), w64 (by omega) (by omega)]
    have hX0 : 0 ≤ A * 131 + B * 1117 + p * 29 + D * 53 := by omega
    have hX1 : A * 131 + B * 1117 + p * 29 + D * 53 ≤ 9223372036854775807 := by omega
    generalize A * 131 + B * 1117 + p * 29 + D * 53 = X at *
    have eY : wrap64 (Int.tdiv X 64) = X / 64 := by rw [tdiv_nn hX0]; exact w64 (by omega) (by omega)
    refine ⟨Int.tmod (Go.bits .xor .i64 X (X / 64)) n, tmod_range (xor_nn hX0 (by omega) (by omega) (by omega)) n0, ?_⟩
    refine Ev.step (fun k => by rw [spec_l6Rd_pick.j0]) ?_
    rw [ez]
    refine Ev.neg (by simp; intro hh; apply e; simp [hh]) (Ev.neg hp (Ev.neg (by omega) ?_))
    rw [e7, em, en, ed, hA, hB, ea, eb, eX, eY]
    exact Ev.pos ha.1 (Ev.pos ha.2 (Ev.pos hb.1 (Ev.pos hb.2 (Ev.neg (by omega) (Ev.done rfl)))))
theorem pick_ev {s : List Int} (hs : RdS s) {p : Int} (h0 : 0 ≤ p) (h1 : p ≤ 1099511627776) {n : Int} (n0 : 1 ≤ n) (n1 : n ≤ 1000000) :
    ∃ v, (0 ≤ v ∧ v < n) ∧ Ev (fun k => spec_l6Rd_pick.f k s p n) (v, p + 1) := by
  obtain ⟨v, hv, he⟩ := pick_j0 s hs p h0 h1 n n0 n1
  refine ⟨v, hv, ?_⟩
  unfold spec_l6Rd_pick.f
  rw [w64 (by omega) (by omega)]
  exact Ev.neg (by omega) he
def kindL (c : Int) : List Int := (spec_l2Of.f 300 c).getD []
theorem five {P : Int → Prop} (h : ∀ i : Fin 5, P (i.val : Int)) (a : Int) (h0 : 0 ≤ a) (h1 : a < 5) : P a := by
  have := h ⟨a.toNat, by omega⟩
  simpa [Int.toNat_of_nonneg h0] using this
theorem kindL_some : ∀ i : Fin 5, spec_l2Of.f 300 (i.val : Int) = some (kindL (i.val : Int)) := by decide +kernel
theorem kindL_nines : ∀ i : Fin 5, ninesB (kindL (i.val : Int)) 81 = true := by decide +kernel
theorem kind_ev (c : Int) (h0 : 0 ≤ c) (h1 : c < 5) : Ev (fun k => spec_l2Of.f k c) (kindL c) :=
  Ev.of (fun k => spec_l2Of.mono c k) (five (P := fun c => spec_l2Of.f 300 c = some (kindL c)) kindL_some c h0 h1)
theorem kind_nines (c : Int) (h0 : 0 ≤ c) (h1 : c < 5) : ninesB (kindL c) 81 = true := five (P := fun c => ninesB (kindL c) 81 = true) kindL_nines c h0 h1
def DrawnT (t : List Int) : Prop := ∃ c : Int, 0 ≤ c ∧ c < 5 ∧ (t = kindL c ∨ (∃ i v : Int, 0 ≤ i ∧ i < 81 ∧ 0 ≤ v ∧ v < 9 ∧ t = (kindL c).set i.toNat v) ∨ t = (kindL c).take 80)
theorem DrawnT.len {t : List Int} (h : DrawnT t) : t.length ≤ 81 := by
  obtain ⟨c, c0, c1, h⟩ := h
  have hl := (ninesB_iff.1 (kind_nines c c0 c1)).1
  rcases h with rfl | ⟨i, v, _, _, _, _, rfl⟩ | rfl
  · omega
  · rw [List.length_set]; omega
  · rw [List.length_take]; omega
theorem system_ev {s : List Int} (hs : RdS s) {p : Int} (h0 : 0 ≤ p) (h1 : p ≤ 1099511000000) : ∃ t q, DrawnT t ∧ (p ≤ q ∧ q ≤ p + 5) ∧ Ev (fun k => spec_l91System.f k s p) (t, q) := by
  obtain ⟨c, hc, ec⟩ := pick_ev hs h0 (by omega) (n := 5) (by omega) (by omega)
  obtain ⟨a, ha, ea⟩ := pick_ev hs (p := p + 1) (by omega) (by omega) (n := 30) (by omega) (by omega)
  obtain ⟨i, hi, ei⟩ := pick_ev hs (p := p + 1 + 1) (by omega) (by omega) (n := 9) (by omega) (by omega)
  obtain ⟨j, hj, ej⟩ := pick_ev hs (p := p + 1 + 1 + 1) (by omega) (by omega) (n := 9) (by omega) (by omega)
  obtain ⟨v, hv, ev⟩ := pick_ev hs (p := p + 1 + 1 + 1 + 1) (by omega) (by omega) (n := 9) (by omega) (by omega)
  have hl := (ninesB_iff.1 (kind_nines c hc.1 hc.2)).1
  have ew : wrap64 (wrap64 (9 * i) + j) = 9 * i + j := by rw [w64 (x := 9 * i) (by omega) (by omega), w64 (by omega) (by omega)]
  by_cases e : a = 0
  · refine ⟨(kindL c).set (9 * i + j).toNat v, p + 1 + 1 + 1 + 1 + 1, ⟨c, hc.1, hc.2, .inr (.inl ⟨9 * i + j, v, by omega, by omega, hv.1, hv.2, rfl⟩)⟩, by omega, ?_⟩
    unfold spec_l91System.f
    refine Ev.bind ec (Ev.bind (kind_ev c hc.1 hc.2) (Ev.bind ea (Ev.pos e (Ev.bind ei (Ev.bind ej (Ev.bind ev ?_))))))
    dsimp only
    rw [ew]
    exact Ev.pos (by omega) (Ev.pos (by omega) (Ev.done rfl))
  by_cases e1 : a = 1
  · refine ⟨(kindL c).take 80, p + 1 + 1, ⟨c, hc.1, hc.2, .inr (.inr rfl)⟩, by omega, ?_⟩
    unfold spec_l91System.f
    refine Ev.bind ec (Ev.bind (kind_ev c hc.1 hc.2) (Ev.bind ea (Ev.neg e (Ev.pos e1 (Ev.pos ?_ (Ev.done rfl))))))
    omega
  · refine ⟨kindL c, p + 1 + 1, ⟨c, hc.1, hc.2, .inl rfl⟩, by omega, ?_⟩
    unfold spec_l91System.f
    exact Ev.bind ec (Ev.bind (kind_ev c hc.1 hc.2) (Ev.bind ea (Ev.neg e (Ev.neg e1 (Ev.done rfl)))))
end Go.Proofs.Ytcbkoecanldlpaa.X

set_option linter.unusedVariables false
set_option linter.unusedSimpArgs false
namespace Go.Proofs.Ytcbkoecanldlpaa.X
open Go.RowKit Go.Proofs.YtcbkoecanldlpaaW.PrintWords Go.Proofs.YtcbkoecanldlpaaW.PrintLast Go.Proofs.Ytcbkoecanldlpaa.P

def regL : List (List Int) := (spec_l6lRegulus.f 300).getD []
def otherL (x : Int) : List Int := (spec_l6lOther.f 300 x).getD []
theorem regL_some : spec_l6lRegulus.f 300 = some regL := by decide +kernel
theorem regL_ok : regL.length = 4 ∧ ∀ i : Fin 4, (rd_LI regL (i.val : Int)).length = 9 := by decide +kernel
theorem otherL_some : ∀ i : Fin 9, spec_l6lOther.f 300 (i.val : Int) = some (otherL (i.val : Int)) := by decide +kernel
theorem otherL_len : ∀ i : Fin 9, i ≠ 0 → (otherL (i.val : Int)).length = 9 := by decide +kernel
theorem regulus_ev : Ev (fun k => spec_l6lRegulus.f k) regL := Ev.of (fun k => spec_l6lRegulus.mono k) regL_some
theorem other_ev (x : Int) (h0 : 0 ≤ x) (h1 : x < 9) : Ev (fun k => spec_l6lOther.f k x) (otherL x) :=
  Ev.of (fun k => spec_l6lOther.mono x k) (nine1 (P := fun x => spec_l6lOther.f 300 x = some (otherL x)) otherL_some x h0 h1)
theorem other_len (x : Int) (h0 : 0 < x) (h1 : x < 9) : (otherL x).length = 9 := by
  have := otherL_len ⟨x.toNat, by omega⟩ (fun h => by have := Fin.ext_iff.1 h; have h2 : x.toNat = 0 := this; omega)
  have e : ((⟨x.toNat, by omega⟩ : Fin 9).val : Int) = x := by show ((x.toNat : Nat) : Int) = x; omega
  rwa [e] at this
end Go.Proofs.Ytcbkoecanldlpaa.X

namespace Go.Proofs.Ytcbkoecanldlpaa.P
open Go.RowKit Go.Proofs.YtcbkoecanldlpaaW.PrintWords Go.Proofs.YtcbkoecanldlpaaW.PrintLast
set_option linter.unusedVariables false
set_option linter.unusedSimpArgs false

def impl_sameLeaves.l0 : Nat → List (List Int) → Int → List (List Int) → Int → Int → Option (Int)
 | 0, _, _, _, _, _ => none
 | k + 1, x1, x5, x8, x9, x10 => if x10 < x9 then (if 0 ≤ x10 then (if x10 < (x8.length : Int) then ((impl_hasLeaf.f x1 (rd_LI x8 x10)).bind fun t1146 => (if t1146 = true then (impl_sameLeaves.l0 k x1 (wrap64 (x5 + 1)) x8 x9 (wrap64 (x10 + 1))) else (impl_sameLeaves.l0 k x1 x5 x8 x9 (wrap64 (x10 + 1))))) else (none)) else (none)) else (some x5)
def impl_sameLeaves.f (k : Nat) (l0 : List (List Int)) (l1 : List (List Int)) : Option (Int) := impl_sameLeaves.l0 k l1 0 l0 (l0.length : Int) 0
set_option maxHeartbeats 8000000 in
set_option maxRecDepth 100000 in
theorem impl_sameLeaves.calls (k : Nat) (A0 : Option Addr) (c0 : Nat) (l0 : List (List Int)) (A1 : Option Addr) (c1 : Nat) (l1 : List (List Int)) (r : Int) (w : World) (hr0 : Kd.C (Kd.slice 3 (Kd.int .i64)) w A0 l0.length l0) (hc0 : l0.length ≤ c0) (hr1 : Kd.C (Kd.slice 3 (Kd.int .i64)) w A1 l1.length l1) (hc1 : l1.length ≤ c1) (h : impl_sameLeaves.f k l0 l1 = some r) :
  Calls Try.prog 104 #[.slice A0 l0.length c0, .slice A1 l1.length c1] w fun e w' => e = .returned (.int .i64 r) ∧ Below w.heap.size w w' := by
 have HR0 := Aside0.mk hr0
 have HC0 := Aside0.mk hc0
 clear hr0 hc0
 have HR1 := Aside0.mk hr1
 have HC1 := Aside0.mk hc1
 clear hr1 hc1
 have HB := Aside0.mk (Below.refl w.heap.size w)
 have H : (impl_sameLeaves.l0 k l1 0 l0 (l0.length : Int) 0) = some r := h
 clear h
 have H' := Aside0.mk H
 clear H
 go_enter Try.func104, Try.ntmps104
 go_wp2
 go_loopg [5, 10] k (fun kq v5 v10 w' => ∃ (x5_1 : Int) (x10_1 : Int), v5 = .int .i64 x5_1 ∧ v10 = .int .i64 x10_1 ∧ Aside0 (impl_sameLeaves.l0 kq l1 x5_1 l0 (l0.length : Int) x10_1 = some r) ∧ Aside0 (kq ≤ k) ∧ Aside0 (Below w.heap.size w w'))
 case atStart => exact ⟨(0), (0), (by first | rfl | (simp; done) | (simp [*]; done)), (by first | rfl | (simp; done) | (simp [*]; done)), H', ⟨Nat.le_refl _⟩, ⟨by repeat (first | (with_reducible first | exact HB.out | apply below_alloc | apply pw_below_drewN | apply below_drew1) | exact HB.out)⟩⟩
 case round =>
  clear H'
  try clear c1
  try clear p2
  obtain ⟨x5_1, x10_1, rfl, rfl, HA, HK1, HB⟩ := hrel
  cases gk with
  | zero => exact absurd HA.out (by simp [impl_sameLeaves.l0])
  | succ k1 =>
   have H := HA.out
   clear HA
   simp only [impl_sameLeaves.l0] at H
   by_cases c3 : x10_1 < (l0.length : Int)
   ·rw [if_pos c3] at H
    have c3b0 : decide (x10_1 < (l0.length : Int)) = true := decide_eq_true c3
    clear c3
    by_cases c4 : 0 ≤ x10_1
    ·rw [if_pos c4] at H
     have c4b0 : decide (0 ≤ x10_1) = true := decide_eq_true c4
     clear c4
     by_cases c5 : x10_1 < (l0.length : Int)
     ·rw [if_pos c5] at H
      have c5b0 : decide (x10_1 < (l0.length : Int)) = true := decide_eq_true c5
      clear c5
      replace H := Option.bind_eq_some_iff.mp H
      obtain ⟨t1146, A60, H⟩ := H
      replace H : (if t1146 = true then (impl_sameLeaves.l0 k1 l1 (wrap64 (x5_1 + 1)) l0 (l0.length : Int) (wrap64 (x10_1 + 1))) else (impl_sameLeaves.l0 k1 l1 x5_1 l0 (l0.length : Int) (wrap64 (x10_1 + 1)))) = some r := H
      have A6 := Aside0.mk A60
      clear A60
      by_cases c7 : t1146 = true
      ·subst c7
       have H1 : (impl_sameLeaves.l0 k1 l1 (wrap64 (x5_1 + 1)) l0 (l0.length : Int) (wrap64 (x10_1 + 1))) = some r := by rw [if_pos rfl] at H; exact H
       clear H
       have H := H1
       clear H1
       have H' := Aside0.mk H
       clear H
       have p1145 : 0 ≤ (x10_1 : Int) := dd_
       have q1145 : x10_1 < (l0.length : Int) := dd_
       obtain ⟨ad1145, A1145_0, c1145_0, e1145, hx1145_0, hl1145_0, hi1145_0⟩ := at_LI HR0.out x10_1 p1145 q1145
       cases e1145
       replace hx1145_0 := hc_ HB hx1145_0
       have HR1145_0 := Aside0.mk hi1145_0
       have HC1145_0 := Aside0.mk hl1145_0
       clear hi1145_0 hl1145_0
       replace p1145 := eq_true p1145
       replace q1145 := eq_true q1145
       go_wp2_with (first | (refine goesL_ (some 16) rfl rfl Try.func156 (by kernel_rfl) rfl #[.slice A1 l1.length c1, .slice A1145_0 (rd_LI l0 x10_1).length c1145_0] rfl ll_ ?_; (with_reducible refine (impl_hasLeaf.calls _ _ l1 _ _ (rd_LI l0 x10_1) true _ ?side1 ?side2 ?side3 ?side4 A6.out).mono ?_); (case side1 => exact sb_ HR1 HB); (case side2 => exact HC1.out); (case side3 => exact sb_ HR1145_0 HB); (case side4 => exact HC1145_0.out); rintro e w8 ⟨rfl, hb⟩; refine ⟨_, rfl, ?_⟩; have n0_ := Aside0.mk (below_step (bb_ HB) hb); clear HB; have HB := n0_; clear n0_; (try clear hb); (try clear hb2); (try clear hk); (try clear hi)))
       go_roundg k1
       case measure => have := HK1.out; omega
       case rel => exact ⟨(wrap64 (x5_1 + 1)), (wrap64 (x10_1 + 1)), (by first | rfl | (simp; done) | (simp [*]; done)), (by first | rfl | (simp; done) | (simp [*]; done)), H', ⟨by have := HK1.out; omega⟩, ⟨by repeat (first | (with_reducible first | exact HB.out | apply below_alloc | apply pw_below_drewN | apply below_drew1) | exact HB.out)⟩⟩
      ·replace c7 := Bool.eq_false_iff.mpr c7
       subst c7
       have H1 : (impl_sameLeaves.l0 k1 l1 x5_1 l0 (l0.length : Int) (wrap64 (x10_1 + 1))) = some r := by rw [if_neg (show ¬ (false = true) by decide)] at H; exact H
       clear H
       have H := H1
       clear H1
       have H' := Aside0.mk H
       clear H
       have p1145 : 0 ≤ (x10_1 : Int) := dd_
       have q1145 : x10_1 < (l0.length : Int) := dd_
       obtain ⟨ad1145, A1145_0, c1145_0, e1145, hx1145_0, hl1145_0, hi1145_0⟩ := at_LI HR0.out x10_1 p1145 q1145
       cases e1145
       replace hx1145_0 := hc_ HB hx1145_0
       have HR1145_0 := Aside0.mk hi1145_0
       have HC1145_0 := Aside0.mk hl1145_0
       clear hi1145_0 hl1145_0
       replace p1145 := eq_true p1145
       replace q1145 := eq_true q1145
       go_wp2_with (first | (refine goesL_ (some 16) rfl rfl Try.func156 (by kernel_rfl) rfl #[.slice A1 l1.length c1, .slice A1145_0 (rd_LI l0 x10_1).length c1145_0] rfl ll_ ?_; (with_reducible refine (impl_hasLeaf.calls _ _ l1 _ _ (rd_LI l0 x10_1) false _ ?side1 ?side2 ?side3 ?side4 A6.out).mono ?_); (case side1 => exact sb_ HR1 HB); (case side2 => exact HC1.out); (case side3 => exact sb_ HR1145_0 HB); (case side4 => exact HC1145_0.out); rintro e w9 ⟨rfl, hb⟩; refine ⟨_, rfl, ?_⟩; have n0_ := Aside0.mk (below_step (bb_ HB) hb); clear HB; have HB := n0_; clear n0_; (try clear hb); (try clear hb2); (try clear hk); (try clear hi)))
       go_roundg k1
       case measure => have := HK1.out; omega
       case rel => exact ⟨(x5_1), (wrap64 (x10_1 + 1)), (by first | rfl | (simp; done) | (simp [*]; done)), (by first | rfl | (simp; done) | (simp [*]; done)), H', ⟨by have := HK1.out; omega⟩, ⟨by repeat (first | (with_reducible first | exact HB.out | apply below_alloc | apply pw_below_drewN | apply below_drew1) | exact HB.out)⟩⟩
     ·rw [if_neg c5] at H
      exact absurd H (by simp)
    ·rw [if_neg c4] at H
     exact absurd H (by simp)
   ·rw [if_neg c3] at H
    have c3b0 : decide (x10_1 < (l0.length : Int)) = false := decide_eq_false c3
    clear c3
    obtain rfl := Option.some.inj H
    go_wp2
    go_ret
    exact ⟨ee_, bb_ HB⟩
end Go.Proofs.Ytcbkoecanldlpaa.P

namespace Go.Proofs.Ytcbkoecanldlpaa.P
open Go.RowKit Go.Proofs.YtcbkoecanldlpaaW.PrintWords Go.Proofs.YtcbkoecanldlpaaW.PrintLast
set_option linter.unusedVariables false
set_option linter.unusedSimpArgs false

def impl_SpreadSame.f (k : Nat) (l0 : List (List Int)) (l1 : List (List Int)) : Option (Int × Bool) := (impl_isSpread.f l0).bind fun t1147 => (if t1147 = true then ((impl_isSpread.f l1).bind fun t1148 => (if t1148 = true then ((impl_sameLeaves.f k l0 l1).bind fun t1149 => (some (t1149, true))) else (some (0, false)))) else (some (0, false)))
set_option maxHeartbeats 8000000 in
set_option maxRecDepth 100000 in
theorem impl_SpreadSame.calls (k : Nat) (A0 : Option Addr) (c0 : Nat) (l0 : List (List Int)) (A1 : Option Addr) (c1 : Nat) (l1 : List (List Int)) (r1 : Int) (r2 : Bool) (w : World) (hr0 : Kd.C (Kd.slice 3 (Kd.int .i64)) w A0 l0.length l0) (hc0 : l0.length ≤ c0) (hr1 : Kd.C (Kd.slice 3 (Kd.int .i64)) w A1 l1.length l1) (hc1 : l1.length ≤ c1) (h : impl_SpreadSame.f k l0 l1 = some (r1, r2)) :
  Calls Try.prog 47 #[.slice A0 l0.length c0, .slice A1 l1.length c1] w fun e w' => e = .returned (.tuple #[.int .i64 r1, .bool r2]) ∧ Below w.heap.size w w' := by
 have HR0 := Aside0.mk hr0
 have HC0 := Aside0.mk hc0
 clear hr0 hc0
 have HR1 := Aside0.mk hr1
 have HC1 := Aside0.mk hc1
 clear hr1 hc1
 have HB := Aside0.mk (Below.refl w.heap.size w)
 have H : ((impl_isSpread.f l0).bind fun t1147 => (if t1147 = true then ((impl_isSpread.f l1).bind fun t1148 => (if t1148 = true then ((impl_sameLeaves.f k l0 l1).bind fun t1149 => (some (t1149, true))) else (some (0, false)))) else (some (0, false)))) = some (r1, r2) := h
 clear h
 replace H := Option.bind_eq_some_iff.mp H
 obtain ⟨t1147, A30, H⟩ := H
 replace H : (if t1147 = true then ((impl_isSpread.f l1).bind fun t1148 => (if t1148 = true then ((impl_sameLeaves.f k l0 l1).bind fun t1149 => (some (t1149, true))) else (some (0, false)))) else (some (0, false))) = some (r1, r2) := H
 have A3 := Aside0.mk A30
 clear A30
 by_cases c4 : t1147 = true
 ·subst c4
  have H1 : ((impl_isSpread.f l1).bind fun t1148 => (if t1148 = true then ((impl_sameLeaves.f k l0 l1).bind fun t1149 => (some (t1149, true))) else (some (0, false)))) = some (r1, r2) := by rw [if_pos rfl] at H; exact H
  clear H
  have H := H1
  clear H1
  replace H := Option.bind_eq_some_iff.mp H
  obtain ⟨t1148, A50, H⟩ := H
  replace H : (if t1148 = true then ((impl_sameLeaves.f k l0 l1).bind fun t1149 => (some (t1149, true))) else (some (0, false))) = some (r1, r2) := H
  have A5 := Aside0.mk A50
  clear A50
  by_cases c6 : t1148 = true
  ·subst c6
   have H1 : ((impl_sameLeaves.f k l0 l1).bind fun t1149 => (some (t1149, true))) = some (r1, r2) := by rw [if_pos rfl] at H; exact H
   clear H
   have H := H1
   clear H1
   replace H := Option.bind_eq_some_iff.mp H
   obtain ⟨t1149, A70, H⟩ := H
   replace H : (some (t1149, true)) = some (r1, r2) := H
   have A7 := Aside0.mk A70
   clear A70
   simp only [Option.some.injEq, Prod.mk.injEq] at H
   obtain ⟨rfl, rfl⟩ := H
   go_enter Try.func47, Try.ntmps47
   go_wp2_with (first | (refine goesL_ (some 7) rfl rfl Try.func96 (by kernel_rfl) rfl #[.slice A0 l0.length c0] rfl ll_ ?_; (with_reducible refine (impl_isSpread.calls _ _ l0 true _ ?side1 ?side2 A3.out).mono ?_); (case side1 => exact ss_ HR0); (case side2 => exact HC0.out); rintro e w8 ⟨rfl, hb⟩; refine ⟨_, rfl, ?_⟩; have n0_ := Aside0.mk (below_step (bb_ HB) hb); clear HB; have HB := n0_; clear n0_; (try clear hb); (try clear hb2); (try clear hk); (try clear hi)) | (go_at_call 96; (with_reducible refine (impl_isSpread.calls _ _ l1 true _ ?side1 ?side2 A5.out).mono ?_); (case side1 => exact sb_ HR1 HB); (case side2 => exact HC1.out); rintro e w9 ⟨rfl, hb⟩; have n0_ := Aside0.mk (below_step (bb_ HB) hb); clear HB; have HB := n0_; clear n0_; (try clear hb); (try clear hb2); (try clear hk); (try clear hi)) | (refine goesL_ (some 16) rfl rfl Try.func104 (by kernel_rfl) rfl #[.slice A0 l0.length c0, .slice A1 l1.length c1] rfl ll_ ?_; (with_reducible refine (impl_sameLeaves.calls k _ _ l0 _ _ l1 t1149 _ ?side1 ?side2 ?side3 ?side4 A7.out).mono ?_); (case side1 => exact sb_ HR0 HB); (case side2 => exact HC0.out); (case side3 => exact sb_ HR1 HB); (case side4 => exact HC1.out); rintro e w10 ⟨rfl, hb⟩; refine ⟨_, rfl, ?_⟩; have n0_ := Aside0.mk (below_step (bb_ HB) hb); clear HB; have HB := n0_; clear n0_; (try clear hb); (try clear hb2); (try clear hk); (try clear hi)))
   go_ret2
   exact ⟨ee_, bb_ HB⟩
  ·replace c6 := Bool.eq_false_iff.mpr c6
   subst c6
   have H1 : (some (0, false)) = some (r1, r2) := by rw [if_neg (show ¬ (false = true) by decide)] at H; exact H
   clear H
   have H := H1
   clear H1
   simp only [Option.some.injEq, Prod.mk.injEq] at H
   obtain ⟨rfl, rfl⟩ := H
   go_enter Try.func47, Try.ntmps47
   go_wp2_with (first | (refine goesL_ (some 7) rfl rfl Try.func96 (by kernel_rfl) rfl #[.slice A0 l0.length c0] rfl ll_ ?_; (with_reducible refine (impl_isSpread.calls _ _ l0 true _ ?side1 ?side2 A3.out).mono ?_); (case side1 => exact ss_ HR0); (case side2 => exact HC0.out); rintro e w11 ⟨rfl, hb⟩; refine ⟨_, rfl, ?_⟩; have n0_ := Aside0.mk (below_step (bb_ HB) hb); clear HB; have HB := n0_; clear n0_; (try clear hb); (try clear hb2); (try clear hk); (try clear hi)) | (go_at_call 96; (with_reducible refine (impl_isSpread.calls _ _ l1 false _ ?side1 ?side2 A5.out).mono ?_); (case side1 => exact sb_ HR1 HB); (case side2 => exact HC1.out); rintro e w12 ⟨rfl, hb⟩; have n0_ := Aside0.mk (below_step (bb_ HB) hb); clear HB; have HB := n0_; clear n0_; (try clear hb); (try clear hb2); (try clear hk); (try clear hi)))
   go_ret2
   exact ⟨ee_, bb_ HB⟩
 ·replace c4 := Bool.eq_false_iff.mpr c4
  subst c4
  have H1 : (some (0, false)) = some (r1, r2) := by rw [if_neg (show ¬ (false = true) by decide)] at H; exact H
  clear H
  have H := H1
  clear H1
  simp only [Option.some.injEq, Prod.mk.injEq] at H
  obtain ⟨rfl, rfl⟩ := H
  go_enter Try.func47, Try.ntmps47
  go_wp2_with (first | (refine goesL_ (some 7) rfl rfl Try.func96 (by kernel_rfl) rfl #[.slice A0 l0.length c0] rfl ll_ ?_; (with_reducible refine (impl_isSpread.calls _ _ l0 false _ ?side1 ?side2 A3.out).mono ?_); (case side1 => exact ss_ HR0); (case side2 => exact HC0.out); rintro e w13 ⟨rfl, hb⟩; refine ⟨_, rfl, ?_⟩; have n0_ := Aside0.mk (below_step (bb_ HB) hb); clear HB; have HB := n0_; clear n0_; (try clear hb); (try clear hb2); (try clear hk); (try clear hi)))
  go_ret2
  exact ⟨ee_, bb_ HB⟩
end Go.Proofs.Ytcbkoecanldlpaa.P

set_option linter.unusedVariables false
set_option linter.unusedSimpArgs false
namespace Go.Proofs.Ytcbkoecanldlpaa.X
open Go.RowKit Go.Proofs.YtcbkoecanldlpaaW.PrintWords Go.Proofs.YtcbkoecanldlpaaW.PrintLast Go.Proofs.Ytcbkoecanldlpaa.P

theorem leaf_ext {a b : List Int} (ha : a.length = 9) (hb : b.length = 9) (h : ∀ i : Int, 0 ≤ i → i < 9 → rd a i = rd b i) : a = b := ext_rd (by omega) fun i hi => h i (by omega) (by omega)
theorem gapI_cases {a b : List Int} (ha : a.length = 9) (hb : b.length = 9) : (a = b ∧ gapI a b = -1) ∨ (a ≠ b ∧ 0 ≤ gapI a b ∧ rd a (gapI a b) ≠ rd b (gapI a b)) := by
  by_cases h : ∃ i : Int, 0 ≤ i ∧ i < 9 ∧ (rd a i != rd b i) = true
  · obtain ⟨i, h0, h1, h2⟩ := h
    obtain ⟨g0, g1, g2, _⟩ := firstI_spec (n := 9) (p := fun i => rd a i != rd b i) i h0 h1 h2
    have g2 : rd a (gapI a b) ≠ rd b (gapI a b) := bne_iff_ne.1 g2
    exact .inr ⟨fun e => by rw [e] at g2; exact g2 rfl, g0, g2⟩
  · have hall : ∀ i : Int, 0 ≤ i → i < 9 → (rd a i != rd b i) = false := fun i h0 h1 => Bool.eq_false_iff.2 fun h2 => h ⟨i, h0, h1, h2⟩
    exact .inl ⟨leaf_ext ha hb fun i h0 h1 => by simpa using hall i h0 h1, firstI_none hall⟩
theorem gapI_comm (a b : List Int) : gapI b a = gapI a b := by
  unfold gapI
  congr 1
  funext i
  rw [bne_comm]
theorem l6lSame_ev (a b : List Int) (ha : a.length = 9) (hb : b.length = 9) : Ev (fun k => spec_l6lSame.f k a b) (decide (a = b)) := by
  unfold spec_l6lSame.f
  refine Ev.bind (l6lLess_ev a b ha hb) ?_
  have hc := gapI_comm a b
  rcases gapI_cases ha hb with ⟨e, hg⟩ | ⟨e, g0, g1⟩
  · have h1 : lessB a b = false := by unfold lessB; rw [hg]; rfl
    have h2 : lessB b a = false := by unfold lessB; rw [hc, hg]; rfl
    rw [h1, decide_eq_true e]
    refine Ev.neg (by decide) (Ev.bind (l6lLess_ev b a hb ha) ?_)
    rw [h2]; exact Ev.done rfl
  · rw [decide_eq_false e]
    by_cases h : rd a (gapI a b) < rd b (gapI a b)
    · have h1 : lessB a b = true := by unfold lessB; rw [decide_eq_true g0, decide_eq_true h]; rfl
      rw [h1]
      exact Ev.pos rfl (Ev.done rfl)
    · have h1 : lessB a b = false := by unfold lessB; rw [decide_eq_false h, Bool.and_false]
      have h2 : lessB b a = true := by unfold lessB; rw [hc, decide_eq_true g0, decide_eq_true (by omega : rd b (gapI a b) < rd a (gapI a b))]; rfl
      rw [h1]
      refine Ev.neg (by decide) (Ev.bind (l6lLess_ev b a hb ha) ?_)
      rw [h2]; exact Ev.done rfl
end Go.Proofs.Ytcbkoecanldlpaa.X

set_option linter.unusedVariables false
set_option linter.unusedSimpArgs false
namespace Go.Proofs.Ytcbkoecanldlpaa.X
open Go.RowKit Go.Proofs.YtcbkoecanldlpaaW.PrintWords Go.Proofs.YtcbkoecanldlpaaW.PrintLast Go.Proofs.Ytcbkoecanldlpaa.P

def restN (l : List (List Int)) : Nat → List (List Int)
  | 0 => []
  | n + 1 => if rd_LI l (n : Int) ∈ regL then restN l n else insL (restN l n) (rd_LI l (n : Int))
def insAll (l : List (List Int)) : List Int → List (List Int)
  | [] => l
  | x :: r => insAll (insL l (otherL x)) r
def deriveL (l : List (List Int)) : List (List Int) := insAll (restN l 10) [1, 3, 4, 5]
def deriveR (l : List (List Int)) : List (List Int) × Bool := if spreadB l = true ∧ (restN l 10).length = 6 then (deriveL l, true) else ([], false)
theorem restN_nines {l : List (List Int)} (h : spreadB l = true) (n : Nat) (hn : n ≤ 10) : (restN l n).length ≤ n ∧ ∀ a ∈ restN l n, a.length = 9 := by
  induction n with
  | zero => exact ⟨Nat.le_refl _, fun a ha => by cases ha⟩
  | succ n ih =>
    obtain ⟨h1, h2⟩ := ih (by omega)
    unfold restN
    by_cases e : rd_LI l (n : Int) ∈ regL
    · rw [if_pos e]; exact ⟨by omega, h2⟩
    · rw [if_neg e]
      refine ⟨by rw [insL_length]; omega, insL_nines h2 ?_⟩
      exact (leafB_parts (spread_leaf h (i := (n : Int)) (by omega) (by omega))).1
theorem derive_l1 {l : List (List Int)} (h : spreadB l = true) (o : List (List Int)) {i : Nat} (hi : i < 10) (ho : o.length ≤ 20) (h9 : ∀ a ∈ o, a.length = 9) {r : List (List Int) × Bool}
    (hr : Ev (fun k => spec_SpreadDerive.l0 k l regL (if rd_LI l (i : Int) ∈ regL then o else insL o (rd_LI l (i : Int))) ((i : Int) + 1)) r) (d : Nat) :
    ∀ (c : Int) (b : Bool), 0 ≤ c → c + d = 4 → (b = true ↔ ∃ j : Int, 0 ≤ j ∧ j < c ∧ rd_LI l (i : Int) = rd_LI regL j) → Ev (fun k => spec_SpreadDerive.l1 k l regL o (i : Int) b c) r := by
  have hl := (spreadB_parts h).1
  have h9i := (leafB_parts (spread_leaf h (i := (i : Int)) (by omega) (by omega))).1
  obtain ⟨r4, r9⟩ := regL_ok
  induction d with
  | zero =>
    intro c b c0 c1 hb
    have hin : b = true ↔ rd_LI l (i : Int) ∈ regL := by
      rw [hb]
      constructor
      · rintro ⟨j, j0, j1, e⟩
        rw [e]; exact rdL_mem j0 (by omega)
      · intro hm
        obtain ⟨j, hj, e⟩ := List.mem_iff_getElem.1 hm
        exact ⟨(j : Int), by omega, by omega, by rw [rdL_cast _ j hj, e]⟩
    refine Ev.step (fun k => by rw [spec_SpreadDerive.l1]) ?_
    rw [w64 (x := (i : Int) + 1) (by omega) (by omega)]
    refine Ev.neg (by omega) ?_
    by_cases e : b = true
    · rw [if_pos (hin.1 e)] at hr
      exact Ev.pos e hr
    · rw [if_neg (fun h => e (hin.2 h))] at hr
      refine Ev.neg e (Ev.fix rfl (Ev.pos (by omega) (Ev.pos (by omega) (Ev.pos (by rw [List.length_nil]; omega) (Ev.bind (put_ev h9 ?_ (by omega)) ?_)))))
      · rw [List.nil_append]; exact h9i
      · rw [List.nil_append]; exact hr
  | succ d ih =>
    intro c b c0 c1 hb
    refine Ev.step (fun k => by rw [spec_SpreadDerive.l1]) ?_
    rw [w64 (x := c + 1) (by omega) (by omega)]
    refine Ev.pos (by omega) ?_
    by_cases e : b = true
    · refine Ev.pos e (ih (c + 1) true (by omega) (by omega) ⟨fun _ => ?_, fun _ => rfl⟩)
      obtain ⟨j, j0, j1, h⟩ := hb.1 e
      exact ⟨j, j0, by omega, h⟩
    · have hc9 := r9 ⟨c.toNat, by omega⟩
      have ec : (((⟨c.toNat, by omega⟩ : Fin 4).val : Nat) : Int) = c := by show ((c.toNat : Nat) : Int) = c; omega
      rw [ec] at hc9
      refine Ev.neg e (Ev.pos (by omega) (Ev.pos (by omega) (Ev.pos c0 (Ev.pos (by omega) (Ev.bind (l6lSame_ev _ _ h9i hc9) (ih (c + 1) _ (by omega) (by omega) ?_))))))
      rw [decide_eq_true_iff]
      constructor
      · intro h; exact ⟨c, c0, by omega, h⟩
      · rintro ⟨j, j0, j1, h⟩
        by_cases ej : j = c
        · rw [← ej]; exact h
        · exact absurd (hb.2 ⟨j, j0, by omega, h⟩) e
theorem derive_l2 (L : List Int) (hL : L.length ≤ 10) (hx : ∀ x ∈ L, 0 < x ∧ x < 9) (d : Nat) : ∀ (i : Int) (o : List (List Int)), 0 ≤ i → i + d = L.length → o.length ≤ 20 + i → (∀ a ∈ o, a.length = 9) → Ev (fun k => spec_SpreadDerive.l2 k o L (L.length : Int) i) (insAll o (L.drop i.toNat), true) := by
  induction d with
  | zero =>
    intro i o i0 i1 ho h9
    refine Ev.step (fun k => by rw [spec_SpreadDerive.l2]) ?_
    rw [show L.drop i.toNat = [] from List.drop_eq_nil_of_le (by omega)]
    exact Ev.neg (by omega) (Ev.done rfl)
  | succ d ih =>
    intro i o i0 i1 ho h9
    have hm := hx _ (rd_mem (t := L) (i := i) (by omega) i0)
    have nx := ih (i + 1) (insL o (otherL (rd L i))) (by omega) (by omega) (by rw [insL_length]; omega) (insL_nines h9 (other_len _ hm.1 hm.2))
    have ed : L.drop i.toNat = rd L i :: L.drop (i + 1).toNat := by
      rw [List.drop_eq_getElem_cons (show i.toNat < L.length by omega), rd_getElem i0 (by omega), show i.toNat + 1 = (i + 1).toNat by omega]
    rw [ed]
    refine Ev.step (fun k => by rw [spec_SpreadDerive.l2]) ?_
    rw [w64 (x := i + 1) (by omega) (by omega)]
    exact Ev.pos (by omega) (Ev.pos i0 (Ev.pos (by omega) (Ev.bind (other_ev _ (by omega) hm.2) (Ev.bind (put_ev h9 (other_len _ hm.1 hm.2) (by omega)) nx))))
theorem derive_l0 {l : List (List Int)} (h : spreadB l = true) (d : Nat) : ∀ i : Nat, i + d = 10 → Ev (fun k => spec_SpreadDerive.l0 k l regL (restN l i) (i : Int)) (deriveR l) := by
  induction d with
  | zero =>
    intro i hi
    obtain rfl : i = 10 := by omega
    obtain ⟨h1, h2⟩ := restN_nines h 10 (by omega)
    refine Ev.step (fun k => by rw [spec_SpreadDerive.l0]) ?_
    refine Ev.neg (by omega) ?_
    unfold deriveR
    by_cases e : (restN l 10).length = 6
    · rw [if_pos ⟨h, e⟩]
      refine Ev.pos (by omega) (Ev.fix rfl ?_)
      exact derive_l2 [1, 3, 4, 5] (by decide) (by decide) 4 0 _ (by omega) (by decide) (by omega) h2
    · rw [if_neg (fun h => e h.2)]
      exact Ev.neg (by omega) (Ev.done rfl)
  | succ d ih =>
    intro i hi
    obtain ⟨h1, h2⟩ := restN_nines h i (by omega)
    refine Ev.step (fun k => by rw [spec_SpreadDerive.l0]) ?_
    refine Ev.pos (by omega) (derive_l1 h (restN l i) (by omega) (by omega) h2 (ih (i + 1) (by omega)) 4 0 false (by omega) (by omega) ⟨fun h => absurd h (by decide), fun ⟨j, j0, j1, _⟩ => absurd j1 (by omega)⟩)
theorem specDerive_ev (l : List (List Int)) : Ev (fun k => spec_SpreadDerive.f k l) (deriveR l) := by
  unfold spec_SpreadDerive.f
  refine Ev.bind (specSpread_ev l) ?_
  by_cases h : spreadB l = true
  · exact Ev.pos h (Ev.bind regulus_ev (derive_l0 h 10 0 (by omega)))
  · unfold deriveR
    rw [if_neg (fun h2 => h h2.1)]
    exact Ev.neg h (Ev.done rfl)
theorem insAll_nines (L : List Int) : ∀ o : List (List Int), (∀ x ∈ L, 0 < x ∧ x < 9) → (∀ a ∈ o, a.length = 9) → ∀ a ∈ insAll o L, a.length = 9 := by
  induction L with
  | nil => intro o _ h; exact h
  | cons x L ih => intro o hx h; exact ih _ (fun y hy => hx y (List.mem_cons_of_mem _ hy)) (insL_nines h (other_len _ (hx x List.mem_cons_self).1 (hx x List.mem_cons_self).2))
theorem insAll_length (L : List Int) : ∀ o : List (List Int), (insAll o L).length = o.length + L.length := by
  induction L with
  | nil => intro o; rfl
  | cons x L ih => intro o; show (insAll _ L).length = _; rw [ih, insL_length, List.length_cons]; omega
theorem deriveL_nines {l : List (List Int)} (h : spreadB l = true) : ∀ a ∈ deriveL l, a.length = 9 := insAll_nines _ _ (by decide) (restN_nines h 10 (by omega)).2
theorem deriveL_length (l : List (List Int)) : (deriveL l).length = (restN l 10).length + 4 := insAll_length _ _
end Go.Proofs.Ytcbkoecanldlpaa.X

set_option linter.unusedVariables false
set_option linter.unusedSimpArgs false
namespace Go.Proofs.Ytcbkoecanldlpaa.X
open Go.RowKit Go.Proofs.YtcbkoecanldlpaaW.PrintWords Go.Proofs.YtcbkoecanldlpaaW.PrintLast Go.Proofs.Ytcbkoecanldlpaa.P

def putS (s : Nat → Bool) (v : Int) (x : Nat) : Bool := if x = v.toNat then true else s x
def oneS (s : Nat → Bool) (p q : Int) : Nat → Bool := if s p.toNat = true ∧ s q.toNat = true then putS s (addF p q) else s
def rowS (s : Nat → Bool) (p : Int) : Nat → (Nat → Bool)
  | 0 => s
  | n + 1 => oneS (rowS s p n) p (n : Int)
def passS (s : Nat → Bool) : Nat → (Nat → Bool)
  | 0 => s
  | n + 1 => rowS (passS s n) (n : Int) 81
def timesS (s : Nat → Bool) : Nat → (Nat → Bool)
  | 0 => s
  | n + 1 => passS (timesS s n) 81
def startS (l : List Int) (x : Nat) : Bool := decide (x = 0) || decide ((x : Int) ∈ l)
def sumS (l : List Int) : Nat → Bool := timesS (startS l) 5
def setL (s : Nat → Bool) : List Int := filI 81 fun p => s p.toNat
def nineR (s : Nat → Bool) : List Int × Bool := if (setL s).length = 9 then (setL s, true) else ([], false)
def sumR (l : List Int) : List Int × Bool := if l.all nearB = true then nineR (sumS l) else ([], false)
theorem sum_l4 (s : Nat → Bool) (d : Nat) : ∀ i : Nat, i + d = 81 → Ev (fun k => spec_SpreadSum.l4 k (bL 81 s) (filI i fun p => s p.toNat) (i : Int)) (nineR s) := by
  induction d with
  | zero =>
    intro i hi
    obtain rfl : i = 81 := by omega
    refine Ev.step (fun k => by rw [spec_SpreadSum.l4]) ?_
    refine Ev.neg (by omega) ?_
    unfold nineR
    by_cases h : (setL s).length = 9
    · rw [if_pos h]
      exact Ev.pos (by unfold setL at h; omega) (Ev.done rfl)
    · rw [if_neg h]
      exact Ev.neg (by unfold setL at h; omega) (Ev.done rfl)
  | succ d ih =>
    intro i hi
    have nx := ih (i + 1) (by omega)
    rw [filI_succ, Int.toNat_natCast] at nx
    have hlen : (filI i fun p => s p.toNat).length ≤ i := filI_length_le _ _
    refine Ev.step (fun k => by rw [spec_SpreadSum.l4]) ?_
    rw [w64 (x := (i : Int) + 1) (by omega) (by omega), bL_rd (i : Int) (by omega) (by omega), Int.toNat_natCast]
    refine Ev.pos (by omega) (Ev.pos (by omega) (Ev.pos (by rw [bL_length]; omega) ?_))
    by_cases h : s i = true
    · rw [if_pos h] at nx
      exact Ev.pos h (Ev.pos (by omega) nx)
    · rw [if_neg h, List.append_nil] at nx
      exact Ev.neg h nx
theorem sum_l3 {s : Nat → Bool} (c : Int) {p : Nat} (hp : p < 81) {r : List Int × Bool} (hr : Ev (fun k => spec_SpreadSum.l2 k (bL 81 (rowS s (p : Int) 81)) c ((p : Int) + 1)) r) (d : Nat) :
    ∀ q : Nat, q + d = 81 → Ev (fun k => spec_SpreadSum.l3 k (bL 81 (rowS s (p : Int) q)) c (p : Int) (q : Int)) r := by
  induction d with
  | zero =>
    intro q hq
    obtain rfl : q = 81 := by omega
    refine Ev.step (fun k => by rw [spec_SpreadSum.l3]) ?_
    rw [w64 (x := (p : Int) + 1) (by omega) (by omega)]
    exact Ev.neg (by omega) hr
  | succ d ih =>
    intro q hq
    have nx := ih (q + 1) (by omega)
    have eR : rowS s (p : Int) (q + 1) = oneS (rowS s (p : Int) q) (p : Int) (q : Int) := rfl
    rw [eR] at nx
    generalize rowS s (p : Int) q = s1 at nx ⊢
    refine Ev.step (fun k => by rw [spec_SpreadSum.l3]) ?_
    rw [w64 (x := (q : Int) + 1) (by omega) (by omega), bL_rd (p : Int) (by omega) (by omega), bL_rd (q : Int) (by omega) (by omega), Int.toNat_natCast, Int.toNat_natCast]
    refine Ev.pos (by omega) (Ev.pos (by omega) (Ev.pos (by rw [bL_length]; omega) ?_))
    unfold oneS at nx
    rw [Int.toNat_natCast, Int.toNat_natCast] at nx
    by_cases h1 : s1 p = true
    · refine Ev.pos h1 (Ev.pos (by omega) (Ev.pos (by rw [bL_length]; omega) ?_))
      by_cases h2 : s1 q = true
      · rw [if_pos ⟨h1, h2⟩] at nx
        have hr := addF_range (p : Int) (q : Int)
        refine Ev.pos h2 (Ev.fix (l6lAdd_eq (nearB_iff.2 ⟨by omega, by omega⟩) (nearB_iff.2 ⟨by omega, by omega⟩)) (Ev.pos hr.1 (Ev.pos (by rw [bL_length]; exact hr.2) ?_)))
        rw [bL_set]
        exact nx
      · rw [if_neg (fun h => h2 h.2)] at nx
        exact Ev.neg h2 nx
    · rw [if_neg (fun h => h1 h.1)] at nx
      exact Ev.neg h1 nx
theorem sum_l2 {s : Nat → Bool} (c : Int) (c0 : 0 ≤ c) (c1 : c < 5) {r : List Int × Bool} (hr : Ev (fun k => spec_SpreadSum.l1 k (bL 81 (passS s 81)) (c + 1)) r) (d : Nat) :
    ∀ p : Nat, p + d = 81 → Ev (fun k => spec_SpreadSum.l2 k (bL 81 (passS s p)) c (p : Int)) r := by
  induction d with
  | zero =>
    intro p hp
    obtain rfl : p = 81 := by omega
    refine Ev.step (fun k => by rw [spec_SpreadSum.l2]) ?_
    rw [w64 (x := c + 1) (by omega) (by omega)]
    exact Ev.neg (by omega) hr
  | succ d ih =>
    intro p hp
    refine Ev.step (fun k => by rw [spec_SpreadSum.l2]) ?_
    exact Ev.pos (by omega) (sum_l3 c (by omega) (ih (p + 1) (by omega)) 81 0 (by omega))
theorem sum_l1 (s : Nat → Bool) (d : Nat) : ∀ c : Nat, c + d = 5 → Ev (fun k => spec_SpreadSum.l1 k (bL 81 (timesS s c)) (c : Int)) (nineR (timesS s 5)) := by
  induction d with
  | zero =>
    intro c hc
    obtain rfl : c = 5 := by omega
    refine Ev.step (fun k => by rw [spec_SpreadSum.l1]) ?_
    exact Ev.neg (by omega) (sum_l4 _ 81 0 (by omega))
  | succ d ih =>
    intro c hc
    refine Ev.step (fun k => by rw [spec_SpreadSum.l1]) ?_
    exact Ev.pos (by omega) (sum_l2 (c : Int) (by omega) (by omega) (ih (c + 1) (by omega)) 81 0 (by omega))
theorem sum_l0 {l : List Int} (hl : l.length ≤ 1048576) (d : Nat) : ∀ i : Int, 0 ≤ i → i + d = l.length → (∀ x ∈ l.take i.toNat, nearB x = true) → Ev (fun k => spec_SpreadSum.l0 k l (bL 81 (startS (l.take i.toNat))) i) (sumR l) := by
  induction d with
  | zero =>
    intro i i0 i1 h
    rw [List.take_of_length_le (by omega)] at h ⊢
    refine Ev.step (fun k => by rw [spec_SpreadSum.l0]) ?_
    refine Ev.neg (by omega) ?_
    unfold sumR
    rw [if_pos (List.all_eq_true.2 h)]
    exact sum_l1 (startS l) 5 0 (by omega)
  | succ d ih =>
    intro i i0 i1 h
    refine Ev.step (fun k => by rw [spec_SpreadSum.l0]) ?_
    rw [w64 (x := i + 1) (by omega) (by omega)]
    refine Ev.pos (by omega) (Ev.pos i0 (Ev.fix (l6In80 _) ?_))
    have et : l.take (i + 1).toNat = l.take i.toNat ++ [rd l i] := by
      rw [show (i + 1).toNat = i.toNat + 1 by omega, List.take_add_one, List.getElem?_eq_getElem (by omega), Option.toList_some]
      rw [show l[i.toNat]'(by omega) = rd l i from (rd_getElem i0 (by omega)).symm]
    by_cases hn : nearB (rd l i) = true
    · obtain ⟨r0, r1⟩ := nearB_iff.1 hn
      refine Ev.pos hn (Ev.pos r0 (Ev.pos (by rw [bL_length]; exact r1) ?_))
      have nx := ih (i + 1) (by omega) (by omega) fun x hx => by
        rw [et] at hx
        rcases List.mem_append.1 hx with hx | hx
        · exact h x hx
        · rw [List.mem_singleton.1 hx]; exact hn
      rw [bL_set]
      have eB : bL 81 (fun x => if x = (rd l i).toNat then true else startS (l.take i.toNat) x) = bL 81 (startS (l.take (i + 1).toNat)) := bL_congr fun x _ => by
        unfold startS
        rw [et]
        by_cases e : x = (rd l i).toNat
        · rw [if_pos e, decide_eq_true (show (x : Int) ∈ l.take i.toNat ++ [rd l i] from List.mem_append.2 (.inr (List.mem_singleton.2 (by omega)))), Bool.or_true]
        · rw [if_neg e]
          refine congrArg _ (decide_eq_decide.2 ?_)
          rw [List.mem_append, List.mem_singleton]
          exact ⟨.inl, fun h => h.elim id fun h => absurd h (by omega)⟩
      rw [eB]
      exact nx
    · refine Ev.neg hn (Ev.done ?_)
      unfold sumR
      rw [if_neg]
      intro ha
      exact hn (List.all_eq_true.1 ha _ (rd_mem (by omega) i0))
theorem specSum_ev {l : List Int} (hl : l.length ≤ 1048576) : Ev (fun k => spec_SpreadSum.f k l) (sumR l) := by
  unfold spec_SpreadSum.f
  refine Ev.pos (by decide) ?_
  rw [bL_replicate]
  refine Ev.fix rfl (Ev.pos (by rw [bL_length]; omega) ?_)
  have e0 : (bL 81 fun _ => false).set (0 : Int).toNat true = bL 81 (startS (l.take (0 : Int).toNat)) := by
    rw [bL_set]
    exact bL_congr fun x _ => by unfold startS; simp
  rw [e0]
  exact sum_l0 hl l.length 0 (by omega) (by omega) (fun x hx => by simp at hx)
theorem nineR_length (s : Nat → Bool) : (nineR s).1.length ≤ 9 := by
  unfold nineR
  by_cases h2 : (setL s).length = 9
  · rw [if_pos h2]; exact Nat.le_of_eq h2
  · rw [if_neg h2]; exact Nat.zero_le _
theorem nineR_nine {s : Nat → Bool} (h : (nineR s).2 = true) : (nineR s).1.length = 9 := by
  unfold nineR at h ⊢
  by_cases h2 : (setL s).length = 9
  · rw [if_pos h2]; exact h2
  · rw [if_neg h2] at h; exact absurd h (by decide)
theorem sumR_length (l : List Int) : (sumR l).1.length ≤ 9 := by
  unfold sumR
  by_cases h : l.all nearB = true
  · rw [if_pos h]; exact nineR_length _
  · rw [if_neg h]; exact Nat.zero_le _
theorem sumR_nine {l : List Int} (h : (sumR l).2 = true) : (sumR l).1.length = 9 := by
  unfold sumR at h ⊢
  by_cases h1 : l.all nearB = true
  · rw [if_pos h1] at h ⊢; exact nineR_nine h
  · rw [if_neg h1] at h; exact absurd h (by decide)
end Go.Proofs.Ytcbkoecanldlpaa.X

set_option linter.unusedVariables false
set_option linter.unusedSimpArgs false
namespace Go.Proofs.Ytcbkoecanldlpaa.X
open Go.RowKit Go.Proofs.YtcbkoecanldlpaaW.PrintWords Go.Proofs.YtcbkoecanldlpaaW.PrintLast Go.Proofs.Ytcbkoecanldlpaa.P

theorem leaf_ev {s : List Int} (hs : RdS s) {p : Int} (h0 : 0 ≤ p) (h1 : p ≤ 1099511000000) : ∃ l q, l.length ≤ 9 ∧ (p ≤ q ∧ q ≤ p + 3) ∧ Ev (fun k => spec_l91Leaf.f k s p) (l, q) := by
  obtain ⟨a, ha, ea⟩ := pick_ev hs h0 (by omega) (n := 81) (by omega) (by omega)
  obtain ⟨b, hb, eb⟩ := pick_ev hs (p := p + 1) (by omega) (by omega) (n := 81) (by omega) (by omega)
  obtain ⟨c, hc, ec⟩ := pick_ev hs (p := p + 1 + 1) (by omega) (by omega) (n := 16) (by omega) (by omega)
  obtain ⟨d, hd, ed⟩ := pick_ev hs (p := p + 1 + 1) (by omega) (by omega) (n := 8) (by omega) (by omega)
  have es := specSum_ev (l := [a, b]) (show 2 ≤ 1048576 by omega)
  have hlen := sumR_length [a, b]
  have h9 : (sumR [a, b]).2 = true → (sumR [a, b]).1.length = 9 := sumR_nine
  generalize sumR [a, b] = R at es hlen h9
  by_cases hk : R.2 = true
  · have h9 := h9 hk
    by_cases c0 : c = 0
    · refine ⟨[] ++ R.1.drop 1, p + 1 + 1 + 1, by rw [List.nil_append, List.length_drop]; omega, by omega, ?_⟩
      unfold spec_l91Leaf.f
      exact Ev.bind ea (Ev.bind eb (Ev.bind es (Ev.pos hk (Ev.bind ec (Ev.pos c0 (Ev.fix rfl (Ev.pos (by omega) (Ev.fix rfl (Ev.pos (by rw [List.length_nil, List.length_drop]; omega) (Ev.done rfl))))))))))
    · refine ⟨R.1, p + 1 + 1 + 1, hlen, by omega, ?_⟩
      unfold spec_l91Leaf.f
      exact Ev.bind ea (Ev.bind eb (Ev.bind es (Ev.pos hk (Ev.bind ec (Ev.neg c0 (Ev.done rfl))))))
  · refine ⟨otherL (1 + d), p + 1 + 1 + 1, Nat.le_of_eq (other_len _ (by omega) (by omega)), by omega, ?_⟩
    unfold spec_l91Leaf.f
    refine Ev.bind ea (Ev.bind eb (Ev.bind es (Ev.neg hk (Ev.bind ed ?_))))
    dsimp only
    rw [w64 (x := 1 + d) (by omega) (by omega)]
    exact Ev.bind (other_ev _ (by omega) (by omega)) (Ev.done rfl)
end Go.Proofs.Ytcbkoecanldlpaa.X

set_option linter.unusedVariables false
set_option linter.unusedSimpArgs false
namespace Go.Proofs.Ytcbkoecanldlpaa.X
open Go.RowKit Go.Proofs.YtcbkoecanldlpaaW.PrintWords Go.Proofs.YtcbkoecanldlpaaW.PrintLast Go.Proofs.Ytcbkoecanldlpaa.P

def Few (l : List (List Int)) : Prop := l.length ≤ 10 ∧ ∀ a ∈ l, a.length ≤ 9
theorem spread_j0 {s : List Int} (hs : RdS s) {p : Int} (h0 : 0 ≤ p) (h1 : p ≤ 1099510900000) {l : List (List Int)} (hl : l.length = 10) (h9 : ∀ a ∈ l, a.length = 9) : ∃ l' q, Few l' ∧ (p ≤ q ∧ q ≤ p + 4) ∧ Ev (fun k => spec_l91Spread.j0 k l s p) (l', q) := by
  obtain ⟨a, ha, ea⟩ := pick_ev hs h0 (by omega) (n := 24) (by omega) (by omega)
  obtain ⟨f, q, hf, hq, ef⟩ := leaf_ev hs (p := p + 1) (by omega) (by omega)
  by_cases e : a = 0
  · refine ⟨l.set (3 : Int).toNat f, q, ⟨by rw [List.length_set]; omega, fun x hx => ?_⟩, by omega, ?_⟩
    · rcases List.mem_or_eq_of_mem_set hx with h | h
      · rw [h9 x h]; omega
      · rw [h]; exact hf
    · refine Ev.step (fun k => by rw [spec_l91Spread.j0]) ?_
      exact Ev.bind ea (Ev.pos e (Ev.bind ef (Ev.pos (by omega) (Ev.done rfl))))
  · refine ⟨l, p + 1, ⟨by omega, fun x hx => by rw [h9 x hx]; omega⟩, by omega, ?_⟩
    refine Ev.step (fun k => by rw [spec_l91Spread.j0]) ?_
    exact Ev.bind ea (Ev.neg e (Ev.done rfl))
theorem dspread_ev {s : List Int} (hs : RdS s) {p : Int} (h0 : 0 ≤ p) (h1 : p ≤ 1099510000000) : ∃ l q, Few l ∧ (p ≤ q ∧ q ≤ p + 20) ∧ Ev (fun k => spec_l91Spread.f k s p) (l, q) := by
  obtain ⟨t, q, ht, hq, et⟩ := system_ev hs h0 (by omega)
  have htl := ht.len
  have eo := specSpreadOf_ev (t := t) (by omega)
  by_cases hsy : sysB t = true
  case neg =>
    rw [show spreadR t = ([], false) from if_neg hsy] at eo
    refine ⟨[], q, ⟨by decide, fun a ha => by cases ha⟩, by omega, ?_⟩
    unfold spec_l91Spread.f
    exact Ev.bind et (Ev.bind eo (Ev.neg (by decide) (Ev.done rfl)))
  rw [show spreadR t = (spreadN t 9, true) from if_pos hsy] at eo
  obtain ⟨a, ha, ea⟩ := pick_ev hs (p := q) (by omega) (by omega) (n := 3) (by omega) (by omega)
  obtain ⟨l1, q1, hl1, hq1, e1⟩ := spread_j0 hs (p := q + 1) (by omega) (by omega) (spreadN_length t 9) (spreadN_nines t 9)
  by_cases e : a = 0
  · have ed := specDerive_ev (spreadN t 9)
    by_cases hd : spreadB (spreadN t 9) = true ∧ (restN (spreadN t 9) 10).length = 6
    · rw [show deriveR (spreadN t 9) = (deriveL (spreadN t 9), true) from if_pos hd] at ed
      obtain ⟨l2, q2, hl2, hq2, e2⟩ := spread_j0 hs (p := q + 1) (by omega) (by omega) (l := deriveL (spreadN t 9)) (by rw [deriveL_length]; omega) (deriveL_nines hd.1)
      refine ⟨l2, q2, hl2, by omega, ?_⟩
      unfold spec_l91Spread.f
      exact Ev.bind et (Ev.bind eo (Ev.pos rfl (Ev.bind ea (Ev.pos e (Ev.bind ed (Ev.pos rfl e2))))))
    · rw [show deriveR (spreadN t 9) = ([], false) from if_neg hd] at ed
      refine ⟨l1, q1, hl1, by omega, ?_⟩
      unfold spec_l91Spread.f
      exact Ev.bind et (Ev.bind eo (Ev.pos rfl (Ev.bind ea (Ev.pos e (Ev.bind ed (Ev.neg (by decide) e1))))))
  · refine ⟨l1, q1, hl1, by omega, ?_⟩
    unfold spec_l91Spread.f
    exact Ev.bind et (Ev.bind eo (Ev.pos rfl (Ev.bind ea (Ev.neg e e1))))
end Go.Proofs.Ytcbkoecanldlpaa.X

set_option linter.unusedVariables false
set_option linter.unusedSimpArgs false
namespace Go.Proofs.Ytcbkoecanldlpaa.X
open Go.RowKit Go.Proofs.YtcbkoecanldlpaaW.PrintWords Go.Proofs.YtcbkoecanldlpaaW.PrintLast Go.Proofs.Ytcbkoecanldlpaa.P

theorem specSJ_l0 {l : List (List Int)} (h : spreadB l = true) {g : Int} (g0 : 0 ≤ g) (g1 : g < 81) (d : Nat) : ∀ i : Int, 0 ≤ i → i + d = 10 → (∀ j : Nat, (j : Int) < i → decide (g ∈ rd_LI l j) = false) → Ev (fun k => spec_SpreadJoin.l0 k l g i) (idxS (fun leaf => decide (g ∈ leaf)) l, true) := by
  have hl := (spreadB_parts h).1
  induction d with
  | zero =>
    intro i h0 h1 hf
    obtain ⟨j, j0, j1, hj⟩ := spread_cover h g0 g1
    have := hf j.toNat (by omega)
    rw [Int.toNat_of_nonneg j0] at this
    exact absurd hj (of_decide_eq_false this)
  | succ d ih =>
    intro i h0 h1 hf
    have h9 := (leafB_parts (spread_leaf h h0 (by omega))).1
    refine Ev.step (fun k => by rw [spec_SpreadJoin.l0]) ?_
    rw [w64 (x := i + 1) (by omega) (by omega)]
    refine Ev.pos (by omega) (Ev.pos h0 (Ev.pos (by omega) (Ev.bind (l6lHas_ev (rd_LI l i) (by omega) g) ?_)))
    by_cases e : g ∈ rd_LI l i
    · refine Ev.pos (decide_eq_true e) (Ev.done ?_)
      rw [idxS_some (p := fun leaf => decide (g ∈ leaf)) i h0 (by omega) (decide_eq_true e) hf]
    · refine Ev.neg (by rw [decide_eq_false e]; decide) (ih (i + 1) (by omega) (by omega) fun j hj => ?_)
      by_cases ej : (j : Int) = i
      · rw [ej]; exact decide_eq_false e
      · exact hf j (by omega)
theorem specSJ_ev (l : List (List Int)) (p q : Int) : Ev (fun k => spec_SpreadJoin.f k l p q) (sjoinR l p q) := by
  have j0 : ∀ b, sjoinR l p q = (0, false) → b = true → Ev (fun k => spec_SpreadJoin.j0 k l p q b) (sjoinR l p q) := fun b e hb => by
    rw [e, hb]
    refine Ev.step (fun k => by rw [spec_SpreadJoin.j0]) ?_
    exact Ev.pos rfl (Ev.done rfl)
  have hn : ∀ x : Int, (decide (0 ≤ x) && decide (x ≤ 80)) = nearB x := fun x => by
    unfold nearB
    rw [show decide (x ≤ 80) = decide (x < 81) from decide_eq_decide.2 (by omega)]
  unfold spec_SpreadJoin.f
  refine Ev.bind (specSpread_ev l) ?_
  by_cases hs : spreadB l = true
  case neg => exact Ev.neg hs (j0 true (by unfold sjoinR joinOk; rw [Bool.eq_false_iff.2 hs]; rfl) rfl)
  refine Ev.pos hs (Ev.fix (l6In_eq p 0 80) ?_)
  rw [hn]
  by_cases hp : nearB p = true
  case neg => exact Ev.neg hp (j0 true (by unfold sjoinR joinOk; rw [Bool.eq_false_iff.2 hp]; simp) rfl)
  refine Ev.pos hp (Ev.fix (l6In_eq q 0 80) ?_)
  rw [hn]
  by_cases hq : nearB q = true
  case neg => exact Ev.neg hq (j0 true (by unfold sjoinR joinOk; rw [Bool.eq_false_iff.2 hq]; simp) rfl)
  refine Ev.pos hq ?_
  by_cases hpq : p = q
  · exact j0 _ (by unfold sjoinR joinOk; rw [hpq]; simp) (by rw [hpq]; exact beq_self_eq_true q)
  rw [show sjoinR l p q = (idxS (fun leaf => decide (gapN p q ∈ leaf)) l, true) from if_pos (by unfold joinOk; rw [hs, hp, hq]; simpa using hpq)]
  obtain ⟨q0, q1⟩ := nearB_iff.1 hq
  have m1 := spec_l1Minus_eq (q / 9) ⟨by omega, by omega⟩
  have m2 := spec_l1Minus_eq (q % 9) ⟨by omega, by omega⟩
  obtain ⟨r0, r1⟩ := minusN_range (q / 9)
  obtain ⟨s0, s1⟩ := minusN_range (q % 9)
  have ha := l6lAdd_eq (p := p) (q := 9 * minusN (q / 9) + minusN (q % 9)) hp (nearB_iff.2 ⟨by omega, by omega⟩)
  have hg : addF p (9 * minusN (q / 9) + minusN (q % 9)) = gapN p q := rfl
  rw [hg] at ha
  obtain ⟨g0, g1⟩ := addF_range p (9 * minusN (q / 9) + minusN (q % 9))
  rw [hg] at g0 g1
  have z1 : wrap64 (Int.tdiv q 9) = q / 9 := by rw [tdiv_nn q0]; exact w64 (by omega) (by omega)
  have z2 : Int.tmod q 9 = q % 9 := tmod_nn q0
  have z3 : wrap64 (wrap64 (9 * minusN (q / 9)) + minusN (q % 9)) = 9 * minusN (q / 9) + minusN (q % 9) := by rw [w64 (x := 9 * minusN (q / 9)) (by omega) (by omega)]; exact w64 (by omega) (by omega)
  rw [beq_eq_false_iff_ne.2 hpq]
  refine Ev.step (fun k => by rw [spec_SpreadJoin.j0]) ?_
  rw [z1, z2]
  refine Ev.neg (by decide) (Ev.fix m1 (Ev.fix m2 ?_))
  rw [z3]
  exact Ev.fix ha (specSJ_l0 hs g0 g1 10 0 (by omega) (by omega) fun j hj => by omega)
end Go.Proofs.Ytcbkoecanldlpaa.X

set_option linter.unusedVariables false
set_option linter.unusedSimpArgs false
namespace Go.Proofs.Ytcbkoecanldlpaa.Pure
open Go.RowKit Go.Proofs.Ytcbkoecanldlpaa.P Go.Proofs.YtcbkoecanldlpaaW.PrintWords Go.Proofs.YtcbkoecanldlpaaW.PrintLast Go.Proofs.Ytcbkoecanldlpaa.X

theorem drawSJ_ev (l0 : List Int) (hu : ∀ x ∈ l0, (Lit.int .u8 x).wf = true) : ∃ l p q, Ev (fun k => spec_DrawSpreadJoin.f k l0) (l, p, q) := by
  obtain ⟨s, hs, eo⟩ := open_ev l0 hu
  obtain ⟨l, q, hl, hq, el⟩ := dspread_ev hs (p := 0) (by omega) (by omega)
  obtain ⟨a, ha, ea⟩ := pick_ev hs (p := q) (by omega) (by omega) (n := 82) (by omega) (by omega)
  obtain ⟨b, hb, eb⟩ := pick_ev hs (p := q + 1) (by omega) (by omega) (n := 81) (by omega) (by omega)
  refine ⟨l, a, b, ?_⟩
  unfold spec_DrawSpreadJoin.f
  exact Ev.fix eo (Ev.bind el (Ev.bind ea (Ev.bind eb (Ev.done rfl))))
theorem gap_range (p q : Int) : 0 ≤ gapN p q ∧ gapN p q < 81 := addF_range _ _
theorem gap_back {p q : Int} (hp : nearB p = true) (hq : nearB q = true) : gapN q p = addF (gapN p q) (gapN p q) := by
  obtain ⟨p0, p1⟩ := nearB_iff.1 hp
  obtain ⟨q0, q1⟩ := nearB_iff.1 hq
  have k : ∀ a b : Int, 0 ≤ a → a < 9 → 0 ≤ b → b < 9 → addN b (minusN a) = addN (addN a (minusN b)) (addN a (minusN b)) := nine2 (P := fun a b => addN b (minusN a) = addN (addN a (minusN b)) (addN a (minusN b))) (by decide +kernel)
  have m := fun x => minusN_range x
  have e : ∀ a b : Int, 0 ≤ a → a < 81 → 0 ≤ b → b < 81 → gapN a b = 9 * addN (a / 9) (minusN (b / 9)) + addN (a % 9) (minusN (b % 9)) := fun a b a0 a1 b0 b1 => by
    have m1 := m (b / 9)
    have m2 := m (b % 9)
    unfold gapN addF
    rw [show (9 * minusN (b / 9) + minusN (b % 9)) / 9 = minusN (b / 9) by omega, show (9 * minusN (b / 9) + minusN (b % 9)) % 9 = minusN (b % 9) by omega]
  rw [e q p q0 q1 p0 p1, e p q p0 p1 q0 q1]
  have a1 := addN_range (p / 9) (minusN (q / 9))
  have a2 := addN_range (p % 9) (minusN (q % 9))
  unfold addF
  rw [show (9 * addN (p / 9) (minusN (q / 9)) + addN (p % 9) (minusN (q % 9))) / 9 = addN (p / 9) (minusN (q / 9)) by omega, show (9 * addN (p / 9) (minusN (q / 9)) + addN (p % 9) (minusN (q % 9))) % 9 = addN (p % 9) (minusN (q % 9)) by omega]
  rw [← k _ _ (by omega) (by omega) (by omega) (by omega), ← k _ _ (by omega) (by omega) (by omega) (by omega)]
theorem gap_ne {p q : Int} (hp : nearB p = true) (hq : nearB q = true) (hne : p ≠ q) : 0 < gapN p q := by
  obtain ⟨p0, p1⟩ := nearB_iff.1 hp
  obtain ⟨q0, q1⟩ := nearB_iff.1 hq
  have m1 := minusN_range (q / 9)
  have m2 := minusN_range (q % 9)
  have a1 := addN_range (p / 9) (minusN (q / 9))
  have a2 := addN_range (p % 9) (minusN (q % 9))
  unfold gapN addF
  rw [show (9 * minusN (q / 9) + minusN (q % 9)) / 9 = minusN (q / 9) by omega, show (9 * minusN (q / 9) + minusN (q % 9)) % 9 = minusN (q % 9) by omega]
  by_cases e1 : addN (p / 9) (minusN (q / 9)) = 0
  · by_cases e2 : addN (p % 9) (minusN (q % 9)) = 0
    · exfalso
      have h1 := minus_eq (a := p / 9) (b := q / 9) (by omega) (by omega) (by omega) (by omega) e1
      have h2 := minus_eq (a := p % 9) (b := q % 9) (by omega) (by omega) (by omega) (by omega) e2
      omega
    · omega
  · omega
theorem idx_of {l : List (List Int)} (h : spreadB l = true) {g i : Int} (g0 : 0 < g) (g1 : g < 81) (i0 : 0 ≤ i) (i1 : i < 10) (hm : g ∈ rd_LI l i) : idxS (fun leaf => decide (g ∈ leaf)) l = i := by
  have hl := (spreadB_parts h).1
  refine idxS_some i i0 (by omega) (decide_eq_true hm) fun j hj => ?_
  rw [decide_eq_false]
  intro hj2
  exact spread_apart h (i := (j : Int)) (j := i) (by omega) hj i1 g0 hj2 hm
theorem sj_l0 {l : List (List Int)} (h : spreadB l = true) {i : Int} (i0 : 0 ≤ i) (i1 : i < 10) (d : Nat) : ∀ c : Int, 1 ≤ c → c + d = 9 → Ev (fun k => laws_FnSpreadJoin.l0 k l i i true c) true := by
  have hl := (spreadB_parts h).1
  have hf := spread_leaf h i0 i1
  have h9 := (leafB_parts hf).1
  induction d with
  | zero =>
    intro c c0 c1
    refine Ev.step (fun k => by rw [laws_FnSpreadJoin.l0]) ?_
    exact Ev.neg (by omega) (Ev.pos rfl (Ev.done (by simp)))
  | succ d ih =>
    intro c c0 c1
    have hn := leaf_near hf (i := c) (by omega) (by omega)
    have hp := leaf_pos hf (i := c) (by omega) (by omega)
    have hz : nearB 0 = true := by decide
    have hnb : nearB (rd (rd_LI l i) c) = true := nearB_iff.2 hn
    have hmem : rd (rd_LI l i) c ∈ rd_LI l i := rd_mem (by omega) (by omega)
    have hg : gapN 0 (rd (rd_LI l i) c) ∈ rd_LI l i := by
      have e2 : gapN (rd (rd_LI l i) c) 0 = rd (rd_LI l i) c := by
        have b : nearB (rd (rd_LI l i) c) = true := hnb
        have e9 : addN (rd (rd_LI l i) c / 9) 0 = rd (rd_LI l i) c / 9 := addN_zero (by omega) (by omega)
        have e8 : addN (rd (rd_LI l i) c % 9) 0 = rd (rd_LI l i) c % 9 := addN_zero (by omega) (by omega)
        show addF _ (9 * minusN (0 / 9) + minusN (0 % 9)) = _
        rw [show 9 * minusN (0 / 9) + minusN (0 % 9) = 0 by decide]
        unfold addF
        rw [show (0 : Int) / 9 = 0 by decide, show (0 : Int) % 9 = 0 by decide, e9, e8]
        omega
      rw [gap_back hnb hz, e2]
      exact leaf_sum hf hmem hmem
    have hgp := gap_ne hz hnb (by omega)
    have hi := idx_of h hgp (gap_range _ _).2 i0 i1 hg
    have er : sjoinR l 0 (rd (rd_LI l i) c) = (i, true) := by
      unfold sjoinR
      rw [if_pos, hi]
      unfold joinOk
      rw [h, hz, hnb]
      simp; omega
    refine Ev.step (fun k => by rw [laws_FnSpreadJoin.l0]) ?_
    rw [w64 (x := c + 1) (by omega) (by omega)]
    refine Ev.pos (by omega) (Ev.pos i0 (Ev.pos (by omega) (Ev.pos (by omega) (Ev.pos (by omega) (Ev.fix (show impl_SpreadJoin.f l 0 (rd (rd_LI l i) c) = some (sjoinR l 0 (rd (rd_LI l i) c)) from rfl) ?_)))))
    rw [er]
    exact Ev.pos rfl (Ev.pos rfl (ih (c + 1) (by omega) (by omega)))
theorem FnSpreadJoin : laws_FnSpreadJoin.Pure := by
  intro l0 _ _ hu
  refine Ev.rounds ?_
  unfold laws_FnSpreadJoin.f
  by_cases hb : (l0.length : Int) > 1048576
  · exact Ev.pos hb (Ev.done rfl)
  refine Ev.neg hb ?_
  obtain ⟨l, p, q, e⟩ := drawSJ_ev l0 hu
  refine Ev.bind e ?_
  dsimp only
  refine Ev.fix (show impl_SpreadJoin.f l p q = some (sjoinR l p q) from rfl) (Ev.bind (specSJ_ev l p q) (Ev.neg (by simp) (Ev.pos rfl ?_)))
  refine Ev.step (fun k => by rw [laws_FnSpreadJoin.j0]) ?_
  by_cases h : joinOk l p q = true
  case neg =>
    rw [show sjoinR l p q = (0, false) from if_neg h]
    exact Ev.pos (by decide) (Ev.pos (by decide) (Ev.done rfl))
  have er : sjoinR l p q = (idxS (fun leaf => decide (gapN p q ∈ leaf)) l, true) := if_pos h
  unfold joinOk at h
  simp only [Bool.and_eq_true, bne_iff_ne, ne_eq] at h
  obtain ⟨hs, hp, hq, hne⟩ := h
  obtain ⟨i, i0, i1, hi⟩ := spread_cover hs (gap_range p q).1 (gap_range p q).2
  have hidx := idx_of hs (gap_ne hp hq hne) (gap_range p q).2 i0 i1 hi
  have hf := spread_leaf hs i0 i1
  have hidx2 := idx_of hs (gap_ne hq hp (fun h => hne h.symm)) (gap_range q p).2 i0 i1 (by rw [gap_back hp hq]; exact leaf_sum hf hi hi)
  have er2 : sjoinR l q p = (i, true) := by
    unfold sjoinR
    rw [if_pos, hidx2]
    unfold joinOk
    rw [hs, hq, hp]
    simp; exact fun h => hne h.symm
  rw [er, hidx]
  refine Ev.neg (by simp) (Ev.fix (show impl_SpreadJoin.f l q p = some (sjoinR l q p) from rfl) ?_)
  rw [er2]
  exact sj_l0 hs i0 i1 8 1 (by omega) (by omega)
end Go.Proofs.Ytcbkoecanldlpaa.Pure

namespace Go.Proofs.YtcbkoecanldlpaaW.PrintWords
open Go.ChangeShapes Go.WideShapes
theorem sized_ints {H : Type} {enc : TypeId × Value → H} {P : Program} {W : World} {base : Nat} {spare : Nat → Bool} {held : Bool} {t e : TypeId} {k : IntKind} {a : Option Addr} {len cap : Nat} {d : DataW H} {ps : List MemPlace} {ts : List TypeId} {ds : List (DataW H)} {j : Nat}
    (hsz : (DataW.weightsEach P ts ds).all (· ≤ reachBytes) = true) (ht : ts[j]? = some t) (hd : ds[j]? = some d) (hu : P.underlying t = some (.slice e)) (he : P.underlying e = some (.int k)) (hc : P.cellsOf e = 1) {B : Nat} (hB : P.bytesOf e = B)
    (h : DataW.Trod enc P W base spare held t (.slice a len cap) d ps) : len * B ≤ 140737488351232 := by
  obtain ⟨fuel, hf⟩ := h
  rcases open_ints hu he hc hf with ⟨hcs, _⟩ | ⟨x, l, c, zs, hcs, _, hl, _, hz, hx, _, _⟩
  · simp [Value.cells] at hcs
    obtain ⟨rfl, rfl, rfl⟩ := hcs
    simp
  · simp [Value.cells] at hcs
    obtain ⟨rfl, rfl, rfl⟩ := hcs
    obtain ⟨hx, _⟩ := Prod.mk.inj hx
    subst hx
    have z := sized_slice hsz ht hd hu
    rw [hB] at z
    have hl2 : len ≤ zs.length := by
      rw [hz]
      split
      · exact hl
      · exact Nat.le_refl _
    have h1 : (lits (H := H) k (zs.take len)).length + (lits (H := H) k (zs.drop len)).length = zs.length := by
      simp [lits]
      omega
    rw [h1] at z
    exact Nat.le_trans (Nat.mul_le_mul_right _ hl2) z
end Go.Proofs.YtcbkoecanldlpaaW.PrintWords

namespace Go.Proofs.Ytcbkoecanldlpaa.fnSpreadJoin
open Go.ChangeShapes Go.WideShapes Go.ChangeAt Go.RowKit
open Go.ChangeMaps (open_string shut_string)
set_option linter.unusedVariables false
theorem own : ownKnob Try.prog.godebug = none := by kernel_rfl
theorem laidOut : laidOutB Try.prog = true := by kernel_rfl
def IsRow (k : IntKind) (w : World) (a : Option Addr) (len cap : Nat) (zs : List Int) : Prop :=
  (a = none ∧ len = 0 ∧ cap = 0 ∧ zs = []) ∨
  ∃ x, a = some x ∧ len ≤ cap ∧ cap ≤ maxLen ∧ zs.length = cap ∧ (∀ i, i < zs.length → w.cell? (x.add i) = some (.int k (zs.getD i 0))) ∧ ∀ n ∈ zs, (Lit.int k n).wf = true
set_option maxRecDepth 100000 in
theorem lifted (os : Os) (started : os.Started) (H : Type) (enc : TypeId × Value → H) :
    ReturnsInHanded {} Try.checked os 10 .any (Rows.fnSpreadJoinSpec.pre6 enc Try.prog Try.f10 Rows.fnSpreadJoinRow.domain false) (Rows.fnSpreadJoinSpec.post enc Try.prog Try.f10 false true false false) := by
  refine returnsInHanded_of_change_sized (C := Try.checked) own started (by kernel_rfl) Try.func10
    (ChangeSpec.witness6 (enc := enc) (C := Try.checked) false ⟨#[], #[.slice none 0 0], []⟩ 8 (by kernel_rfl) (by kernel_rfl) (by kernel_rfl) (by kernel_rfl)) ?_
  intro W base args ds gs before hval0 hW hcnd hsz0 _
  have hsz : (DataW.weightsEach Try.prog (Try.f10.params.toList ++ Rows.fnSpreadJoinSpec.plain.varTypes Try.prog) (ds ++ gs)).all (· ≤ reachBytes) = true := hsz0
  have hval : ∀ (j : Nat) t v, Try.f10.params[j]? = some t → args[j]? = some v → Value.okWide Try.prog W .any base t v := hval0
  have hW' := hW
  obtain ⟨p, q, hA0, hV, rfl, hfz, hnd⟩ := hW
  have hA : DataW.TrodAll enc Try.prog W 0 (fun _ => true) true Try.f10.params.toList args.toList ds p := hA0
  rw [Try.params10] at hA hval hsz
  obtain ⟨v0, vs0, d0, ds0, p0, q0, hargs, rfl, rfl, h0, r0⟩ := trodAll_cons hA
  obtain ⟨rfl, rfl, rfl⟩ := trodAll_nil r0
  obtain rfl : args = #[v0] := by cases args; simp_all
  obtain ⟨rfl, rfl⟩ := trodVars_none hV
  obtain ⟨a0, len0, cap0, rfl⟩ := okWide_slice Try.underlying22 (hval 0 22 v0 rfl rfl)
  have k0 := h0
  have lt0 : ∀ x ∈ p0, x.block < W.heap.size := by obtain ⟨m, hm⟩ := k0; exact DataW.trod_lt m _ _ _ hm
  obtain ⟨z0, w0⟩ : ∃ zs, IsRow .u8 W a0 len0 cap0 zs := by
    obtain ⟨fuel, hf⟩ := h0
    rcases open_ints Try.underlying22 Try.underlying5 (by kernel_rfl) hf with ⟨hcs, _⟩ | ⟨x, l, c, zs, hcs, _, hl, hm, hz, _, hcell, hwz⟩
    · simp [Value.cells] at hcs
      obtain ⟨rfl, rfl, rfl⟩ := hcs
      exact ⟨[], .inl ⟨rfl, rfl, rfl, rfl⟩⟩
    · simp [Value.cells] at hcs
      obtain ⟨rfl, rfl, rfl⟩ := hcs
      exact ⟨zs, .inr ⟨_, rfl, hl, hm, by simpa using hz, hcell, hwz⟩⟩
  have y0 : len0 * 1 ≤ 140737488351232 := Go.Proofs.YtcbkoecanldlpaaW.PrintWords.sized_ints hsz (j := 0) (t := 22) rfl rfl Try.underlying22 Try.underlying5 (by kernel_rfl) (by kernel_rfl) h0
  clear hA0 hval0 hsz0 hsz
  refine (P.laws_FnSpreadJoin.walk Pure.FnSpreadJoin a0 len0 cap0 z0 W w0 y0).mono fun e W' ⟨he, bel⟩ => ?_
  subst he
  exact ⟨_, rfl, _, _, _, [], _, [], hW', trodAll_mk1 (shut_bool Try.underlying4 _), (trodAll_cons_mk (Below.trod laidOut (by kernel_rfl) (of_decide_eq_true (by kernel_rfl)) k0 bel lt0) trodAll_mk0), rfl, bel.frame _, fun h => by cases h⟩
theorem over : Rows.fnSpreadJoinRow.holds Try.pinned (OpenSpec.ofChange Rows.fnSpreadJoinSpec) :=
  OpenClaim.holds_of_wide 10 Try.f10 rfl rfl rfl rfl rfl rfl rfl ⟨rfl, rfl, rfl, rfl, rfl⟩ rfl rfl rfl rfl rfl (by kernel_rfl) Try.func10 (by kernel_rfl)
    (of_decide_eq_true (by kernel_rfl)) (by unfold Func.isWrapper; first | (rw [if_pos (by decide +kernel)]; kernel_rfl) | (rw [if_neg (by decide +kernel)]; exact ⟨rfl, rfl⟩))
    (fun os started H enc _ => lifted os started H enc)
theorem proved : Rows.FnSpreadJoinSaid := over
#print axioms proved
end Go.Proofs.Ytcbkoecanldlpaa.fnSpreadJoin
namespace Go.Proofs.Ytcbkoecanldlpaa
theorem fnSpreadJoin_holds : Rows.FnSpreadJoinSaid := fnSpreadJoin.proved
end Go.Proofs.Ytcbkoecanldlpaa
