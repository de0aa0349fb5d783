/- MoveShift: what it comes to. -/
import Derived.Test.YtaemaloelmgblaaXMoveBy
import Derived.Test.YtaemaloelmgblaaXSys
set_option linter.unusedVariables false
set_option linter.unusedSimpArgs false
namespace Go.Proofs.Ytaemaloelmgblaa.X
open Go.RowKit Go.Proofs.YtaemaloelmgblaaW.PrintWords Go.Proofs.YtaemaloelmgblaaW.PrintLast Go.Proofs.Ytaemaloelmgblaa.P

def shiftF (a b x y : Int) : Int := 9 * addN x a + addN y b
theorem entersMS : Eg 39 := enters_of Try.func39 (by kernel_rfl) rfl
set_option maxHeartbeats 2000000 in
theorem moveShift1_calls (ba bb : Nat) (a b : Int) (hA : In9 a) (hB : In9 b) (w : World) (ha : w.cell? ⟨ba, 0, none⟩ = some (.int .i64 a)) (hb : w.cell? ⟨bb, 0, none⟩ = some (.int .i64 b)) (x y : Int) (hx : In9 x) (hy : In9 y) :
    Calls Try.prog 39 #[.int .i64 x, .int .i64 y, .pointer (some ⟨ba, 0, none⟩), .pointer (some ⟨bb, 0, none⟩)] w fun e w' => e = .returned (.int .i64 (shiftF a b x y)) ∧ Below w.heap.size w w' := by
  have C1 := Aside0.mk (add_calls x a hx hA)
  have C2 := Aside0.mk (add_calls y b hy hB)
  obtain ⟨r0, r1⟩ := addN_range x a
  obtain ⟨s0, s1⟩ := addN_range y b
  unfold shiftF
  obtain ⟨u, hu⟩ : ∃ u, addN x a = u := ⟨_, rfl⟩
  obtain ⟨v, hv⟩ : ∃ v, addN y b = v := ⟨_, rfl⟩
  rw [hu] at C1 r0 r1 ⊢
  rw [hv] at C2 s0 s1 ⊢
  clear hu hv hA hB hx hy
  go_enter Try.func39, Try.ntmps39
  go_wp2
  go_quiet ((first | (go_at_call 35; with_reducible exact qd (C1.out _)) | (go_at_call 35; with_reducible exact qd (C2.out _))))
  go_wp2
  go_ret
  exact ⟨rfl, Drawn0.below ⟨⟨_, rfl⟩⟩⟩

def shiftL (a b : Int) : List Int := moveL (shiftF a b)
set_option maxRecDepth 100000 in
set_option maxHeartbeats 4000000 in
theorem moveShift_yes (A0 : Option Addr) (c0 : Nat) (t : List Int) (a b : Int) (w : World) (hr : Kd.C (Kd.int .i64) w A0 t.length t) (hs : sysB t = true) (hA : isN a = true) (hB : isN b = true) :
    Calls Try.prog 24 #[.slice A0 t.length c0, .int .i64 a, .int .i64 b] w fun e w' => ∃ v : Value, e = .returned (.tuple #[v, .bool true]) ∧ Kd.R (Kd.int .i64) 3 w' w.heap.size (fun _ => True) v (shiftL a b) ∧ Below w.heap.size w w' := by
  have hmf : ∀ (fn : Fn) (first cap : Array Value) (w : World), (Instr.makeFunc fn first cap).run Try.prog w = .ok (.func fn first cap) w := fun _ _ _ _ => rfl
  have hb0 : Below w.heap.size w ((w.alloc (.cells #[.int .i64 a] 3)).alloc (.cells #[.int .i64 b] 3)) := ((Below.refl _ _).alloc (Nat.le_refl _) _).alloc (by simp) _
  have hcall := isSystem_calls A0 c0 t _ (Kd.C_below hr hb0)
  rw [hs] at hcall
  have ha1 : ((w.alloc (.cells #[.int .i64 a] 3)).alloc (.cells #[.int .i64 b] 3)).cell? ⟨w.heap.size, 0, none⟩ = some (.int .i64 a) := by
    rw [World.cell?_alloc_past _ _ _ (by simp)]; exact World.cell?_alloc_at _ _ _ _ rfl
  have hb1 : ((w.alloc (.cells #[.int .i64 a] 3)).alloc (.cells #[.int .i64 b] 3)).cell? ⟨w.heap.size + 1, 0, none⟩ = some (.int .i64 b) := World.cell?_alloc_at _ _ _ _ (by simp)
  have HC := Aside0.mk hcall
  have HB0 := Aside0.mk hb0
  have HA1 := Aside0.mk ha1
  have HB1 := Aside0.mk hb1
  have N1 := isNine_calls a
  have N2 := isNine_calls b
  rw [hA] at N1
  rw [hB] at N2
  have HN1 := Aside0.mk N1
  have HN2 := Aside0.mk N2
  have HRA := Aside0.mk (isN_iff.1 hA)
  have HRB := Aside0.mk (isN_iff.1 hB)
  clear hcall hb0 ha1 hb1 hr hs hA hB N1 N2
  go_enter Try.func24, Try.ntmps24
  go_wp2_with fail
  refine HC.out.mono ?_
  rintro e w1 ⟨rfl, hbw⟩
  have ha2 : w1.cell? ⟨w.heap.size, 0, none⟩ = some (.int .i64 a) := (hbw.cell (World.block_lt_of_cell? _ _ HA1.out)).trans HA1.out
  have hb2 : w1.cell? ⟨w.heap.size + 1, 0, none⟩ = some (.int .i64 b) := (hbw.cell (World.block_lt_of_cell? _ _ HB1.out)).trans HB1.out
  have HBW := Aside0.mk (bstep HB0.out hbw)
  clear hbw HC HA1 HB1 HB0
  go_wp2_with (go_at_call 34; first | (with_reducible refine (HN1.out _).mono ?_; rintro e w' ⟨rfl, ⟨nd, rfl⟩⟩) | (with_reducible refine (HN2.out _).mono ?_; rintro e w' ⟨rfl, ⟨nd, rfl⟩⟩))
  have key : ∀ W : World, Drawn0 w1 W → Calls Try.prog 38 #[.func (.func 39) #[] #[.pointer (some ⟨w.heap.size, 0, none⟩), .pointer (some ⟨w.heap.size + 1, 0, none⟩)]] W fun e w' => ∃ v : Value, e = .returned v ∧ Kd.R (Kd.int .i64) 3 w' W.heap.size (fun _ => True) v (shiftL a b) ∧ Below W.heap.size W w' := fun W hW =>
    moveBy_calls 39 _ entersMS (shiftF a b) W (fun W2 x y hW2 hd =>
      moveShift1_calls _ _ a b HRA.out HRB.out W2 ((hW2.cell (World.block_lt_of_cell? _ _ ((hW.below.cell (World.block_lt_of_cell? _ _ ha2)).trans ha2))).trans ((hW.below.cell (World.block_lt_of_cell? _ _ ha2)).trans ha2))
        ((hW2.cell (World.block_lt_of_cell? _ _ ((hW.below.cell (World.block_lt_of_cell? _ _ hb2)).trans hb2))).trans ((hW.below.cell (World.block_lt_of_cell? _ _ hb2)).trans hb2)) x y hd.1 hd.2)
  refine (key _ ⟨⟨_, rfl⟩⟩).mono ?_
  rintro e w2 ⟨v, rfl, ho, hb⟩
  have HO := Aside0.mk ho
  have HB2 := Aside0.mk hb
  clear ho hb key
  go_wp2
  go_ret2
  have hsz : w.heap.size ≤ w1.heap.size := HBW.out.size
  exact ⟨_, rfl, Kd.R_lower HO.out (by simpa using hsz), HBW.out.trans (Below.trans (Below.mono (Drawn0.below ⟨⟨_, rfl⟩⟩) hsz) (HB2.out.mono (by simpa using hsz)))⟩

set_option maxRecDepth 100000 in
set_option maxHeartbeats 4000000 in
theorem moveShift_no (A0 : Option Addr) (c0 : Nat) (t : List Int) (a b : Int) (w : World) (hr : Kd.C (Kd.int .i64) w A0 t.length t) (h : (sysB t && (isN a && isN b)) = false) :
    Calls Try.prog 24 #[.slice A0 t.length c0, .int .i64 a, .int .i64 b] w fun e w' => e = .returned (.tuple #[.slice none 0 0, .bool false]) ∧ Below w.heap.size w w' := by
  have hb0 : Below w.heap.size w ((w.alloc (.cells #[.int .i64 a] 3)).alloc (.cells #[.int .i64 b] 3)) := ((Below.refl _ _).alloc (Nat.le_refl _) _).alloc (by simp) _
  have hcall := isSystem_calls A0 c0 t _ (Kd.C_below hr hb0)
  have ha1 : ((w.alloc (.cells #[.int .i64 a] 3)).alloc (.cells #[.int .i64 b] 3)).cell? ⟨w.heap.size, 0, none⟩ = some (.int .i64 a) := by
    rw [World.cell?_alloc_past _ _ _ (by simp)]; exact World.cell?_alloc_at _ _ _ _ rfl
  have hb1 : ((w.alloc (.cells #[.int .i64 a] 3)).alloc (.cells #[.int .i64 b] 3)).cell? ⟨w.heap.size + 1, 0, none⟩ = some (.int .i64 b) := World.cell?_alloc_at _ _ _ _ (by simp)
  have HB0 := Aside0.mk hb0
  have HA1 := Aside0.mk ha1
  have HB1 := Aside0.mk hb1
  have N1 := isNine_calls a
  have N2 := isNine_calls b
  clear hb0 ha1 hb1 hr
  by_cases hs : sysB t = true
  case neg =>
    have hs := Bool.eq_false_iff.2 hs
    rw [hs] at hcall
    have HC := Aside0.mk hcall
    clear hcall hs h N1 N2
    go_enter Try.func24, Try.ntmps24
    go_wp2_with (go_at_call 33; refine HC.out.mono ?_; rintro e w' ⟨rfl, hb⟩)
    go_ret2
    exact ⟨rfl, bstep HB0.out hb⟩
  case pos =>
    rw [hs] at hcall h
    have HC := Aside0.mk hcall
    clear hcall
    by_cases hA : isN a = true
    case neg =>
      have hA := Bool.eq_false_iff.2 hA
      rw [hA] at N1
      have HN1 := Aside0.mk N1
      clear N1 N2 h hs hA
      go_enter Try.func24, Try.ntmps24
      go_wp2_with fail
      refine HC.out.mono ?_
      rintro e w1 ⟨rfl, hbw⟩
      have ha2 : w1.cell? ⟨w.heap.size, 0, none⟩ = some (.int .i64 a) := (hbw.cell (World.block_lt_of_cell? _ _ HA1.out)).trans HA1.out
      have hb2 : w1.cell? ⟨w.heap.size + 1, 0, none⟩ = some (.int .i64 b) := (hbw.cell (World.block_lt_of_cell? _ _ HB1.out)).trans HB1.out
      have HBW := Aside0.mk (bstep HB0.out hbw)
      clear hbw HC HA1 HB1 HB0
      go_wp2_with (go_at_call 34; refine (HN1.out _).mono ?_; rintro e w' ⟨rfl, ⟨nd, rfl⟩⟩)
      go_ret2
      exact ⟨rfl, bstep HBW.out (Drawn0.below ⟨⟨_, rfl⟩⟩)⟩
    case pos =>
      rw [hA] at N1 h
      have hB : isN b = false := by simpa using h
      rw [hB] at N2
      have HN1 := Aside0.mk N1
      have HN2 := Aside0.mk N2
      clear N1 N2 h hs hA hB
      go_enter Try.func24, Try.ntmps24
      go_wp2_with fail
      refine HC.out.mono ?_
      rintro e w1 ⟨rfl, hbw⟩
      have ha2 : w1.cell? ⟨w.heap.size, 0, none⟩ = some (.int .i64 a) := (hbw.cell (World.block_lt_of_cell? _ _ HA1.out)).trans HA1.out
      have hb2 : w1.cell? ⟨w.heap.size + 1, 0, none⟩ = some (.int .i64 b) := (hbw.cell (World.block_lt_of_cell? _ _ HB1.out)).trans HB1.out
      have HBW := Aside0.mk (bstep HB0.out hbw)
      clear hbw HC HA1 HB1 HB0
      go_wp2_with fail
      refine (HN1.out _).mono ?_
      rintro e w' ⟨rfl, ⟨nd, rfl⟩⟩
      go_wp2_with fail
      refine (HN2.out _).mono ?_
      rintro e w' ⟨rfl, ⟨nd2, rfl⟩⟩
      go_wp2
      go_ret2
      exact ⟨rfl, bstep HBW.out (Drawn0.below ⟨⟨_, rfl⟩⟩)⟩

end Go.Proofs.Ytaemaloelmgblaa.X
namespace Go.Proofs.Ytaemaloelmgblaa.P
open Go.RowKit Go.Proofs.YtaemaloelmgblaaW.PrintWords Go.Proofs.YtaemaloelmgblaaW.PrintLast
def impl_MoveShift.f (l0 : List Int) (a1 a2 : Int) : Option (List Int × Bool) := some (if (X.sysB l0 && (X.isN a1 && X.isN a2)) = true then (X.shiftL a1 a2, true) else ([], false))
theorem impl_MoveShift.calls (A0 : Option Addr) (c0 : Nat) (l0 : List Int) (a1 : Int) (a2 : Int) (r1 : List Int) (r2 : Bool) (w : World) (hr0 : Kd.C (Kd.int .i64) w A0 l0.length l0) (hc0 : l0.length ≤ c0) (h : impl_MoveShift.f l0 a1 a2 = some (r1, r2)) :
    Calls Try.prog 24 #[.slice A0 l0.length c0, .int .i64 a1, .int .i64 a2] w fun e w' => ∃ v0_ : Value, e = .returned (.tuple #[v0_, .bool r2]) ∧ Kd.R (Kd.int .i64) 3 w' w.heap.size (fun _ => True) v0_ r1 ∧ Below w.heap.size w w' := by
  unfold impl_MoveShift.f at h
  by_cases hc : (X.sysB l0 && (X.isN a1 && X.isN a2)) = true
  · rw [if_pos hc] at h
    injection h with h
    injection h with h1 h2
    subst h1; subst h2
    have := Bool.and_eq_true _ _ ▸ hc
    have h2 := Bool.and_eq_true _ _ ▸ this.2
    exact X.moveShift_yes A0 c0 l0 a1 a2 w hr0 this.1 h2.1 h2.2
  · rw [if_neg hc] at h
    injection h with h
    injection h with h1 h2
    subst h1; subst h2
    exact (X.moveShift_no A0 c0 l0 a1 a2 w hr0 (Bool.eq_false_iff.2 hc)).mono fun e w' ⟨he, hb⟩ => ⟨_, he, Kd.R_nil _ _ _ _ _, hb⟩
end Go.Proofs.Ytaemaloelmgblaa.P
