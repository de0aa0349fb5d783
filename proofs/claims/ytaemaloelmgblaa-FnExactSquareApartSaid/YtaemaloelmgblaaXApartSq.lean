/- SquareApart: what it comes to. -/
import Derived.Test.YtaemaloelmgblaaXSq
set_option linter.unusedVariables false
set_option linter.unusedSimpArgs false
namespace Go.Proofs.Ytaemaloelmgblaa.X
open Go.RowKit Go.Proofs.YtaemaloelmgblaaW.PrintWords Go.Proofs.YtaemaloelmgblaaW.PrintLast Go.Proofs.Ytaemaloelmgblaa.P

def onceN (n : Nat) (p : Int → Int) : Bool := allI n fun i => allI n fun j => !decide (i < j) || !decide (p i = p j)
theorem onceN_iff {n : Nat} {p : Int → Int} : onceN n p = true ↔ ∀ i j : Int, 0 ≤ i → i < j → j < n → p i ≠ p j := by
  unfold onceN
  constructor
  · intro h i j hi hij hj
    have := allI_int (allI_int h i hi (by omega)) j (by omega) hj
    rw [decide_eq_true hij] at this
    simpa using this
  · intro h
    refine allI_int_iff.2 fun i i0 i1 => allI_int_iff.2 fun j j0 j1 => ?_
    by_cases e : i < j
    · rw [decide_eq_false (h i j i0 e j1)]; simp
    · rw [decide_eq_false e]; rfl
theorem onceN_hit {n : Nat} {p : Int → Int} (i j : Int) (h0 : 0 ≤ i) (h1 : i < j) (h2 : j < n) (h : p i = p j) : onceN n p = false := by
  cases e : onceN n p with
  | false => rfl
  | true => exact absurd h (onceN_iff.1 e i j h0 h1 h2)
def pairI (a b : List Int) (i : Int) : Int := 9 * rd a i + rd b i
def apartB (a b : List Int) : Bool := squareB a && (squareB b && onceN 81 (pairI a b))
theorem squareB_nines {s : List Int} (h : squareB s = true) : ninesB s 81 = true := by
  unfold squareB at h; exact (Bool.and_eq_true _ _ ▸ h).1

theorem tabA {w : World} {ad : Addr} {t : List Int} {n : Nat} (h : Kd.C (Kd.int .i64) w (some ad) n t) (i : Int) (h0 : 0 ≤ i) (h1 : i < n) : w.cell? (ad.add i.toNat) = some (.int .i64 (rd t i)) := by
  obtain ⟨ad', e, hc⟩ := Kd.at_int h i h0 h1
  cases e; exact hc
set_option maxRecDepth 100000 in
set_option maxHeartbeats 8000000 in
theorem squareApart_calls (A0 : Option Addr) (c0 : Nat) (a : List Int) (A1 : Option Addr) (c1 : Nat) (b : List Int) (w : World) (hr : Kd.C (Kd.int .i64) w A0 a.length a) (hr2 : Kd.C (Kd.int .i64) w A1 b.length b) :
    Calls Try.prog 16 #[.slice A0 a.length c0, .slice A1 b.length c1] w fun e w' => e = .returned (.bool (apartB a b)) ∧ Below w.heap.size w w' := by
  have hz : ∀ w, Sem.run Try.prog (zeroValue 36) w = .ok (.agg (bA 81 (fun _ => false))) w := fun _ => by kernel_rfl
  have hst := fun w => arr_store (P := Try.prog) 36 81 (fun _ => false) (by kernel_rfl) w
  have hcall := isSquare_calls A0 c0 a w hr
  have HR := Aside0.mk hr
  have HR2 := Aside0.mk hr2
  clear hr hr2
  by_cases ha : squareB a = true
  case neg =>
    have ha := Bool.eq_false_iff.2 ha
    have e : apartB a b = false := by unfold apartB; rw [ha]; rfl
    rw [e]
    rw [ha] at hcall
    have HC := Aside0.mk hcall
    clear ha e hcall
    go_enter Try.func16, Try.ntmps16
    go_wp2_with (go_at_call 26; refine HC.out.mono ?_; rintro e w' ⟨rfl, hb⟩)
    go_ret
    exact ⟨rfl, hb⟩
  case pos =>
    rw [ha] at hcall
    have HC := Aside0.mk hcall
    have HA := Aside0.mk ha
    clear hcall ha
    go_enter Try.func16, Try.ntmps16
    go_wp2_with fail
    refine HC.out.mono ?_
    rintro e w1 ⟨rfl, hb1⟩
    have hcall := isSquare_calls A1 c1 b w1 (Kd.C_below HR2.out hb1)
    have HB1 := Aside0.mk hb1
    clear hb1
    by_cases hb : squareB b = true
    case neg =>
      have hb := Bool.eq_false_iff.2 hb
      have e : apartB a b = false := by unfold apartB; rw [HA.out, hb]; rfl
      rw [hb] at hcall
      have E := Aside0.mk e
      have HC := Aside0.mk hcall
      clear hb e hcall
      go_wp2_with (go_at_call 26; refine HC.out.mono ?_; rintro e w' ⟨rfl, hb⟩)
      go_ret
      exact ⟨by rw [E.out]; rfl, bstep HB1.out hb⟩
    case pos =>
      rw [hb] at hcall
      have HC := Aside0.mk hcall
      have E := Aside0.mk (show apartB a b = onceN 81 (pairI a b) by unfold apartB; rw [HA.out, hb]; rfl)
      have NA := Aside0.mk (squareB_nines HA.out)
      have NB := Aside0.mk (squareB_nines hb)
      have hla : a.length = 81 := (ninesB_iff.1 NA.out).1
      have hlb : b.length = 81 := (ninesB_iff.1 NB.out).1
      have HLA := Aside0.mk hla
      have HLB := Aside0.mk hlb
      obtain ⟨ad, rfl⟩ : ∃ ad, A0 = some ad := by obtain ⟨x, e, _⟩ := Kd.at_int HR.out 0 (by omega) (by omega); exact ⟨x, e⟩
      obtain ⟨bd, rfl⟩ : ∃ bd, A1 = some bd := by obtain ⟨x, e, _⟩ := Kd.at_int HR2.out 0 (by omega) (by omega); exact ⟨x, e⟩
      clear hcall hb hla hlb
      go_wp2_with fail
      refine HC.out.mono ?_
      rintro e w2 ⟨rfl, hb2⟩
      have HB2 := Aside0.mk (bstep HB1.out hb2)
      have HS := Aside0.mk (Arr.alloc w2 36 81 (fun _ => false))
      have HB3 := Aside0.mk ((bstep HB1.out hb2).alloc ((bstep HB1.out hb2).size) (.cells (bA 81 (fun _ => false)) 36))
      clear hb2
      go_wp2
      have la1 : a.length ≤ 81 := by rw [HLA.out]; exact Nat.le_refl _
      have lb1 : 81 ≤ b.length := by rw [HLB.out]; exact Nat.le_refl _
      go_loopg [20] 81 (fun kq v20 w' => ∃ i : Int, v20 = .int .i64 i ∧ Aside0 (0 ≤ i ∧ i ≤ 81) ∧ Aside0 ((81 : Int) - i ≤ kq) ∧ Aside0 (∀ x y : Int, 0 ≤ x → x < y → y < i → pairI a b x ≠ pairI a b y) ∧ Aside0 (Arr w' w2.heap.size 36 81 (seenO (pairI a b) i)) ∧ Aside0 (Below w.heap.size w w'))
      case atStart => exact ⟨0, rfl, ⟨by omega⟩, ⟨by omega⟩, ⟨fun x y h0 h1 => by omega⟩, ⟨HS.out.congr (fun j hj => rfl)⟩, HB3⟩
      case round =>
        have HW2 := Aside0.mk HB2.out.size
        clear HS HB3 HB2 hz hst
        obtain ⟨i, rfl, HI, HK, HA2, HS, HB⟩ := hrel
        have h0 : 0 ≤ i := HI.out.1
        by_cases c6 : i < (a.length : Int)
        · have c81 : i < 81 := by omega
          have g1 := tabA (Kd.C_below HR.out HB.out) i h0 c6
          have g2 := tabA (Kd.C_below HR2.out HB.out) i h0 (by omega)
          obtain ⟨qa0, qa1⟩ := nines_rd NA.out h0 c81
          obtain ⟨qb0, qb1⟩ := nines_rd NB.out h0 c81
          have hv : pairI a b i = 9 * rd a i + rd b i := rfl
          obtain ⟨x, hx⟩ : ∃ x, rd a i = x := ⟨_, rfl⟩
          obtain ⟨y, hy⟩ : ∃ y, rd b i = y := ⟨_, rfl⟩
          rw [hx] at g1 qa0 qa1 hv
          rw [hy] at g2 qb0 qb1 hv
          have HV := Aside0.mk hv
          clear hv hx hy
          have hcl := HS.out.cell (9 * x + y).toNat (by omega)
          have hf := HS.out.frozen (9 * x + y).toNat
          by_cases hs : seenO (pairI a b) i (9 * x + y).toNat = true
          · rw [hs] at hcl
            have HF := Aside0.mk hs
            clear hs
            go_wp2
            go_ret
            have : onceN 81 (pairI a b) = false := by
              have h := HF.out
              unfold seenO at h
              obtain ⟨z, hz, hpz⟩ := List.any_eq_true.1 h
              have hz := List.mem_range.1 hz
              have hpz := of_decide_eq_true hpz
              exact onceN_hit z i (by omega) (by omega) c81 (by rw [hpz, HV.out]; omega)
            exact ⟨by rw [E.out, this]; rfl, HB.out⟩
          · have hs := Bool.eq_false_iff.2 hs
            rw [hs] at hcl
            have HF := Aside0.mk hs
            have HS6 := Aside0.mk (HS.out.set (9 * x + y).toNat true)
            have HB2 := Aside0.mk (HB.out.setCell (p := ⟨w2.heap.size, (9 * x + y).toNat, none⟩) HW2.out (.bool true))
            clear hs
            go_wp2
            go_roundg (81 - (i.toNat + 1))
            case measure => have := HK.out; omega
            case rel =>
              refine ⟨i + 1, rfl, ⟨by omega⟩, ⟨by omega⟩, ⟨fun u v hu huv hv => ?_⟩, ⟨HS6.out.congr (fun j hj => ?_)⟩, HB2⟩
              · by_cases e : v = i
                · subst e
                  intro hue
                  have h := HF.out
                  unfold seenO at h
                  have := List.any_eq_false.1 h u.toNat (List.mem_range.2 (by omega))
                  rw [Int.toNat_of_nonneg hu, hue, HV.out] at this
                  exact this (decide_eq_true (by omega))
                · exact HA2.out u v hu huv (by omega)
              · rw [seenO_succ _ i h0 j, HV.out]
                by_cases e : j = (9 * x + y).toNat
                · subst e; rw [if_pos rfl, decide_eq_true (by omega), Bool.or_true]
                · rw [if_neg e, decide_eq_false (by omega), Bool.or_false]
        · go_wp2
          go_ret
          have hall : onceN 81 (pairI a b) = true := onceN_iff.2 fun x y hx hxy hy => HA2.out x y hx hxy (by have := HI.out; have := HLA.out; omega)
          exact ⟨by rw [E.out, hall]; rfl, HB.out⟩

end Go.Proofs.Ytaemaloelmgblaa.X
namespace Go.Proofs.Ytaemaloelmgblaa.P
open Go.RowKit Go.Proofs.YtaemaloelmgblaaW.PrintWords Go.Proofs.YtaemaloelmgblaaW.PrintLast
def impl_SquareApart.f (l0 l1 : List Int) : Option Bool := some (X.apartB l0 l1)
theorem impl_SquareApart.calls (A0 : Option Addr) (c0 : Nat) (l0 : List Int) (A1 : Option Addr) (c1 : Nat) (l1 : List Int) (r : Bool) (w : World) (hr0 : Kd.C (Kd.int .i64) w A0 l0.length l0) (hc0 : l0.length ≤ c0) (hr1 : Kd.C (Kd.int .i64) w A1 l1.length l1) (hc1 : l1.length ≤ c1) (h : impl_SquareApart.f l0 l1 = some r) :
    Calls Try.prog 16 #[.slice A0 l0.length c0, .slice A1 l1.length c1] w fun e w' => e = .returned (.bool r) ∧ Below w.heap.size w w' := by
  obtain rfl := Option.some.inj h
  exact X.squareApart_calls A0 c0 l0 A1 c1 l1 w hr0 hr1
end Go.Proofs.Ytaemaloelmgblaa.P
