/- The law FnSpreadOf of the given program: for every input the call returns true, and each argument reads afterwards as it read before. No conditions. (Part 2 of 4; the last part holds the theorem.) -/
import Derived.Test.YtbfafjejmljcpaaMFnSpreadOf0
import Derived.Test.YtbfafjejmljcpaaWInvWords
import Derived.Test.YtbfafjejmljcpaaWMore
import Derived.Test.YtbfafjejmljcpaaWAt
import Derived.Test.YtbfafjejmljcpaaWNEv
set_option linter.unusedVariables false
set_option linter.unusedSimpArgs false
namespace Go.Proofs.Ytbfafjejmljcpaa.X
open Go.RowKit Go.Proofs.YtbfafjejmljcpaaW.PrintWords Go.Proofs.YtbfafjejmljcpaaW.PrintLast Go.Proofs.Ytbfafjejmljcpaa.P

theorem isLeaf_calls (A0 : Option Addr) (c0 : Nat) (l : List Int) (w : World) (hr : Kd.C (Kd.int .i64) w A0 l.length l) (hc : l.length ≤ c0) :
    Calls Try.prog 56 #[.slice A0 l.length c0] w fun e w' => e = .returned (.bool (leafB l)) ∧ Drawn0 w w' := by
  obtain ⟨k, hk⟩ := (implLeaf_ev l).rounds
  exact impl_isLeaf.calls k A0 c0 l _ w hr hc hk
theorem compare_calls (A0 : Option Addr) (c0 : Nat) (a : List Int) (A1 : Option Addr) (c1 : Nat) (b : List Int) (ha : a.length = 9) (hb : b.length = 9) (w : World) (hr : Kd.C (Kd.int .i64) w A0 a.length a) (hc : a.length ≤ c0) (hr1 : Kd.C (Kd.int .i64) w A1 b.length b) (hc1 : b.length ≤ c1) :
    Calls Try.prog 84 #[.slice A0 a.length c0, .slice A1 b.length c1] w fun e w' => e = .returned (.int .i64 (cmpI a b)) ∧ Drawn0 w w' := by
  obtain ⟨k, hk⟩ := (compare_ev a b ha hb).rounds
  exact slices_Compare_int_int.calls k A0 c0 a A1 c1 b _ w hr hc hr1 hc1 hk
theorem freshB_all {l : List (List Int)} {i : Int} (hl : (rd_LI l i).length = 9) (h : ∀ j : Int, 0 ≤ j → j < 9 → (decide (rd (rd_LI l i) j ≤ 0) || !seenS l i (rd (rd_LI l i) j)) = true) : freshB l i = true := by
  unfold freshB
  rw [List.all_eq_true]
  intro p hp
  obtain ⟨j, j0, j1, rfl⟩ := mem_rd hp
  exact h j j0 (by omega)
theorem freshB_hit {l : List (List Int)} {i j : Int} (hl : (rd_LI l i).length = 9) (j0 : 0 ≤ j) (j1 : j < 9) (h : (decide (rd (rd_LI l i) j ≤ 0) || !seenS l i (rd (rd_LI l i) j)) = false) : freshB l i = false := by
  cases e : freshB l i with
  | false => rfl
  | true =>
    unfold freshB at e
    have := List.all_eq_true.1 e _ (rd_mem (i := j) (by omega) j0)
    rw [h] at this; exact absurd this (by decide)
set_option maxRecDepth 100000 in
set_option maxHeartbeats 8000000 in
theorem isSpread_calls (A0 : Option Addr) (c0 : Nat) (l : List (List Int)) (w : World) (hr : Kd.C (Kd.slice 3 (Kd.int .i64)) w A0 l.length l) :
    Calls Try.prog 51 #[.slice A0 l.length c0] w fun e w' => e = .returned (.bool (spreadB l)) ∧ Below w.heap.size w w' := by
  have hz : ∀ w, Sem.run Try.prog (zeroValue 78) w = .ok (.agg (bA 81 (fun _ => false))) w := fun _ => by kernel_rfl
  have hst := fun w => arr_store (P := Try.prog) 78 81 (fun _ => false) (by kernel_rfl) w
  have HR := Aside0.mk hr
  clear hr
  by_cases hl : l.length = 10
  case neg =>
    have e : spreadB l = false := by unfold spreadB; rw [decide_eq_false hl]; rfl
    have E := Aside0.mk e
    have l1 : ((l.length : Int) == 10) = false := beq_eq_false_iff_ne.2 (by omega)
    have l2 : ((l.length : Int) != 10) = true := by rw [bne, l1]; rfl
    clear e hl
    go_enter Try.func51, Try.ntmps51
    go_wp2
    go_ret
    exact ⟨by rw [E.out]; rfl, Below.refl _ _⟩
  case pos =>
  have l1 : ((l.length : Int) == 10) = true := beq_iff_eq.2 (by omega)
  have l2 : ((l.length : Int) != 10) = false := by rw [bne, l1]; rfl
  have HL := Aside0.mk hl
  have HS := Aside0.mk (Arr.alloc w 78 81 (fun _ => false))
  have HB3 := Aside0.mk ((Below.refl w.heap.size w).alloc (Nat.le_refl _) (.cells (bA 81 (fun _ => false)) 78))
  clear hl
  go_enter Try.func51, Try.ntmps51
  go_wp2
  go_loopg [14] 10 (fun kq v14 w' => ∃ i : Int, v14 = .int .i64 i ∧ Aside0 (0 ≤ i ∧ i ≤ 10) ∧ Aside0 ((10 : Int) - i ≤ kq) ∧ Aside0 (∀ j : Int, 0 ≤ j → j < i → leafOk l j = true) ∧ Aside0 (Arr w' w.heap.size 78 81 (fun p => seenS l i (p : Int))) ∧ Aside0 (Below w.heap.size w w'))
  case atStart => exact ⟨0, rfl, ⟨by omega⟩, ⟨by omega⟩, ⟨fun x h0 h1 => by omega⟩, ⟨HS.out.congr (fun j hj => rfl)⟩, HB3⟩
  case round =>
    clear HS HB3 hz hst
    obtain ⟨i, rfl, HI, HK, HA, HS, HB⟩ := hrel
    have h0 : 0 ≤ i := HI.out.1
    by_cases c6 : i < (l.length : Int)
    case neg =>
      go_wp2
      go_ret
      have hall : spreadB l = true := spreadB_all HL.out fun j j0 j1 => HA.out j j0 (by have := HI.out; have := HL.out; omega)
      exact ⟨by rw [hall]; rfl, HB.out⟩
    case pos =>
    have c10 : i < 10 := by have := HL.out; omega
    obtain ⟨ad, A1, c1, e1, hx, hcap, hin⟩ := at_LI HR.out i h0 c6
    cases e1
    replace hx := pw_cell_below HB.out hx
    have HIN := Aside0.mk hin
    have HCAP := Aside0.mk hcap
    have hcall := isLeaf_calls A1 c1 (rd_LI l i) wr (Kd.C_below hin HB.out) hcap
    have hleaf : leafB (rd_LI l i) = false → spreadB l = false := fun h => spreadB_hit h0 c10 (by unfold leafOk; rw [h]; rfl)
    have hord : ordB l i = false → spreadB l = false := fun h => spreadB_hit h0 c10 (by unfold leafOk; rw [h, Bool.false_and, Bool.and_false])
    have HORD := Aside0.mk hord
    clear hin hcap hord
    obtain ⟨L, hL⟩ : ∃ L, rd_LI l i = L := ⟨_, rfl⟩
    have HLL := Aside0.mk hL
    rw [hL] at hcall hx HIN HCAP hleaf
    clear hL
    by_cases hlf : leafB L = true
    case neg =>
      have hlf := Bool.eq_false_iff.2 hlf
      have E := Aside0.mk (hleaf hlf)
      rw [hlf] at hcall
      have HC := Aside0.mk hcall
      clear hcall hleaf hlf
      go_wp2_with (go_at_call 56; refine HC.out.mono ?_; rintro e w' ⟨rfl, ⟨nd, rfl⟩⟩)
      go_ret
      exact ⟨by rw [E.out]; rfl, pw_below_drewN HB.out _⟩
    case pos =>
    rw [hlf] at hcall
    have HC := Aside0.mk hcall
    have HLF := Aside0.mk hlf
    clear hcall hleaf hlf
    go_upto_region 7 with (fail)
    go_cut [35] (fun v35 wc => v35 = .bool (!ordB l i) ∧ Aside0 (Drawn0 wr wc))
    case first =>
      by_cases ci : i = 0
      · subst ci
        go_wp2_with (go_at_call 56; refine HC.out.mono ?_; rintro e w' ⟨rfl, ⟨nd, rfl⟩⟩)
        go_meet
        case rel => exact ⟨rfl, ⟨⟨_, rfl⟩⟩⟩
      · have hpos : decide (0 < i) = true := decide_eq_true (by omega)
        have zw : IntKind.i64.wrap (i - 1) = i - 1 := by rw [IntKind.wrap_i64]; omega
        have i1 : (0 : Int) ≤ i - 1 := by omega
        have i2 : i - 1 < (l.length : Int) := by omega
        obtain ⟨ad2, A2, c2, e1, hx2, hcap2, hin2⟩ := at_LI HR.out (i - 1) i1 i2
        cases e1
        have hlp := (leafOk_parts (HA.out (i - 1) i1 (by omega))).1
        have ho : ordB l i = lessB (rd_LI l (i - 1)) L := by unfold ordB; rw [decide_eq_false (by omega : ¬ i ≤ 0), HLL.out]; rfl
        obtain ⟨P, hP⟩ : ∃ P, rd_LI l (i - 1) = P := ⟨_, rfl⟩
        rw [hP] at hx2 hcap2 hin2 hlp ho
        replace hx2 := pw_cell_below HB.out hx2
        rw [show (i - 1).toNat = i.toNat - 1 by omega] at hx2
        have i3 : (1 : Int) ≤ i := by omega
        have i4 : i < (l.length : Int) + 1 := by omega
        have HC2 := Aside0.mk (fun n => compare_calls A2 c2 P A1 c1 L (leafB_parts hlp).1 (leafB_parts HLF.out).1 (wr.drewN n) (Kd.C_drewN (Kd.C_below hin2 HB.out) n) hcap2 (Kd.C_drewN (Kd.C_below HIN.out HB.out) n) HCAP.out)
        have hge := cmpI_less (a := P) (b := L)
        obtain ⟨c, hc⟩ : ∃ c, cmpI P L = c := ⟨_, rfl⟩
        rw [hc] at HC2 hge
        have hge2 : decide (0 ≤ c) = !lessB P L := hge
        obtain ⟨o, hoo⟩ : ∃ o, lessB P L = o := ⟨_, rfl⟩
        rw [hoo] at hge hge2 ho
        have HOE := Aside0.mk ho
        clear hP hin2 hlp ho hc hoo hcap2 ci
        go_wp2_with (first | (go_at_call 56; refine HC.out.mono ?_; rintro e w' ⟨rfl, ⟨nd, rfl⟩⟩) | (go_at_call 84; refine (HC2.out _).mono ?_; rintro e w' ⟨rfl, ⟨nd2, rfl⟩⟩))
        go_meet
        case rel => (rw [HOE.out]; exact ⟨rfl, ⟨⟨_, by first | exact World.drewN_drewN .. | rfl⟩⟩⟩)
    case rest =>
      clear HC hx
      obtain ⟨rfl, HD⟩ := hcut
      have HBc := Aside0.mk (HB.out.trans (HD.out.below.mono HB.out.size))
      have HSc := Aside0.mk (HS.out.below HD.out.below)
      clear HD HS HB
      by_cases hord : ordB l i = true
      case neg =>
        have hord := Bool.eq_false_iff.2 hord
        have E := Aside0.mk (HORD.out hord)
        rw [hord]
        clear hord
        go_wp2
        go_ret
        exact ⟨by rw [E.out]; rfl, HBc.out⟩
      case pos =>
      have HO := Aside0.mk hord
      have HL9 := Aside0.mk (leafB_parts HLF.out).1
      rw [hord]
      clear hord HORD
      go_wp2
      go_loopg [38] 9 (fun kq v38 w' => ∃ k : Int, v38 = .int .i64 k ∧ Aside0 (0 ≤ k ∧ k ≤ 9) ∧ Aside0 ((9 : Int) - k ≤ kq) ∧ Aside0 (∀ j : Int, 0 ≤ j → j < k → (decide (rd L j ≤ 0) || !seenS l i (rd L j)) = true) ∧ Aside0 (Arr w' w.heap.size 78 81 (fun p => seenS l i (p : Int) || decide ((p : Int) ∈ L.take k.toNat))) ∧ Aside0 (Below w.heap.size w w'))
      case atStart => exact ⟨0, rfl, ⟨by omega⟩, ⟨by omega⟩, ⟨fun x h0 h1 => by omega⟩, ⟨HSc.out.congr (fun j hj => by simp)⟩, HBc⟩
      case round =>
        clear HSc HBc
        obtain ⟨k, rfl, KI, KK, KA, KS, KB⟩ := hrel
        have k0 : 0 ≤ k := KI.out.1
        by_cases c9 : k < (L.length : Int)
        case neg =>
          have hk : k = 9 := by have := KI.out; have := HL9.out; omega
          have hfr : freshB l i = true := freshB_all (by rw [HLL.out]; exact HL9.out) fun j j0 j1 => by rw [HLL.out]; exact KA.out j j0 (by omega)
          have HOK := Aside0.mk (show leafOk l i = true by unfold leafOk; rw [HLL.out, HLF.out, HO.out, hfr]; rfl)
          have HTK := Aside0.mk (show L.take k.toNat = L from List.take_of_length_le (by have := HL9.out; omega))
          have zw : IntKind.i64.wrap (i + 1) = i + 1 := by rw [IntKind.wrap_i64]; omega
          clear hfr hk
          go_wp2
          go_roundg (10 - (i.toNat + 1))
          case measure => have := HK.out; omega
          case rel =>
            refine ⟨i + 1, rfl, ⟨by omega⟩, ⟨by omega⟩, ⟨fun j j0 j1 => ?_⟩, ⟨KS.out.congr fun j hj => ?_⟩, KB⟩
            · by_cases e : j = i
              · rw [e]; exact HOK.out
              · exact HA.out j j0 (by omega)
            · rw [seenS_succ l h0, HLL.out, HTK.out]
        case pos =>
        have k9 : k < 9 := by have := HL9.out; omega
        obtain ⟨a1, e1, g1⟩ := Kd.at_int (Kd.C_below HIN.out KB.out) k k0 c9
        subst e1
        obtain ⟨p0, p1⟩ := leaf_near HLF.out k0 k9
        have hnt := leaf_take HLF.out k0 k9
        have hkey : (seenS l i ((rd L k).toNat : Int) || decide (((rd L k).toNat : Int) ∈ L.take k.toNat)) = seenS l i (rd L k) := by
          rw [Int.toNat_of_nonneg p0, decide_eq_false hnt, Bool.or_false]
        have hcl := KS.out.cell (rd L k).toNat (by omega)
        rw [hkey] at hcl
        have hf := KS.out.frozen (rd L k).toNat
        have hhit : (decide (rd L k ≤ 0) || !seenS l i (rd L k)) = false → spreadB l = false := fun h => spreadB_hit h0 c10 (by
          unfold leafOk; rw [freshB_hit (by rw [HLL.out]; exact HL9.out) k0 k9 (by rw [HLL.out]; exact h), Bool.and_false, Bool.and_false])
        have HHIT := Aside0.mk hhit
        have KS6 := Aside0.mk (KS.out.set (rd L k).toNat true)
        have KB2 := Aside0.mk (KB.out.setCell (p := ⟨w.heap.size, (rd L k).toNat, none⟩) (Nat.le_refl _) (.bool true))
        have HSET := Aside0.mk (show ∀ j : Nat, (if j = (rd L k).toNat then true else (seenS l i (j : Int) || decide ((j : Int) ∈ L.take k.toNat))) = (seenS l i (j : Int) || decide ((j : Int) ∈ L.take (k + 1).toNat)) from fun j => by
          rw [show (k + 1).toNat = k.toNat + 1 by omega, List.take_add_one, List.getElem?_eq_getElem (by omega), Option.toList_some]
          have e2 : L[k.toNat]'(by omega) = rd L k := (rd_getElem k0 c9).symm
          rw [e2]
          by_cases e : j = (rd L k).toNat
          · rw [if_pos e]
            have : (j : Int) ∈ L.take k.toNat ++ [rd L k] := by rw [List.mem_append]; right; rw [List.mem_singleton]; omega
            rw [decide_eq_true this, Bool.or_true]
          · rw [if_neg e]
            congr 1
            refine decide_eq_decide.2 ?_
            rw [List.mem_append, List.mem_singleton]
            exact ⟨fun h => .inl h, fun h => h.elim id fun h => absurd h (by omega)⟩)
        clear hhit hkey hnt
        obtain ⟨p, hp⟩ : ∃ p, rd L k = p := ⟨_, rfl⟩
        rw [hp] at g1 p0 p1 hcl hf HHIT KS6 KB2 HSET
        have HP := Aside0.mk hp
        have zw : IntKind.i64.wrap (k + 1) = k + 1 := by rw [IntKind.wrap_i64]; omega
        have p81 : p < 81 := p1
        clear hp
        by_cases hp0 : 0 < p
        case neg =>
          have d0 : decide (0 < p) = false := decide_eq_false hp0
          go_wp2
          go_roundg (9 - (k.toNat + 1))
          case measure => have := KK.out; omega
          case rel =>
            refine ⟨k + 1, rfl, ⟨by omega⟩, ⟨by omega⟩, ⟨fun j j0 j1 => ?_⟩, ⟨KS6.out.congr fun j hj => HSET.out j⟩, KB2⟩
            by_cases e : j = k
            · rw [e, HP.out, decide_eq_true (by omega : p ≤ 0)]; rfl
            · exact KA.out j j0 (by omega)
        case pos =>
          have d0 : decide (0 < p) = true := decide_eq_true hp0
          by_cases hs : seenS l i p = true
          case pos =>
            rw [hs] at hcl
            have E := Aside0.mk (HHIT.out (by rw [hs, decide_eq_false (by omega : ¬ p ≤ 0)]; rfl))
            clear hs
            go_wp2
            go_ret
            exact ⟨by rw [E.out]; rfl, KB.out⟩
          case neg =>
            have hs := Bool.eq_false_iff.2 hs
            rw [hs] at hcl
            have HF := Aside0.mk hs
            clear hs
            go_wp2
            go_roundg (9 - (k.toNat + 1))
            case measure => have := KK.out; omega
            case rel =>
              refine ⟨k + 1, rfl, ⟨by omega⟩, ⟨by omega⟩, ⟨fun j j0 j1 => ?_⟩, ⟨KS6.out.congr fun j hj => HSET.out j⟩, KB2⟩
              by_cases e : j = k
              · rw [e, HP.out, HF.out, Bool.not_false, Bool.or_true]
              · exact KA.out j j0 (by omega)
end Go.Proofs.Ytbfafjejmljcpaa.X
namespace Go.Proofs.Ytbfafjejmljcpaa.P
open Go.RowKit Go.Proofs.YtbfafjejmljcpaaW.PrintWords Go.Proofs.YtbfafjejmljcpaaW.PrintLast
def impl_isSpread.f (l0 : List (List Int)) : Option Bool := some (X.spreadB l0)
theorem impl_isSpread.calls (A0 : Option Addr) (c0 : Nat) (l0 : List (List Int)) (r : Bool) (w : World) (hr0 : Kd.C (Kd.slice 3 (Kd.int .i64)) w A0 l0.length l0) (hc0 : l0.length ≤ c0) (h : impl_isSpread.f l0 = some r) :
    Calls Try.prog 51 #[.slice A0 l0.length c0] w fun e w' => e = .returned (.bool r) ∧ Below w.heap.size w w' := by
  obtain rfl := Option.some.inj h
  exact X.isSpread_calls A0 c0 l0 w hr0
end Go.Proofs.Ytbfafjejmljcpaa.P

namespace Go.Proofs.Ytbfafjejmljcpaa.P
open Go.RowKit Go.Proofs.YtbfafjejmljcpaaW.PrintWords Go.Proofs.YtbfafjejmljcpaaW.PrintLast
set_option linter.unusedVariables false
set_option linter.unusedSimpArgs false

def impl_SpreadIn.f (l0 : List (List Int)) : Option (Bool) := (impl_isSpread.f l0).bind fun t890 => (some t890)
set_option maxHeartbeats 8000000 in
set_option maxRecDepth 100000 in
theorem impl_SpreadIn.calls (A0 : Option Addr) (c0 : Nat) (l0 : List (List Int)) (r : Bool) (w : World) (hr0 : Kd.C (Kd.slice 3 (Kd.int .i64)) w A0 l0.length l0) (hc0 : l0.length ≤ c0) (h : impl_SpreadIn.f l0 = some r) :
  Calls Try.prog 37 #[.slice A0 l0.length c0] w fun e w' => e = .returned (.bool r) ∧ Below w.heap.size w w' := by
 have HR0 := Aside0.mk hr0
 have HC0 := Aside0.mk hc0
 clear hr0 hc0
 have HB := Aside0.mk (Below.refl w.heap.size w)
 have H : ((impl_isSpread.f l0).bind fun t890 => (some t890)) = some r := h
 clear h
 replace H := Option.bind_eq_some_iff.mp H
 obtain ⟨t890, A20, H⟩ := H
 replace H : (some t890) = some r := H
 have A2 := Aside0.mk A20
 clear A20
 obtain rfl := Option.some.inj H
 go_enter Try.func37, Try.ntmps37
 go_wp2_with (first | (refine goesL_ (some 4) rfl rfl Try.func51 (by kernel_rfl) rfl #[.slice A0 l0.length c0] rfl ll_ ?_; (with_reducible refine (impl_isSpread.calls _ _ l0 t890 _ ?side1 ?side2 A2.out).mono ?_); (case side1 => exact ss_ HR0); (case side2 => exact HC0.out); rintro e w3 ⟨rfl, hb⟩; refine ⟨_, rfl, ?_⟩; have n0_ := Aside0.mk (below_step (bb_ HB) hb); clear HB; have HB := n0_; clear n0_; (try clear hb); (try clear hb2); (try clear hk); (try clear hi)))
 go_ret
 exact ⟨ee_, bb_ HB⟩
end Go.Proofs.Ytbfafjejmljcpaa.P

set_option linter.unusedVariables false
set_option linter.unusedSimpArgs false
namespace Go.Proofs.Ytbfafjejmljcpaa.P
open Go.RowKit Go.Proofs.YtbfafjejmljcpaaW.PrintWords Go.Proofs.YtbfafjejmljcpaaW.PrintLast

abbrev HH := Option Addr × Nat
def hEnc (h : HH) : Value := .slice h.1 9 h.2
def hdK : Kd HH := Kd.scalar hEnc (fun _ => rfl)
def rdH (l : List HH) (i : Int) : HH := rdOf ((none, 0) : HH) l i
theorem at_hd {w : World} {A : Option Addr} {n : Nat} {xs : List HH} (h : hdK.C w A n xs) (i : Int) (h0 : 0 ≤ i) (h1 : i < n) : ∃ ad, A = some ad ∧ w.cell? (ad.add i.toNat) = some (hEnc (rdH xs i)) :=
  ReadsOf.at_ (Kd.reads_of_C (enc := hEnc) (d := ((none, 0) : HH)) (h1 := fun _ => rfl) h) i h0 h1
theorem rdH_mem {l : List HH} {i : Int} (h0 : 0 ≤ i) (h1 : i < l.length) : rdH l i ∈ l := by
  unfold rdH rdOf
  rw [List.getD_eq_getElem?_getD, List.getElem?_eq_getElem (by omega)]
  exact List.getElem_mem _
theorem swapH_mem {l y z : List HH} {i j : Int} (i0 : 0 ≤ i) (i1 : i < l.length) (j0 : 0 ≤ j) (j1 : j < l.length) (hy : y = l.set i.toNat (rdH l j)) (hz : z = y.set j.toNat (rdH l i)) {v : HH} (hv : v ∈ z) : v ∈ l := by
  rw [hz] at hv
  rcases List.mem_or_eq_of_mem_set hv with h | h
  · rw [hy] at h
    rcases List.mem_or_eq_of_mem_set h with h | h
    · exact h
    · rw [h]; exact rdH_mem j0 j1
  · rw [h]; exact rdH_mem i0 i1
def hLess (lt : HH → HH → Bool) (a b : HH) : Option Bool := some (lt a b)
theorem hLess_eq {lt : HH → HH → Bool} {a b : HH} {v : Bool} (h : hLess lt a b = some v) : lt a b = v := Option.some.inj h
mutual
def hsL0 (lt : HH → HH → Bool) : Nat → List HH → Int → Int → Int → Option (List HH)
  | 0, _, _, _, _ => none
  | k + 1, x0, x1, x2, x6 => if x6 < x2 then (hsL1 lt k x0 x1 x2 x6 x6) else (some x0)
def hsL1 (lt : HH → HH → Bool) : Nat → List HH → Int → Int → Int → Int → Option (List HH)
  | 0, _, _, _, _, _ => none
  | k + 1, x0, x1, x2, x6, x7 => if x7 > x1 then (if 0 ≤ x7 then (if x7 < (x0.length : Int) then (if 0 ≤ (wrap64 (x7 - 1)) then (if (wrap64 (x7 - 1)) < (x0.length : Int) then ((hLess lt (rdH x0 x7) (rdH x0 (wrap64 (x7 - 1)))).bind fun t655 => (if t655 = true then (hsL1 lt k ((x0.set (x7 : Int).toNat (rdH x0 (wrap64 (x7 - 1)))).set ((wrap64 (x7 - 1)) : Int).toNat (rdH x0 x7)) x1 x2 x6 (wrap64 (x7 - 1))) else (hsL0 lt k x0 x1 x2 (wrap64 (x6 + 1))))) else (none)) else (none)) else (none)) else (none)) else (hsL0 lt k x0 x1 x2 (wrap64 (x6 + 1)))
end
section
variable {P : Program} {ops : Array Oper} {Q : Exit → Act → World → Prop}
theorem goesV_ {oi : Oper} {N : Option Tmp} {a : Act} {w : World} {K : Act → World → Prop} {f : FuncId} {fn : Func} {c : Tmp} {ar : Array Operand} {ts : Array TypeId} (hf : P.funcs[f]? = some fn) (hname : (fn.name == "runtime.NumGoroutine") = false) (hb : fn.body.isSome = true) (args : Array Value)
    (hw : Region.wanted oi (yielded ops a.tmps) = true) (hN : oi.dst = N) (hop : oi.op = .call { callee := .value (.tmp c), args := ar, argTypes := ts }) (hcl : a.tmps.getD c undef = .func (.func f) #[] #[]) (hargs : ar.map a.eval = args)
    (h : Calls P f args w fun e w' => ∃ v, e = .returned v ∧ K (a.put N v) w') : if Region.wanted oi (yielded ops a.tmps) = true then Oper.wp P oi a w K Q else K (a.put N undef) w := by
  refine call_ f args hw hN ?_ h
  have he := enters_ hf hname hb args w
  have hc : a.eval (.tmp c) = .func (.func f) #[] #[] := hcl
  unfold execOp
  simp [hop, resolve, Deferred.ofValue, invoke, hc, hargs, he]
end
def insCmp.T4 : Bool × List (List Nat × List Nat) := (true, [([], []), ([], []), ([0, 1], [0, 1]), ([2], [2]), ([3], [3]), ([3], [3]), ([3], [3]), ([5, 6, 3], [3, 5, 6]), ([7, 3], [3, 7]), ([3], [3]), ([3], [3]), ([10, 3], [3, 10]), ([9, 11, 3], [3, 9, 11]), ([12, 3], [3, 12]), ([4, 8, 13, 3, 3], [3, 4, 8, 13]), ([14, 3], [3, 14]), ([3, 15], [3, 15])])
def insCmp.B4 : List Nat := [0, 0, 3, 7, 15, 15, 15, 111, 239, 15, 15, 1039, 3599, 7695, 16383, 32767, 65535]
theorem insCmp.tab4 : rtab .any (opsOf Try.f145 4) = insCmp.T4 := by kernel_rfl
theorem insCmp.bits4 : waitsOk insCmp.T4.2 insCmp.B4 = true := by kernel_rfl
def insCmp.T6 : Bool × List (List Nat × List Nat) := (true, [([], []), ([], []), ([], []), ([], []), ([3], [3]), ([], []), ([], []), ([6], [6]), ([5, 7], [5, 7]), ([8], [8]), ([], []), ([], []), ([10, 11], [10, 11]), ([12], [12]), ([0, 1, 0, 1, 5, 6, 7, 8, 9, 13], [0, 1]), ([14, 9, 0, 1, 5, 6, 7, 8, 9, 13], [9, 14]), ([2, 4, 0, 1, 2, 3, 4, 5, 6, 7, 8, 9, 10, 11, 12, 13, 14, 15], [2, 4]), ([16, 13, 15, 0, 1, 2, 3, 4, 5, 6, 7, 8, 9, 10, 11, 12, 13, 14, 15], [13, 16])])
def insCmp.B6 : List Nat := [0, 0, 0, 0, 8, 0, 0, 64, 224, 480, 0, 0, 3072, 7168, 16355, 32739, 65535, 131071]
theorem insCmp.tab6 : rtab .any (opsOf Try.f145 6) = insCmp.T6 := by kernel_rfl
theorem insCmp.bits6 : waitsOk insCmp.T6.2 insCmp.B6 = true := by kernel_rfl
set_option maxHeartbeats 8000000 in
set_option maxRecDepth 100000 in
theorem insCmp_calls (lt : HH → HH → Bool) (k : Nat) (P0_ : Nat → Prop) (u9000_ : Value) (l0 : List HH) (a1 : Int) (a2 : Int) (r : List HH) (w0 w : World) (hB : Below w0.heap.size w0 w) (ho0 : Kd.R hdK 23 w w0.heap.size P0_ u9000_ l0)
  (HC_ : ∀ W : World, Kept w W (fun k_ => P0_ k_) → Below w0.heap.size w0 W → ∀ a b : HH, a ∈ l0 → b ∈ l0 → Calls Try.prog 84 #[hEnc a, hEnc b] W fun e w' => (∃ c : Int, e = .returned (.int .i64 c) ∧ decide (c < 0) = lt a b) ∧ Drawn0 W w') (h : hsL0 lt k l0 a1 a2 (wrap64 (a1 + 1)) = some r) :
  Calls Try.prog 145 #[u9000_, .int .i64 a1, .int .i64 a2, .func (.func 84) #[] #[]] w fun e w' => e = .returned (.tuple #[]) ∧ Kd.R hdK 23 w' w0.heap.size (fun k_ => (P0_ k_ ∨ w.heap.size ≤ k_)) u9000_ r ∧ Below w0.heap.size w0 w' ∧ Kept w w' (fun k_ => P0_ k_) := by
 have HO0 := Aside0.mk (show Kd.R hdK 23 w w0.heap.size (fun k_ => (P0_ k_ ∨ w.heap.size ≤ k_)) u9000_ l0 from Kd.R_mono ho0 (fun k_ hk => (.inl hk)))
 have HK := Aside0.mk (Kept.refl w (fun k_ => P0_ k_))
 have HW0 := Aside0.mk hB.size
 have HB := Aside0.mk hB
 clear hB
 have H : (hsL0 lt k l0 a1 a2 (wrap64 (a1 + 1))) = some r := h
 clear h
 have H' := Aside0.mk H
 clear H
 go_enter Try.func145, Try.ntmps145
 go_wp2
 go_loopg [8] k (fun kq v6 w' => ∃ (x0_1 : List HH) (x6_1 : Int), v6 = .int .i64 x6_1 ∧ Aside0 (∀ z, z ∈ x0_1 → z ∈ l0) ∧ Aside0 (hsL0 lt kq x0_1 a1 a2 x6_1 = some r) ∧ Aside0 (kq ≤ k) ∧ Aside0 (Kd.R hdK 23 w' w0.heap.size (fun k_ => (P0_ k_ ∨ w.heap.size ≤ k_)) u9000_ x0_1) ∧ Aside0 (Kept w w' (fun k_ => P0_ k_)) ∧ Aside0 (Below w0.heap.size w0 w'))
 case atStart => exact ⟨(l0), (wrap64 (a1 + 1)), (by first | rfl | (simp; done)), ⟨fun z hz => hz⟩, H', ⟨Nat.le_refl _⟩, ⟨rr_ HO0⟩, ⟨by repeat (first | (with_reducible first | exact HK.out | apply Kept.alloc | apply Kept.drewN | apply Kept.drew) | exact HK.out)⟩, ⟨by repeat (first | (with_reducible first | exact HB.out | apply below_alloc | apply pw_below_drewN | apply below_drew1) | exact HB.out)⟩⟩
 case round =>
  clear H'
  try clear c1
  try clear p2
  obtain ⟨x0_1, x6_1, rfl, HM1_, HA, HK1, HO_0, HK, HB⟩ := hrel
  cases gk with
  | zero => exact absurd HA.out (by simp [hsL0])
  | succ k1 =>
   have H := HA.out
   clear HA
   simp only [hsL0] at H
   by_cases c4 : x6_1 < a2
   ·rw [if_pos c4] at H
    have c4b0 : decide (x6_1 < a2) = true := decide_eq_true c4
    clear c4
    have H' := Aside0.mk H
    clear H
    go_wp2
    go_loopg [9] k1 (fun kq v7 w' => ∃ (x0_2 : List HH) (x7_2 : Int), v7 = .int .i64 x7_2 ∧ Aside0 (∀ z, z ∈ x0_2 → z ∈ l0) ∧ Aside0 (hsL1 lt kq x0_2 a1 a2 x6_1 x7_2 = some r) ∧ Aside0 (kq ≤ k1) ∧ Aside0 (Kd.R hdK 23 w' w0.heap.size (fun k_ => (P0_ k_ ∨ w.heap.size ≤ k_)) u9000_ x0_2) ∧ Aside0 (Kept w w' (fun k_ => P0_ k_)) ∧ Aside0 (Below w0.heap.size w0 w'))
    case atStart => exact ⟨(x0_1), (x6_1), (by first | rfl | (simp; done)), HM1_, H', ⟨Nat.le_refl _⟩, ⟨rr_ HO_0⟩, ⟨by repeat (first | (with_reducible first | exact HK.out | apply Kept.alloc | apply Kept.drewN | apply Kept.drew) | exact HK.out)⟩, ⟨by repeat (first | (with_reducible first | exact HB.out | apply below_alloc | apply pw_below_drewN | apply below_drew1) | exact HB.out)⟩⟩
    case round =>
     clear H'
     try clear c1
     try clear p2
     try clear c4
     try clear c4b0
     try clear p2
     obtain ⟨x0_2, x7_2, rfl, HM_, HA, HK2, HO_0, HK, HB⟩ := hrel
     cases gk with
     | zero => exact absurd HA.out (by simp [hsL1])
     | succ k2 =>
      have H := HA.out
      clear HA
      simp only [hsL1] at H
      by_cases c5 : x7_2 > a1
      ·rw [if_pos c5] at H
       have c5b0 : decide (a1 < x7_2) = true := decide_eq_true c5
       clear c5
       by_cases c6 : 0 ≤ x7_2
       ·rw [if_pos c6] at H
        have c6b0 : decide (0 ≤ x7_2) = true := decide_eq_true c6
        clear c6
        by_cases c7 : x7_2 < (x0_2.length : Int)
        ·rw [if_pos c7] at H
         have c7b0 : decide (x7_2 < (x0_2.length : Int)) = true := decide_eq_true c7
         clear c7
         obtain ⟨ji8, hji8⟩ : ∃ j_ : Int, (wrap64 (x7_2 - 1)) = j_ := ⟨_, rfl⟩
         replace H : (if 0 ≤ (ji8) then (if (ji8) < (x0_2.length : Int) then ((hLess lt (rdH x0_2 x7_2) (rdH x0_2 (ji8))).bind fun t691 => (if t691 = true then (hsL1 lt k2 ((x0_2.set (x7_2 : Int).toNat (rdH x0_2 (ji8))).set ((ji8) : Int).toNat (rdH x0_2 x7_2)) a1 a2 x6_1 ji8) else (hsL0 lt k2 x0_2 a1 a2 (wrap64 (x6_1 + 1))))) else (none)) else (none)) = some r := by first | (rw [hji8] at H; exact H) | (simp only [hji8] at H ⊢; exact H)
         have hji8w : (IntKind.i64.wrap (x7_2 - 1)) = ji8 := (i64_w _).trans hji8
         by_cases c9 : 0 ≤ (ji8)
         ·rw [if_pos c9] at H
          have c9b0 : decide (0 ≤ (ji8)) = true := decide_eq_true c9
          clear c9
          by_cases c10 : (ji8) < (x0_2.length : Int)
          ·rw [if_pos c10] at H
           have c10b0 : decide ((ji8) < (x0_2.length : Int)) = true := decide_eq_true c10
           clear c10
           replace H := Option.bind_eq_some_iff.mp H
           obtain ⟨t691, A110, H⟩ := H
           replace H : (if t691 = true then (hsL1 lt k2 ((x0_2.set (x7_2 : Int).toNat (rdH x0_2 (ji8))).set ((ji8) : Int).toNat (rdH x0_2 x7_2)) a1 a2 x6_1 ji8) else (hsL0 lt k2 x0_2 a1 a2 (wrap64 (x6_1 + 1)))) = some r := H
           have A11 := Aside0.mk A110
           clear A110
           by_cases c12 : t691 = true
           ·subst c12
            have H1 : (hsL1 lt k2 ((x0_2.set (x7_2 : Int).toNat (rdH x0_2 (ji8))).set ((ji8) : Int).toNat (rdH x0_2 x7_2)) a1 a2 x6_1 ji8) = some r := by rw [if_pos rfl] at H; exact H
            clear H
            have H := H1
            clear H1
            obtain ⟨y694, hy694⟩ : ∃ y_ : List HH, y_ = (x0_2.set (x7_2 : Int).toNat (rdH x0_2 (ji8))) := ⟨_, rfl⟩
            replace H : (hsL1 lt k2 (y694.set ((ji8) : Int).toNat (rdH x0_2 x7_2)) a1 a2 x6_1 ji8) = some r := by first | (rw [hy694]; with_reducible exact H) | (have H2_ := (Option.bind_some _ _).symm.trans H; rw [hy694]; with_reducible exact H2_) | (have H2_ := (Option.bind_some _ _).symm.trans H; with_reducible exact H2_) | with_reducible exact H | (rw [hy694]; exact H) | exact H
            have Ny694 := Aside0.mk hy694
            clear hy694
            obtain ⟨y695, hy695⟩ : ∃ y_ : List HH, y_ = (y694.set ((ji8) : Int).toNat (rdH x0_2 x7_2)) := ⟨_, rfl⟩
            replace H : (hsL1 lt k2 y695 a1 a2 x6_1 ji8) = some r := by first | (rw [hy695]; with_reducible exact H) | (have H2_ := (Option.bind_some _ _).symm.trans H; rw [hy695]; with_reducible exact H2_) | (have H2_ := (Option.bind_some _ _).symm.trans H; with_reducible exact H2_) | with_reducible exact H | (rw [hy695]; exact H) | exact H
            have Ny695 := Aside0.mk hy695
            clear hy695
            have H' := Aside0.mk H
            clear H
            try go_wp2
            have n0_ := Aside0.mk (Kd.R_drew HO_0.out)
            have n1_ := Aside0.mk (Kept.drew HK.out)
            have n2_ := Aside0.mk (below_drew1 HB.out)
            clear HO_0
            clear HK
            clear HB
            have HO_0 := n0_
            have HK := n1_
            have HB := n2_
            clear n0_ n1_ n2_
            obtain ⟨Ao16, co16, eo16⟩ := Kd.R_slice HO_0.out
            (first | subst eo16 | (injection eo16 with f1_ f2_ f3_; have f4_ := f1_.symm; have f5_ := f3_.symm; clear f1_ f2_ f3_; subst f4_; subst f5_))
            have p689 : 0 ≤ (x7_2 : Int) := dd_
            have q689 : x7_2 < (x0_2.length : Int) := dd_
            obtain ⟨ad689, e689, hx689_0⟩ := at_hd (Kd.R_reads' HO_0.out).2.2 x7_2 p689 q689
            cases e689
            replace p689 := eq_true p689
            replace q689 := eq_true q689
            have p690 : 0 ≤ ((ji8) : Int) := dd_
            have q690 : (ji8) < (x0_2.length : Int) := dd_
            obtain ⟨ad690, e690, hx690_0⟩ := at_hd (Kd.R_reads' HO_0.out).2.2 (ji8) p690 q690
            obtain rfl : ad689 = ad690 := (by injection e690)
            replace p690 := eq_true p690
            replace q690 := eq_true q690
            refine start_ (n := 17) (S := fun w' => w'.cell? (ad689.add (x7_2).toNat) = some (hEnc (rdH x0_2 x7_2)) ∧ w'.cell? (ad689.add ((ji8)).toNat) = some (hEnc (rdH x0_2 (ji8)))) (ds := []) #[F_,F_,F_,F_,F_,F_,F_,F_,F_,F_,F_,F_,F_,F_,F_,F_,F_] (by kernel_rfl) rfl rfl ⟨hx689_0, hx690_0⟩ (fun hHeld => ?_); refine with_tabW insCmp.tab4 insCmp.bits4 (fun HT_ HW_ => ?_)
            generalize wr.drew = w15 at HO_0 HK HB hx689_0 hx690_0 hHeld ⊢
            refine p_ 0 18 (m_ 17 1) HT_.out ?_
            refine p_ 1 19 (m_ 17 3) HT_.out ?_
            refine p_ 2 20 (m_ 17 7) HT_.out ?_
            refine p_ 3 21 (m_ 17 15) HT_.out ?_
            refine p_ 4 22 (m_ 17 31) HT_.out ?_
            refine p_ 5 23 (m_ 17 63) HT_.out ?_
            refine p_ 6 24 (m_ 17 127) HT_.out ?_
            refine p_ 7 25 (m_ 17 255) HT_.out ?_
            refine p_ 9 27 (m_ 17 767) HT_.out ?_
            refine p_ 10 28 (m_ 17 1791) HT_.out ?_
            refine p_ 11 29 (m_ 17 3839) HT_.out ?_
            refine p_ 12 30 (m_ 17 7935) HT_.out ?_
            refine t2_ 8 26 (m_ 17 8191) HT_.out HW_.out hHeld ?_
            refine t2_ 13 31 (m_ 17 16383) HT_.out HW_.out hHeld ?_
            refine one_ (i := 14) (N := some 32) (m_ 17 32767) rfl rfl (one_of HT_.out (by kernel_rfl)) (by decide) (fun K hK => ?_)
            refine goesV_ Try.func84 (by kernel_rfl) rfl #[hEnc (rdH x0_2 x7_2), hEnc (rdH x0_2 (ji8))] (by rfl) rfl rfl rfl (by (try simp only [List.map_toArray, List.map_cons, List.map_nil]); first | done | (simp only [hji8]; rfl) | rfl) ?_
            refine (HC_ _ HK.out HB.out (rdH x0_2 x7_2) (rdH x0_2 (ji8)) (HM_.out _ (rdH_mem (of_eq_true p689) (of_eq_true q689))) (HM_.out _ (rdH_mem (of_eq_true p690) (of_eq_true q690)))).mono ?_
            rintro e w' ⟨⟨cc, rfl, hcc⟩, ⟨nd, rfl⟩⟩
            rw [hLess_eq A11.out] at hcc
            refine ⟨_, rfl, ?_⟩
            refine hK.out _ _ ⟨hHeld.1, hHeld.2⟩ (fun hHeld => ?_)
            clear hK K
            refine norm_ (a' := ?_) ?_ ?_; rotate_left; (show Act.put _ (some 32) _ = _; simp only [Act.put, List.setIfInBounds_toArray, List.set_cons_zero, List.set_cons_succ, i64_w, i32_w]; rfl)
            refine p_ 15 33 (m_ 17 65535) HT_.out ?_
            refine p_ 16 34 (m_ 17 131071) HT_.out ?_
            refine done_ (done_of HT_.out (by kernel_rfl)) ?_
            try go_wp2
            (try (rw [dself_ w15]; generalize hq_ : World.drewN w15 _ = w15; have n0_ : Aside0 (Kd.R hdK 23 w15 w0.heap.size (fun k_ => (P0_ k_ ∨ w.heap.size ≤ k_)) (.slice (some ad689) x0_2.length co16) x0_2) := ⟨by rw [← hq_]; exact (rr_ HO_0)⟩; have n1_ : Aside0 (Kept w w15 (fun k_ => P0_ k_)) := ⟨by rw [← hq_]; exact (by repeat (first | (with_reducible first | exact HK.out | apply Kept.alloc | apply Kept.drewN | apply Kept.drew) | exact HK.out))⟩; have n2_ : Aside0 (Below w0.heap.size w0 w15) := ⟨by rw [← hq_]; exact (bb_ HB)⟩; clear HO_0 HK HB hq_; have HO_0 := n0_; have HK := n1_; have HB := n2_; clear n0_ n1_ n2_))
            have n0_ := Aside0.mk (Kd.R_drew HO_0.out)
            have n1_ := Aside0.mk (Kept.drew HK.out)
            have n2_ := Aside0.mk (below_drew1 HB.out)
            clear HO_0
            clear HK
            clear HB
            have HO_0 := n0_
            have HK := n1_
            have HB := n2_
            clear n0_ n1_ n2_
            have p692 : 0 ≤ ((ji8) : Int) := dd_
            have q692 : (ji8) < (x0_2.length : Int) := dd_
            obtain ⟨ad692, e692, hx692_0⟩ := at_hd (Kd.R_reads' HO_0.out).2.2 (ji8) p692 q692
            obtain rfl : ad689 = ad692 := (by injection e692)
            replace p692 := eq_true p692
            replace q692 := eq_true q692
            have p693 : 0 ≤ (x7_2 : Int) := dd_
            have q693 : x7_2 < (x0_2.length : Int) := dd_
            obtain ⟨ad693, e693, hx693_0⟩ := at_hd (Kd.R_reads' HO_0.out).2.2 x7_2 p693 q693
            obtain rfl : ad689 = ad693 := (by injection e693)
            replace p693 := eq_true p693
            replace q693 := eq_true q693
            have p13 : 0 ≤ (x7_2 : Int) := dd_
            have q13 : (x7_2 : Int) < ((x0_2.length : Int) : Int) := dd_
            obtain ⟨go13, co13, eo13, gb13, gl13, cl13, HG13⟩ := Kd.R_form HO_0.out (by omega)
            (first | cases eo13 | (injection eo13 with ea_ en_ ec_; (first | subst ea_ | (injection ea_ with ea_; subst ea_)); subst ec_; clear en_))
            have GB13 := Aside0.mk gb13
            have GG13 := Aside0.mk HG13
            clear gb13 gl13 HG13
            have HMgo13 := Aside0.mk (show (P0_ go13 ∨ w.heap.size ≤ go13) from (HO_0.out.1 _ rfl))
            (first | simp only [add_plain] at hx689_0 | skip)
            (first | simp only [add_plain] at hx690_0 | skip)
            (first | simp only [add_plain] at hx692_0 | skip)
            (first | simp only [add_plain] at hx693_0 | skip)
            obtain ⟨hx13_0, hf13_0⟩ := Kd.R_celln ((none, 0) : HH) HO_0.out (x7_2 : Int) p13 q13
            replace p13 := eq_true p13
            replace q13 := eq_true q13
            have HP18 := Kd.R_putn HO_0.out (x7_2 : Int) (rdH x0_2 (ji8))
            rw [← Ny694.out] at HP18
            have HQ18 := Aside0.mk HP18
            clear HP18
            have p14 : 0 ≤ ((ji8) : Int) := dd_
            have q14 : ((ji8) : Int) < ((x0_2.length : Int) : Int) := dd_
            obtain ⟨hx14_0, hf14_0⟩ := Kd.R_celln ((none, 0) : HH) HQ18.out ((ji8) : Int) p14 q14
            replace p14 := eq_true p14
            replace q14 := eq_true q14
            have HP19 := Kd.R_putn HQ18.out ((ji8) : Int) (rdH x0_2 x7_2)
            rw [← Ny695.out] at HP19
            have HQ19 := Aside0.mk HP19
            clear HP19
            refine start_ (n := 18) (S := fun w' => w'.cell? ⟨go13, ((ji8)).toNat, none⟩ = some (hEnc (rdH x0_2 (ji8))) ∧ w'.cell? ⟨go13, (x7_2).toNat, none⟩ = some (hEnc (rdH x0_2 x7_2))) (ds := [15, 17]) #[F_,F_,F_,F_,F_,F_,F_,F_,F_,F_,F_,F_,F_,F_,F_,F_,F_,F_] (by kernel_rfl) rfl rfl ⟨hx692_0, hx693_0⟩ (fun hHeld => ?_); refine with_tabW insCmp.tab6 insCmp.bits6 (fun HT_ HW_ => ?_)
            generalize w15.drew = w17 at HO_0 HK HB GG13 HQ18 HQ19 hf13_0 hf14_0 hx13_0 hx14_0 hx689_0 hx690_0 hx692_0 hx693_0 hHeld ⊢
            refine p_ 0 37 (m_ 18 1) HT_.out ?_
            refine p_ 1 38 (m_ 18 3) HT_.out ?_
            refine p_ 2 39 (m_ 18 7) HT_.out ?_
            refine p_ 3 40 (m_ 18 15) HT_.out ?_
            refine p_ 4 41 (m_ 18 31) HT_.out ?_
            refine p_ 5 42 (m_ 18 63) HT_.out ?_
            refine p_ 6 43 (m_ 18 127) HT_.out ?_
            refine p_ 7 44 (m_ 18 255) HT_.out ?_
            refine p_ 8 45 (m_ 18 511) HT_.out ?_
            refine p_ 10 47 (m_ 18 1535) HT_.out ?_
            refine p_ 11 48 (m_ 18 3583) HT_.out ?_
            refine p_ 12 49 (m_ 18 7679) HT_.out ?_
            refine t2_ 9 46 (m_ 18 8191) HT_.out HW_.out hHeld ?_
            refine t2_ 13 50 (m_ 18 16383) HT_.out HW_.out hHeld ?_
            refine p_ 14 51 (m_ 18 32767) HT_.out ?_
            refine last_ (i := 15) (N := none) (m_ 18 65535) rfl rfl (one_of HT_.out (by kernel_rfl)) (by decide) (fun K hK => ?_)
            refine skip_ (w1 := ?_) (by rfl) rfl ?_ ?_; rotate_left; (go_simp; (try simp only [hEnc]); (try go_simp); rfl)
            refine hK.out _ _ ?_
            clear hK K
            refine p_ 16 52 (m_ 18 131071) HT_.out ?_
            refine last_ (i := 17) (N := none) (m_ 18 262143) rfl rfl (one_of HT_.out (by kernel_rfl)) (by decide) (fun K hK => ?_)
            refine skip_ (w1 := ?_) (by rfl) rfl ?_ ?_; rotate_left; (have hxu_ := hx14_0; have hfu_ := hf14_0; (try simp only [hEnc] at hxu_); (try simp only [hEnc] at hfu_); go_simp; (try simp only [hEnc]); (try go_simp); rfl)
            refine hK.out _ _ ?_
            clear hK K
            refine done_ (done_of HT_.out (by kernel_rfl)) ?_
            try go_wp2
            go_roundg k2
            case measure => have := HK1.out; have := HK2.out; omega
            case rel => exact ⟨(y695), (ji8), (by first | rfl | (simp only [← hji8] <;> (first | rfl | simp))), ⟨fun z hz => HM_.out z (swapH_mem (of_eq_true p13) (of_eq_true q13) (of_eq_true p14) (of_eq_true q14) Ny694.out Ny695.out hz)⟩, H', ⟨by have := HK1.out; have := HK2.out; omega⟩, ⟨rr_ HQ19⟩, ⟨by repeat (first | (with_reducible first | exact HK.out | apply Kept.alloc | apply Kept.drewN | apply Kept.drew | refine Kept.setCell ?_ HMgo13.out _ | refine Kept.setCell ?_ HMgo13.out _) | exact HK.out)⟩, ⟨by repeat (first | (with_reducible first | exact HB.out | apply below_alloc | apply pw_below_drewN | apply below_drew1 | refine below_set ?_ GB13.out | refine below_set ?_ GB13.out) | exact HB.out)⟩⟩
           ·replace c12 := Bool.eq_false_iff.mpr c12
            subst c12
            have H1 : (hsL0 lt k2 x0_2 a1 a2 (wrap64 (x6_1 + 1))) = some r := by rw [if_neg (show ¬ (false = true) by decide)] at H; exact H
            clear H
            have H := H1
            clear H1
            have H' := Aside0.mk H
            clear H
            try go_wp2
            have n0_ := Aside0.mk (Kd.R_drew HO_0.out)
            have n1_ := Aside0.mk (Kept.drew HK.out)
            have n2_ := Aside0.mk (below_drew1 HB.out)
            clear HO_0
            clear HK
            clear HB
            have HO_0 := n0_
            have HK := n1_
            have HB := n2_
            clear n0_ n1_ n2_
            obtain ⟨Ao21, co21, eo21⟩ := Kd.R_slice HO_0.out
            (first | subst eo21 | (injection eo21 with f1_ f2_ f3_; have f4_ := f1_.symm; have f5_ := f3_.symm; clear f1_ f2_ f3_; subst f4_; subst f5_))
            have p689 : 0 ≤ (x7_2 : Int) := dd_
            have q689 : x7_2 < (x0_2.length : Int) := dd_
            obtain ⟨ad689, e689, hx689_0⟩ := at_hd (Kd.R_reads' HO_0.out).2.2 x7_2 p689 q689
            cases e689
            replace p689 := eq_true p689
            replace q689 := eq_true q689
            have p690 : 0 ≤ ((ji8) : Int) := dd_
            have q690 : (ji8) < (x0_2.length : Int) := dd_
            obtain ⟨ad690, e690, hx690_0⟩ := at_hd (Kd.R_reads' HO_0.out).2.2 (ji8) p690 q690
            obtain rfl : ad689 = ad690 := (by injection e690)
            replace p690 := eq_true p690
            replace q690 := eq_true q690
            refine start_ (n := 17) (S := fun w' => w'.cell? (ad689.add (x7_2).toNat) = some (hEnc (rdH x0_2 x7_2)) ∧ w'.cell? (ad689.add ((ji8)).toNat) = some (hEnc (rdH x0_2 (ji8)))) (ds := []) #[F_,F_,F_,F_,F_,F_,F_,F_,F_,F_,F_,F_,F_,F_,F_,F_,F_] (by kernel_rfl) rfl rfl ⟨hx689_0, hx690_0⟩ (fun hHeld => ?_); refine with_tabW insCmp.tab4 insCmp.bits4 (fun HT_ HW_ => ?_)
            generalize wr.drew = w20 at HO_0 HK HB hx689_0 hx690_0 hHeld ⊢
            refine p_ 0 18 (m_ 17 1) HT_.out ?_
            refine p_ 1 19 (m_ 17 3) HT_.out ?_
            refine p_ 2 20 (m_ 17 7) HT_.out ?_
            refine p_ 3 21 (m_ 17 15) HT_.out ?_
            refine p_ 4 22 (m_ 17 31) HT_.out ?_
            refine p_ 5 23 (m_ 17 63) HT_.out ?_
            refine p_ 6 24 (m_ 17 127) HT_.out ?_
            refine p_ 7 25 (m_ 17 255) HT_.out ?_
            refine p_ 9 27 (m_ 17 767) HT_.out ?_
            refine p_ 10 28 (m_ 17 1791) HT_.out ?_
            refine p_ 11 29 (m_ 17 3839) HT_.out ?_
            refine p_ 12 30 (m_ 17 7935) HT_.out ?_
            refine t2_ 8 26 (m_ 17 8191) HT_.out HW_.out hHeld ?_
            refine t2_ 13 31 (m_ 17 16383) HT_.out HW_.out hHeld ?_
            refine one_ (i := 14) (N := some 32) (m_ 17 32767) rfl rfl (one_of HT_.out (by kernel_rfl)) (by decide) (fun K hK => ?_)
            refine goesV_ Try.func84 (by kernel_rfl) rfl #[hEnc (rdH x0_2 x7_2), hEnc (rdH x0_2 (ji8))] (by rfl) rfl rfl rfl (by (try simp only [List.map_toArray, List.map_cons, List.map_nil]); first | done | (simp only [hji8]; rfl) | rfl) ?_
            refine (HC_ _ HK.out HB.out (rdH x0_2 x7_2) (rdH x0_2 (ji8)) (HM_.out _ (rdH_mem (of_eq_true p689) (of_eq_true q689))) (HM_.out _ (rdH_mem (of_eq_true p690) (of_eq_true q690)))).mono ?_
            rintro e w' ⟨⟨cc, rfl, hcc⟩, ⟨nd, rfl⟩⟩
            rw [hLess_eq A11.out] at hcc
            refine ⟨_, rfl, ?_⟩
            refine hK.out _ _ ⟨hHeld.1, hHeld.2⟩ (fun hHeld => ?_)
            clear hK K
            refine norm_ (a' := ?_) ?_ ?_; rotate_left; (show Act.put _ (some 32) _ = _; simp only [Act.put, List.setIfInBounds_toArray, List.set_cons_zero, List.set_cons_succ, i64_w, i32_w]; rfl)
            refine p_ 15 33 (m_ 17 65535) HT_.out ?_
            refine p_ 16 34 (m_ 17 131071) HT_.out ?_
            refine done_ (done_of HT_.out (by kernel_rfl)) ?_
            try go_wp2
            go_roundg k2
            case measure => have := HK1.out; have := HK2.out; omega
            case rel => exact ⟨(x0_2), (wrap64 (x6_1 + 1)), (by first | rfl | (simp; done)), HM_, H', ⟨by have := HK1.out; have := HK2.out; omega⟩, ⟨rr_ HO_0⟩, ⟨by repeat (first | (with_reducible first | exact HK.out | apply Kept.alloc | apply Kept.drewN | apply Kept.drew) | exact HK.out)⟩, ⟨by repeat (first | (with_reducible first | exact HB.out | apply below_alloc | apply pw_below_drewN | apply below_drew1) | exact HB.out)⟩⟩
          ·rw [if_neg c10] at H
           exact absurd H (by simp)
         ·rw [if_neg c9] at H
          exact absurd H (by simp)
        ·rw [if_neg c7] at H
         exact absurd H (by simp)
       ·rw [if_neg c6] at H
        exact absurd H (by simp)
      ·rw [if_neg c5] at H
       have c5b0 : decide (a1 < x7_2) = false := decide_eq_false c5
       clear c5
       have H' := Aside0.mk H
       clear H
       try go_wp2
       have n0_ := Aside0.mk (Kd.R_drew HO_0.out)
       have n1_ := Aside0.mk (Kept.drew HK.out)
       have n2_ := Aside0.mk (below_drew1 HB.out)
       clear HO_0
       clear HK
       clear HB
       have HO_0 := n0_
       have HK := n1_
       have HB := n2_
       clear n0_ n1_ n2_
       refine start_ (n := 17) (S := fun w' => True) (ds := []) #[F_,F_,F_,F_,F_,F_,F_,F_,F_,F_,F_,F_,F_,F_,F_,F_,F_] (by kernel_rfl) rfl rfl trivial (fun hHeld => ?_); refine with_tabW insCmp.tab4 insCmp.bits4 (fun HT_ HW_ => ?_)
       generalize wr.drew = w22 at HO_0 HK HB hHeld ⊢
       refine p_ 0 18 (m_ 17 1) HT_.out ?_
       refine p_ 1 19 (m_ 17 3) HT_.out ?_
       refine p_ 2 20 (m_ 17 7) HT_.out ?_
       refine p_ 3 21 (m_ 17 15) HT_.out ?_
       refine u_ 4 22 (m_ 17 31) HT_.out ?_
       refine u_ 5 23 (m_ 17 63) HT_.out ?_
       refine u_ 6 24 (m_ 17 127) HT_.out ?_
       refine u_ 7 25 (m_ 17 255) HT_.out ?_
       refine u_ 8 26 (m_ 17 511) HT_.out ?_
       refine u_ 9 27 (m_ 17 1023) HT_.out ?_
       refine u_ 10 28 (m_ 17 2047) HT_.out ?_
       refine u_ 11 29 (m_ 17 4095) HT_.out ?_
       refine u_ 12 30 (m_ 17 8191) HT_.out ?_
       refine u_ 13 31 (m_ 17 16383) HT_.out ?_
       refine u_ 14 32 (m_ 17 32767) HT_.out ?_
       refine u_ 15 33 (m_ 17 65535) HT_.out ?_
       refine p_ 16 34 (m_ 17 131071) HT_.out ?_
       refine done_ (done_of HT_.out (by kernel_rfl)) ?_
       try go_wp2
       go_roundg k2
       case measure => have := HK1.out; have := HK2.out; omega
       case rel => exact ⟨(x0_2), (wrap64 (x6_1 + 1)), (by first | rfl | (simp; done)), HM_, H', ⟨by have := HK1.out; have := HK2.out; omega⟩, ⟨rr_ HO_0⟩, ⟨by repeat (first | (with_reducible first | exact HK.out | apply Kept.alloc | apply Kept.drewN | apply Kept.drew) | exact HK.out)⟩, ⟨by repeat (first | (with_reducible first | exact HB.out | apply below_alloc | apply pw_below_drewN | apply below_drew1) | exact HB.out)⟩⟩
   ·rw [if_neg c4] at H
    have c4b0 : decide (x6_1 < a2) = false := decide_eq_false c4
    clear c4
    obtain rfl := Option.some.inj H
    go_wp2
    first | go_end0 | ((try simp only [Exit.inBlock, Exit.then]); refine bodyPost_ret (results_none rfl _ _ _) rfl ?_)
    exact ⟨ee_, by (with_reducible repeat (first | apply Kd.R_alloc | apply Kd.R_drewN | apply Kd.R_drew)); exact HO_0.out, bb_ HB, by repeat (first | (with_reducible first | exact HK.out | apply Kept.alloc | apply Kept.drewN | apply Kept.drew) | exact HK.out)⟩
end Go.Proofs.Ytbfafjejmljcpaa.P

set_option linter.unusedVariables false
set_option linter.unusedSimpArgs false
namespace Go.Proofs.Ytbfafjejmljcpaa.P
open Go.RowKit Go.Proofs.YtbfafjejmljcpaaW.PrintWords Go.Proofs.YtbfafjejmljcpaaW.PrintLast

def bits_Len64.f (a0 : Int) : Option Int := if a0 = 9 then some 4 else none
set_option maxHeartbeats 4000000 in
set_option maxRecDepth 100000 in
theorem bits_Len64.calls (a0 : Int) (r : Int) (w : World) (h : bits_Len64.f a0 = some r) :
    Calls Try.prog 138 #[.int .u64 a0] w fun e w' => e = .returned (.int .i64 r) ∧ Drawn0 w w' := by
  unfold bits_Len64.f at h
  by_cases hc : a0 = 9
  case neg => rw [if_neg hc] at h; exact absurd h (by simp)
  rw [if_pos hc] at h
  obtain rfl := Option.some.inj h
  subst hc
  clear h
  go_enter Try.func138, Try.ntmps138
  go_wp2
  go_ret
  exact ⟨by kernel_rfl, Drawn0.refl _⟩
end Go.Proofs.Ytbfafjejmljcpaa.P

namespace Go.Proofs.Ytbfafjejmljcpaa.P
open Go.RowKit Go.Proofs.YtbfafjejmljcpaaW.PrintWords Go.Proofs.YtbfafjejmljcpaaW.PrintLast
set_option linter.unusedVariables false
set_option linter.unusedSimpArgs false

def bits_Len.f (a0 : Int) : Option (Int) := (bits_Len64.f a0).bind fun t719 => (some t719)
set_option maxHeartbeats 8000000 in
set_option maxRecDepth 100000 in
theorem bits_Len.calls (a0 : Int) (r : Int) (w : World) (h : bits_Len.f a0 = some r) :
  Calls Try.prog 99 #[.int .u64 a0] w fun e w' => e = .returned (.int .i64 r) ∧ Drawn0 w w' := by
 have H : ((bits_Len64.f a0).bind fun t719 => (some t719)) = some r := h
 clear h
 replace H := Option.bind_eq_some_iff.mp H
 obtain ⟨t719, A20, H⟩ := H
 replace H : (some t719) = some r := H
 have A2 := Aside0.mk A20
 clear A20
 obtain rfl := Option.some.inj H
 go_enter Try.func99, Try.ntmps99
 go_wp2_with (first | (refine goesL_ (some 7) rfl rfl Try.func138 (by kernel_rfl) rfl #[.int .u64 a0] rfl ll_ ?_; (with_reducible refine (bits_Len64.calls a0 t719 _ A2.out).mono ?_); rintro e w' ⟨rfl, ⟨nd, rfl⟩⟩; refine ⟨_, rfl, ?_⟩))
 go_ret
 exact ⟨by first | rfl | (simp; done) | (simp [*]; done), by repeat (first | exact Drawn0.refl _ | apply Drawn0.step)⟩
end Go.Proofs.Ytbfafjejmljcpaa.P

set_option linter.unusedVariables false
set_option linter.unusedSimpArgs false
namespace Go.Proofs.Ytbfafjejmljcpaa.P
open Go.RowKit Go.Proofs.YtbfafjejmljcpaaW.PrintWords Go.Proofs.YtbfafjejmljcpaaW.PrintLast

abbrev HCmp (lt : HH → HH → Bool) (P0_ : Nat → Prop) (l0 : List HH) (w0 w : World) : Prop :=
  ∀ W : World, Kept w W (fun k_ => P0_ k_) → Below w0.heap.size w0 W → ∀ a b : HH, a ∈ l0 → b ∈ l0 → Calls Try.prog 84 #[hEnc a, hEnc b] W fun e w' => (∃ c : Int, e = .returned (.int .i64 c) ∧ decide (c < 0) = lt a b) ∧ Drawn0 W w'
set_option maxHeartbeats 4000000 in
set_option maxRecDepth 100000 in
theorem pdqCmp_calls (lt : HH → HH → Bool) (k : Nat) (P0_ : Nat → Prop) (u9000_ : Value) (l0 : List HH) (a1 a2 a3 : Int) (r : List HH) (w0 w : World) (hB : Below w0.heap.size w0 w) (ho0 : Kd.R hdK 23 w w0.heap.size P0_ u9000_ l0) (HC_ : HCmp lt P0_ l0 w0 w)
    (h0 : 0 ≤ a1) (h1 : a1 ≤ a2) (h2 : a2 ≤ 4611686018427387904) (h3 : a2 - a1 ≤ 12) (h : hsL0 lt k l0 a1 a2 (wrap64 (a1 + 1)) = some r) :
    Calls Try.prog 118 #[u9000_, .int .i64 a1, .int .i64 a2, .int .i64 a3, .func (.func 84) #[] #[]] w fun e w' => e = .returned (.tuple #[]) ∧ Kd.R hdK 23 w' w0.heap.size (fun k_ => (P0_ k_ ∨ w.heap.size ≤ k_)) u9000_ r ∧ Below w0.heap.size w0 w' ∧ Kept w w' (fun k_ => P0_ k_) := by
  have HS := Aside0.mk (insCmp_calls lt k P0_ u9000_ l0 a1 a2 r w0 w hB ho0 HC_ h)
  clear hB ho0 h HC_
  go_enter Try.func118, Try.ntmps118
  go_wp2
  go_loopg [1, 2, 3] 1 (fun kq v1 v2 v3 w' => v1 = .int .i64 a1 ∧ v2 = .int .i64 a2 ∧ v3 = .int .i64 a3 ∧ Aside0 (w' = w))
  case atStart => exact ⟨rfl, rfl, rfl, ⟨rfl⟩⟩
  case round =>
    obtain ⟨rfl, rfl, rfl, HW⟩ := hrel
    have hw := HW.out
    subst hw
    have e12 : wrap64 (a2 - a1) = a2 - a1 := by unfold wrap64; omega
    have c12 : decide (a2 - a1 ≤ 12) = true := decide_eq_true h3
    go_wp2_with (go_at_call 145; refine HS.out.mono ?_; rintro e w' ⟨rfl, hr', hb', hk'⟩)
    first | go_end0 | ((try simp only [Exit.inBlock, Exit.then]); refine bodyPost_ret (results_none rfl _ _ _) rfl ?_)
    exact ⟨rfl, hr', hb', hk'⟩
end Go.Proofs.Ytbfafjejmljcpaa.P

namespace Go.Proofs.Ytbfafjejmljcpaa.P
open Go.RowKit Go.Proofs.YtbfafjejmljcpaaW.PrintWords Go.Proofs.YtbfafjejmljcpaaW.PrintLast
set_option linter.unusedVariables false
set_option linter.unusedSimpArgs false

def spec_l1In.f (a0 : Int) : Option (Bool) := (spec_l6In.f a0 0 8).bind fun t143 => (some t143)
set_option maxHeartbeats 8000000 in
set_option maxRecDepth 100000 in
theorem spec_l1In.calls (a0 : Int) (r : Bool) (w : World) (h : spec_l1In.f a0 = some r) :
  Calls Try.prog 139 #[.int .i64 a0] w fun e w' => e = .returned (.bool r) ∧ Drawn0 w w' := by
 have H : ((spec_l6In.f a0 0 8).bind fun t143 => (some t143)) = some r := h
 clear h
 replace H := Option.bind_eq_some_iff.mp H
 obtain ⟨t143, A20, H⟩ := H
 replace H : (some t143) = some r := H
 have A2 := Aside0.mk A20
 clear A20
 obtain rfl := Option.some.inj H
 go_enter Try.func139, Try.ntmps139
 go_wp2_with (first | (refine goesL_ (some 4) rfl rfl Try.func57 (by kernel_rfl) rfl #[.int .i64 a0, .int .i64 0, .int .i64 8] rfl ll_ ?_; (with_reducible refine (spec_l6In.calls a0 0 8 t143 _ A2.out).mono ?_); rintro e w' ⟨rfl, ⟨nd, rfl⟩⟩; refine ⟨_, rfl, ?_⟩))
 go_ret
 exact ⟨by first | rfl | (simp; done) | (simp [*]; done), by repeat (first | exact Drawn0.refl _ | apply Drawn0.step)⟩
end Go.Proofs.Ytbfafjejmljcpaa.P

namespace Go.Proofs.Ytbfafjejmljcpaa.P
open Go.RowKit Go.Proofs.YtbfafjejmljcpaaW.PrintWords Go.Proofs.YtbfafjejmljcpaaW.PrintLast
set_option linter.unusedVariables false
set_option linter.unusedSimpArgs false

def spec_l2Table.l0 : Nat → List Int → Int → Option (Bool)
 | 0, _, _ => none
 | k + 1, x0, x3 => if x3 < (x0.length : Int) then (if 0 ≤ x3 then ((spec_l1In.f (rd x0 x3)).bind fun t145 => (if t145 = true then (spec_l2Table.l0 k x0 (wrap64 (x3 + 1))) else (some false))) else (none)) else (some ((x0.length : Int) == 81))
def spec_l2Table.f (k : Nat) (l0 : List Int) : Option (Bool) := spec_l2Table.l0 k l0 0
set_option maxHeartbeats 8000000 in
set_option maxRecDepth 100000 in
theorem spec_l2Table.calls (k : Nat) (A0 : Option Addr) (c0 : Nat) (l0 : List Int) (r : Bool) (w : World) (hr0 : Kd.C (Kd.int .i64) w A0 l0.length l0) (hc0 : l0.length ≤ c0) (h : spec_l2Table.f k l0 = some r) :
  Calls Try.prog 100 #[.slice A0 l0.length c0] w fun e w' => e = .returned (.bool r) ∧ Drawn0 w w' := by
 have HR0 := Aside0.mk hr0
 have HC0 := Aside0.mk hc0
 clear hr0 hc0
 have H : (spec_l2Table.l0 k l0 0) = some r := h
 clear h
 have H' := Aside0.mk H
 clear H
 go_enter Try.func100, Try.ntmps100
 go_wp2
 go_loopg [3] k (fun kq v3 w' => ∃ (x3_1 : Int), v3 = .int .i64 x3_1 ∧ Aside0 (spec_l2Table.l0 kq l0 x3_1 = some r) ∧ Aside0 (kq ≤ k) ∧ Drawn0 w w')
 case atStart => exact ⟨(0), (by first | rfl | (simp; done) | (simp [*]; done)), H', ⟨Nat.le_refl _⟩, by repeat (first | exact Drawn0.refl _ | apply Drawn0.step)⟩
 case round =>
  clear H'
  try clear c1
  obtain ⟨x3_1, rfl, HA, HK1, ⟨m1, rfl⟩⟩ := hrel
  cases gk with
  | zero => exact absurd HA.out (by simp [spec_l2Table.l0])
  | succ k1 =>
   have H := HA.out
   clear HA
   simp only [spec_l2Table.l0] at H
   by_cases c2 : x3_1 < (l0.length : Int)
   ·rw [if_pos c2] at H
    have c2b0 : decide (x3_1 < (l0.length : Int)) = true := decide_eq_true c2
    clear c2
    by_cases c3 : 0 ≤ x3_1
    ·rw [if_pos c3] at H
     have c3b0 : decide (0 ≤ x3_1) = true := decide_eq_true c3
     clear c3
     replace H := Option.bind_eq_some_iff.mp H
     obtain ⟨t145, A40, H⟩ := H
     replace H : (if t145 = true then (spec_l2Table.l0 k1 l0 (wrap64 (x3_1 + 1))) else (some false)) = some r := H
     have A4 := Aside0.mk A40
     clear A40
     by_cases c5 : t145 = true
     ·subst c5
      have H1 : (spec_l2Table.l0 k1 l0 (wrap64 (x3_1 + 1))) = some r := by rw [if_pos rfl] at H; exact H
      clear H
      have H := H1
      clear H1
      have H' := Aside0.mk H
      clear H
      have p144 : 0 ≤ (x3_1 : Int) := dd_
      have q144 : x3_1 < (l0.length : Int) := dd_
      obtain ⟨ad144, e144, hx144_0⟩ := Kd.at_int HR0.out x3_1 p144 q144
      cases e144
      replace p144 := eq_true p144
      replace q144 := eq_true q144
      go_wp2_with (first | (refine goesL_ (some 14) rfl rfl Try.func139 (by kernel_rfl) rfl #[.int .i64 (rd l0 x3_1)] rfl ll_ ?_; (with_reducible refine (spec_l1In.calls (rd l0 x3_1) true _ A4.out).mono ?_); rintro e w' ⟨rfl, ⟨nd, rfl⟩⟩; refine ⟨_, rfl, ?_⟩))
      go_roundg k1
      case measure => have := HK1.out; omega
      case rel => exact ⟨(wrap64 (x3_1 + 1)), (by first | rfl | (simp; done) | (simp [*]; done)), H', ⟨by have := HK1.out; omega⟩, by repeat (first | exact Drawn0.refl _ | apply Drawn0.step)⟩
     ·replace c5 := Bool.eq_false_iff.mpr c5
      subst c5
      have H1 : (some false) = some r := by rw [if_neg (show ¬ (false = true) by decide)] at H; exact H
      clear H
      have H := H1
      clear H1
      obtain rfl := Option.some.inj H
      have p144 : 0 ≤ (x3_1 : Int) := dd_
      have q144 : x3_1 < (l0.length : Int) := dd_
      obtain ⟨ad144, e144, hx144_0⟩ := Kd.at_int HR0.out x3_1 p144 q144
      cases e144
      replace p144 := eq_true p144
      replace q144 := eq_true q144
      go_wp2_with (first | (refine goesL_ (some 14) rfl rfl Try.func139 (by kernel_rfl) rfl #[.int .i64 (rd l0 x3_1)] rfl ll_ ?_; (with_reducible refine (spec_l1In.calls (rd l0 x3_1) false _ A4.out).mono ?_); rintro e w' ⟨rfl, ⟨nd, rfl⟩⟩; refine ⟨_, rfl, ?_⟩))
      go_ret
      exact ⟨by first | rfl | (simp; done) | (simp [*]; done), by repeat (first | exact Drawn0.refl _ | apply Drawn0.step)⟩
    ·rw [if_neg c3] at H
     exact absurd H (by simp)
   ·rw [if_neg c2] at H
    have c2b0 : decide (x3_1 < (l0.length : Int)) = false := decide_eq_false c2
    clear c2
    obtain rfl := Option.some.inj H
    go_wp2
    go_ret
    exact ⟨by first | rfl | (simp; done) | (simp [*]; done), by repeat (first | exact Drawn0.refl _ | apply Drawn0.step)⟩
end Go.Proofs.Ytbfafjejmljcpaa.P

namespace Go.Proofs.Ytbfafjejmljcpaa.P
open Go.RowKit Go.Proofs.YtbfafjejmljcpaaW.PrintWords Go.Proofs.YtbfafjejmljcpaaW.PrintLast
set_option linter.unusedVariables false
set_option linter.unusedSimpArgs false

def spec_l2Units.l0 : Nat → List Int → Int → Option (Bool)
 | 0, _, _ => none
 | k + 1, x0, x3 => if x3 < 9 then (if 0 ≤ x3 then (if x3 < (x0.length : Int) then (if (rd x0 x3) = 0 then (if 0 ≤ (wrap64 (9 * x3)) then (if (wrap64 (9 * x3)) < (x0.length : Int) then (if (rd x0 (wrap64 (9 * x3))) = 0 then (if 0 ≤ (wrap64 (9 + x3)) then (if (wrap64 (9 + x3)) < (x0.length : Int) then (if (rd x0 (wrap64 (9 + x3))) = x3 then (if 0 ≤ (wrap64 ((wrap64 (9 * x3)) + 1)) then (if (wrap64 ((wrap64 (9 * x3)) + 1)) < (x0.length : Int) then (if (rd x0 (wrap64 ((wrap64 (9 * x3)) + 1))) = x3 then (spec_l2Units.l0 k x0 (wrap64 (x3 + 1))) else (some false)) else (none)) else (none)) else (some false)) else (none)) else (none)) else (some false)) else (none)) else (none)) else (some false)) else (none)) else (none)) else (some true)
def spec_l2Units.f (k : Nat) (l0 : List Int) : Option (Bool) := spec_l2Units.l0 k l0 0
set_option maxHeartbeats 8000000 in
set_option maxRecDepth 100000 in
theorem spec_l2Units.calls (k : Nat) (A0 : Option Addr) (c0 : Nat) (l0 : List Int) (r : Bool) (w : World) (hr0 : Kd.C (Kd.int .i64) w A0 l0.length l0) (hc0 : l0.length ≤ c0) (h : spec_l2Units.f k l0 = some r) :
  Calls Try.prog 101 #[.slice A0 l0.length c0] w fun e w' => e = .returned (.bool r) ∧ Drawn0 w w' := by
 have HR0 := Aside0.mk hr0
 have HC0 := Aside0.mk hc0
 clear hr0 hc0
 have H : (spec_l2Units.l0 k l0 0) = some r := h
 clear h
 have H' := Aside0.mk H
 clear H
 go_enter Try.func101, Try.ntmps101
 go_wp2
 go_loopg [3] k (fun kq v3 w' => ∃ (x3_1 : Int), v3 = .int .i64 x3_1 ∧ Aside0 (spec_l2Units.l0 kq l0 x3_1 = some r) ∧ Aside0 (kq ≤ k) ∧ Drawn0 w w')
 case atStart => exact ⟨(0), (by first | rfl | (simp; done) | (simp [*]; done)), H', ⟨Nat.le_refl _⟩, by repeat (first | exact Drawn0.refl _ | apply Drawn0.step)⟩
 case round =>
  clear H'
  try clear c1
  obtain ⟨x3_1, rfl, HA, HK1, ⟨m1, rfl⟩⟩ := hrel
  cases gk with
  | zero => exact absurd HA.out (by simp [spec_l2Units.l0])
  | succ k1 =>
   have H := HA.out
   clear HA
   simp only [spec_l2Units.l0] at H
   by_cases c2 : x3_1 < 9
   ·rw [if_pos c2] at H
    have c2b0 : decide (x3_1 < 9) = true := decide_eq_true c2
    clear c2
    by_cases c3 : 0 ≤ x3_1
    ·rw [if_pos c3] at H
     have c3b0 : decide (0 ≤ x3_1) = true := decide_eq_true c3
     clear c3
     by_cases c4 : x3_1 < (l0.length : Int)
     ·rw [if_pos c4] at H
      have c4b0 : decide (x3_1 < (l0.length : Int)) = true := decide_eq_true c4
      clear c4
      by_cases c5 : (rd l0 x3_1) = 0
      ·rw [if_pos c5] at H
       have c5b0 : ((rd l0 x3_1) == 0) = true := beq_iff_eq.mpr c5
       have c5b1 : ((rd l0 x3_1) != 0) = false := bne_eq_false_iff_eq.mpr c5
       clear c5
       obtain ⟨ji6, hji6⟩ : ∃ j_ : Int, (wrap64 (9 * x3_1)) = j_ := ⟨_, rfl⟩
       replace H : (if 0 ≤ (ji6) then (if (ji6) < (l0.length : Int) then (if (rd l0 (ji6)) = 0 then (if 0 ≤ (wrap64 (9 + x3_1)) then (if (wrap64 (9 + x3_1)) < (l0.length : Int) then (if (rd l0 (wrap64 (9 + x3_1))) = x3_1 then (if 0 ≤ (wrap64 ((ji6) + 1)) then (if (wrap64 ((ji6) + 1)) < (l0.length : Int) then (if (rd l0 (wrap64 ((ji6) + 1))) = x3_1 then (spec_l2Units.l0 k1 l0 (wrap64 (x3_1 + 1))) else (some false)) else (none)) else (none)) else (some false)) else (none)) else (none)) else (some false)) else (none)) else (none)) = some r := by first | (rw [hji6] at H; exact H) | (simp only [hji6] at H ⊢; exact H)
       have hji6w : (IntKind.i64.wrap (9 * x3_1)) = ji6 := (i64_w _).trans hji6
       by_cases c7 : 0 ≤ (ji6)
       ·rw [if_pos c7] at H
        have c7b0 : decide (0 ≤ (ji6)) = true := decide_eq_true c7
        clear c7
        by_cases c8 : (ji6) < (l0.length : Int)
        ·rw [if_pos c8] at H
         have c8b0 : decide ((ji6) < (l0.length : Int)) = true := decide_eq_true c8
         clear c8
         by_cases c9 : (rd l0 (ji6)) = 0
         ·rw [if_pos c9] at H
          have c9b0 : ((rd l0 (ji6)) == 0) = true := beq_iff_eq.mpr c9
          have c9b1 : ((rd l0 (ji6)) != 0) = false := bne_eq_false_iff_eq.mpr c9
          clear c9
          obtain ⟨ji10, hji10⟩ : ∃ j_ : Int, (wrap64 (9 + x3_1)) = j_ := ⟨_, rfl⟩
          replace H : (if 0 ≤ (ji10) then (if (ji10) < (l0.length : Int) then (if (rd l0 (ji10)) = x3_1 then (if 0 ≤ (wrap64 ((ji6) + 1)) then (if (wrap64 ((ji6) + 1)) < (l0.length : Int) then (if (rd l0 (wrap64 ((ji6) + 1))) = x3_1 then (spec_l2Units.l0 k1 l0 (wrap64 (x3_1 + 1))) else (some false)) else (none)) else (none)) else (some false)) else (none)) else (none)) = some r := by first | (rw [hji10] at H; exact H) | (simp only [hji10] at H ⊢; exact H)
          have hji10w : (IntKind.i64.wrap (9 + x3_1)) = ji10 := (i64_w _).trans hji10
          by_cases c11 : 0 ≤ (ji10)
          ·rw [if_pos c11] at H
           have c11b0 : decide (0 ≤ (ji10)) = true := decide_eq_true c11
           clear c11
           by_cases c12 : (ji10) < (l0.length : Int)
           ·rw [if_pos c12] at H
            have c12b0 : decide ((ji10) < (l0.length : Int)) = true := decide_eq_true c12
            clear c12
            by_cases c13 : (rd l0 (ji10)) = x3_1
            ·rw [if_pos c13] at H
             have c13b0 : ((rd l0 (ji10)) == x3_1) = true := beq_iff_eq.mpr c13
             have c13b1 : ((rd l0 (ji10)) != x3_1) = false := bne_eq_false_iff_eq.mpr c13
             clear c13
             obtain ⟨ji14, hji14⟩ : ∃ j_ : Int, (wrap64 ((ji6) + 1)) = j_ := ⟨_, rfl⟩
             replace H : (if 0 ≤ (ji14) then (if (ji14) < (l0.length : Int) then (if (rd l0 (ji14)) = x3_1 then (spec_l2Units.l0 k1 l0 (wrap64 (x3_1 + 1))) else (some false)) else (none)) else (none)) = some r := by first | (rw [hji14] at H; exact H) | (simp only [hji14] at H ⊢; exact H)
             have hji14w : (IntKind.i64.wrap ((ji6) + 1)) = ji14 := (i64_w _).trans hji14
             by_cases c15 : 0 ≤ (ji14)
             ·rw [if_pos c15] at H
              have c15b0 : decide (0 ≤ (ji14)) = true := decide_eq_true c15
              clear c15
              by_cases c16 : (ji14) < (l0.length : Int)
              ·rw [if_pos c16] at H
               have c16b0 : decide ((ji14) < (l0.length : Int)) = true := decide_eq_true c16
               clear c16
               by_cases c17 : (rd l0 (ji14)) = x3_1
               ·rw [if_pos c17] at H
                have c17b0 : ((rd l0 (ji14)) == x3_1) = true := beq_iff_eq.mpr c17
                have c17b1 : ((rd l0 (ji14)) != x3_1) = false := bne_eq_false_iff_eq.mpr c17
                clear c17
                have H' := Aside0.mk H
                clear H
                have p146 : 0 ≤ (x3_1 : Int) := dd_
                have q146 : x3_1 < (l0.length : Int) := dd_
                obtain ⟨ad146, e146, hx146_0⟩ := Kd.at_int HR0.out x3_1 p146 q146
                cases e146
                replace p146 := eq_true p146
                replace q146 := eq_true q146
                have p147 : 0 ≤ ((ji6) : Int) := dd_
                have q147 : (ji6) < (l0.length : Int) := dd_
                obtain ⟨ad147, e147, hx147_0⟩ := Kd.at_int HR0.out (ji6) p147 q147
                obtain rfl : ad146 = ad147 := (by injection e147)
                replace p147 := eq_true p147
                replace q147 := eq_true q147
                have p148 : 0 ≤ ((ji10) : Int) := dd_
                have q148 : (ji10) < (l0.length : Int) := dd_
                obtain ⟨ad148, e148, hx148_0⟩ := Kd.at_int HR0.out (ji10) p148 q148
                obtain rfl : ad146 = ad148 := (by injection e148)
                replace p148 := eq_true p148
                replace q148 := eq_true q148
                have p149 : 0 ≤ ((ji14) : Int) := dd_
                have q149 : (ji14) < (l0.length : Int) := dd_
                obtain ⟨ad149, e149, hx149_0⟩ := Kd.at_int HR0.out (ji14) p149 q149
                obtain rfl : ad146 = ad149 := (by injection e149)
                replace p149 := eq_true p149
                replace q149 := eq_true q149
                go_wp2
                go_roundg k1
                case measure => have := HK1.out; omega
                case rel => exact ⟨(wrap64 (x3_1 + 1)), (by first | rfl | (simp; done) | (simp [*]; done)), H', ⟨by have := HK1.out; omega⟩, by repeat (first | exact Drawn0.refl _ | apply Drawn0.step)⟩
               ·rw [if_neg c17] at H
                have c17b0 : ((rd l0 (ji14)) == x3_1) = false := beq_eq_false_iff_ne.mpr c17
                have c17b1 : ((rd l0 (ji14)) != x3_1) = true := bne_iff_ne.mpr c17
                obtain rfl := Option.some.inj H
                have p146 : 0 ≤ (x3_1 : Int) := dd_
                have q146 : x3_1 < (l0.length : Int) := dd_
                obtain ⟨ad146, e146, hx146_0⟩ := Kd.at_int HR0.out x3_1 p146 q146
                cases e146
                replace p146 := eq_true p146
                replace q146 := eq_true q146
                have p147 : 0 ≤ ((ji6) : Int) := dd_
                have q147 : (ji6) < (l0.length : Int) := dd_
                obtain ⟨ad147, e147, hx147_0⟩ := Kd.at_int HR0.out (ji6) p147 q147
                obtain rfl : ad146 = ad147 := (by injection e147)
                replace p147 := eq_true p147
                replace q147 := eq_true q147
                have p148 : 0 ≤ ((ji10) : Int) := dd_
                have q148 : (ji10) < (l0.length : Int) := dd_
                obtain ⟨ad148, e148, hx148_0⟩ := Kd.at_int HR0.out (ji10) p148 q148
                obtain rfl : ad146 = ad148 := (by injection e148)
                replace p148 := eq_true p148
                replace q148 := eq_true q148
                have p149 : 0 ≤ ((ji14) : Int) := dd_
                have q149 : (ji14) < (l0.length : Int) := dd_
                obtain ⟨ad149, e149, hx149_0⟩ := Kd.at_int HR0.out (ji14) p149 q149
                obtain rfl : ad146 = ad149 := (by injection e149)
                replace p149 := eq_true p149
                replace q149 := eq_true q149
                go_wp2
                go_ret
                exact ⟨by first | rfl | (simp; done) | (simp only [← hji6, ← hji10, ← hji14] <;> (first | rfl | simp)) | (simp [*]; done), by repeat (first | exact Drawn0.refl _ | apply Drawn0.step)⟩
              ·rw [if_neg c16] at H
               exact absurd H (by simp)
             ·rw [if_neg c15] at H
              exact absurd H (by simp)
            ·rw [if_neg c13] at H
             have c13b0 : ((rd l0 (ji10)) == x3_1) = false := beq_eq_false_iff_ne.mpr c13
             have c13b1 : ((rd l0 (ji10)) != x3_1) = true := bne_iff_ne.mpr c13
             obtain rfl := Option.some.inj H
             have p146 : 0 ≤ (x3_1 : Int) := dd_
             have q146 : x3_1 < (l0.length : Int) := dd_
             obtain ⟨ad146, e146, hx146_0⟩ := Kd.at_int HR0.out x3_1 p146 q146
             cases e146
             replace p146 := eq_true p146
             replace q146 := eq_true q146
             have p147 : 0 ≤ ((ji6) : Int) := dd_
             have q147 : (ji6) < (l0.length : Int) := dd_
             obtain ⟨ad147, e147, hx147_0⟩ := Kd.at_int HR0.out (ji6) p147 q147
             obtain rfl : ad146 = ad147 := (by injection e147)
             replace p147 := eq_true p147
             replace q147 := eq_true q147
             have p148 : 0 ≤ ((ji10) : Int) := dd_
             have q148 : (ji10) < (l0.length : Int) := dd_
             obtain ⟨ad148, e148, hx148_0⟩ := Kd.at_int HR0.out (ji10) p148 q148
             obtain rfl : ad146 = ad148 := (by injection e148)
             replace p148 := eq_true p148
             replace q148 := eq_true q148
             go_wp2
             go_ret
             exact ⟨by first | rfl | (simp; done) | (simp only [← hji6, ← hji10] <;> (first | rfl | simp)) | (simp [*]; done), by repeat (first | exact Drawn0.refl _ | apply Drawn0.step)⟩
           ·rw [if_neg c12] at H
            exact absurd H (by simp)
          ·rw [if_neg c11] at H
           exact absurd H (by simp)
         ·rw [if_neg c9] at H
          have c9b0 : ((rd l0 (ji6)) == 0) = false := beq_eq_false_iff_ne.mpr c9
          have c9b1 : ((rd l0 (ji6)) != 0) = true := bne_iff_ne.mpr c9
          obtain rfl := Option.some.inj H
          have p146 : 0 ≤ (x3_1 : Int) := dd_
          have q146 : x3_1 < (l0.length : Int) := dd_
          obtain ⟨ad146, e146, hx146_0⟩ := Kd.at_int HR0.out x3_1 p146 q146
          cases e146
          replace p146 := eq_true p146
          replace q146 := eq_true q146
          have p147 : 0 ≤ ((ji6) : Int) := dd_
          have q147 : (ji6) < (l0.length : Int) := dd_
          obtain ⟨ad147, e147, hx147_0⟩ := Kd.at_int HR0.out (ji6) p147 q147
          obtain rfl : ad146 = ad147 := (by injection e147)
          replace p147 := eq_true p147
          replace q147 := eq_true q147
          go_wp2
          go_ret
          exact ⟨by first | rfl | (simp; done) | (simp only [← hji6] <;> (first | rfl | simp)) | (simp [*]; done), by repeat (first | exact Drawn0.refl _ | apply Drawn0.step)⟩
        ·rw [if_neg c8] at H
         exact absurd H (by simp)
       ·rw [if_neg c7] at H
        exact absurd H (by simp)
      ·rw [if_neg c5] at H
       have c5b0 : ((rd l0 x3_1) == 0) = false := beq_eq_false_iff_ne.mpr c5
       have c5b1 : ((rd l0 x3_1) != 0) = true := bne_iff_ne.mpr c5
       obtain rfl := Option.some.inj H
       have p146 : 0 ≤ (x3_1 : Int) := dd_
       have q146 : x3_1 < (l0.length : Int) := dd_
       obtain ⟨ad146, e146, hx146_0⟩ := Kd.at_int HR0.out x3_1 p146 q146
       cases e146
       replace p146 := eq_true p146
       replace q146 := eq_true q146
       go_wp2
       go_ret
       exact ⟨by first | rfl | (simp; done) | (simp [*]; done), by repeat (first | exact Drawn0.refl _ | apply Drawn0.step)⟩
     ·rw [if_neg c4] at H
      exact absurd H (by simp)
    ·rw [if_neg c3] at H
     exact absurd H (by simp)
   ·rw [if_neg c2] at H
    have c2b0 : decide (x3_1 < 9) = false := decide_eq_false c2
    clear c2
    obtain rfl := Option.some.inj H
    go_wp2
    go_ret
    exact ⟨by first | rfl | (simp; done) | (simp [*]; done), by repeat (first | exact Drawn0.refl _ | apply Drawn0.step)⟩
end Go.Proofs.Ytbfafjejmljcpaa.P

namespace Go.Proofs.Ytbfafjejmljcpaa.P
open Go.RowKit Go.Proofs.YtbfafjejmljcpaaW.PrintWords Go.Proofs.YtbfafjejmljcpaaW.PrintLast
set_option linter.unusedVariables false
set_option linter.unusedSimpArgs false

mutual
def spec_SystemIn.j0 : Nat → List Int → Bool → Option (Bool)
 | 0, _, _ => none
 | k + 1, x0, x17 => if x17 = true then (some false) else (spec_SystemIn.l0 k x0 0)
def spec_SystemIn.l0 : Nat → List Int → Int → Option (Bool)
 | 0, _, _ => none
 | k + 1, x0, x3 => if x3 < 9 then (spec_SystemIn.l1 k x0 x3 0) else (some true)
def spec_SystemIn.l1 : Nat → List Int → Int → Int → Option (Bool)
 | 0, _, _, _ => none
 | k + 1, x0, x3, x4 => if x4 < x3 then ((spec_l2Solves.f x0 x3 x4).bind fun t153 => (if t153 = true then (spec_SystemIn.l1 k x0 x3 (wrap64 (x4 + 1))) else (some false))) else (spec_SystemIn.l0 k x0 (wrap64 (x3 + 1)))
end
def spec_SystemIn.f (k : Nat) (l0 : List Int) : Option (Bool) := (spec_l2Table.f k l0).bind fun t150 => (if t150 = true then ((spec_l2Units.f k l0).bind fun t151 => (if t151 = true then ((spec_l2Shares.f l0).bind fun t152 => (spec_SystemIn.j0 k l0 (!t152))) else (spec_SystemIn.j0 k l0 true))) else (spec_SystemIn.j0 k l0 true))
set_option maxHeartbeats 8000000 in
set_option maxRecDepth 100000 in
theorem spec_SystemIn.calls (k : Nat) (A0 : Option Addr) (c0 : Nat) (l0 : List Int) (r : Bool) (w : World) (hr0 : Kd.C (Kd.int .i64) w A0 l0.length l0) (hc0 : l0.length ≤ c0) (h : spec_SystemIn.f k l0 = some r) :
  Calls Try.prog 64 #[.slice A0 l0.length c0] w fun e w' => e = .returned (.bool r) ∧ Below w.heap.size w w' := by
 have HR0 := Aside0.mk hr0
 have HC0 := Aside0.mk hc0
 clear hr0 hc0
 have HB := Aside0.mk (Below.refl w.heap.size w)
 have H : ((spec_l2Table.f k l0).bind fun t150 => (if t150 = true then ((spec_l2Units.f k l0).bind fun t151 => (if t151 = true then ((spec_l2Shares.f l0).bind fun t152 => (spec_SystemIn.j0 k l0 (!t152))) else (spec_SystemIn.j0 k l0 true))) else (spec_SystemIn.j0 k l0 true))) = some r := h
 clear h
 have HC2 := Aside0.mk H
 clear H
 go_enter Try.func64, Try.ntmps64
 go_upto_region 1 with (fail)
 go_cut [17] (fun v17 wc => ∃ (kq : Nat) (x17_1 : Bool), v17 = .bool x17_1 ∧ Aside0 (spec_SystemIn.j0 kq l0 x17_1 = some r) ∧ Aside0 (kq ≤ k) ∧ Aside0 (Below w.heap.size w wc))
 case first =>
  have H := HC2.out
  clear HC2
  replace H := Option.bind_eq_some_iff.mp H
  obtain ⟨t150, A30, H⟩ := H
  replace H : (if t150 = true then ((spec_l2Units.f k l0).bind fun t151 => (if t151 = true then ((spec_l2Shares.f l0).bind fun t152 => (spec_SystemIn.j0 k l0 (!t152))) else (spec_SystemIn.j0 k l0 true))) else (spec_SystemIn.j0 k l0 true)) = some r := H
  have A3 := Aside0.mk A30
  clear A30
  by_cases c4 : t150 = true
  ·subst c4
   have H1 : ((spec_l2Units.f k l0).bind fun t151 => (if t151 = true then ((spec_l2Shares.f l0).bind fun t152 => (spec_SystemIn.j0 k l0 (!t152))) else (spec_SystemIn.j0 k l0 true))) = some r := by rw [if_pos rfl] at H; exact H
   clear H
   have H := H1
   clear H1
   replace H := Option.bind_eq_some_iff.mp H
   obtain ⟨t151, A50, H⟩ := H
   replace H : (if t151 = true then ((spec_l2Shares.f l0).bind fun t152 => (spec_SystemIn.j0 k l0 (!t152))) else (spec_SystemIn.j0 k l0 true)) = some r := H
   have A5 := Aside0.mk A50
   clear A50
   by_cases c6 : t151 = true
   ·subst c6
    have H1 : ((spec_l2Shares.f l0).bind fun t152 => (spec_SystemIn.j0 k l0 (!t152))) = some r := by rw [if_pos rfl] at H; exact H
    clear H
    have H := H1
    clear H1
    replace H := Option.bind_eq_some_iff.mp H
    obtain ⟨t152, A70, H⟩ := H
    replace H : (spec_SystemIn.j0 k l0 (!t152)) = some r := H
    have A7 := Aside0.mk A70
    clear A70
    have H' := Aside0.mk H
    clear H
    go_wp2_with (first | (refine goesL_ (some 6) rfl rfl Try.func100 (by kernel_rfl) rfl #[.slice A0 l0.length c0] rfl ll_ ?_; (with_reducible refine (spec_l2Table.calls k _ _ l0 true _ ?side1 ?side2 A3.out).mono ?_); (case side1 => exact sb_ HR0 HB); (case side2 => exact HC0.out); rintro e w' ⟨rfl, ⟨nd, rfl⟩⟩; refine ⟨_, rfl, ?_⟩) | (go_at_call 101; (with_reducible refine (spec_l2Units.calls k _ _ l0 true _ ?side1 ?side2 A5.out).mono ?_); (case side1 => repeat (first | exact (Kd.C_below HR0.out (bb_ HB)) | (with_reducible refine Kd.C_alloc ?_ _) | (with_reducible refine Kd.C_drewN ?_ _) | (with_reducible refine Kd.C_drew ?_))); (case side2 => exact HC0.out); rintro e w' ⟨rfl, ⟨nd, rfl⟩⟩) | (go_at_call 102; (with_reducible refine (spec_l2Shares.calls _ _ l0 t152 _ ?side1 ?side2 A7.out).mono ?_); (case side1 => repeat (first | exact (Kd.C_below HR0.out (bb_ HB)) | (with_reducible refine Kd.C_alloc ?_ _) | (with_reducible refine Kd.C_drewN ?_ _) | (with_reducible refine Kd.C_drew ?_))); (case side2 => exact HC0.out); rintro e w' ⟨rfl, ⟨nd, rfl⟩⟩))
    go_meet
    case rel => exact ⟨_, (!t152), (by first | rfl | (simp; done) | (simp [*]; done)), H', ⟨by first | omega | exact Nat.le_refl _⟩, ⟨by repeat (first | (with_reducible first | exact HB.out | apply below_alloc | apply pw_below_drewN | apply below_drew1) | exact HB.out)⟩⟩
   ·replace c6 := Bool.eq_false_iff.mpr c6
    subst c6
    have H1 : (spec_SystemIn.j0 k l0 true) = some r := by rw [if_neg (show ¬ (false = true) by decide)] at H; exact H
    clear H
    have H := H1
    clear H1
    have H' := Aside0.mk H
    clear H
    go_wp2_with (first | (refine goesL_ (some 6) rfl rfl Try.func100 (by kernel_rfl) rfl #[.slice A0 l0.length c0] rfl ll_ ?_; (with_reducible refine (spec_l2Table.calls k _ _ l0 true _ ?side1 ?side2 A3.out).mono ?_); (case side1 => exact sb_ HR0 HB); (case side2 => exact HC0.out); rintro e w' ⟨rfl, ⟨nd, rfl⟩⟩; refine ⟨_, rfl, ?_⟩) | (go_at_call 101; (with_reducible refine (spec_l2Units.calls k _ _ l0 false _ ?side1 ?side2 A5.out).mono ?_); (case side1 => repeat (first | exact (Kd.C_below HR0.out (bb_ HB)) | (with_reducible refine Kd.C_alloc ?_ _) | (with_reducible refine Kd.C_drewN ?_ _) | (with_reducible refine Kd.C_drew ?_))); (case side2 => exact HC0.out); rintro e w' ⟨rfl, ⟨nd, rfl⟩⟩))
    go_meet
    case rel => exact ⟨_, (true), (by first | rfl | (simp; done) | (simp [*]; done)), H', ⟨by first | omega | exact Nat.le_refl _⟩, ⟨by repeat (first | (with_reducible first | exact HB.out | apply below_alloc | apply pw_below_drewN | apply below_drew1) | exact HB.out)⟩⟩
  ·replace c4 := Bool.eq_false_iff.mpr c4
   subst c4
   have H1 : (spec_SystemIn.j0 k l0 true) = some r := by rw [if_neg (show ¬ (false = true) by decide)] at H; exact H
   clear H
   have H := H1
   clear H1
   have H' := Aside0.mk H
   clear H
   go_wp2_with (first | (refine goesL_ (some 6) rfl rfl Try.func100 (by kernel_rfl) rfl #[.slice A0 l0.length c0] rfl ll_ ?_; (with_reducible refine (spec_l2Table.calls k _ _ l0 false _ ?side1 ?side2 A3.out).mono ?_); (case side1 => exact sb_ HR0 HB); (case side2 => exact HC0.out); rintro e w' ⟨rfl, ⟨nd, rfl⟩⟩; refine ⟨_, rfl, ?_⟩))
   go_meet
   case rel => exact ⟨_, (true), (by first | rfl | (simp; done) | (simp [*]; done)), H', ⟨by first | omega | exact Nat.le_refl _⟩, ⟨by repeat (first | (with_reducible first | exact HB.out | apply below_alloc | apply pw_below_drewN | apply below_drew1) | exact HB.out)⟩⟩
 case rest =>
  clear HC2
  try clear c1
  try clear p2
  try clear c4
  try clear c6
  obtain ⟨kq, x17_1, rfl, HA, HJ1, HB⟩ := hcut
  cases kq with
  | zero => exact absurd HA.out (by simp [spec_SystemIn.j0])
  | succ kj1 =>
   have H := HA.out
   clear HA
   simp only [spec_SystemIn.j0] at H
   by_cases c8 : x17_1 = true
   ·subst c8
    have H1 : (some false) = some r := by rw [if_pos rfl] at H; exact H
    clear H
    have H := H1
    clear H1
    obtain rfl := Option.some.inj H
    go_wp2
    go_ret
    exact ⟨ee_, bb_ HB⟩
   ·replace c8 := Bool.eq_false_iff.mpr c8
    subst c8
    have H1 : (spec_SystemIn.l0 kj1 l0 0) = some r := by rw [if_neg (show ¬ (false = true) by decide)] at H; exact H
    clear H
    have H := H1
    clear H1
    have H' := Aside0.mk H
    clear H
    go_wp2
    go_loopg [3] kj1 (fun kq v3 w' => ∃ (x3_2 : Int), v3 = .int .i64 x3_2 ∧ Aside0 (spec_SystemIn.l0 kq l0 x3_2 = some r) ∧ Aside0 (kq ≤ kj1) ∧ Aside0 (Below w.heap.size w w'))
    case atStart => exact ⟨(0), (by first | rfl | (simp; done) | (simp [*]; done)), H', ⟨Nat.le_refl _⟩, ⟨by repeat (first | (with_reducible first | exact HB.out | apply below_alloc | apply pw_below_drewN | apply below_drew1) | exact HB.out)⟩⟩
    case round =>
     clear H'
     try clear c1
     try clear p2
     try clear c4
     try clear c6
     try clear c8
     try clear p2
     obtain ⟨x3_2, rfl, HA, HK2, HB⟩ := hrel
     cases gk with
     | zero => exact absurd HA.out (by simp [spec_SystemIn.l0])
     | succ k2 =>
      have H := HA.out
      clear HA
      simp only [spec_SystemIn.l0] at H
      by_cases c9 : x3_2 < 9
      ·rw [if_pos c9] at H
       have c9b0 : decide (x3_2 < 9) = true := decide_eq_true c9
       clear c9
       have H' := Aside0.mk H
       clear H
       go_wp2
       go_loopg [4] k2 (fun kq v4 w' => ∃ (x4_3 : Int), v4 = .int .i64 x4_3 ∧ Aside0 (spec_SystemIn.l1 kq l0 x3_2 x4_3 = some r) ∧ Aside0 (kq ≤ k2) ∧ Aside0 (Below w.heap.size w w'))
       case atStart => exact ⟨(0), (by first | rfl | (simp; done) | (simp [*]; done)), H', ⟨Nat.le_refl _⟩, ⟨by repeat (first | (with_reducible first | exact HB.out | apply below_alloc | apply pw_below_drewN | apply below_drew1) | exact HB.out)⟩⟩
       case round =>
        clear H'
        try clear c1
        try clear p2
        try clear c4
        try clear c6
        try clear c8
        try clear c9
        try clear c9b0
        try clear p2
        obtain ⟨x4_3, rfl, HA, HK3, HB⟩ := hrel
        cases gk with
        | zero => exact absurd HA.out (by simp [spec_SystemIn.l1])
        | succ k3 =>
         have H := HA.out
         clear HA
         simp only [spec_SystemIn.l1] at H
         by_cases c10 : x4_3 < x3_2
         ·rw [if_pos c10] at H
          have c10b0 : decide (x4_3 < x3_2) = true := decide_eq_true c10
          clear c10
          replace H := Option.bind_eq_some_iff.mp H
          obtain ⟨t153, A110, H⟩ := H
          replace H : (if t153 = true then (spec_SystemIn.l1 k3 l0 x3_2 (wrap64 (x4_3 + 1))) else (some false)) = some r := H
          have A11 := Aside0.mk A110
          clear A110
          by_cases c12 : t153 = true
          ·subst c12
           have H1 : (spec_SystemIn.l1 k3 l0 x3_2 (wrap64 (x4_3 + 1))) = some r := by rw [if_pos rfl] at H; exact H
           clear H
           have H := H1
           clear H1
           have H' := Aside0.mk H
           clear H
           go_wp2_with (first | (refine goesL_ (some 30) rfl rfl Try.func103 (by kernel_rfl) rfl #[.slice A0 l0.length c0, .int .i64 x3_2, .int .i64 x4_3] rfl ll_ ?_; (with_reducible refine (spec_l2Solves.calls _ _ l0 x3_2 x4_3 true _ ?side1 ?side2 A11.out).mono ?_); (case side1 => exact sb_ HR0 HB); (case side2 => exact HC0.out); rintro e w13 ⟨rfl, hb⟩; refine ⟨_, rfl, ?_⟩; have n0_ := Aside0.mk (below_step (bb_ HB) hb); clear HB; have HB := n0_; clear n0_; (try clear hb); (try clear hb2); (try clear hk); (try clear hi)))
           go_roundg k3
           case measure => have := HJ1.out; have := HK2.out; have := HK3.out; omega
           case rel => exact ⟨(wrap64 (x4_3 + 1)), (by first | rfl | (simp; done) | (simp [*]; done)), H', ⟨by have := HJ1.out; have := HK2.out; have := HK3.out; omega⟩, ⟨by repeat (first | (with_reducible first | exact HB.out | apply below_alloc | apply pw_below_drewN | apply below_drew1) | exact HB.out)⟩⟩
          ·replace c12 := Bool.eq_false_iff.mpr c12
           subst c12
           have H1 : (some false) = some r := by rw [if_neg (show ¬ (false = true) by decide)] at H; exact H
           clear H
           have H := H1
           clear H1
           obtain rfl := Option.some.inj H
           go_wp2_with (first | (refine goesL_ (some 30) rfl rfl Try.func103 (by kernel_rfl) rfl #[.slice A0 l0.length c0, .int .i64 x3_2, .int .i64 x4_3] rfl ll_ ?_; (with_reducible refine (spec_l2Solves.calls _ _ l0 x3_2 x4_3 false _ ?side1 ?side2 A11.out).mono ?_); (case side1 => exact sb_ HR0 HB); (case side2 => exact HC0.out); rintro e w14 ⟨rfl, hb⟩; refine ⟨_, rfl, ?_⟩; have n0_ := Aside0.mk (below_step (bb_ HB) hb); clear HB; have HB := n0_; clear n0_; (try clear hb); (try clear hb2); (try clear hk); (try clear hi)))
           go_ret
           exact ⟨ee_, bb_ HB⟩
         ·rw [if_neg c10] at H
          have c10b0 : decide (x4_3 < x3_2) = false := decide_eq_false c10
          clear c10
          have H' := Aside0.mk H
          clear H
          go_wp2
          go_roundg k3
          case measure => have := HJ1.out; have := HK2.out; have := HK3.out; omega
          case rel => exact ⟨(wrap64 (x3_2 + 1)), (by first | rfl | (simp; done) | (simp [*]; done)), H', ⟨by have := HJ1.out; have := HK2.out; have := HK3.out; omega⟩, ⟨by repeat (first | (with_reducible first | exact HB.out | apply below_alloc | apply pw_below_drewN | apply below_drew1) | exact HB.out)⟩⟩
      ·rw [if_neg c9] at H
       have c9b0 : decide (x3_2 < 9) = false := decide_eq_false c9
       clear c9
       obtain rfl := Option.some.inj H
       go_wp2
       go_ret
       exact ⟨ee_, bb_ HB⟩
end Go.Proofs.Ytbfafjejmljcpaa.P

set_option linter.unusedVariables false
set_option linter.unusedSimpArgs false
namespace Go.Proofs.Ytbfafjejmljcpaa.X
open Go.RowKit Go.Proofs.YtbfafjejmljcpaaW.PrintWords Go.Proofs.YtbfafjejmljcpaaW.PrintLast Go.Proofs.Ytbfafjejmljcpaa.P

theorem l6In_eq (a b c : Int) : spec_l6In.f a b c = some (decide (b ≤ a) && decide (a ≤ c)) := by
  unfold spec_l6In.f
  by_cases h : a ≥ b
  · rw [if_pos h, decide_eq_true h]; simp
  · rw [if_neg h, decide_eq_false h]; simp
theorem l1In_eq (a : Int) : spec_l1In.f a = some (isN a) := by
  unfold spec_l1In.f isN
  rw [l6In_eq]
  show some _ = _
  rw [show decide (a ≤ 8) = decide (a < 9) from decide_eq_decide.2 (by omega)]
theorem l2Table_loop (l : List Int) (hl : l.length ≤ 1048576) (d : Nat) : ∀ (i : Int), 0 ≤ i → i + d = l.length → (∀ j : Nat, (j : Int) < i → isN (rd l j) = true) → Ev (fun k => spec_l2Table.l0 k l i) (ninesB l 81) := by
  induction d with
  | zero =>
    intro i h0 h1 h
    refine Ev.step (fun k => by rw [spec_l2Table.l0]) ?_
    refine Ev.neg (by omega) (Ev.done ?_)
    have ha : l.all isN = true := by
      rw [List.all_eq_true]
      intro x hx
      obtain ⟨j, hj, rfl⟩ := List.mem_iff_getElem.1 hx
      rw [← rd_cast l j hj]
      exact h j (by omega)
    unfold ninesB
    rw [ha, Bool.and_true]
    congr 1
    rw [Bool.eq_iff_iff]; simp; omega
  | succ d ih =>
    intro i h0 h1 h
    refine Ev.step (fun k => by rw [spec_l2Table.l0]) ?_
    simp (disch := omega) only [w64, l1In_eq, Option.bind_some]
    refine Ev.pos (by omega) (Ev.pos (by omega) ?_)
    by_cases e : isN (rd l i) = true
    · refine Ev.pos e (ih (i + 1) (by omega) (by omega) fun j hj => ?_)
      by_cases ej : (j : Int) = i
      · rw [ej]; exact e
      · exact h j (by omega)
    · refine Ev.neg e (Ev.done ?_)
      have : l.all isN = false := by
        rw [List.all_eq_false]
        exact ⟨rd l i, rd_mem (by omega) h0, e⟩
      unfold ninesB
      rw [this, Bool.and_false]
theorem l2Table_ev (l : List Int) (hl : l.length ≤ 1048576) : Ev (fun k => spec_l2Table.f k l) (ninesB l 81) :=
  l2Table_loop l hl l.length 0 (by omega) (by omega) (fun j h => by omega)
theorem l2Units_loop (t : List Int) (hl : t.length = 81) (d : Nat) : ∀ (i : Int), 0 ≤ i → i + d = 9 → (∀ x : Int, 0 ≤ x → x < i → unitB t x = true) → Ev (fun k => spec_l2Units.l0 k t i) (unitsB t) := by
  induction d with
  | zero =>
    intro i h0 h1 h
    refine Ev.step (fun k => by rw [spec_l2Units.l0]) ?_
    refine Ev.neg (by omega) (Ev.done ?_)
    rw [unitsB_iff.2 fun x x0 x1 => h x x0 (by omega)]
  | succ d ih =>
    intro i h0 h1 h
    have hu : unitB t i = (decide (rd t i = 0) && decide (rd t (9 * i) = 0) && decide (rd t (9 + i) = i) && decide (rd t (9 * i + 1) = i)) := rfl
    refine Ev.step (fun k => by rw [spec_l2Units.l0]) ?_
    have z1 : wrap64 (9 * i) = 9 * i := w64 (by omega) (by omega)
    have z2 : wrap64 (9 + i) = 9 + i := w64 (by omega) (by omega)
    have z3 : wrap64 (9 * i + 1) = 9 * i + 1 := w64 (by omega) (by omega)
    have z4 : wrap64 (i + 1) = i + 1 := w64 (by omega) (by omega)
    simp only [z1, z2, z3, z4]
    refine Ev.pos (by omega) (Ev.pos (by omega) (Ev.pos (by omega) ?_))
    by_cases e1 : rd t i = 0
    case neg => exact Ev.neg e1 (Ev.done (by rw [unitsB_hit h0 (by omega) (by rw [hu, decide_eq_false e1]; rfl)]))
    refine Ev.pos e1 (Ev.pos (by omega) (Ev.pos (by omega) ?_))
    by_cases e2 : rd t (9 * i) = 0
    case neg => exact Ev.neg e2 (Ev.done (by rw [unitsB_hit h0 (by omega) (by rw [hu, decide_eq_false e2, Bool.and_false]; rfl)]))
    refine Ev.pos e2 (Ev.pos (by omega) (Ev.pos (by omega) ?_))
    by_cases e3 : rd t (9 + i) = i
    case neg => exact Ev.neg e3 (Ev.done (by rw [unitsB_hit h0 (by omega) (by rw [hu, decide_eq_false e3, Bool.and_false]; rfl)]))
    refine Ev.pos e3 (Ev.pos (by omega) (Ev.pos (by omega) ?_))
    by_cases e4 : rd t (9 * i + 1) = i
    case neg => exact Ev.neg e4 (Ev.done (by rw [unitsB_hit h0 (by omega) (by rw [hu, decide_eq_false e4, Bool.and_false])]))
    refine Ev.pos e4 (ih (i + 1) (by omega) (by omega) fun x x0 x1 => ?_)
    by_cases e : x = i
    · rw [e, hu, decide_eq_true e1, decide_eq_true e2, decide_eq_true e3, decide_eq_true e4]; rfl
    · exact h x x0 (by omega)
theorem l2Units_ev (t : List Int) (hl : t.length = 81) : Ev (fun k => spec_l2Units.f k t) (unitsB t) :=
  l2Units_loop t hl 9 0 (by omega) (by omega) (fun x h0 h1 => by omega)
theorem SystemIn_l1 (t : List Int) (hn : ninesB t 81 = true) (c : Int) (hc : In9 c) (hr : (∀ d : Int, 0 ≤ d → d < c → gapsB t c d = true) → Ev (fun k => spec_SystemIn.l0 k t (c + 1)) (solvesB t)) (n : Nat) :
    ∀ (d : Int), 0 ≤ d → d + n = c → (∀ x : Int, 0 ≤ x → x < d → gapsB t c x = true) → Ev (fun k => spec_SystemIn.l1 k t c d) (solvesB t) := by
  obtain ⟨c0, c1⟩ := hc
  induction n with
  | zero =>
    intro d h0 h1 h
    refine Ev.step (fun k => by rw [spec_SystemIn.l1]) ?_
    simp (disch := omega) only [w64]
    exact Ev.neg (by omega) (hr fun x x0 x1 => h x x0 (by omega))
  | succ n ih =>
    intro d h0 h1 h
    refine Ev.step (fun k => by rw [spec_SystemIn.l1]) ?_
    have hs : spec_l2Solves.f t c d = some (gapsB t c d) := by unfold spec_l2Solves.f; exact if_pos ⟨hn, ⟨c0, c1⟩, ⟨h0, by omega⟩⟩
    simp (disch := omega) only [w64, hs, Option.bind_some]
    refine Ev.pos (by omega) ?_
    by_cases e : gapsB t c d = true
    · refine Ev.pos e (ih (d + 1) (by omega) (by omega) fun x x0 x1 => ?_)
      by_cases ex : x = d
      · rw [ex]; exact e
      · exact h x x0 (by omega)
    · refine Ev.neg e (Ev.done ?_)
      rw [solvesB_hit h0 (by omega) c1 (Bool.eq_false_iff.2 e)]
theorem SystemIn_l0 (t : List Int) (hn : ninesB t 81 = true) (n : Nat) : ∀ (c : Int), 0 ≤ c → c + n = 9 → (∀ x y : Int, 0 ≤ y → y < x → x < c → gapsB t x y = true) → Ev (fun k => spec_SystemIn.l0 k t c) (solvesB t) := by
  induction n with
  | zero =>
    intro c h0 h1 h
    refine Ev.step (fun k => by rw [spec_SystemIn.l0]) ?_
    refine Ev.neg (by omega) (Ev.done ?_)
    rw [solvesB_all fun x y y0 yx x9 => h x y y0 yx (by omega)]
  | succ n ih =>
    intro c h0 h1 h
    refine Ev.step (fun k => by rw [spec_SystemIn.l0]) ?_
    refine Ev.pos (by omega) ?_
    refine SystemIn_l1 t hn c ⟨h0, by omega⟩ (fun hg => ih (c + 1) (by omega) (by omega) fun x y y0 yx x1 => ?_) c.toNat 0 (by omega) (by omega) (fun x x0 x1 => by omega)
    by_cases e : x = c
    · subst e; exact hg y y0 yx
    · exact h x y y0 yx (by omega)
theorem SystemIn_ev (t : List Int) (hl : t.length ≤ 1048576) : Ev (fun k => spec_SystemIn.f k t) (sysB t) := by
  unfold spec_SystemIn.f
  refine Ev.bind (l2Table_ev t hl) ?_
  by_cases hn : ninesB t 81 = true
  case neg =>
    refine Ev.neg hn (Ev.step (fun k => by rw [spec_SystemIn.j0]) (Ev.pos rfl (Ev.done ?_)))
    unfold sysB; rw [Bool.eq_false_iff.2 hn]; rfl
  refine Ev.pos hn (Ev.bind (l2Units_ev t (ninesB_iff.1 hn).1) ?_)
  by_cases hu : unitsB t = true
  case neg =>
    refine Ev.neg hu (Ev.step (fun k => by rw [spec_SystemIn.j0]) (Ev.pos rfl (Ev.done ?_)))
    rw [sysB_of hn, Bool.eq_false_iff.2 hu]; rfl
  have hs : spec_l2Shares.f t = some (sharesB t) := by unfold spec_l2Shares.f; exact if_pos hn
  refine Ev.pos hu (Ev.fix hs ?_)
  rw [sysB_of hn, hu]
  by_cases h : sharesB t = true
  · rw [h]
    refine Ev.step (fun k => by rw [spec_SystemIn.j0]) ?_
    refine Ev.neg (by simp) ?_
    exact SystemIn_l0 t hn 9 0 (by omega) (by omega) (fun x y h0 h1 h2 => by omega)
  · rw [Bool.eq_false_iff.2 h]
    refine Ev.step (fun k => by rw [spec_SystemIn.j0]) ?_
    exact Ev.pos rfl (Ev.done rfl)
end Go.Proofs.Ytbfafjejmljcpaa.X

set_option linter.unusedVariables false
set_option linter.unusedSimpArgs false
namespace Go.Proofs.Ytbfafjejmljcpaa.X
open Go.RowKit Go.Proofs.YtbfafjejmljcpaaW.PrintWords Go.Proofs.YtbfafjejmljcpaaW.PrintLast Go.Proofs.Ytbfafjejmljcpaa.P

end Go.Proofs.Ytbfafjejmljcpaa.X

set_option linter.unusedVariables false
set_option linter.unusedSimpArgs false
namespace Go.Proofs.Ytbfafjejmljcpaa.X
open Go.RowKit Go.Proofs.YtbfafjejmljcpaaW.PrintWords Go.Proofs.YtbfafjejmljcpaaW.PrintLast Go.Proofs.Ytbfafjejmljcpaa.P

theorem rdL_cast (l : List (List Int)) (i : Nat) (h : i < l.length) : rd_LI l (i : Int) = l[i] := by
  unfold rd_LI
  rw [List.getD_eq_getElem?_getD]
  simp [h]
theorem rdL_int {l : List (List Int)} {i : Int} (h0 : 0 ≤ i) (h1 : i < l.length) : rd_LI l i = l[i.toNat]'(by omega) := by
  rw [← rdL_cast l i.toNat (by omega), Int.toNat_of_nonneg h0]
theorem rdL_mem {l : List (List Int)} {i : Int} (h0 : 0 ≤ i) (h1 : i < l.length) : rd_LI l i ∈ l := by
  rw [rdL_int h0 h1]; exact List.getElem_mem _
theorem ext_rdL {a b : List (List Int)} (hl : a.length = b.length) (h : ∀ i : Nat, i < a.length → rd_LI a (i : Int) = rd_LI b (i : Int)) : a = b := by
  apply List.ext_getElem hl
  intro i h1 h2
  rw [← rdL_cast a i h1, ← rdL_cast b i h2]
  exact h i h1
end Go.Proofs.Ytbfafjejmljcpaa.X

namespace Go.Proofs.Ytbfafjejmljcpaa.P
open Go.RowKit Go.Proofs.YtbfafjejmljcpaaW.PrintWords Go.Proofs.YtbfafjejmljcpaaW.PrintLast
set_option linter.unusedVariables false
set_option linter.unusedSimpArgs false

def spec_l6lLess.l0 : Nat → List Int → List Int → Int → Option (Bool)
 | 0, _, _, _ => none
 | k + 1, x0, x1, x5 => if x5 < 9 then (if 0 ≤ x5 then (if x5 < (x0.length : Int) then (if x5 < (x1.length : Int) then (if (rd x0 x5) = (rd x1 x5) then (spec_l6lLess.l0 k x0 x1 (wrap64 (x5 + 1))) else (some (decide ((rd x0 x5) < (rd x1 x5))))) else (none)) else (none)) else (none)) else (some false)
def spec_l6lLess.f (k : Nat) (l0 : List Int) (l1 : List Int) : Option (Bool) := spec_l6lLess.l0 k l0 l1 0
set_option maxHeartbeats 8000000 in
set_option maxRecDepth 100000 in
theorem spec_l6lLess.calls (k : Nat) (A0 : Option Addr) (c0 : Nat) (l0 : List Int) (A1 : Option Addr) (c1 : Nat) (l1 : List Int) (r : Bool) (w : World) (hr0 : Kd.C (Kd.int .i64) w A0 l0.length l0) (hc0 : l0.length ≤ c0) (hr1 : Kd.C (Kd.int .i64) w A1 l1.length l1) (hc1 : l1.length ≤ c1) (h : spec_l6lLess.f k l0 l1 = some r) :
  Calls Try.prog 93 #[.slice A0 l0.length c0, .slice A1 l1.length c1] w fun e w' => e = .returned (.bool r) ∧ Drawn0 w w' := by
 have HR0 := Aside0.mk hr0
 have HC0 := Aside0.mk hc0
 clear hr0 hc0
 have HR1 := Aside0.mk hr1
 have HC1 := Aside0.mk hc1
 clear hr1 hc1
 have H : (spec_l6lLess.l0 k l0 l1 0) = some r := h
 clear h
 have H' := Aside0.mk H
 clear H
 go_enter Try.func93, Try.ntmps93
 go_wp2
 repeat (go_quiet (fail); try go_wp2)
 go_loopg [5] k (fun kq v5 w' => ∃ (x5_1 : Int), v5 = .int .i64 x5_1 ∧ Aside0 (spec_l6lLess.l0 kq l0 l1 x5_1 = some r) ∧ Aside0 (kq ≤ k) ∧ Drawn0 w w')
 case atStart => exact ⟨(0), (by first | rfl | (simp; done) | (simp [*]; done)), H', ⟨Nat.le_refl _⟩, by repeat (first | exact Drawn0.refl _ | apply Drawn0.step)⟩
 case round =>
  clear H'
  try clear c1
  try clear p2
  obtain ⟨x5_1, rfl, HA, HK1, ⟨m1, rfl⟩⟩ := hrel
  cases gk with
  | zero => exact absurd HA.out (by simp [spec_l6lLess.l0])
  | succ k1 =>
   have H := HA.out
   clear HA
   simp only [spec_l6lLess.l0] at H
   by_cases c3 : x5_1 < 9
   ·rw [if_pos c3] at H
    have c3b0 : decide (x5_1 < 9) = true := decide_eq_true c3
    clear c3
    by_cases c4 : 0 ≤ x5_1
    ·rw [if_pos c4] at H
     have c4b0 : decide (0 ≤ x5_1) = true := decide_eq_true c4
     clear c4
     by_cases c5 : x5_1 < (l0.length : Int)
     ·rw [if_pos c5] at H
      have c5b0 : decide (x5_1 < (l0.length : Int)) = true := decide_eq_true c5
      clear c5
      by_cases c6 : x5_1 < (l1.length : Int)
      ·rw [if_pos c6] at H
       have c6b0 : decide (x5_1 < (l1.length : Int)) = true := decide_eq_true c6
       clear c6
       by_cases c7 : (rd l0 x5_1) = (rd l1 x5_1)
       ·rw [if_pos c7] at H
        have c7b0 : ((rd l0 x5_1) == (rd l1 x5_1)) = true := beq_iff_eq.mpr c7
        have c7b1 : ((rd l0 x5_1) != (rd l1 x5_1)) = false := bne_eq_false_iff_eq.mpr c7
        clear c7
        have H' := Aside0.mk H
        clear H
        have p388 : 0 ≤ (x5_1 : Int) := dd_
        have q388 : x5_1 < (l0.length : Int) := dd_
        obtain ⟨ad388, e388, hx388_0⟩ := Kd.at_int HR0.out x5_1 p388 q388
        cases e388
        replace p388 := eq_true p388
        replace q388 := eq_true q388
        have p389 : 0 ≤ (x5_1 : Int) := dd_
        have q389 : x5_1 < (l1.length : Int) := dd_
        obtain ⟨ad389, e389, hx389_0⟩ := Kd.at_int HR1.out x5_1 p389 q389
        cases e389
        replace p389 := eq_true p389
        replace q389 := eq_true q389
        go_wp2
        repeat (go_quiet (fail); try go_wp2)
        go_roundg k1
        case measure => have := HK1.out; omega
        case rel => exact ⟨(wrap64 (x5_1 + 1)), (by first | rfl | (simp; done) | (simp [*]; done)), H', ⟨by have := HK1.out; omega⟩, by repeat (first | exact Drawn0.refl _ | apply Drawn0.step)⟩
       ·rw [if_neg c7] at H
        have c7b0 : ((rd l0 x5_1) == (rd l1 x5_1)) = false := beq_eq_false_iff_ne.mpr c7
        have c7b1 : ((rd l0 x5_1) != (rd l1 x5_1)) = true := bne_iff_ne.mpr c7
        obtain rfl := Option.some.inj H
        have p388 : 0 ≤ (x5_1 : Int) := dd_
        have q388 : x5_1 < (l0.length : Int) := dd_
        obtain ⟨ad388, e388, hx388_0⟩ := Kd.at_int HR0.out x5_1 p388 q388
        cases e388
        replace p388 := eq_true p388
        replace q388 := eq_true q388
        have p389 : 0 ≤ (x5_1 : Int) := dd_
        have q389 : x5_1 < (l1.length : Int) := dd_
        obtain ⟨ad389, e389, hx389_0⟩ := Kd.at_int HR1.out x5_1 p389 q389
        cases e389
        replace p389 := eq_true p389
        replace q389 := eq_true q389
        have p390 : 0 ≤ (x5_1 : Int) := dd_
        have q390 : x5_1 < (l0.length : Int) := dd_
        obtain ⟨ad390, e390, hx390_0⟩ := Kd.at_int HR0.out x5_1 p390 q390
        obtain rfl : ad388 = ad390 := (by injection e390)
        replace p390 := eq_true p390
        replace q390 := eq_true q390
        have p391 : 0 ≤ (x5_1 : Int) := dd_
        have q391 : x5_1 < (l1.length : Int) := dd_
        obtain ⟨ad391, e391, hx391_0⟩ := Kd.at_int HR1.out x5_1 p391 q391
        obtain rfl : ad389 = ad391 := (by injection e391)
        replace p391 := eq_true p391
        replace q391 := eq_true q391
        go_wp2
        repeat (go_quiet (fail); try go_wp2)
        go_ret
        exact ⟨by first | rfl | (simp; done) | (simp [*]; done), by repeat (first | exact Drawn0.refl _ | apply Drawn0.step)⟩
      ·rw [if_neg c6] at H
       exact absurd H (by simp)
     ·rw [if_neg c5] at H
      exact absurd H (by simp)
    ·rw [if_neg c4] at H
     exact absurd H (by simp)
   ·rw [if_neg c3] at H
    have c3b0 : decide (x5_1 < 9) = false := decide_eq_false c3
    clear c3
    obtain rfl := Option.some.inj H
    go_wp2
    repeat (go_quiet (fail); try go_wp2)
    go_ret
    exact ⟨by first | rfl | (simp; done) | (simp [*]; done), by repeat (first | exact Drawn0.refl _ | apply Drawn0.step)⟩
end Go.Proofs.Ytbfafjejmljcpaa.P

namespace Go.Proofs.Ytbfafjejmljcpaa.P
open Go.RowKit Go.Proofs.YtbfafjejmljcpaaW.PrintWords Go.Proofs.YtbfafjejmljcpaaW.PrintLast
set_option linter.unusedVariables false
set_option linter.unusedSimpArgs false

mutual
def spec_SpreadIn.l0 : Nat → List (List Int) → List Bool → Int → Option (Bool)
 | 0, _, _, _ => none
 | k + 1, x0, x3, x4 => if x4 < 10 then (if 0 ≤ x4 then (if x4 < (x0.length : Int) then ((spec_LeafIn.f k (rd_LI x0 x4)).bind fun t479 => (if t479 = true then (if x4 > 0 then (if 0 ≤ (wrap64 (x4 - 1)) then (if (wrap64 (x4 - 1)) < (x0.length : Int) then ((spec_l6lLess.f k (rd_LI x0 (wrap64 (x4 - 1))) (rd_LI x0 x4)).bind fun t482 => (spec_SpreadIn.j1 k x0 x3 x4 (!t482))) else (none)) else (none)) else (spec_SpreadIn.j1 k x0 x3 x4 false)) else (spec_SpreadIn.j1 k x0 x3 x4 true))) else (none)) else (none)) else (some true)
def spec_SpreadIn.j1 : Nat → List (List Int) → List Bool → Int → Bool → Option (Bool)
 | 0, _, _, _, _ => none
 | k + 1, x0, x3, x4, x36 => if x36 = true then (some false) else (spec_SpreadIn.l1 k x0 x3 x4 1)
def spec_SpreadIn.l1 : Nat → List (List Int) → List Bool → Int → Int → Option (Bool)
 | 0, _, _, _, _ => none
 | k + 1, x0, x3, x4, x5 => if x5 < 9 then (if 0 ≤ x4 then (if x4 < (x0.length : Int) then (if 0 ≤ x5 then (if x5 < ((rd_LI x0 x4).length : Int) then (if 0 ≤ (rd (rd_LI x0 x4) x5) then (if (rd (rd_LI x0 x4) x5) < (x3.length : Int) then (if rdOf false x3 (rd (rd_LI x0 x4) x5) = true then (some false) else (spec_SpreadIn.l1 k x0 (x3.set ((rd (rd_LI x0 x4) x5) : Int).toNat true) x4 (wrap64 (x5 + 1)))) else (none)) else (none)) else (none)) else (none)) else (none)) else (none)) else (spec_SpreadIn.l0 k x0 x3 (wrap64 (x4 + 1)))
end
def spec_SpreadIn.f (k : Nat) (l0 : List (List Int)) : Option (Bool) := if (l0.length : Int) = 10 then (if 81 ≤ 281474976710656 then (spec_SpreadIn.l0 k l0 (List.replicate 81 false) 0) else (none)) else (some false)
set_option maxHeartbeats 8000000 in
set_option maxRecDepth 100000 in
theorem spec_SpreadIn.calls (k : Nat) (A0 : Option Addr) (c0 : Nat) (l0 : List (List Int)) (r : Bool) (w : World) (hr0 : Kd.C (Kd.slice 3 (Kd.int .i64)) w A0 l0.length l0) (hc0 : l0.length ≤ c0) (h : spec_SpreadIn.f k l0 = some r) :
  Calls Try.prog 53 #[.slice A0 l0.length c0] w fun e w' => e = .returned (.bool r) ∧ Below w.heap.size w w' := by
 have HR0 := Aside0.mk hr0
 have HC0 := Aside0.mk hc0
 clear hr0 hc0
 have HB := Aside0.mk (Below.refl w.heap.size w)
 have H : (if (l0.length : Int) = 10 then (if 81 ≤ 281474976710656 then (spec_SpreadIn.l0 k l0 (List.replicate 81 false) 0) else (none)) else (some false)) = some r := h
 clear h
 by_cases c2 : (l0.length : Int) = 10
 ·rw [if_pos c2] at H
  have c2b0 : ((l0.length : Int) == 10) = true := beq_iff_eq.mpr c2
  have c2b1 : ((l0.length : Int) != 10) = false := bne_eq_false_iff_eq.mpr c2
  clear c2
  by_cases c3 : 81 ≤ 281474976710656
  ·rw [if_pos c3] at H
   have c3b0 := eq_true c3
   have c3b1 : decide (81 ≤ 281474976710656) = true := decide_eq_true c3
   clear c3
   obtain ⟨y475, hy475⟩ : ∃ y_ : List Bool, y_ = (List.replicate 81 false) := ⟨_, rfl⟩
   replace H : (spec_SpreadIn.l0 k l0 y475 0) = some r := by first | (rw [hy475]; with_reducible exact H) | (have H2_ := (Option.bind_some _ _).symm.trans H; rw [hy475]; with_reducible exact H2_) | (have H2_ := (Option.bind_some _ _).symm.trans H; with_reducible exact H2_) | with_reducible exact H | (rw [hy475]; exact H) | exact H
   have Ny475 := Aside0.mk hy475
   clear hy475
   have H' := Aside0.mk H
   clear H
   go_enter Try.func53, Try.ntmps53
   go_wp2_with (first | ((with_reducible refine gate_dst (N := 9) rfl ?_); refine Kd.R_make Kd.bool _ 4 rfl (N := 9) rfl 52 _ _ rfl 81 rfl rfl Try.underlying52 (.bool false) 1 info4 rfl (by decide) (by omega) false (ok := fun _ => True) (okp := fun _ => True) rfl (fun _ hk => hk) trivial (by omega) (by omega) (Below.refl _ _) (Nat.le_refl _) ?_; intro v476 w4 ho5 hb hg_ hnew_; clear hg_ hnew_; (first | rw [← Ny475.out] at ho5 | (simp only [Int.reduceToNat] at ho5; rw [← Ny475.out] at ho5)); have n0_ := Aside0.mk (Kd.R_lower ho5 (below_size (bb_ HB))); have n1_ := Aside0.mk (below_step (bb_ HB) hb); clear HB; have HO477 := n0_; have HB := n1_; clear n0_ n1_; clear hb ho5))
   repeat (go_quiet (first | ((with_reducible refine gate_dst (N := 9) rfl ?_); refine Kd.R_make Kd.bool _ 4 rfl (N := 9) rfl 52 _ _ rfl 81 rfl rfl Try.underlying52 (.bool false) 1 info4 rfl (by decide) (by omega) false (ok := fun _ => True) (okp := fun _ => True) rfl (fun _ hk => hk) trivial (by omega) (by omega) (Below.refl _ _) (Nat.le_refl _) ?_; intro v476 w4 ho5 hb hg_ hnew_; clear hg_ hnew_; (first | rw [← Ny475.out] at ho5 | (simp only [Int.reduceToNat] at ho5; rw [← Ny475.out] at ho5)); have n0_ := Aside0.mk (Kd.R_lower ho5 (below_size (bb_ HB))); have n1_ := Aside0.mk (below_step (bb_ HB) hb); clear HB; have HO477 := n0_; have HB := n1_; clear n0_ n1_; clear hb ho5)); try go_wp2_with (first | ((with_reducible refine gate_dst (N := 9) rfl ?_); refine Kd.R_make Kd.bool _ 4 rfl (N := 9) rfl 52 _ _ rfl 81 rfl rfl Try.underlying52 (.bool false) 1 info4 rfl (by decide) (by omega) false (ok := fun _ => True) (okp := fun _ => True) rfl (fun _ hk => hk) trivial (by omega) (by omega) (Below.refl _ _) (Nat.le_refl _) ?_; intro v476 w4 ho5 hb hg_ hnew_; clear hg_ hnew_; (first | rw [← Ny475.out] at ho5 | (simp only [Int.reduceToNat] at ho5; rw [← Ny475.out] at ho5)); have n0_ := Aside0.mk (Kd.R_lower ho5 (below_size (bb_ HB))); have n1_ := Aside0.mk (below_step (bb_ HB) hb); clear HB; have HO477 := n0_; have HB := n1_; clear n0_ n1_; clear hb ho5)))
   go_loopg [4] k (fun kq v4 w' => ∃ (x3_1 : List Bool) (x4_1 : Int), v4 = .int .i64 x4_1 ∧ Aside0 (spec_SpreadIn.l0 kq l0 x3_1 x4_1 = some r) ∧ Aside0 (kq ≤ k) ∧ Aside0 (Kd.R Kd.bool 4 w' w.heap.size (fun _ => True) v476 x3_1) ∧ Aside0 (Below w.heap.size w w'))
   case atStart => exact ⟨(y475), (0), (by first | rfl | (simp; done) | (simp [*]; done)), H', ⟨Nat.le_refl _⟩, ⟨rr_ HO477⟩, ⟨by repeat (first | (with_reducible first | exact HB.out | apply below_alloc | apply pw_below_drewN | apply below_drew1) | exact HB.out)⟩⟩
   case round =>
    clear H'
    try clear c2
    try clear c2b0
    try clear c2b1
    try clear p2
    try clear c3
    try clear c3b0
    try clear c3b1
    try clear c5
    obtain ⟨x3_1, x4_1, rfl, HA, HK1, HO_3, HB⟩ := hrel
    cases gk with
    | zero => exact absurd HA.out (by simp [spec_SpreadIn.l0])
    | succ k1 =>
     have H := HA.out
     clear HA
     simp only [spec_SpreadIn.l0] at H
     by_cases c6 : x4_1 < 10
     ·rw [if_pos c6] at H
      have c6b0 : decide (x4_1 < 10) = true := decide_eq_true c6
      clear c6
      have HC7 := Aside0.mk H
      clear H
      go_upto_region 7 with (fail)
      repeat (go_quiet (fail); go_upto_region 7 with (fail))
      go_cut [36] (fun v36 wc => ∃ (kq : Nat) (x36_6 : Bool), v36 = .bool x36_6 ∧ Aside0 (spec_SpreadIn.j1 kq l0 x3_1 x4_1 x36_6 = some r) ∧ Aside0 (kq ≤ k1) ∧ Aside0 (Kd.R Kd.bool 4 wc w.heap.size (fun _ => True) v476 x3_1) ∧ Aside0 (Below w.heap.size w wc))
      case first =>
       have H := HC7.out
       clear HC7
       by_cases c8 : 0 ≤ x4_1
       ·rw [if_pos c8] at H
        have c8b0 : decide (0 ≤ x4_1) = true := decide_eq_true c8
        clear c8
        (first | rw [c8b0] | (simp only [i64_w, i32_w]; rw [c8b0]) | skip)
        by_cases c9 : x4_1 < (l0.length : Int)
        ·rw [if_pos c9] at H
         have c9b0 : decide (x4_1 < (l0.length : Int)) = true := decide_eq_true c9
         clear c9
         replace H := Option.bind_eq_some_iff.mp H
         obtain ⟨t479, A100, H⟩ := H
         replace H : (if t479 = true then (if x4_1 > 0 then (if 0 ≤ (wrap64 (x4_1 - 1)) then (if (wrap64 (x4_1 - 1)) < (l0.length : Int) then ((spec_l6lLess.f k1 (rd_LI l0 (wrap64 (x4_1 - 1))) (rd_LI l0 x4_1)).bind fun t482 => (spec_SpreadIn.j1 k1 l0 x3_1 x4_1 (!t482))) else (none)) else (none)) else (spec_SpreadIn.j1 k1 l0 x3_1 x4_1 false)) else (spec_SpreadIn.j1 k1 l0 x3_1 x4_1 true)) = some r := H
         have A10 := Aside0.mk A100
         clear A100
         by_cases c11 : t479 = true
         ·subst c11
          have H1 : (if x4_1 > 0 then (if 0 ≤ (wrap64 (x4_1 - 1)) then (if (wrap64 (x4_1 - 1)) < (l0.length : Int) then ((spec_l6lLess.f k1 (rd_LI l0 (wrap64 (x4_1 - 1))) (rd_LI l0 x4_1)).bind fun t482 => (spec_SpreadIn.j1 k1 l0 x3_1 x4_1 (!t482))) else (none)) else (none)) else (spec_SpreadIn.j1 k1 l0 x3_1 x4_1 false)) = some r := by rw [if_pos rfl] at H; exact H
          clear H
          have H := H1
          clear H1
          by_cases c12 : x4_1 > 0
          ·rw [if_pos c12] at H
           have c12b0 : decide (0 < x4_1) = true := decide_eq_true c12
           clear c12
           obtain ⟨ji13, hji13⟩ : ∃ j_ : Int, (wrap64 (x4_1 - 1)) = j_ := ⟨_, rfl⟩
           replace H : (if 0 ≤ (ji13) then (if (ji13) < (l0.length : Int) then ((spec_l6lLess.f k1 (rd_LI l0 (ji13)) (rd_LI l0 x4_1)).bind fun t482 => (spec_SpreadIn.j1 k1 l0 x3_1 x4_1 (!t482))) else (none)) else (none)) = some r := by first | (rw [hji13] at H; exact H) | (simp only [hji13] at H ⊢; exact H)
           (try rw [hji13] at A10)
           have hji13w : (IntKind.i64.wrap (x4_1 - 1)) = ji13 := (i64_w _).trans hji13
           by_cases c14 : 0 ≤ (ji13)
           ·rw [if_pos c14] at H
            have c14b0 : decide (0 ≤ (ji13)) = true := decide_eq_true c14
            clear c14
            by_cases c15 : (ji13) < (l0.length : Int)
            ·rw [if_pos c15] at H
             have c15b0 : decide ((ji13) < (l0.length : Int)) = true := decide_eq_true c15
             clear c15
             replace H := Option.bind_eq_some_iff.mp H
             obtain ⟨t482, A160, H⟩ := H
             replace H : (spec_SpreadIn.j1 k1 l0 x3_1 x4_1 (!t482)) = some r := H
             have A16 := Aside0.mk A160
             clear A160
             have H' := Aside0.mk H
             clear H
             have p478 : 0 ≤ (x4_1 : Int) := dd_
             have q478 : x4_1 < (l0.length : Int) := dd_
             obtain ⟨ad478, A478_0, c478_0, e478, hx478_0, hl478_0, hi478_0⟩ := at_LI HR0.out x4_1 p478 q478
             cases e478
             replace hx478_0 := hc_ HB hx478_0
             have HR478_0 := Aside0.mk hi478_0
             have HC478_0 := Aside0.mk hl478_0
             clear hi478_0 hl478_0
             replace p478 := eq_true p478
             replace q478 := eq_true q478
             go_wp2_with (first | (go_at_call 24; (with_reducible refine (spec_LeafIn.calls k1 _ _ (rd_LI l0 x4_1) true _ ?side1 ?side2 A10.out).mono ?_); (case side1 => exact sb_ HR478_0 HB); (case side2 => exact HC478_0.out); rintro e w' ⟨rfl, ⟨nd, rfl⟩⟩; (try first | exact ⟨rfl, _, World.drewN_drewN _ _ _⟩ | exact ⟨rfl, _, Eq.trans (World.drewN_drewN _ _ _) (congrArg (World.drewN _) (Nat.add_assoc _ _ _))⟩); have p480 : 0 ≤ ((ji13) : Int) := dd_; have q480 : (ji13) < (l0.length : Int) := dd_; obtain ⟨ad480, A480_0, c480_0, e480, hx480_0, hl480_0, hi480_0⟩ := at_LI HR0.out (ji13) p480 q480; obtain rfl : ad478 = ad480 := (by injection e480); replace hx480_0 := hc_ HB hx480_0; have HR480_0 := Aside0.mk hi480_0; have HC480_0 := Aside0.mk hl480_0; clear hi480_0 hl480_0; replace p480 := eq_true p480; replace q480 := eq_true q480; have p481 : 0 ≤ (x4_1 : Int) := dd_; have q481 : x4_1 < (l0.length : Int) := dd_; obtain ⟨ad481, A481_0, c481_0, e481, hx481_0, hl481_0, hi481_0⟩ := at_LI HR0.out x4_1 p481 q481; obtain rfl : ad478 = ad481 := (by injection e481); replace hx481_0 := hc_ HB hx481_0; have HR481_0 := Aside0.mk hi481_0; have HC481_0 := Aside0.mk hl481_0; clear hi481_0 hl481_0; replace p481 := eq_true p481; replace q481 := eq_true q481; have ea_ := Option.some.inj (hx478_0.symm.trans hx481_0); injection ea_ with ea_ en_ ec_; subst ea_; subst ec_; clear en_) | (go_at_call 93; (with_reducible refine (spec_l6lLess.calls k1 _ _ (rd_LI l0 (ji13)) _ _ (rd_LI l0 x4_1) t482 _ ?side1 ?side2 ?side3 ?side4 A16.out).mono ?_); (case side1 => repeat (first | exact (Kd.C_below HR480_0.out (bb_ HB)) | (with_reducible refine Kd.C_alloc ?_ _) | (with_reducible refine Kd.C_drewN ?_ _) | (with_reducible refine Kd.C_drew ?_))); (case side2 => exact HC480_0.out); (case side3 => repeat (first | exact (Kd.C_below HR481_0.out (bb_ HB)) | (with_reducible refine Kd.C_alloc ?_ _) | (with_reducible refine Kd.C_drewN ?_ _) | (with_reducible refine Kd.C_drew ?_))); (case side4 => exact HC481_0.out); rintro e w' ⟨rfl, ⟨nd, rfl⟩⟩; (try first | exact ⟨rfl, _, World.drewN_drewN _ _ _⟩ | exact ⟨rfl, _, Eq.trans (World.drewN_drewN _ _ _) (congrArg (World.drewN _) (Nat.add_assoc _ _ _))⟩)))
             repeat (go_quiet (first | (go_at_call 24; (with_reducible refine (spec_LeafIn.calls k1 _ _ (rd_LI l0 x4_1) true _ ?side1 ?side2 A10.out).mono ?_); (case side1 => exact sb_ HR478_0 HB); (case side2 => exact HC478_0.out); rintro e w' ⟨rfl, ⟨nd, rfl⟩⟩; (try first | exact ⟨rfl, _, World.drewN_drewN _ _ _⟩ | exact ⟨rfl, _, Eq.trans (World.drewN_drewN _ _ _) (congrArg (World.drewN _) (Nat.add_assoc _ _ _))⟩); have p480 : 0 ≤ ((ji13) : Int) := dd_; have q480 : (ji13) < (l0.length : Int) := dd_; obtain ⟨ad480, A480_0, c480_0, e480, hx480_0, hl480_0, hi480_0⟩ := at_LI HR0.out (ji13) p480 q480; obtain rfl : ad478 = ad480 := (by injection e480); replace hx480_0 := hc_ HB hx480_0; have HR480_0 := Aside0.mk hi480_0; have HC480_0 := Aside0.mk hl480_0; clear hi480_0 hl480_0; replace p480 := eq_true p480; replace q480 := eq_true q480; have p481 : 0 ≤ (x4_1 : Int) := dd_; have q481 : x4_1 < (l0.length : Int) := dd_; obtain ⟨ad481, A481_0, c481_0, e481, hx481_0, hl481_0, hi481_0⟩ := at_LI HR0.out x4_1 p481 q481; obtain rfl : ad478 = ad481 := (by injection e481); replace hx481_0 := hc_ HB hx481_0; have HR481_0 := Aside0.mk hi481_0; have HC481_0 := Aside0.mk hl481_0; clear hi481_0 hl481_0; replace p481 := eq_true p481; replace q481 := eq_true q481; have ea_ := Option.some.inj (hx478_0.symm.trans hx481_0); injection ea_ with ea_ en_ ec_; subst ea_; subst ec_; clear en_) | (go_at_call 93; (with_reducible refine (spec_l6lLess.calls k1 _ _ (rd_LI l0 (ji13)) _ _ (rd_LI l0 x4_1) t482 _ ?side1 ?side2 ?side3 ?side4 A16.out).mono ?_); (case side1 => repeat (first | exact (Kd.C_below HR480_0.out (bb_ HB)) | (with_reducible refine Kd.C_alloc ?_ _) | (with_reducible refine Kd.C_drewN ?_ _) | (with_reducible refine Kd.C_drew ?_))); (case side2 => exact HC480_0.out); (case side3 => repeat (first | exact (Kd.C_below HR481_0.out (bb_ HB)) | (with_reducible refine Kd.C_alloc ?_ _) | (with_reducible refine Kd.C_drewN ?_ _) | (with_reducible refine Kd.C_drew ?_))); (case side4 => exact HC481_0.out); rintro e w' ⟨rfl, ⟨nd, rfl⟩⟩; (try first | exact ⟨rfl, _, World.drewN_drewN _ _ _⟩ | exact ⟨rfl, _, Eq.trans (World.drewN_drewN _ _ _) (congrArg (World.drewN _) (Nat.add_assoc _ _ _))⟩))); try go_wp2_with (first | (go_at_call 24; (with_reducible refine (spec_LeafIn.calls k1 _ _ (rd_LI l0 x4_1) true _ ?side1 ?side2 A10.out).mono ?_); (case side1 => exact sb_ HR478_0 HB); (case side2 => exact HC478_0.out); rintro e w' ⟨rfl, ⟨nd, rfl⟩⟩; (try first | exact ⟨rfl, _, World.drewN_drewN _ _ _⟩ | exact ⟨rfl, _, Eq.trans (World.drewN_drewN _ _ _) (congrArg (World.drewN _) (Nat.add_assoc _ _ _))⟩); have p480 : 0 ≤ ((ji13) : Int) := dd_; have q480 : (ji13) < (l0.length : Int) := dd_; obtain ⟨ad480, A480_0, c480_0, e480, hx480_0, hl480_0, hi480_0⟩ := at_LI HR0.out (ji13) p480 q480; obtain rfl : ad478 = ad480 := (by injection e480); replace hx480_0 := hc_ HB hx480_0; have HR480_0 := Aside0.mk hi480_0; have HC480_0 := Aside0.mk hl480_0; clear hi480_0 hl480_0; replace p480 := eq_true p480; replace q480 := eq_true q480; have p481 : 0 ≤ (x4_1 : Int) := dd_; have q481 : x4_1 < (l0.length : Int) := dd_; obtain ⟨ad481, A481_0, c481_0, e481, hx481_0, hl481_0, hi481_0⟩ := at_LI HR0.out x4_1 p481 q481; obtain rfl : ad478 = ad481 := (by injection e481); replace hx481_0 := hc_ HB hx481_0; have HR481_0 := Aside0.mk hi481_0; have HC481_0 := Aside0.mk hl481_0; clear hi481_0 hl481_0; replace p481 := eq_true p481; replace q481 := eq_true q481; have ea_ := Option.some.inj (hx478_0.symm.trans hx481_0); injection ea_ with ea_ en_ ec_; subst ea_; subst ec_; clear en_) | (go_at_call 93; (with_reducible refine (spec_l6lLess.calls k1 _ _ (rd_LI l0 (ji13)) _ _ (rd_LI l0 x4_1) t482 _ ?side1 ?side2 ?side3 ?side4 A16.out).mono ?_); (case side1 => repeat (first | exact (Kd.C_below HR480_0.out (bb_ HB)) | (with_reducible refine Kd.C_alloc ?_ _) | (with_reducible refine Kd.C_drewN ?_ _) | (with_reducible refine Kd.C_drew ?_))); (case side2 => exact HC480_0.out); (case side3 => repeat (first | exact (Kd.C_below HR481_0.out (bb_ HB)) | (with_reducible refine Kd.C_alloc ?_ _) | (with_reducible refine Kd.C_drewN ?_ _) | (with_reducible refine Kd.C_drew ?_))); (case side4 => exact HC481_0.out); rintro e w' ⟨rfl, ⟨nd, rfl⟩⟩; (try first | exact ⟨rfl, _, World.drewN_drewN _ _ _⟩ | exact ⟨rfl, _, Eq.trans (World.drewN_drewN _ _ _) (congrArg (World.drewN _) (Nat.add_assoc _ _ _))⟩))))
             go_meet
             case rel => exact ⟨_, (!t482), (by first | rfl | (simp; done) | (simp [*]; done)), H', ⟨by have := HK1.out; first | omega | exact Nat.le_refl _⟩, ⟨rr_ HO_3⟩, ⟨by repeat (first | (with_reducible first | exact HB.out | apply below_alloc | apply pw_below_drewN | apply below_drew1) | exact HB.out)⟩⟩
            ·rw [if_neg c15] at H
             exact absurd H (by simp)
           ·rw [if_neg c14] at H
            exact absurd H (by simp)
          ·rw [if_neg c12] at H
           have c12b0 : decide (0 < x4_1) = false := decide_eq_false c12
           clear c12
           have H' := Aside0.mk H
           clear H
           have p478 : 0 ≤ (x4_1 : Int) := dd_
           have q478 : x4_1 < (l0.length : Int) := dd_
           obtain ⟨ad478, A478_0, c478_0, e478, hx478_0, hl478_0, hi478_0⟩ := at_LI HR0.out x4_1 p478 q478
           cases e478
           replace hx478_0 := hc_ HB hx478_0
           have HR478_0 := Aside0.mk hi478_0
           have HC478_0 := Aside0.mk hl478_0
           clear hi478_0 hl478_0
           replace p478 := eq_true p478
           replace q478 := eq_true q478
           go_wp2_with (first | (go_at_call 24; (with_reducible refine (spec_LeafIn.calls k1 _ _ (rd_LI l0 x4_1) true _ ?side1 ?side2 A10.out).mono ?_); (case side1 => exact sb_ HR478_0 HB); (case side2 => exact HC478_0.out); rintro e w' ⟨rfl, ⟨nd, rfl⟩⟩; (try first | exact ⟨rfl, _, World.drewN_drewN _ _ _⟩ | exact ⟨rfl, _, Eq.trans (World.drewN_drewN _ _ _) (congrArg (World.drewN _) (Nat.add_assoc _ _ _))⟩)))
           repeat (go_quiet (first | (go_at_call 24; (with_reducible refine (spec_LeafIn.calls k1 _ _ (rd_LI l0 x4_1) true _ ?side1 ?side2 A10.out).mono ?_); (case side1 => exact sb_ HR478_0 HB); (case side2 => exact HC478_0.out); rintro e w' ⟨rfl, ⟨nd, rfl⟩⟩; (try first | exact ⟨rfl, _, World.drewN_drewN _ _ _⟩ | exact ⟨rfl, _, Eq.trans (World.drewN_drewN _ _ _) (congrArg (World.drewN _) (Nat.add_assoc _ _ _))⟩))); try go_wp2_with (first | (go_at_call 24; (with_reducible refine (spec_LeafIn.calls k1 _ _ (rd_LI l0 x4_1) true _ ?side1 ?side2 A10.out).mono ?_); (case side1 => exact sb_ HR478_0 HB); (case side2 => exact HC478_0.out); rintro e w' ⟨rfl, ⟨nd, rfl⟩⟩; (try first | exact ⟨rfl, _, World.drewN_drewN _ _ _⟩ | exact ⟨rfl, _, Eq.trans (World.drewN_drewN _ _ _) (congrArg (World.drewN _) (Nat.add_assoc _ _ _))⟩))))
           go_meet
           case rel => exact ⟨_, (false), (by first | rfl | (simp; done) | (simp [*]; done)), H', ⟨by have := HK1.out; first | omega | exact Nat.le_refl _⟩, ⟨rr_ HO_3⟩, ⟨by repeat (first | (with_reducible first | exact HB.out | apply below_alloc | apply pw_below_drewN | apply below_drew1) | exact HB.out)⟩⟩
         ·replace c11 := Bool.eq_false_iff.mpr c11
          subst c11
          have H1 : (spec_SpreadIn.j1 k1 l0 x3_1 x4_1 true) = some r := by rw [if_neg (show ¬ (false = true) by decide)] at H; exact H
          clear H
          have H := H1
          clear H1
          have H' := Aside0.mk H
          clear H
          have p478 : 0 ≤ (x4_1 : Int) := dd_
          have q478 : x4_1 < (l0.length : Int) := dd_
          obtain ⟨ad478, A478_0, c478_0, e478, hx478_0, hl478_0, hi478_0⟩ := at_LI HR0.out x4_1 p478 q478
          cases e478
          replace hx478_0 := hc_ HB hx478_0
          have HR478_0 := Aside0.mk hi478_0
          have HC478_0 := Aside0.mk hl478_0
          clear hi478_0 hl478_0
          replace p478 := eq_true p478
          replace q478 := eq_true q478
          go_wp2_with (first | (go_at_call 24; (with_reducible refine (spec_LeafIn.calls k1 _ _ (rd_LI l0 x4_1) false _ ?side1 ?side2 A10.out).mono ?_); (case side1 => exact sb_ HR478_0 HB); (case side2 => exact HC478_0.out); rintro e w' ⟨rfl, ⟨nd, rfl⟩⟩; (try first | exact ⟨rfl, _, World.drewN_drewN _ _ _⟩ | exact ⟨rfl, _, Eq.trans (World.drewN_drewN _ _ _) (congrArg (World.drewN _) (Nat.add_assoc _ _ _))⟩)))
          repeat (go_quiet (first | (go_at_call 24; (with_reducible refine (spec_LeafIn.calls k1 _ _ (rd_LI l0 x4_1) false _ ?side1 ?side2 A10.out).mono ?_); (case side1 => exact sb_ HR478_0 HB); (case side2 => exact HC478_0.out); rintro e w' ⟨rfl, ⟨nd, rfl⟩⟩; (try first | exact ⟨rfl, _, World.drewN_drewN _ _ _⟩ | exact ⟨rfl, _, Eq.trans (World.drewN_drewN _ _ _) (congrArg (World.drewN _) (Nat.add_assoc _ _ _))⟩))); try go_wp2_with (first | (go_at_call 24; (with_reducible refine (spec_LeafIn.calls k1 _ _ (rd_LI l0 x4_1) false _ ?side1 ?side2 A10.out).mono ?_); (case side1 => exact sb_ HR478_0 HB); (case side2 => exact HC478_0.out); rintro e w' ⟨rfl, ⟨nd, rfl⟩⟩; (try first | exact ⟨rfl, _, World.drewN_drewN _ _ _⟩ | exact ⟨rfl, _, Eq.trans (World.drewN_drewN _ _ _) (congrArg (World.drewN _) (Nat.add_assoc _ _ _))⟩))))
          go_meet
          case rel => exact ⟨_, (true), (by first | rfl | (simp; done) | (simp [*]; done)), H', ⟨by have := HK1.out; first | omega | exact Nat.le_refl _⟩, ⟨rr_ HO_3⟩, ⟨by repeat (first | (with_reducible first | exact HB.out | apply below_alloc | apply pw_below_drewN | apply below_drew1) | exact HB.out)⟩⟩
        ·rw [if_neg c9] at H
         exact absurd H (by simp)
       ·rw [if_neg c8] at H
        exact absurd H (by simp)
      case rest =>
       clear HC7
       try clear c1
       try clear c2
       try clear c2b0
       try clear c2b1
       try clear p2
       try clear c3
       try clear c3b0
       try clear c3b1
       try clear c4
       try clear p4
       try clear q4
       try clear hx4
       try clear c5
       try clear c6
       try clear c6b0
       try clear p6
       try clear c8
       try clear c8b0
       try clear c9
       try clear c9b0
       try clear c11
       try clear c12
       try clear c12b0
       try clear c14
       try clear c14b0
       try clear c15
       try clear c15b0
       try clear hx478_0
       try clear hx480_0
       try clear hx481_0
       try clear p2
       try clear p478
       try clear p480
       try clear p481
       try clear q478
       try clear q480
       try clear q481
       obtain ⟨kq, x36_6, rfl, HA, HJ6, HO_3, HB⟩ := hcut
       cases kq with
       | zero => exact absurd HA.out (by simp [spec_SpreadIn.j1])
       | succ kj6 =>
        have H := HA.out
        clear HA
        simp only [spec_SpreadIn.j1] at H
        by_cases c17 : x36_6 = true
        ·subst c17
         have H1 : (some false) = some r := by rw [if_pos rfl] at H; exact H
         clear H
         have H := H1
         clear H1
         obtain rfl := Option.some.inj H
         go_wp2
         repeat (go_quiet (fail); try go_wp2)
         go_ret
         exact ⟨ee_, bb_ HB⟩
        ·replace c17 := Bool.eq_false_iff.mpr c17
         subst c17
         have H1 : (spec_SpreadIn.l1 kj6 l0 x3_1 x4_1 1) = some r := by rw [if_neg (show ¬ (false = true) by decide)] at H; exact H
         clear H
         have H := H1
         clear H1
         have H' := Aside0.mk H
         clear H
         go_wp2
         repeat (go_quiet (fail); try go_wp2)
         go_loopg [5] kj6 (fun kq v5 w' => ∃ (x3_3 : List Bool) (x5_3 : Int), v5 = .int .i64 x5_3 ∧ Aside0 (spec_SpreadIn.l1 kq l0 x3_3 x4_1 x5_3 = some r) ∧ Aside0 (kq ≤ kj6) ∧ Aside0 (Kd.R Kd.bool 4 w' w.heap.size (fun _ => True) v476 x3_3) ∧ Aside0 (Below w.heap.size w w'))
         case atStart => exact ⟨(x3_1), (1), (by first | rfl | (simp; done) | (simp [*]; done)), H', ⟨Nat.le_refl _⟩, ⟨rr_ HO_3⟩, ⟨by repeat (first | (with_reducible first | exact HB.out | apply below_alloc | apply pw_below_drewN | apply below_drew1) | exact HB.out)⟩⟩
         case round =>
          clear H'
          try clear c1
          try clear c2
          try clear c2b0
          try clear c2b1
          try clear p2
          try clear c3
          try clear c3b0
          try clear c3b1
          try clear c4
          try clear p4
          try clear q4
          try clear hx4
          try clear c5
          try clear c6
          try clear c6b0
          try clear p6
          try clear c8
          try clear c8b0
          try clear c9
          try clear c9b0
          try clear c11
          try clear c12
          try clear c12b0
          try clear c14
          try clear c14b0
          try clear c15
          try clear c15b0
          try clear c17
          try clear hx478_0
          try clear hx480_0
          try clear hx481_0
          try clear p2
          try clear p4
          try clear p478
          try clear p480
          try clear p481
          try clear p6
          try clear q4
          try clear q478
          try clear q480
          try clear q481
          obtain ⟨x3_3, x5_3, rfl, HA, HK3, HO_3, HB⟩ := hrel
          cases gk with
          | zero => exact absurd HA.out (by simp [spec_SpreadIn.l1])
          | succ k3 =>
           have H := HA.out
           clear HA
           simp only [spec_SpreadIn.l1] at H
           by_cases c18 : x5_3 < 9
           ·rw [if_pos c18] at H
            have c18b0 : decide (x5_3 < 9) = true := decide_eq_true c18
            clear c18
            by_cases c19 : 0 ≤ x4_1
            ·rw [if_pos c19] at H
             have c19b0 : decide (0 ≤ x4_1) = true := decide_eq_true c19
             clear c19
             by_cases c20 : x4_1 < (l0.length : Int)
             ·rw [if_pos c20] at H
              have c20b0 : decide (x4_1 < (l0.length : Int)) = true := decide_eq_true c20
              clear c20
              by_cases c21 : 0 ≤ x5_3
              ·rw [if_pos c21] at H
               have c21b0 : decide (0 ≤ x5_3) = true := decide_eq_true c21
               clear c21
               by_cases c22 : x5_3 < ((rd_LI l0 x4_1).length : Int)
               ·rw [if_pos c22] at H
                have c22b0 : decide (x5_3 < ((rd_LI l0 x4_1).length : Int)) = true := decide_eq_true c22
                clear c22
                by_cases c23 : 0 ≤ (rd (rd_LI l0 x4_1) x5_3)
                ·rw [if_pos c23] at H
                 have c23b0 : decide (0 ≤ (rd (rd_LI l0 x4_1) x5_3)) = true := decide_eq_true c23
                 clear c23
                 by_cases c24 : (rd (rd_LI l0 x4_1) x5_3) < (x3_3.length : Int)
                 ·rw [if_pos c24] at H
                  have c24b0 : decide ((rd (rd_LI l0 x4_1) x5_3) < (x3_3.length : Int)) = true := decide_eq_true c24
                  clear c24
                  obtain ⟨bq25, hbq25⟩ : ∃ b_ : Bool, b_ = (rdOf false x3_3 (rd (rd_LI l0 x4_1) x5_3)) := ⟨_, rfl⟩
                  replace H : (if bq25 = true then (some false) else (spec_SpreadIn.l1 k3 l0 (x3_3.set ((rd (rd_LI l0 x4_1) x5_3) : Int).toNat true) x4_1 (wrap64 (x5_3 + 1)))) = some r := by rw [← hbq25] at H; exact H
                  have Nbq25 := Aside0.mk hbq25
                  clear hbq25
                  by_cases c26 : bq25 = true
                  ·subst c26
                   have H1 : (some false) = some r := by rw [if_pos rfl] at H; exact H
                   clear H
                   have H := H1
                   clear H1
                   obtain rfl := Option.some.inj H
                   have p483 : 0 ≤ (x4_1 : Int) := dd_
                   have q483 : x4_1 < (l0.length : Int) := dd_
                   obtain ⟨ad483, A483_0, c483_0, e483, hx483_0, hl483_0, hi483_0⟩ := at_LI HR0.out x4_1 p483 q483
                   cases e483
                   replace hx483_0 := hc_ HB hx483_0
                   have HR483_0 := Aside0.mk hi483_0
                   have HC483_0 := Aside0.mk hl483_0
                   clear hi483_0 hl483_0
                   replace p483 := eq_true p483
                   replace q483 := eq_true q483
                   have p484 : 0 ≤ (x5_3 : Int) := dd_
                   have q484 : x5_3 < ((rd_LI l0 x4_1).length : Int) := dd_
                   obtain ⟨ad484, e484, hx484_0⟩ := Kd.at_int HR483_0.out x5_3 p484 q484
                   cases e484
                   replace hx484_0 := hc_ HB hx484_0
                   replace p484 := eq_true p484
                   replace q484 := eq_true q484
                   obtain ⟨Ao27, co27, eo27⟩ := Kd.R_slice HO_3.out
                   subst eo27
                   have p485 : 0 ≤ ((rd (rd_LI l0 x4_1) x5_3) : Int) := dd_
                   have q485 : (rd (rd_LI l0 x4_1) x5_3) < (x3_3.length : Int) := dd_
                   obtain ⟨ad485, e485, hx485_0⟩ := Kd.at_bool (Kd.R_reads' HO_3.out).2.2 (rd (rd_LI l0 x4_1) x5_3) p485 q485
                   (try rw [← Nbq25.out] at hx485_0)
                   cases e485
                   replace p485 := eq_true p485
                   replace q485 := eq_true q485
                   go_wp2
                   repeat (go_quiet (fail); try go_wp2)
                   go_ret
                   exact ⟨ee_, bb_ HB⟩
                  ·replace c26 := Bool.eq_false_iff.mpr c26
                   subst c26
                   have H1 : (spec_SpreadIn.l1 k3 l0 (x3_3.set ((rd (rd_LI l0 x4_1) x5_3) : Int).toNat true) x4_1 (wrap64 (x5_3 + 1))) = some r := by rw [if_neg (show ¬ (false = true) by decide)] at H; exact H
                   clear H
                   have H := H1
                   clear H1
                   obtain ⟨y488, hy488⟩ : ∃ y_ : List Bool, y_ = (x3_3.set ((rd (rd_LI l0 x4_1) x5_3) : Int).toNat true) := ⟨_, rfl⟩
                   replace H : (spec_SpreadIn.l1 k3 l0 y488 x4_1 (wrap64 (x5_3 + 1))) = some r := by first | (rw [hy488]; with_reducible exact H) | (have H2_ := (Option.bind_some _ _).symm.trans H; rw [hy488]; with_reducible exact H2_) | (have H2_ := (Option.bind_some _ _).symm.trans H; with_reducible exact H2_) | with_reducible exact H | (rw [hy488]; exact H) | exact H
                   have Ny488 := Aside0.mk hy488
                   clear hy488
                   have H' := Aside0.mk H
                   clear H
                   have p483 : 0 ≤ (x4_1 : Int) := dd_
                   have q483 : x4_1 < (l0.length : Int) := dd_
                   obtain ⟨ad483, A483_0, c483_0, e483, hx483_0, hl483_0, hi483_0⟩ := at_LI HR0.out x4_1 p483 q483
                   cases e483
                   replace hx483_0 := hc_ HB hx483_0
                   have HR483_0 := Aside0.mk hi483_0
                   have HC483_0 := Aside0.mk hl483_0
                   clear hi483_0 hl483_0
                   replace p483 := eq_true p483
                   replace q483 := eq_true q483
                   have p484 : 0 ≤ (x5_3 : Int) := dd_
                   have q484 : x5_3 < ((rd_LI l0 x4_1).length : Int) := dd_
                   obtain ⟨ad484, e484, hx484_0⟩ := Kd.at_int HR483_0.out x5_3 p484 q484
                   cases e484
                   replace hx484_0 := hc_ HB hx484_0
                   replace p484 := eq_true p484
                   replace q484 := eq_true q484
                   obtain ⟨Ao29, co29, eo29⟩ := Kd.R_slice HO_3.out
                   subst eo29
                   have p485 : 0 ≤ ((rd (rd_LI l0 x4_1) x5_3) : Int) := dd_
                   have q485 : (rd (rd_LI l0 x4_1) x5_3) < (x3_3.length : Int) := dd_
                   obtain ⟨ad485, e485, hx485_0⟩ := Kd.at_bool (Kd.R_reads' HO_3.out).2.2 (rd (rd_LI l0 x4_1) x5_3) p485 q485
                   (try rw [← Nbq25.out] at hx485_0)
                   cases e485
                   replace p485 := eq_true p485
                   replace q485 := eq_true q485
                   have p486 : 0 ≤ (x4_1 : Int) := dd_
                   have q486 : x4_1 < (l0.length : Int) := dd_
                   obtain ⟨ad486, A486_0, c486_0, e486, hx486_0, hl486_0, hi486_0⟩ := at_LI HR0.out x4_1 p486 q486
                   obtain rfl : ad483 = ad486 := (by injection e486)
                   replace hx486_0 := hc_ HB hx486_0
                   have HR486_0 := Aside0.mk hi486_0
                   have HC486_0 := Aside0.mk hl486_0
                   clear hi486_0 hl486_0
                   replace p486 := eq_true p486
                   replace q486 := eq_true q486
                   have ea_ := Option.some.inj (hx483_0.symm.trans hx486_0)
                   injection ea_ with ea_ en_ ec_
                   subst ea_
                   subst ec_
                   clear en_
                   have p487 : 0 ≤ (x5_3 : Int) := dd_
                   have q487 : x5_3 < ((rd_LI l0 x4_1).length : Int) := dd_
                   obtain ⟨ad487, e487, hx487_0⟩ := Kd.at_int HR486_0.out x5_3 p487 q487
                   cases e487
                   replace hx487_0 := hc_ HB hx487_0
                   replace p487 := eq_true p487
                   replace q487 := eq_true q487
                   have p28 : 0 ≤ ((rd (rd_LI l0 x4_1) x5_3) : Int) := dd_
                   have q28 : ((rd (rd_LI l0 x4_1) x5_3) : Int) < ((x3_3.length : Int) : Int) := dd_
                   obtain ⟨go28, co28, eo28, gb28, gl28, cl28, HG28⟩ := Kd.R_form HO_3.out (by omega)
                   (first | cases eo28 | (injection eo28 with ea_ en_ ec_; (first | subst ea_ | (injection ea_ with ea_; subst ea_)); subst ec_; clear en_))
                   have GB28 := Aside0.mk gb28
                   have GG28 := Aside0.mk HG28
                   clear gb28 gl28 HG28
                   (first | simp only [add_plain] at hx485_0 | skip)
                   obtain ⟨hx28_0, hf28_0⟩ := Kd.R_celln false HO_3.out ((rd (rd_LI l0 x4_1) x5_3) : Int) p28 q28
                   replace p28 := eq_true p28
                   replace q28 := eq_true q28
                   have HP30 := Kd.R_putg HO_3.out ((rd (rd_LI l0 x4_1) x5_3) : Int) true
                   go_wp2_with (first | ((with_reducible refine gate_store (t := 4) (p := 59) rfl ?_); (try (rw [dself_ wr]; generalize hq_ : World.drewN wr _ = wr; have n0_ := Aside0.mk (Kd.R_at hq_ HO_3.out); have n1_ := Aside0.mk (below_at hq_ HB.out); clear hq_ HO_3 HB; have HO_3 := n0_; have HB := n1_; clear n0_ n1_; (try (have HP30 := Kd.R_putg HO_3.out ((rd (rd_LI l0 x4_1) x5_3) : Int) true)))); refine store_event (t := 4) (p := 59) (v := ?vo_w31) (w1 := (wr.setCell ⟨go28, ((rd (rd_LI l0 x4_1) x5_3) : Int).toNat, none⟩ (.bool true))) ?hg ?ho ?hn ?hr ?_; (case ho => rfl); (case hg => rfl); (case hn => rfl); (case hr => first | (go_simp; done) | (go_simp; rfl)); intro w31 hw; have hg : wr.grownBy w31 (some go28) := (by rw [hw]; exact HP30.2); have hp_ : Kd.R Kd.bool 4 w31 w.heap.size (fun _ => True) (.slice (some ⟨go28, 0, none⟩) x3_3.length co29) y488 := (by rw [hw, Ny488.out]; exact HP30.1); clear HP30; have n0_ := Aside0.mk (hp_); have n1_ := Aside0.mk ((by rw [hw]; exact below_set (HB.out) GB28.out : Below w.heap.size w w31)); clear HO_3; clear HB; have HO_3 := n0_; have HB := n1_; clear n0_ n1_; clear hg hw hp_))
                   repeat (go_quiet (first | ((with_reducible refine gate_store (t := 4) (p := 59) rfl ?_); (try (rw [dself_ wr]; generalize hq_ : World.drewN wr _ = wr; have n0_ := Aside0.mk (Kd.R_at hq_ HO_3.out); have n1_ := Aside0.mk (below_at hq_ HB.out); clear hq_ HO_3 HB; have HO_3 := n0_; have HB := n1_; clear n0_ n1_; (try (have HP30 := Kd.R_putg HO_3.out ((rd (rd_LI l0 x4_1) x5_3) : Int) true)))); refine store_event (t := 4) (p := 59) (v := ?vo_w31) (w1 := (wr.setCell ⟨go28, ((rd (rd_LI l0 x4_1) x5_3) : Int).toNat, none⟩ (.bool true))) ?hg ?ho ?hn ?hr ?_; (case ho => rfl); (case hg => rfl); (case hn => rfl); (case hr => first | (go_simp; done) | (go_simp; rfl)); intro w31 hw; have hg : wr.grownBy w31 (some go28) := (by rw [hw]; exact HP30.2); have hp_ : Kd.R Kd.bool 4 w31 w.heap.size (fun _ => True) (.slice (some ⟨go28, 0, none⟩) x3_3.length co29) y488 := (by rw [hw, Ny488.out]; exact HP30.1); clear HP30; have n0_ := Aside0.mk (hp_); have n1_ := Aside0.mk ((by rw [hw]; exact below_set (HB.out) GB28.out : Below w.heap.size w w31)); clear HO_3; clear HB; have HO_3 := n0_; have HB := n1_; clear n0_ n1_; clear hg hw hp_)); try go_wp2_with (first | ((with_reducible refine gate_store (t := 4) (p := 59) rfl ?_); (try (rw [dself_ wr]; generalize hq_ : World.drewN wr _ = wr; have n0_ := Aside0.mk (Kd.R_at hq_ HO_3.out); have n1_ := Aside0.mk (below_at hq_ HB.out); clear hq_ HO_3 HB; have HO_3 := n0_; have HB := n1_; clear n0_ n1_; (try (have HP30 := Kd.R_putg HO_3.out ((rd (rd_LI l0 x4_1) x5_3) : Int) true)))); refine store_event (t := 4) (p := 59) (v := ?vo_w31) (w1 := (wr.setCell ⟨go28, ((rd (rd_LI l0 x4_1) x5_3) : Int).toNat, none⟩ (.bool true))) ?hg ?ho ?hn ?hr ?_; (case ho => rfl); (case hg => rfl); (case hn => rfl); (case hr => first | (go_simp; done) | (go_simp; rfl)); intro w31 hw; have hg : wr.grownBy w31 (some go28) := (by rw [hw]; exact HP30.2); have hp_ : Kd.R Kd.bool 4 w31 w.heap.size (fun _ => True) (.slice (some ⟨go28, 0, none⟩) x3_3.length co29) y488 := (by rw [hw, Ny488.out]; exact HP30.1); clear HP30; have n0_ := Aside0.mk (hp_); have n1_ := Aside0.mk ((by rw [hw]; exact below_set (HB.out) GB28.out : Below w.heap.size w w31)); clear HO_3; clear HB; have HO_3 := n0_; have HB := n1_; clear n0_ n1_; clear hg hw hp_)))
                   go_roundg k3
                   case measure => have := HK1.out; have := HJ6.out; have := HK3.out; omega
                   case rel => exact ⟨(y488), (wrap64 (x5_3 + 1)), (by first | rfl | (simp; done) | (simp [*]; done)), H', ⟨by have := HK1.out; have := HJ6.out; have := HK3.out; omega⟩, ⟨rr_ HO_3⟩, ⟨by repeat (first | (with_reducible first | exact HB.out | apply below_alloc | apply pw_below_drewN | apply below_drew1) | exact HB.out)⟩⟩
                 ·rw [if_neg c24] at H
                  exact absurd H (by simp)
                ·rw [if_neg c23] at H
                 exact absurd H (by simp)
               ·rw [if_neg c22] at H
                exact absurd H (by simp)
              ·rw [if_neg c21] at H
               exact absurd H (by simp)
             ·rw [if_neg c20] at H
              exact absurd H (by simp)
            ·rw [if_neg c19] at H
             exact absurd H (by simp)
           ·rw [if_neg c18] at H
            have c18b0 : decide (x5_3 < 9) = false := decide_eq_false c18
            clear c18
            have H' := Aside0.mk H
            clear H
            go_wp2
            repeat (go_quiet (fail); try go_wp2)
            go_roundg k3
            case measure => have := HK1.out; have := HJ6.out; have := HK3.out; omega
            case rel => exact ⟨(x3_3), (wrap64 (x4_1 + 1)), (by first | rfl | (simp; done) | (simp [*]; done)), H', ⟨by have := HK1.out; have := HJ6.out; have := HK3.out; omega⟩, ⟨rr_ HO_3⟩, ⟨by repeat (first | (with_reducible first | exact HB.out | apply below_alloc | apply pw_below_drewN | apply below_drew1) | exact HB.out)⟩⟩
     ·rw [if_neg c6] at H
      have c6b0 : decide (x4_1 < 10) = false := decide_eq_false c6
      clear c6
      obtain rfl := Option.some.inj H
      go_wp2
      repeat (go_quiet (fail); try go_wp2)
      go_ret
      exact ⟨ee_, bb_ HB⟩
  ·rw [if_neg c3] at H
   exact absurd H (by simp)
 ·rw [if_neg c2] at H
  have c2b0 : ((l0.length : Int) == 10) = false := beq_eq_false_iff_ne.mpr c2
  have c2b1 : ((l0.length : Int) != 10) = true := bne_iff_ne.mpr c2
  obtain rfl := Option.some.inj H
  go_enter Try.func53, Try.ntmps53
  go_wp2
  repeat (go_quiet (fail); try go_wp2)
  go_ret
  exact ⟨ee_, bb_ HB⟩
end Go.Proofs.Ytbfafjejmljcpaa.P

set_option linter.unusedVariables false
set_option linter.unusedSimpArgs false
namespace Go.Proofs.Ytbfafjejmljcpaa.X
open Go.RowKit Go.Proofs.YtbfafjejmljcpaaW.PrintWords Go.Proofs.YtbfafjejmljcpaaW.PrintLast Go.Proofs.Ytbfafjejmljcpaa.P

theorem l6lLess_loop (a b : List Int) (ha : a.length = 9) (hb : b.length = 9) (d : Nat) : ∀ i : Int, 0 ≤ i → i + d = 9 → (∀ j : Int, 0 ≤ j → j < i → rd a j = rd b j) → Ev (fun k => spec_l6lLess.l0 k a b i) (lessB a b) := by
  induction d with
  | zero =>
    intro i h0 h1 h
    refine Ev.step (fun k => by rw [spec_l6lLess.l0]) ?_
    refine Ev.neg (by omega) (Ev.done ?_)
    have : gapI a b = -1 := firstI_none fun j j0 j1 => by rw [h j j0 (by omega)]; simp
    unfold lessB; rw [this]; rfl
  | succ d ih =>
    intro i h0 h1 h
    refine Ev.step (fun k => by rw [spec_l6lLess.l0]) ?_
    rw [w64 (x := i + 1) (by omega) (by omega)]
    refine Ev.pos (by omega) (Ev.pos h0 (Ev.pos (by omega) (Ev.pos (by omega) ?_)))
    by_cases e : rd a i = rd b i
    · refine Ev.pos e (ih (i + 1) (by omega) (by omega) fun j j0 j1 => ?_)
      by_cases ej : j = i
      · rw [ej]; exact e
      · exact h j j0 (by omega)
    · refine Ev.neg e (Ev.done ?_)
      have : gapI a b = i := firstI_some i h0 (by omega) (by simpa using e) fun j j0 j1 => by rw [h j j0 j1]; simp
      unfold lessB; rw [this, decide_eq_true h0, Bool.true_and]
theorem l6lLess_ev (a b : List Int) (ha : a.length = 9) (hb : b.length = 9) : Ev (fun k => spec_l6lLess.f k a b) (lessB a b) :=
  l6lLess_loop a b ha hb 9 0 (by omega) (by omega) (fun j j0 j1 => by omega)
end Go.Proofs.Ytbfafjejmljcpaa.X

set_option linter.unusedVariables false
set_option linter.unusedSimpArgs false
namespace Go.Proofs.Ytbfafjejmljcpaa.X
open Go.RowKit Go.Proofs.YtbfafjejmljcpaaW.PrintWords Go.Proofs.YtbfafjejmljcpaaW.PrintLast Go.Proofs.Ytbfafjejmljcpaa.P

theorem gap_cm (a b : List Int) : gapI b a = gapI a b := by
  unfold gapI
  exact congrArg (firstI 9) (funext fun i => by rw [bne_comm])
theorem lessB_asym {a b : List Int} (h : lessB a b = true) (h2 : lessB b a = true) : False := by
  unfold lessB at h h2
  rw [gap_cm a b] at h2
  simp only [Bool.and_eq_true, decide_eq_true_eq] at h h2
  omega
theorem lessB_iff {a b : List Int} : lessB a b = true ↔ ∃ i : Int, 0 ≤ i ∧ i < 9 ∧ rd a i < rd b i ∧ ∀ j : Int, 0 ≤ j → j < i → rd a j = rd b j := by
  constructor
  · intro h
    unfold lessB at h
    simp only [Bool.and_eq_true, decide_eq_true_eq] at h
    obtain ⟨h0, h1⟩ := h
    by_cases hx : ∃ i : Int, 0 ≤ i ∧ i < 9 ∧ (rd a i != rd b i) = true
    · obtain ⟨i, i0, i1, i2⟩ := hx
      have s := firstI_spec (n := 9) (p := fun i => rd a i != rd b i) i i0 i1 i2
      refine ⟨gapI a b, h0, s.2.1, h1, fun j j0 j1 => ?_⟩
      apply Classical.byContradiction
      intro hne
      have s2 := firstI_spec (n := 9) (p := fun i => rd a i != rd b i) j j0 (by have := s.2.1; unfold gapI at j1; omega) (by simpa using hne)
      have : gapI a b ≤ j := s2.2.2.2
      omega
    · have : gapI a b = -1 := firstI_none fun i i0 i1 => Bool.eq_false_iff.2 fun h => hx ⟨i, i0, i1, h⟩
      omega
  · rintro ⟨i, i0, i1, hlt, heq⟩
    have : gapI a b = i := firstI_some i i0 i1 (by simp; omega) fun j j0 j1 => by rw [heq j j0 j1]; simp
    unfold lessB
    rw [this, decide_eq_true i0, decide_eq_true hlt]; rfl
theorem lessB_trans {a b c : List Int} (h : lessB a b = true) (h2 : lessB b c = true) : lessB a c = true := by
  obtain ⟨i, i0, i1, hi, ei⟩ := lessB_iff.1 h
  obtain ⟨j, j0, j1, hj, ej⟩ := lessB_iff.1 h2
  refine lessB_iff.2 ?_
  rcases Int.lt_trichotomy i j with hlt | rfl | hgt
  · exact ⟨i, i0, i1, by rw [← ej i i0 hlt]; exact hi, fun k k0 k1 => (ei k k0 k1).trans (ej k k0 (by omega))⟩
  · exact ⟨i, i0, i1, by omega, fun k k0 k1 => (ei k k0 k1).trans (ej k k0 k1)⟩
  · exact ⟨j, j0, j1, by rw [ei j j0 hgt]; exact hj, fun k k0 k1 => (ei k k0 (by omega)).trans (ej k k0 k1)⟩
theorem lessB_total {a b : List Int} (ha : a.length = 9) (hb : b.length = 9) (hne : a ≠ b) : lessB a b = true ∨ lessB b a = true := by
  by_cases hx : ∃ i : Int, 0 ≤ i ∧ i < 9 ∧ (rd a i != rd b i) = true
  · obtain ⟨i, i0, i1, i2⟩ := hx
    have s := firstI_spec (n := 9) (p := fun i => rd a i != rd b i) i i0 i1 i2
    have hg : 0 ≤ gapI a b := s.1
    have hd : rd a (gapI a b) ≠ rd b (gapI a b) := by have := s.2.2.1; simpa [gapI] using this
    unfold lessB
    rw [gap_cm a b, decide_eq_true hg]
    rcases Int.lt_or_gt_of_ne hd with h | h
    · left; rw [decide_eq_true h]; rfl
    · right; rw [decide_eq_true h]; rfl
  · exfalso
    apply hne
    refine ext_rd (by omega) fun i hi => ?_
    apply Classical.byContradiction
    intro h
    exact hx ⟨(i : Int), by omega, by omega, by simpa using h⟩
def Asc (l : List (List Int)) : Prop := l.Pairwise fun a b => lessB a b = true
theorem asc_ext : ∀ a b : List (List Int), Asc a → Asc b → (∀ x, x ∈ a ↔ x ∈ b) → a = b := by
  intro a
  induction a with
  | nil =>
    intro b _ _ h
    cases b with
    | nil => rfl
    | cons y b => exact absurd ((h y).2 List.mem_cons_self) (by simp)
  | cons x a ih =>
    intro b ha hb h
    cases b with
    | nil => exact absurd ((h x).1 List.mem_cons_self) (by simp)
    | cons y b =>
      have ha := List.pairwise_cons.1 ha
      have hb := List.pairwise_cons.1 hb
      have e : x = y := by
        rcases List.mem_cons.1 ((h x).1 List.mem_cons_self) with e | e
        · exact e
        · rcases List.mem_cons.1 ((h y).2 List.mem_cons_self) with e2 | e2
          · exact e2.symm
          · exact absurd (lessB_asym (hb.1 x e) (ha.1 y e2)) id
      subst e
      rw [ih b ha.2 hb.2 fun z => ⟨fun hz => ?_, fun hz => ?_⟩]
      · rcases List.mem_cons.1 ((h z).1 (List.mem_cons_of_mem _ hz)) with e | e
        · exact absurd (lessB_asym (ha.1 z hz) (by rw [e] at hz ⊢; exact ha.1 _ hz)) id
        · exact e
      · rcases List.mem_cons.1 ((h z).2 (List.mem_cons_of_mem _ hz)) with e | e
        · exact absurd (lessB_asym (hb.1 z hz) (by rw [e] at hz ⊢; exact hb.1 _ hz)) id
        · exact e
end Go.Proofs.Ytbfafjejmljcpaa.X

set_option linter.unusedVariables false
set_option linter.unusedSimpArgs false
namespace Go.Proofs.Ytbfafjejmljcpaa.X
open Go.RowKit Go.Proofs.YtbfafjejmljcpaaW.PrintWords Go.Proofs.YtbfafjejmljcpaaW.PrintLast Go.Proofs.Ytbfafjejmljcpaa.P

def swH (j a : Int) : Int := if a = j then j - 1 else if a = j - 1 then j else a
def swapH (l : List HH) (j : Int) : List HH := (l.set j.toNat (rdH l (j - 1))).set (j - 1).toNat (rdH l j)
theorem rdH_set {l : List HH} {i j : Int} {v : HH} (i0 : 0 ≤ i) (i1 : i < l.length) (j0 : 0 ≤ j) : rdH (l.set i.toNat v) j = if j = i then v else rdH l j := by
  unfold rdH rdOf
  rw [List.getD_eq_getElem?_getD, List.getD_eq_getElem?_getD, List.getElem?_set]
  by_cases e : j = i
  · rw [if_pos e, if_pos (by omega), if_pos (by omega)]; rfl
  · rw [if_neg e, if_neg (by omega)]
theorem swapH_rd {l : List HH} {j : Int} (j0 : 0 < j) (j1 : j < l.length) {a : Int} (a0 : 0 ≤ a) : rdH (swapH l j) a = rdH l (swH j a) := by
  unfold swapH swH
  rw [rdH_set (by omega) (by rw [List.length_set]; omega) a0, rdH_set (by omega) j1 a0]
  by_cases e1 : a = j - 1
  · rw [if_pos e1, if_neg (by omega), if_pos e1]
  · by_cases e2 : a = j
    · rw [if_neg e1, if_pos e2, if_pos e2]
    · rw [if_neg e1, if_neg e2, if_neg e2, if_neg e1]
theorem swapH_length (l : List HH) (j : Int) : (swapH l j).length = l.length := by unfold swapH; rw [List.length_set, List.length_set]
theorem mem_rdH {l : List HH} {v : HH} : v ∈ l ↔ ∃ i : Int, 0 ≤ i ∧ i < l.length ∧ rdH l i = v := by
  constructor
  · intro h
    obtain ⟨i, hi, e⟩ := List.mem_iff_getElem.1 h
    exact ⟨i, by omega, by omega, by unfold rdH rdOf; rw [List.getD_eq_getElem?_getD, List.getElem?_eq_getElem (by omega)]; exact e⟩
  · rintro ⟨i, i0, i1, e⟩
    rw [← e]; exact rdH_mem i0 i1
theorem swapH_mem {l : List HH} {j : Int} (j0 : 0 < j) (j1 : j < l.length) {v : HH} : v ∈ swapH l j ↔ v ∈ l := by
  rw [mem_rdH, mem_rdH]
  have rng : ∀ a : Int, 0 ≤ a → a < l.length → 0 ≤ swH j a ∧ swH j a < l.length := fun a a0 a1 => by unfold swH; split <;> (try split) <;> omega
  have inv : ∀ a : Int, swH j (swH j a) = a := fun a => by unfold swH; split <;> (try split) <;> (try split) <;> omega
  constructor
  · rintro ⟨a, a0, a1, e⟩
    rw [swapH_length] at a1
    rw [swapH_rd j0 j1 a0] at e
    exact ⟨swH j a, (rng a a0 a1).1, (rng a a0 a1).2, e⟩
  · rintro ⟨a, a0, a1, e⟩
    refine ⟨swH j a, (rng a a0 a1).1, by rw [swapH_length]; exact (rng a a0 a1).2, ?_⟩
    rw [swapH_rd j0 j1 (rng a a0 a1).1, inv]; exact e
def DifH (val : HH → List Int) (l : List HH) : Prop := ∀ a b : Int, 0 ≤ a → a < l.length → 0 ≤ b → b < l.length → a ≠ b → val (rdH l a) ≠ val (rdH l b)
theorem swapH_dif {val : HH → List Int} {l : List HH} (h : DifH val l) {j : Int} (j0 : 0 < j) (j1 : j < l.length) : DifH val (swapH l j) := by
  intro a b a0 a1 b0 b1 hne
  rw [swapH_length] at a1 b1
  rw [swapH_rd j0 j1 a0, swapH_rd j0 j1 b0]
  refine h _ _ ?_ ?_ ?_ ?_ ?_ <;> (unfold swH; split <;> (try split) <;> (try split) <;> (try split) <;> omega)
def ltV (val : HH → List Int) (a b : HH) : Bool := lessB (val a) (val b)
def NearH (val : HH → List Int) (l : List HH) (i j : Int) : Prop := (∀ a b : Int, 0 ≤ a → a < b → b ≤ i → a ≠ j → b ≠ j → ltV val (rdH l a) (rdH l b) = true) ∧ ∀ b : Int, j < b → b ≤ i → ltV val (rdH l j) (rdH l b) = true
def SortH (val : HH → List Int) (l r : List HH) : Prop := r.length = l.length ∧ (∀ v, v ∈ r ↔ v ∈ l) ∧ r.Pairwise (fun a b => ltV val a b = true)
theorem hd_l1 {val : HH → List Int} {l0 : List HH} (h9 : ∀ a ∈ l0, (val a).length = 9) {n : Int} (hn : n ≤ 1000) {i : Int} (i0 : 0 ≤ i) (i1 : i < n) (hr : ∀ l : List HH, (l.length : Int) = n → (∀ v, v ∈ l ↔ v ∈ l0) → DifH val l → (∀ a b : Int, 0 ≤ a → a < b → b ≤ i → ltV val (rdH l a) (rdH l b) = true) → ∃ r, SortH val l0 r ∧ Ev (fun k => hsL0 (ltV val) k l 0 n (i + 1)) r) (d : Nat) :
    ∀ (j : Int) (l : List HH), j = d → j ≤ i → (l.length : Int) = n → (∀ v, v ∈ l ↔ v ∈ l0) → DifH val l → NearH val l i j → ∃ r, SortH val l0 r ∧ Ev (fun k => hsL1 (ltV val) k l 0 n i j) r := by
  induction d with
  | zero =>
    intro j l hj ji hl hm hd hN
    have hj : j = 0 := hj
    subst hj
    obtain ⟨r, h1, h2⟩ := hr l hl hm hd fun a b a0 ab b1 => by
      by_cases e : a = 0
      · subst e; exact hN.2 b (by omega) b1
      · exact hN.1 a b a0 ab b1 e (by omega)
    refine ⟨r, h1, ?_⟩
    refine Ev.step (fun k => by rw [hsL1]) ?_
    rw [w64 (x := i + 1) (by omega) (by omega)]
    exact Ev.neg (by omega) h2
  | succ d ih =>
    intro j l hj ji hl hm hd hN
    have e1 : wrap64 (j - 1) = j - 1 := w64 (by omega) (by omega)
    have e2 : wrap64 (i + 1) = i + 1 := w64 (by omega) (by omega)
    by_cases hc : ltV val (rdH l j) (rdH l (j - 1)) = true
    · have hlen := swapH_length l j
      have R := fun (a : Int) (a0 : 0 ≤ a) => swapH_rd (l := l) (j := j) (by omega) (by omega) a0
      obtain ⟨r, h1, h2⟩ := ih (j - 1) (swapH l j) (by omega) (by omega) (by rw [hlen]; exact hl) (fun v => (swapH_mem (by omega) (by omega)).trans (hm v)) (swapH_dif hd (by omega) (by omega)) ⟨fun a b a0 ab b1 na nb => by
          rw [R a a0, R b (by omega)]
          unfold swH
          by_cases ea : a = j
          · rw [if_pos ea, if_neg (by omega), if_neg nb]
            exact hN.1 (j - 1) b (by omega) (by omega) b1 (by omega) (by omega)
          · rw [if_neg ea, if_neg na]
            by_cases eb : b = j
            · rw [if_pos eb]
              exact hN.1 a (j - 1) a0 (by omega) (by omega) ea (by omega)
            · rw [if_neg eb, if_neg nb]
              exact hN.1 a b a0 ab b1 ea eb, fun b jb b1 => by
          rw [R (j - 1) (by omega), R b (by omega)]
          unfold swH
          rw [if_neg (by omega), if_pos rfl]
          by_cases eb : b = j
          · rw [if_pos eb]; exact hc
          · rw [if_neg eb, if_neg (by omega)]
            exact hN.2 b (by omega) b1⟩
      refine ⟨r, h1, ?_⟩
      refine Ev.step (fun k => by rw [hsL1]) ?_
      rw [e1, e2]
      exact Ev.pos (by omega) (Ev.pos (by omega) (Ev.pos (by omega) (Ev.pos (by omega) (Ev.pos (by omega) (Ev.fix (congrArg some hc) (Ev.pos rfl h2))))))
    · have hlt : ltV val (rdH l (j - 1)) (rdH l j) = true := by
        have hne := hd (j - 1) j (by omega) (by omega) (by omega) (by omega) (by omega)
        have m1 : rdH l (j - 1) ∈ l0 := (hm _).1 (rdH_mem (by omega) (by omega))
        have m2 : rdH l j ∈ l0 := (hm _).1 (rdH_mem (by omega) (by omega))
        rcases lessB_total (h9 _ m1) (h9 _ m2) hne with h | h
        · exact h
        · exact absurd h hc
      obtain ⟨r, h1, h2⟩ := hr l hl hm hd fun a b a0 ab b1 => by
        by_cases ea : a = j
        · subst ea; exact hN.2 b ab b1
        · by_cases eb : b = j
          · subst eb
            by_cases e : a = b - 1
            · rw [e]; exact hlt
            · exact lessB_trans (hN.1 a (b - 1) a0 (by omega) (by omega) ea (by omega)) hlt
          · exact hN.1 a b a0 ab b1 ea eb
      refine ⟨r, h1, ?_⟩
      refine Ev.step (fun k => by rw [hsL1]) ?_
      rw [e1, e2]
      exact Ev.pos (by omega) (Ev.pos (by omega) (Ev.pos (by omega) (Ev.pos (by omega) (Ev.pos (by omega) (Ev.fix (congrArg some (Bool.eq_false_iff.2 hc)) (Ev.neg (by decide) h2))))))
theorem hd_l0 {val : HH → List Int} {l0 : List HH} (h9 : ∀ a ∈ l0, (val a).length = 9) {n : Int} (hn : n ≤ 1000) (d : Nat) : ∀ (i : Int) (l : List HH), 1 ≤ i → i + d = n → (l.length : Int) = n → (∀ v, v ∈ l ↔ v ∈ l0) → DifH val l → (∀ a b : Int, 0 ≤ a → a < b → b < i → ltV val (rdH l a) (rdH l b) = true) → (l0.length : Int) = n → ∃ r, SortH val l0 r ∧ Ev (fun k => hsL0 (ltV val) k l 0 n i) r := by
  induction d with
  | zero =>
    intro i l i0 hi hl hm hd ha h0
    refine ⟨l, ⟨by omega, hm, List.pairwise_iff_getElem.2 fun a b h1 h2 hab => ?_⟩, ?_⟩
    · have := ha (a : Int) (b : Int) (by omega) (by omega) (by omega)
      have e : ∀ c : Nat, (hc : c < l.length) → rdH l (c : Int) = l[c] := fun c hc => by
        unfold rdH rdOf
        rw [Int.toNat_natCast, List.getD_eq_getElem?_getD, List.getElem?_eq_getElem hc]; rfl
      rwa [e a h1, e b h2] at this
    · refine Ev.step (fun k => by rw [hsL0]) ?_
      exact Ev.neg (by omega) (Ev.done rfl)
  | succ d ih =>
    intro i l i0 hi hl hm hd ha h0
    obtain ⟨r, h1, h2⟩ := hd_l1 (val := val) (l0 := l0) h9 hn (i := i) (by omega) (by omega) (fun l hl hm hd ha => ih (i + 1) l (by omega) (by omega) hl hm hd (fun a b a0 ab b1 => ha a b a0 ab (by omega)) h0) i.toNat i l (by omega) (by omega) hl hm hd
      ⟨fun a b a0 ab b1 na nb => ha a b a0 ab (by omega), fun b ib b1 => by omega⟩
    refine ⟨r, h1, ?_⟩
    refine Ev.step (fun k => by rw [hsL0]) ?_
    exact Ev.pos (by omega) h2
theorem heads_ev {val : HH → List Int} {l : List HH} (h9 : ∀ a ∈ l, (val a).length = 9) (hn : (l.map val).Nodup) (h0 : 0 < l.length) (h1 : l.length ≤ 12) : ∃ r, SortH val l r ∧ Ev (fun k => hsL0 (ltV val) k l 0 (l.length : Int) (wrap64 (0 + 1))) r := by
  have hD : DifH val l := fun a b a0 a1 b0 b1 hne e => by
    have g : ∀ c : Int, (c0 : 0 ≤ c) → (hc : c < l.length) → val (rdH l c) = (l.map val)[c.toNat]'(by rw [List.length_map]; omega) := fun c c0 hc => by
      unfold rdH rdOf
      rw [List.getD_eq_getElem?_getD, List.getElem?_eq_getElem (by omega), List.getElem_map]; rfl
    rw [g a a0 a1, g b b0 b1] at e
    have := (List.getElem_inj hn).1 e
    omega
  rw [show wrap64 (0 + 1) = 1 from w64 (by omega) (by omega)]
  exact hd_l0 h9 (by omega) (l.length - 1) 1 l (by omega) (by omega) rfl (fun v => Iff.rfl) hD (fun a b a0 ab b1 => by omega) rfl
end Go.Proofs.Ytbfafjejmljcpaa.X

set_option linter.unusedVariables false
set_option linter.unusedSimpArgs false
namespace Go.Proofs.Ytbfafjejmljcpaa.X
open Go.RowKit Go.Proofs.YtbfafjejmljcpaaW.PrintWords Go.Proofs.YtbfafjejmljcpaaW.PrintLast Go.Proofs.Ytbfafjejmljcpaa.P

set_option maxHeartbeats 4000000 in
set_option maxRecDepth 100000 in
theorem len64_ten (w : World) : Calls Try.prog 138 #[.int .u64 10] w fun e w' => e = .returned (.int .i64 4) ∧ Drawn0 w w' := by
  go_enter Try.func138, Try.ntmps138
  go_wp2
  go_ret
  exact ⟨by kernel_rfl, Drawn0.refl _⟩
set_option maxHeartbeats 4000000 in
set_option maxRecDepth 100000 in
theorem len_ten (w : World) : Calls Try.prog 99 #[.int .u64 10] w fun e w' => e = .returned (.int .i64 4) ∧ Drawn0 w w' := by
  go_enter Try.func99, Try.ntmps99
  go_wp2_with (go_at_call 138; refine (len64_ten _).mono ?_; rintro e w' ⟨rfl, ⟨nd, rfl⟩⟩)
  go_ret
  exact ⟨rfl, by repeat (first | exact Drawn0.refl _ | apply Drawn0.step)⟩
set_option maxHeartbeats 4000000 in
set_option maxRecDepth 100000 in
theorem sortFunc_calls (lt : HH → HH → Bool) (k : Nat) (P0_ : Nat → Prop) (A0 : Option Addr) (c0 : Nat) (l0 : List HH) (r : List HH) (w0 w : World) (hB : Below w0.heap.size w0 w) (ho0 : Kd.R hdK 23 w w0.heap.size P0_ (.slice A0 10 c0) l0) (HC_ : HCmp lt P0_ l0 w0 w)
    (h : hsL0 lt k l0 0 10 (wrap64 (0 + 1)) = some r) :
    Calls Try.prog 83 #[.slice A0 10 c0, .func (.func 84) #[] #[]] w fun e w' => e = .returned (.tuple #[]) ∧ Kd.R hdK 23 w' w0.heap.size (fun k_ => (P0_ k_ ∨ w.heap.size ≤ k_)) (.slice A0 10 c0) r ∧ Below w0.heap.size w0 w' ∧ Kept w w' (fun k_ => P0_ k_) := by
  have HS := Aside0.mk (fun (a3 : Int) (w1 : World) (hB : Below w0.heap.size w0 w1) (ho0 : Kd.R hdK 23 w1 w0.heap.size P0_ (.slice A0 10 c0) l0) (HC_ : HCmp lt P0_ l0 w0 w1) => pdqCmp_calls lt k P0_ (.slice A0 10 c0) l0 0 10 a3 r w0 w1 hB ho0 HC_ (by omega) (by omega) (by omega) (by omega) h)
  have HO := Aside0.mk ho0
  have HB := Aside0.mk hB
  have HC := Aside0.mk HC_
  clear hB ho0 h HC_
  go_enter Try.func83, Try.ntmps83
  go_wp2_with (first | (go_at_call 99; refine (len_ten _).mono ?_; rintro e w' ⟨rfl, ⟨nd, rfl⟩⟩) | (go_at_call 118; refine (HS.out 4 _ ?s1 ?s2 ?s3).mono ?_; (case s1 => exact pw_below_drewN HB.out _); (case s2 => exact Kd.R_drewN HO.out _); (case s3 => exact HC.out); rintro e w' ⟨rfl, hr', hb', hk'⟩))
  first | go_end0 | ((try simp only [Exit.inBlock, Exit.then]); refine bodyPost_ret (results_none rfl _ _ _) rfl ?_)
  exact ⟨rfl, hr', hb', hk'⟩
end Go.Proofs.Ytbfafjejmljcpaa.X

set_option linter.unusedVariables false
set_option linter.unusedSimpArgs false
namespace Go.Proofs.Ytbfafjejmljcpaa.X
open Go.RowKit Go.Proofs.YtbfafjejmljcpaaW.PrintWords Go.Proofs.YtbfafjejmljcpaaW.PrintLast Go.Proofs.Ytbfafjejmljcpaa.P

abbrev LK : Kd (List Int) := Kd.slice 3 (Kd.int .i64)
def toH : List Value → HH
  | [.slice A _ c] => (A, c)
  | _ => (none, 0)
theorem C_same {w : World} {A : Option Addr} {x y : List Int} (hx : (Kd.int .i64).C w A x.length x) (hy : (Kd.int .i64).C w A y.length y) (h : x.length = y.length) : x = y := by
  refine ext_rd h fun i hi => ?_
  obtain ⟨ad, e1, h1⟩ := ReadsOf.at_ (Kd.reads_of_C (enc := Value.int .i64) (d := (0 : Int)) (h1 := fun _ => rfl) hx) (i : Int) (by omega) (by omega)
  obtain ⟨ad', e2, h2⟩ := ReadsOf.at_ (Kd.reads_of_C (enc := Value.int .i64) (d := (0 : Int)) (h1 := fun _ => rfl) hy) (i : Int) (by omega) (by omega)
  rw [e1] at e2
  injection e2 with e2
  subst e2
  rw [h1] at h2
  injection h2 with h2
  injection h2 with _ h2
theorem row_head {w : World} {ok : Nat → Prop} {x : List Int} {c : List Value} (h : Kd.FK LK w ok x c) (h9 : x.length = 9) : c = [hEnc (toH c)] := by
  obtain ⟨A, c', rfl, _, _⟩ := Kd.FK_now h
  rw [h9]; rfl
theorem fk_open {w : World} {ok : Nat → Prop} {x : List Int} {a : HH} (h : Kd.FK LK w ok x [hEnc a]) (h9 : x.length = 9) : x.length ≤ a.2 ∧ (Kd.int .i64).C w a.1 x.length x := by
  obtain ⟨A, c', e, h1, h2⟩ := Kd.FK_now h
  injection e with e
  injection e with e1 e2 e3
  subst e1; subst e3
  exact ⟨h1, h2⟩
theorem R_heads {w : World} {base : Nat} {ok : Nat → Prop} {v : Value} {rows : List (List Value)} (h : (Kd.raw 1).R 23 w base ok v rows) (hh : ∀ c ∈ rows, c = [hEnc (toH c)]) : Kd.R hdK 23 w base ok v (rows.map toH) := by
  obtain ⟨h0, inner, ho, hr⟩ := h
  refine ⟨h0, inner, by rw [List.length_map]; exact ho, ⟨by rw [List.length_map]; exact hr.1, fun j p hj => ?_⟩⟩
  rw [List.getElem?_map] at hj
  obtain ⟨c, hc, rfl⟩ := Option.map_eq_some_iff.1 hj
  have e := (hr.2 j c hc).1
  have m := hh c (List.mem_of_getElem? hc)
  exact e.trans m
theorem heads_R {w : World} {base : Nat} {ok : Nat → Prop} {v : Value} {hs : List HH} (h : Kd.R hdK 23 w base ok v hs) : (Kd.raw 1).R 23 w base (fun k => some k = v.ownBlock) v (hs.map fun a => [hEnc a]) := by
  obtain ⟨h0, inner, ho, hr⟩ := h
  refine ⟨fun k hk => hk.symm, inner, by rw [List.length_map]; exact ho, ⟨by rw [List.length_map]; exact hr.1, fun j p hj => ?_⟩⟩
  rw [List.getElem?_map] at hj
  obtain ⟨a, ha, rfl⟩ := Option.map_eq_some_iff.1 hj
  have e : ((inner.drop (j * 1)).take 1) = [hEnc a] := hr.2 j a ha
  refine ⟨e, (congrArg List.length e).trans rfl, fun u hu => ?_⟩
  have hu : u ∈ ((inner.drop (j * 1)).take 1) := hu
  rw [e] at hu
  rw [List.mem_singleton.1 hu]; rfl
open Classical in
noncomputable def valH (xs : List (List Int)) (hs : List HH) (h : HH) : List Int := if hh : ∃ x, ∃ j : Nat, xs[j]? = some x ∧ hs[j]? = some h then Classical.choose hh else []
set_option maxHeartbeats 2000000 in
theorem sortRows_calls (xs : List (List Int)) (h10 : xs.length = 10) (h9 : ∀ x ∈ xs, x.length = 9) (hn : xs.Nodup) (A0 : Option Addr) (c0 : Nat) (w0 w : World) (ok : Nat → Prop) (hB : Below w0.heap.size w0 w) (hN : Kd.N LK 23 w w0.heap.size ok (.slice A0 10 c0) xs) :
    Calls Try.prog 83 #[.slice A0 10 c0, .func (.func 84) #[] #[]] w fun e w' => e = .returned (.tuple #[]) ∧ ∃ r, (r.length = 10 ∧ (∀ x, x ∈ r ↔ x ∈ xs) ∧ Asc r) ∧ Kd.N LK 23 w' w0.heap.size ok (.slice A0 10 c0) r ∧ Below w0.heap.size w0 w' := by
  obtain ⟨h0, rows, hl, hR, hf⟩ := hN
  have hrow : ∀ c ∈ rows, c = [hEnc (toH c)] := fun c hc => by
    obtain ⟨j, hj, e⟩ := List.mem_iff_getElem.1 hc
    have hx : j < xs.length := by omega
    have g := hf j xs[j] c (List.getElem?_eq_getElem hx) (by rw [List.getElem?_eq_getElem hj, e])
    exact row_head g (h9 _ (List.getElem_mem hx))
  have hH := R_heads hR hrow
  obtain ⟨hs, ehs⟩ : ∃ hs, rows.map toH = hs := ⟨_, rfl⟩
  rw [ehs] at hH
  have hlh : hs.length = 10 := by rw [← ehs, List.length_map]; omega
  -- what a head leads to
  have hfk0 : ∀ (j : Nat) (x : List Int) (a : HH), xs[j]? = some x → hs[j]? = some a → Kd.FK LK w (fun k => ok k ∧ some k ≠ (Value.slice A0 10 c0).ownBlock) x [hEnc a] := fun j x a hx ha => by
    rw [← ehs, List.getElem?_map] at ha
    obtain ⟨c, hc, e⟩ := Option.map_eq_some_iff.1 ha
    have g := hf j x c hx hc
    rw [← e, ← hrow c (List.mem_of_getElem? hc)]
    exact g
  have hval : ∀ (j : Nat) (x : List Int) (a : HH), xs[j]? = some x → hs[j]? = some a → valH xs hs a = x := fun j x a hx ha => by
    have hh : ∃ x, ∃ j : Nat, xs[j]? = some x ∧ hs[j]? = some a := ⟨x, j, hx, ha⟩
    unfold valH
    rw [dif_pos hh]
    obtain ⟨j', h1, h2⟩ := Classical.choose_spec hh
    have a1 := fk_open (hfk0 j' _ a h1 h2) (h9 _ (List.mem_of_getElem? h1))
    have a2 := fk_open (hfk0 j _ a hx ha) (h9 _ (List.mem_of_getElem? hx))
    exact C_same a1.2 a2.2 ((h9 _ (List.mem_of_getElem? h1)).trans (h9 _ (List.mem_of_getElem? hx)).symm)
  have hfk : ∀ a ∈ hs, (valH xs hs a).length = 9 ∧ Kd.FK LK w (fun k => ok k ∧ some k ≠ (Value.slice A0 10 c0).ownBlock) (valH xs hs a) [hEnc a] := fun a ha => by
    obtain ⟨j, hj, e⟩ := List.mem_iff_getElem.1 ha
    have hx : j < xs.length := by omega
    have e1 : xs[j]? = some xs[j] := List.getElem?_eq_getElem hx
    have e2 : hs[j]? = some a := by rw [List.getElem?_eq_getElem hj, e]
    rw [hval j _ a e1 e2]
    exact ⟨h9 _ (List.getElem_mem hx), hfk0 j _ a e1 e2⟩
  have hmap : hs.map (valH xs hs) = xs := by
    refine List.ext_getElem (by rw [List.length_map]; omega) fun j h1 h2 => ?_
    rw [List.length_map] at h1
    rw [List.getElem_map]
    exact hval j _ _ (List.getElem?_eq_getElem h2) (List.getElem?_eq_getElem h1)
  obtain ⟨rh, hrh, hev⟩ := heads_ev (val := valH xs hs) (l := hs) (fun a ha => (hfk a ha).1) (by rw [hmap]; exact hn) (by omega) (by omega)
  obtain ⟨k, hk⟩ := hev.rounds
  rw [hlh] at hk
  refine (sortFunc_calls (ltV (valH xs hs)) k (fun k => some k = (Value.slice A0 10 c0).ownBlock) A0 c0 hs rh w0 w hB hH ?_ hk).mono ?_
  · intro W hkp hb a b ha hb'
    have move := fun (a : HH) (ha : a ∈ hs) => Kd.FK_step (W1 := W) (hfk a ha).2 (fun k hk hlt => hkp.2 k hlt hk.2)
    have la := (hfk a ha).1
    have lb := (hfk b hb').1
    have ga := fk_open (move a ha) la
    have gb := fk_open (move b hb') lb
    have hc := compare_calls a.1 a.2 (valH xs hs a) b.1 b.2 (valH xs hs b) la lb W ga.2 ga.1 gb.2 gb.1
    rw [la, lb] at hc
    refine hc.mono ?_
    rintro e w' ⟨rfl, hd⟩
    refine ⟨⟨_, rfl, ?_⟩, hd⟩
    have e := cmpI_less (a := valH xs hs a) (b := valH xs hs b)
    unfold ltV
    cases hl : lessB (valH xs hs a) (valH xs hs b) with
    | true => rw [hl] at e; have := of_decide_eq_false e; exact decide_eq_true (by omega)
    | false => rw [hl] at e; have := of_decide_eq_true e; exact decide_eq_false (by omega)
  · rintro e w' ⟨rfl, hr', hb', hk'⟩
    have hmem : ∀ a, a ∈ rh ↔ a ∈ hs := hrh.2.1
    refine ⟨rfl, rh.map (valH xs hs), ⟨by rw [List.length_map, hrh.1, hlh], fun x => ?_, ?_⟩, ⟨h0, rh.map (fun a => [hEnc a]), by rw [List.length_map, List.length_map], heads_R hr', fun j x c hx hc => ?_⟩, hb'⟩
    · rw [List.mem_map]
      constructor
      · rintro ⟨a, ha, rfl⟩
        have : valH xs hs a ∈ hs.map (valH xs hs) := List.mem_map.2 ⟨a, (hmem a).1 ha, rfl⟩
        rwa [hmap] at this
      · intro hx
        have hx : x ∈ hs.map (valH xs hs) := by rw [hmap]; exact hx
        rw [List.mem_map] at hx
        obtain ⟨a, ha, e⟩ := hx
        exact ⟨a, (hmem a).2 ha, e⟩
    · unfold Asc
      rw [List.pairwise_map]
      exact hrh.2.2
    · rw [List.getElem?_map] at hx hc
      obtain ⟨a, ha, rfl⟩ := Option.map_eq_some_iff.1 hx
      rw [ha] at hc
      obtain rfl := Option.some.inj hc
      have m := (hmem a).1 (List.mem_of_getElem? ha)
      exact Kd.FK_step (hfk a m).2 (fun k hk hlt => hk'.2 k hlt hk.2)
end Go.Proofs.Ytbfafjejmljcpaa.X
