/- The reference's SquareApart comes to what the program's does. -/
import Derived.Test.YtaemaloelmgblaaXEvSq
import Derived.Test.YtaemaloelmgblaaPspecSquareApart
set_option linter.unusedVariables false
set_option linter.unusedSimpArgs false
namespace Go.Proofs.Ytaemaloelmgblaa.X
open Go.RowKit Go.Proofs.YtaemaloelmgblaaW.PrintWords Go.Proofs.YtaemaloelmgblaaW.PrintLast Go.Proofs.Ytaemaloelmgblaa.P

theorem SquareApart_l0 (a b : List Int) (ha : ninesB a 81 = true) (hb : ninesB b 81 = true) (n : Nat) :
    ∀ (i : Int), 0 ≤ i → i + n = 81 → (∀ x y : Int, 0 ≤ x → x < y → y < i → pairI a b x ≠ pairI a b y) →
      Ev (fun k => spec_SquareApart.l0 k a b (bL 81 (seenO (pairI a b) i)) i) (onceN 81 (pairI a b)) := by
  have hla := (ninesB_iff.1 ha).1
  have hlb := (ninesB_iff.1 hb).1
  induction n with
  | zero =>
    intro i h0 h1 h
    refine Ev.step (fun k => by rw [spec_SquareApart.l0]) ?_
    refine Ev.neg (by omega) (Ev.done ?_)
    rw [onceN_iff.2 fun x y x0 xy y9 => h x y x0 xy (by omega)]
  | succ n ih =>
    intro i h0 h1 h
    obtain ⟨r0, r1⟩ := nines_rd ha (i := i) (by omega) (by omega)
    obtain ⟨c0, c1⟩ := nines_rd hb (i := i) (by omega) (by omega)
    have hp : pairI a b i = 9 * rd a i + rd b i := rfl
    have hs1 := bL_seen (n := 81) (pairI a b) i h0 (9 * rd a i + rd b i) (by omega) rfl
    refine Ev.step (fun k => by rw [spec_SquareApart.l0]) ?_
    simp (disch := omega) only [w64, bL_length, bL_rd, hs1]
    refine Ev.pos (by omega) (Ev.pos (by omega) (Ev.pos (by omega) (Ev.pos (by omega) (Ev.pos (by omega) (Ev.pos (by omega) ?_)))))
    by_cases e1 : seenO (pairI a b) i (9 * rd a i + rd b i).toNat = true
    case pos =>
      refine Ev.pos e1 (Ev.done ?_)
      rw [seenO_dup (n := 81) (p := pairI a b) h0 (by omega) (by omega) e1]
    refine Ev.neg e1 (ih (i + 1) (by omega) (by omega) ?_)
    exact seenO_new (p := pairI a b) h0 (by omega) (Bool.eq_false_iff.2 e1) h
theorem SquareApart_ev (a b : List Int) (hl : a.length ≤ 1048576) (hl2 : b.length ≤ 1048576) : Ev (fun k => spec_SquareApart.f k a b) (apartB a b) := by
  unfold spec_SquareApart.f apartB
  refine Ev.bind (SquareIn_ev a hl) ?_
  by_cases ha : squareB a = true
  case neg =>
    rw [Bool.eq_false_iff.2 ha]
    refine Ev.neg (by simp) ?_
    refine Ev.step (fun k => by rw [spec_SquareApart.j0]) ?_
    exact Ev.pos rfl (Ev.done rfl)
  refine Ev.pos ha (Ev.bind (SquareIn_ev b hl2) ?_)
  rw [ha]
  by_cases hb : squareB b = true
  case neg =>
    rw [Bool.eq_false_iff.2 hb]
    refine Ev.step (fun k => by rw [spec_SquareApart.j0]) ?_
    exact Ev.pos rfl (Ev.done rfl)
  rw [hb]
  refine Ev.step (fun k => by rw [spec_SquareApart.j0]) ?_
  refine Ev.neg (by simp) (Ev.pos (by omega) ?_)
  rw [bL_replicate]
  exact SquareApart_l0 a b (squareB_nines ha) (squareB_nines hb) 81 0 (by omega) (by omega) (fun x y h0 h1 h2 => by omega)

end Go.Proofs.Ytaemaloelmgblaa.X
