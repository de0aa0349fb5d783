/- The law FnExactSpreadDerive of the given program: for every input the call returns true, and each argument reads afterwards as it read before. No conditions. (Part 2 of 5; the last part holds the theorem.) -/
import Derived.Test.YtbfafjejmljcpaaMFnExactSpreadDerive0
import Derived.Test.YtbfafjejmljcpaaProg
import Derived.WalkKit
import Derived.Deep.LoopGhost
import Derived.Deep.QuietTactic
import Derived.BigQuiet
import Derived.KernelRfl
import Derived.Shelf.Abstract
import Derived.Outline
import Derived.Deep.WholeRow
set_option linter.unusedVariables false
set_option linter.unusedSimpArgs false
namespace Go.Proofs.Ytbfafjejmljcpaa.P
open Go.RowKit Go.Proofs.YtbfafjejmljcpaaW.PrintWords Go.Proofs.YtbfafjejmljcpaaW.PrintLast

abbrev HH := Option Addr × Nat
def hEnc (h : HH) : Value := .slice h.1 9 h.2
def hdK : Kd HH := Kd.scalar hEnc (fun _ => rfl)
def rdH (l : List HH) (i : Int) : HH := rdOf ((none, 0) : HH) l i
theorem at_hd {w : World} {A : Option Addr} {n : Nat} {xs : List HH} (h : hdK.C w A n xs) (i : Int) (h0 : 0 ≤ i) (h1 : i < n) : ∃ ad, A = some ad ∧ w.cell? (ad.add i.toNat) = some (hEnc (rdH xs i)) :=
  ReadsOf.at_ (Kd.reads_of_C (enc := hEnc) (d := ((none, 0) : HH)) (h1 := fun _ => rfl) h) i h0 h1
theorem rdH_mem {l : List HH} {i : Int} (h0 : 0 ≤ i) (h1 : i < l.length) : rdH l i ∈ l := by
  unfold rdH rdOf
  rw [List.getD_eq_getElem?_getD, List.getElem?_eq_getElem (by omega)]
  exact List.getElem_mem _
theorem swapH_mem {l y z : List HH} {i j : Int} (i0 : 0 ≤ i) (i1 : i < l.length) (j0 : 0 ≤ j) (j1 : j < l.length) (hy : y = l.set i.toNat (rdH l j)) (hz : z = y.set j.toNat (rdH l i)) {v : HH} (hv : v ∈ z) : v ∈ l := by
  rw [hz] at hv
  rcases List.mem_or_eq_of_mem_set hv with h | h
  · rw [hy] at h
    rcases List.mem_or_eq_of_mem_set h with h | h
    · exact h
    · rw [h]; exact rdH_mem j0 j1
  · rw [h]; exact rdH_mem i0 i1
def hLess (lt : HH → HH → Bool) (a b : HH) : Option Bool := some (lt a b)
theorem hLess_eq {lt : HH → HH → Bool} {a b : HH} {v : Bool} (h : hLess lt a b = some v) : lt a b = v := Option.some.inj h
mutual
def hsL0 (lt : HH → HH → Bool) : Nat → List HH → Int → Int → Int → Option (List HH)
  | 0, _, _, _, _ => none
  | k + 1, x0, x1, x2, x6 => if x6 < x2 then (hsL1 lt k x0 x1 x2 x6 x6) else (some x0)
def hsL1 (lt : HH → HH → Bool) : Nat → List HH → Int → Int → Int → Int → Option (List HH)
  | 0, _, _, _, _, _ => none
  | k + 1, x0, x1, x2, x6, x7 => if x7 > x1 then (if 0 ≤ x7 then (if x7 < (x0.length : Int) then (if 0 ≤ (wrap64 (x7 - 1)) then (if (wrap64 (x7 - 1)) < (x0.length : Int) then ((hLess lt (rdH x0 x7) (rdH x0 (wrap64 (x7 - 1)))).bind fun t655 => (if t655 = true then (hsL1 lt k ((x0.set (x7 : Int).toNat (rdH x0 (wrap64 (x7 - 1)))).set ((wrap64 (x7 - 1)) : Int).toNat (rdH x0 x7)) x1 x2 x6 (wrap64 (x7 - 1))) else (hsL0 lt k x0 x1 x2 (wrap64 (x6 + 1))))) else (none)) else (none)) else (none)) else (none)) else (hsL0 lt k x0 x1 x2 (wrap64 (x6 + 1)))
end
section
variable {P : Program} {ops : Array Oper} {Q : Exit → Act → World → Prop}
theorem goesV_ {oi : Oper} {N : Option Tmp} {a : Act} {w : World} {K : Act → World → Prop} {f : FuncId} {fn : Func} {c : Tmp} {ar : Array Operand} {ts : Array TypeId} (hf : P.funcs[f]? = some fn) (hname : (fn.name == "runtime.NumGoroutine") = false) (hb : fn.body.isSome = true) (args : Array Value)
    (hw : Region.wanted oi (yielded ops a.tmps) = true) (hN : oi.dst = N) (hop : oi.op = .call { callee := .value (.tmp c), args := ar, argTypes := ts }) (hcl : a.tmps.getD c undef = .func (.func f) #[] #[]) (hargs : ar.map a.eval = args)
    (h : Calls P f args w fun e w' => ∃ v, e = .returned v ∧ K (a.put N v) w') : if Region.wanted oi (yielded ops a.tmps) = true then Oper.wp P oi a w K Q else K (a.put N undef) w := by
  refine call_ f args hw hN ?_ h
  have he := enters_ hf hname hb args w
  have hc : a.eval (.tmp c) = .func (.func f) #[] #[] := hcl
  unfold execOp
  simp [hop, resolve, Deferred.ofValue, invoke, hc, hargs, he]
end
def insCmp.T4 : Bool × List (List Nat × List Nat) := (true, [([], []), ([], []), ([0, 1], [0, 1]), ([2], [2]), ([3], [3]), ([3], [3]), ([3], [3]), ([5, 6, 3], [3, 5, 6]), ([7, 3], [3, 7]), ([3], [3]), ([3], [3]), ([10, 3], [3, 10]), ([9, 11, 3], [3, 9, 11]), ([12, 3], [3, 12]), ([4, 8, 13, 3, 3], [3, 4, 8, 13]), ([14, 3], [3, 14]), ([3, 15], [3, 15])])
def insCmp.B4 : List Nat := [0, 0, 3, 7, 15, 15, 15, 111, 239, 15, 15, 1039, 3599, 7695, 16383, 32767, 65535]
theorem insCmp.tab4 : rtab .any (opsOf Try.f145 4) = insCmp.T4 := by kernel_rfl
theorem insCmp.bits4 : waitsOk insCmp.T4.2 insCmp.B4 = true := by kernel_rfl
def insCmp.T6 : Bool × List (List Nat × List Nat) := (true, [([], []), ([], []), ([], []), ([], []), ([3], [3]), ([], []), ([], []), ([6], [6]), ([5, 7], [5, 7]), ([8], [8]), ([], []), ([], []), ([10, 11], [10, 11]), ([12], [12]), ([0, 1, 0, 1, 5, 6, 7, 8, 9, 13], [0, 1]), ([14, 9, 0, 1, 5, 6, 7, 8, 9, 13], [9, 14]), ([2, 4, 0, 1, 2, 3, 4, 5, 6, 7, 8, 9, 10, 11, 12, 13, 14, 15], [2, 4]), ([16, 13, 15, 0, 1, 2, 3, 4, 5, 6, 7, 8, 9, 10, 11, 12, 13, 14, 15], [13, 16])])
def insCmp.B6 : List Nat := [0, 0, 0, 0, 8, 0, 0, 64, 224, 480, 0, 0, 3072, 7168, 16355, 32739, 65535, 131071]
theorem insCmp.tab6 : rtab .any (opsOf Try.f145 6) = insCmp.T6 := by kernel_rfl
theorem insCmp.bits6 : waitsOk insCmp.T6.2 insCmp.B6 = true := by kernel_rfl
set_option maxHeartbeats 8000000 in
set_option maxRecDepth 100000 in
theorem insCmp_calls (lt : HH → HH → Bool) (k : Nat) (P0_ : Nat → Prop) (u9000_ : Value) (l0 : List HH) (a1 : Int) (a2 : Int) (r : List HH) (w0 w : World) (hB : Below w0.heap.size w0 w) (ho0 : Kd.R hdK 23 w w0.heap.size P0_ u9000_ l0)
  (HC_ : ∀ W : World, Kept w W (fun k_ => P0_ k_) → Below w0.heap.size w0 W → ∀ a b : HH, a ∈ l0 → b ∈ l0 → Calls Try.prog 84 #[hEnc a, hEnc b] W fun e w' => (∃ c : Int, e = .returned (.int .i64 c) ∧ decide (c < 0) = lt a b) ∧ Drawn0 W w') (h : hsL0 lt k l0 a1 a2 (wrap64 (a1 + 1)) = some r) :
  Calls Try.prog 145 #[u9000_, .int .i64 a1, .int .i64 a2, .func (.func 84) #[] #[]] w fun e w' => e = .returned (.tuple #[]) ∧ Kd.R hdK 23 w' w0.heap.size (fun k_ => (P0_ k_ ∨ w.heap.size ≤ k_)) u9000_ r ∧ Below w0.heap.size w0 w' ∧ Kept w w' (fun k_ => P0_ k_) := by
 have HO0 := Aside0.mk (show Kd.R hdK 23 w w0.heap.size (fun k_ => (P0_ k_ ∨ w.heap.size ≤ k_)) u9000_ l0 from Kd.R_mono ho0 (fun k_ hk => (.inl hk)))
 have HK := Aside0.mk (Kept.refl w (fun k_ => P0_ k_))
 have HW0 := Aside0.mk hB.size
 have HB := Aside0.mk hB
 clear hB
 have H : (hsL0 lt k l0 a1 a2 (wrap64 (a1 + 1))) = some r := h
 clear h
 have H' := Aside0.mk H
 clear H
 go_enter Try.func145, Try.ntmps145
 go_wp2
 go_loopg [8] k (fun kq v6 w' => ∃ (x0_1 : List HH) (x6_1 : Int), v6 = .int .i64 x6_1 ∧ Aside0 (∀ z, z ∈ x0_1 → z ∈ l0) ∧ Aside0 (hsL0 lt kq x0_1 a1 a2 x6_1 = some r) ∧ Aside0 (kq ≤ k) ∧ Aside0 (Kd.R hdK 23 w' w0.heap.size (fun k_ => (P0_ k_ ∨ w.heap.size ≤ k_)) u9000_ x0_1) ∧ Aside0 (Kept w w' (fun k_ => P0_ k_)) ∧ Aside0 (Below w0.heap.size w0 w'))
 case atStart => exact ⟨(l0), (wrap64 (a1 + 1)), (by first | rfl | (simp; done)), ⟨fun z hz => hz⟩, H', ⟨Nat.le_refl _⟩, ⟨rr_ HO0⟩, ⟨by repeat (first | (with_reducible first | exact HK.out | apply Kept.alloc | apply Kept.drewN | apply Kept.drew) | exact HK.out)⟩, ⟨by repeat (first | (with_reducible first | exact HB.out | apply below_alloc | apply pw_below_drewN | apply below_drew1) | exact HB.out)⟩⟩
 case round =>
  clear H'
  try clear c1
  try clear p2
  obtain ⟨x0_1, x6_1, rfl, HM1_, HA, HK1, HO_0, HK, HB⟩ := hrel
  cases gk with
  | zero => exact absurd HA.out (by simp [hsL0])
  | succ k1 =>
   have H := HA.out
   clear HA
   simp only [hsL0] at H
   by_cases c4 : x6_1 < a2
   ·rw [if_pos c4] at H
    have c4b0 : decide (x6_1 < a2) = true := decide_eq_true c4
    clear c4
    have H' := Aside0.mk H
    clear H
    go_wp2
    go_loopg [9] k1 (fun kq v7 w' => ∃ (x0_2 : List HH) (x7_2 : Int), v7 = .int .i64 x7_2 ∧ Aside0 (∀ z, z ∈ x0_2 → z ∈ l0) ∧ Aside0 (hsL1 lt kq x0_2 a1 a2 x6_1 x7_2 = some r) ∧ Aside0 (kq ≤ k1) ∧ Aside0 (Kd.R hdK 23 w' w0.heap.size (fun k_ => (P0_ k_ ∨ w.heap.size ≤ k_)) u9000_ x0_2) ∧ Aside0 (Kept w w' (fun k_ => P0_ k_)) ∧ Aside0 (Below w0.heap.size w0 w'))
    case atStart => exact ⟨(x0_1), (x6_1), (by first | rfl | (simp; done)), HM1_, H', ⟨Nat.le_refl _⟩, ⟨rr_ HO_0⟩, ⟨by repeat (first | (with_reducible first | exact HK.out | apply Kept.alloc | apply Kept.drewN | apply Kept.drew) | exact HK.out)⟩, ⟨by repeat (first | (with_reducible first | exact HB.out | apply below_alloc | apply pw_below_drewN | apply below_drew1) | exact HB.out)⟩⟩
    case round =>
     clear H'
     try clear c1
     try clear p2
     try clear c4
     try clear c4b0
     try clear p2
     obtain ⟨x0_2, x7_2, rfl, HM_, HA, HK2, HO_0, HK, HB⟩ := hrel
     cases gk with
     | zero => exact absurd HA.out (by simp [hsL1])
     | succ k2 =>
      have H := HA.out
      clear HA
      simp only [hsL1] at H
      by_cases c5 : x7_2 > a1
      ·rw [if_pos c5] at H
       have c5b0 : decide (a1 < x7_2) = true := decide_eq_true c5
       clear c5
       by_cases c6 : 0 ≤ x7_2
       ·rw [if_pos c6] at H
        have c6b0 : decide (0 ≤ x7_2) = true := decide_eq_true c6
        clear c6
        by_cases c7 : x7_2 < (x0_2.length : Int)
        ·rw [if_pos c7] at H
         have c7b0 : decide (x7_2 < (x0_2.length : Int)) = true := decide_eq_true c7
         clear c7
         obtain ⟨ji8, hji8⟩ : ∃ j_ : Int, (wrap64 (x7_2 - 1)) = j_ := ⟨_, rfl⟩
         replace H : (if 0 ≤ (ji8) then (if (ji8) < (x0_2.length : Int) then ((hLess lt (rdH x0_2 x7_2) (rdH x0_2 (ji8))).bind fun t691 => (if t691 = true then (hsL1 lt k2 ((x0_2.set (x7_2 : Int).toNat (rdH x0_2 (ji8))).set ((ji8) : Int).toNat (rdH x0_2 x7_2)) a1 a2 x6_1 ji8) else (hsL0 lt k2 x0_2 a1 a2 (wrap64 (x6_1 + 1))))) else (none)) else (none)) = some r := by first | (rw [hji8] at H; exact H) | (simp only [hji8] at H ⊢; exact H)
         have hji8w : (IntKind.i64.wrap (x7_2 - 1)) = ji8 := (i64_w _).trans hji8
         by_cases c9 : 0 ≤ (ji8)
         ·rw [if_pos c9] at H
          have c9b0 : decide (0 ≤ (ji8)) = true := decide_eq_true c9
          clear c9
          by_cases c10 : (ji8) < (x0_2.length : Int)
          ·rw [if_pos c10] at H
           have c10b0 : decide ((ji8) < (x0_2.length : Int)) = true := decide_eq_true c10
           clear c10
           replace H := Option.bind_eq_some_iff.mp H
           obtain ⟨t691, A110, H⟩ := H
           replace H : (if t691 = true then (hsL1 lt k2 ((x0_2.set (x7_2 : Int).toNat (rdH x0_2 (ji8))).set ((ji8) : Int).toNat (rdH x0_2 x7_2)) a1 a2 x6_1 ji8) else (hsL0 lt k2 x0_2 a1 a2 (wrap64 (x6_1 + 1)))) = some r := H
           have A11 := Aside0.mk A110
           clear A110
           by_cases c12 : t691 = true
           ·subst c12
            have H1 : (hsL1 lt k2 ((x0_2.set (x7_2 : Int).toNat (rdH x0_2 (ji8))).set ((ji8) : Int).toNat (rdH x0_2 x7_2)) a1 a2 x6_1 ji8) = some r := by rw [if_pos rfl] at H; exact H
            clear H
            have H := H1
            clear H1
            obtain ⟨y694, hy694⟩ : ∃ y_ : List HH, y_ = (x0_2.set (x7_2 : Int).toNat (rdH x0_2 (ji8))) := ⟨_, rfl⟩
            replace H : (hsL1 lt k2 (y694.set ((ji8) : Int).toNat (rdH x0_2 x7_2)) a1 a2 x6_1 ji8) = some r := by first | (rw [hy694]; with_reducible exact H) | (have H2_ := (Option.bind_some _ _).symm.trans H; rw [hy694]; with_reducible exact H2_) | (have H2_ := (Option.bind_some _ _).symm.trans H; with_reducible exact H2_) | with_reducible exact H | (rw [hy694]; exact H) | exact H
            have Ny694 := Aside0.mk hy694
            clear hy694
            obtain ⟨y695, hy695⟩ : ∃ y_ : List HH, y_ = (y694.set ((ji8) : Int).toNat (rdH x0_2 x7_2)) := ⟨_, rfl⟩
            replace H : (hsL1 lt k2 y695 a1 a2 x6_1 ji8) = some r := by first | (rw [hy695]; with_reducible exact H) | (have H2_ := (Option.bind_some _ _).symm.trans H; rw [hy695]; with_reducible exact H2_) | (have H2_ := (Option.bind_some _ _).symm.trans H; with_reducible exact H2_) | with_reducible exact H | (rw [hy695]; exact H) | exact H
            have Ny695 := Aside0.mk hy695
            clear hy695
            have H' := Aside0.mk H
            clear H
            try go_wp2
            have n0_ := Aside0.mk (Kd.R_drew HO_0.out)
            have n1_ := Aside0.mk (Kept.drew HK.out)
            have n2_ := Aside0.mk (below_drew1 HB.out)
            clear HO_0
            clear HK
            clear HB
            have HO_0 := n0_
            have HK := n1_
            have HB := n2_
            clear n0_ n1_ n2_
            obtain ⟨Ao16, co16, eo16⟩ := Kd.R_slice HO_0.out
            (first | subst eo16 | (injection eo16 with f1_ f2_ f3_; have f4_ := f1_.symm; have f5_ := f3_.symm; clear f1_ f2_ f3_; subst f4_; subst f5_))
            have p689 : 0 ≤ (x7_2 : Int) := dd_
            have q689 : x7_2 < (x0_2.length : Int) := dd_
            obtain ⟨ad689, e689, hx689_0⟩ := at_hd (Kd.R_reads' HO_0.out).2.2 x7_2 p689 q689
            cases e689
            replace p689 := eq_true p689
            replace q689 := eq_true q689
            have p690 : 0 ≤ ((ji8) : Int) := dd_
            have q690 : (ji8) < (x0_2.length : Int) := dd_
            obtain ⟨ad690, e690, hx690_0⟩ := at_hd (Kd.R_reads' HO_0.out).2.2 (ji8) p690 q690
            obtain rfl : ad689 = ad690 := (by injection e690)
            replace p690 := eq_true p690
            replace q690 := eq_true q690
            refine start_ (n := 17) (S := fun w' => w'.cell? (ad689.add (x7_2).toNat) = some (hEnc (rdH x0_2 x7_2)) ∧ w'.cell? (ad689.add ((ji8)).toNat) = some (hEnc (rdH x0_2 (ji8)))) (ds := []) #[F_,F_,F_,F_,F_,F_,F_,F_,F_,F_,F_,F_,F_,F_,F_,F_,F_] (by kernel_rfl) rfl rfl ⟨hx689_0, hx690_0⟩ (fun hHeld => ?_); refine with_tabW insCmp.tab4 insCmp.bits4 (fun HT_ HW_ => ?_)
            generalize wr.drew = w15 at HO_0 HK HB hx689_0 hx690_0 hHeld ⊢
            refine p_ 0 18 (m_ 17 1) HT_.out ?_
            refine p_ 1 19 (m_ 17 3) HT_.out ?_
            refine p_ 2 20 (m_ 17 7) HT_.out ?_
            refine p_ 3 21 (m_ 17 15) HT_.out ?_
            refine p_ 4 22 (m_ 17 31) HT_.out ?_
            refine p_ 5 23 (m_ 17 63) HT_.out ?_
            refine p_ 6 24 (m_ 17 127) HT_.out ?_
            refine p_ 7 25 (m_ 17 255) HT_.out ?_
            refine p_ 9 27 (m_ 17 767) HT_.out ?_
            refine p_ 10 28 (m_ 17 1791) HT_.out ?_
            refine p_ 11 29 (m_ 17 3839) HT_.out ?_
            refine p_ 12 30 (m_ 17 7935) HT_.out ?_
            refine t2_ 8 26 (m_ 17 8191) HT_.out HW_.out hHeld ?_
            refine t2_ 13 31 (m_ 17 16383) HT_.out HW_.out hHeld ?_
            refine one_ (i := 14) (N := some 32) (m_ 17 32767) rfl rfl (one_of HT_.out (by kernel_rfl)) (by decide) (fun K hK => ?_)
            refine goesV_ Try.func84 (by kernel_rfl) rfl #[hEnc (rdH x0_2 x7_2), hEnc (rdH x0_2 (ji8))] (by rfl) rfl rfl rfl (by (try simp only [List.map_toArray, List.map_cons, List.map_nil]); first | done | (simp only [hji8]; rfl) | rfl) ?_
            refine (HC_ _ HK.out HB.out (rdH x0_2 x7_2) (rdH x0_2 (ji8)) (HM_.out _ (rdH_mem (of_eq_true p689) (of_eq_true q689))) (HM_.out _ (rdH_mem (of_eq_true p690) (of_eq_true q690)))).mono ?_
            rintro e w' ⟨⟨cc, rfl, hcc⟩, ⟨nd, rfl⟩⟩
            rw [hLess_eq A11.out] at hcc
            refine ⟨_, rfl, ?_⟩
            refine hK.out _ _ ⟨hHeld.1, hHeld.2⟩ (fun hHeld => ?_)
            clear hK K
            refine norm_ (a' := ?_) ?_ ?_; rotate_left; (show Act.put _ (some 32) _ = _; simp only [Act.put, List.setIfInBounds_toArray, List.set_cons_zero, List.set_cons_succ, i64_w, i32_w]; rfl)
            refine p_ 15 33 (m_ 17 65535) HT_.out ?_
            refine p_ 16 34 (m_ 17 131071) HT_.out ?_
            refine done_ (done_of HT_.out (by kernel_rfl)) ?_
            try go_wp2
            (try (rw [dself_ w15]; generalize hq_ : World.drewN w15 _ = w15; have n0_ : Aside0 (Kd.R hdK 23 w15 w0.heap.size (fun k_ => (P0_ k_ ∨ w.heap.size ≤ k_)) (.slice (some ad689) x0_2.length co16) x0_2) := ⟨by rw [← hq_]; exact (rr_ HO_0)⟩; have n1_ : Aside0 (Kept w w15 (fun k_ => P0_ k_)) := ⟨by rw [← hq_]; exact (by repeat (first | (with_reducible first | exact HK.out | apply Kept.alloc | apply Kept.drewN | apply Kept.drew) | exact HK.out))⟩; have n2_ : Aside0 (Below w0.heap.size w0 w15) := ⟨by rw [← hq_]; exact (bb_ HB)⟩; clear HO_0 HK HB hq_; have HO_0 := n0_; have HK := n1_; have HB := n2_; clear n0_ n1_ n2_))
            have n0_ := Aside0.mk (Kd.R_drew HO_0.out)
            have n1_ := Aside0.mk (Kept.drew HK.out)
            have n2_ := Aside0.mk (below_drew1 HB.out)
            clear HO_0
            clear HK
            clear HB
            have HO_0 := n0_
            have HK := n1_
            have HB := n2_
            clear n0_ n1_ n2_
            have p692 : 0 ≤ ((ji8) : Int) := dd_
            have q692 : (ji8) < (x0_2.length : Int) := dd_
            obtain ⟨ad692, e692, hx692_0⟩ := at_hd (Kd.R_reads' HO_0.out).2.2 (ji8) p692 q692
            obtain rfl : ad689 = ad692 := (by injection e692)
            replace p692 := eq_true p692
            replace q692 := eq_true q692
            have p693 : 0 ≤ (x7_2 : Int) := dd_
            have q693 : x7_2 < (x0_2.length : Int) := dd_
            obtain ⟨ad693, e693, hx693_0⟩ := at_hd (Kd.R_reads' HO_0.out).2.2 x7_2 p693 q693
            obtain rfl : ad689 = ad693 := (by injection e693)
            replace p693 := eq_true p693
            replace q693 := eq_true q693
            have p13 : 0 ≤ (x7_2 : Int) := dd_
            have q13 : (x7_2 : Int) < ((x0_2.length : Int) : Int) := dd_
            obtain ⟨go13, co13, eo13, gb13, gl13, cl13, HG13⟩ := Kd.R_form HO_0.out (by omega)
            (first | cases eo13 | (injection eo13 with ea_ en_ ec_; (first | subst ea_ | (injection ea_ with ea_; subst ea_)); subst ec_; clear en_))
            have GB13 := Aside0.mk gb13
            have GG13 := Aside0.mk HG13
            clear gb13 gl13 HG13
            have HMgo13 := Aside0.mk (show (P0_ go13 ∨ w.heap.size ≤ go13) from (HO_0.out.1 _ rfl))
            (first | simp only [add_plain] at hx689_0 | skip)
            (first | simp only [add_plain] at hx690_0 | skip)
            (first | simp only [add_plain] at hx692_0 | skip)
            (first | simp only [add_plain] at hx693_0 | skip)
            obtain ⟨hx13_0, hf13_0⟩ := Kd.R_celln ((none, 0) : HH) HO_0.out (x7_2 : Int) p13 q13
            replace p13 := eq_true p13
            replace q13 := eq_true q13
            have HP18 := Kd.R_putn HO_0.out (x7_2 : Int) (rdH x0_2 (ji8))
            rw [← Ny694.out] at HP18
            have HQ18 := Aside0.mk HP18
            clear HP18
            have p14 : 0 ≤ ((ji8) : Int) := dd_
            have q14 : ((ji8) : Int) < ((x0_2.length : Int) : Int) := dd_
            obtain ⟨hx14_0, hf14_0⟩ := Kd.R_celln ((none, 0) : HH) HQ18.out ((ji8) : Int) p14 q14
            replace p14 := eq_true p14
            replace q14 := eq_true q14
            have HP19 := Kd.R_putn HQ18.out ((ji8) : Int) (rdH x0_2 x7_2)
            rw [← Ny695.out] at HP19
            have HQ19 := Aside0.mk HP19
            clear HP19
            refine start_ (n := 18) (S := fun w' => w'.cell? ⟨go13, ((ji8)).toNat, none⟩ = some (hEnc (rdH x0_2 (ji8))) ∧ w'.cell? ⟨go13, (x7_2).toNat, none⟩ = some (hEnc (rdH x0_2 x7_2))) (ds := [15, 17]) #[F_,F_,F_,F_,F_,F_,F_,F_,F_,F_,F_,F_,F_,F_,F_,F_,F_,F_] (by kernel_rfl) rfl rfl ⟨hx692_0, hx693_0⟩ (fun hHeld => ?_); refine with_tabW insCmp.tab6 insCmp.bits6 (fun HT_ HW_ => ?_)
            generalize w15.drew = w17 at HO_0 HK HB GG13 HQ18 HQ19 hf13_0 hf14_0 hx13_0 hx14_0 hx689_0 hx690_0 hx692_0 hx693_0 hHeld ⊢
            refine p_ 0 37 (m_ 18 1) HT_.out ?_
            refine p_ 1 38 (m_ 18 3) HT_.out ?_
            refine p_ 2 39 (m_ 18 7) HT_.out ?_
            refine p_ 3 40 (m_ 18 15) HT_.out ?_
            refine p_ 4 41 (m_ 18 31) HT_.out ?_
            refine p_ 5 42 (m_ 18 63) HT_.out ?_
            refine p_ 6 43 (m_ 18 127) HT_.out ?_
            refine p_ 7 44 (m_ 18 255) HT_.out ?_
            refine p_ 8 45 (m_ 18 511) HT_.out ?_
            refine p_ 10 47 (m_ 18 1535) HT_.out ?_
            refine p_ 11 48 (m_ 18 3583) HT_.out ?_
            refine p_ 12 49 (m_ 18 7679) HT_.out ?_
            refine t2_ 9 46 (m_ 18 8191) HT_.out HW_.out hHeld ?_
            refine t2_ 13 50 (m_ 18 16383) HT_.out HW_.out hHeld ?_
            refine p_ 14 51 (m_ 18 32767) HT_.out ?_
            refine last_ (i := 15) (N := none) (m_ 18 65535) rfl rfl (one_of HT_.out (by kernel_rfl)) (by decide) (fun K hK => ?_)
            refine skip_ (w1 := ?_) (by rfl) rfl ?_ ?_; rotate_left; (go_simp; (try simp only [hEnc]); (try go_simp); rfl)
            refine hK.out _ _ ?_
            clear hK K
            refine p_ 16 52 (m_ 18 131071) HT_.out ?_
            refine last_ (i := 17) (N := none) (m_ 18 262143) rfl rfl (one_of HT_.out (by kernel_rfl)) (by decide) (fun K hK => ?_)
            refine skip_ (w1 := ?_) (by rfl) rfl ?_ ?_; rotate_left; (have hxu_ := hx14_0; have hfu_ := hf14_0; (try simp only [hEnc] at hxu_); (try simp only [hEnc] at hfu_); go_simp; (try simp only [hEnc]); (try go_simp); rfl)
            refine hK.out _ _ ?_
            clear hK K
            refine done_ (done_of HT_.out (by kernel_rfl)) ?_
            try go_wp2
            go_roundg k2
            case measure => have := HK1.out; have := HK2.out; omega
            case rel => exact ⟨(y695), (ji8), (by first | rfl | (simp only [← hji8] <;> (first | rfl | simp))), ⟨fun z hz => HM_.out z (swapH_mem (of_eq_true p13) (of_eq_true q13) (of_eq_true p14) (of_eq_true q14) Ny694.out Ny695.out hz)⟩, H', ⟨by have := HK1.out; have := HK2.out; omega⟩, ⟨rr_ HQ19⟩, ⟨by repeat (first | (with_reducible first | exact HK.out | apply Kept.alloc | apply Kept.drewN | apply Kept.drew | refine Kept.setCell ?_ HMgo13.out _ | refine Kept.setCell ?_ HMgo13.out _) | exact HK.out)⟩, ⟨by repeat (first | (with_reducible first | exact HB.out | apply below_alloc | apply pw_below_drewN | apply below_drew1 | refine below_set ?_ GB13.out | refine below_set ?_ GB13.out) | exact HB.out)⟩⟩
           ·replace c12 := Bool.eq_false_iff.mpr c12
            subst c12
            have H1 : (hsL0 lt k2 x0_2 a1 a2 (wrap64 (x6_1 + 1))) = some r := by rw [if_neg (show ¬ (false = true) by decide)] at H; exact H
            clear H
            have H := H1
            clear H1
            have H' := Aside0.mk H
            clear H
            try go_wp2
            have n0_ := Aside0.mk (Kd.R_drew HO_0.out)
            have n1_ := Aside0.mk (Kept.drew HK.out)
            have n2_ := Aside0.mk (below_drew1 HB.out)
            clear HO_0
            clear HK
            clear HB
            have HO_0 := n0_
            have HK := n1_
            have HB := n2_
            clear n0_ n1_ n2_
            obtain ⟨Ao21, co21, eo21⟩ := Kd.R_slice HO_0.out
            (first | subst eo21 | (injection eo21 with f1_ f2_ f3_; have f4_ := f1_.symm; have f5_ := f3_.symm; clear f1_ f2_ f3_; subst f4_; subst f5_))
            have p689 : 0 ≤ (x7_2 : Int) := dd_
            have q689 : x7_2 < (x0_2.length : Int) := dd_
            obtain ⟨ad689, e689, hx689_0⟩ := at_hd (Kd.R_reads' HO_0.out).2.2 x7_2 p689 q689
            cases e689
            replace p689 := eq_true p689
            replace q689 := eq_true q689
            have p690 : 0 ≤ ((ji8) : Int) := dd_
            have q690 : (ji8) < (x0_2.length : Int) := dd_
            obtain ⟨ad690, e690, hx690_0⟩ := at_hd (Kd.R_reads' HO_0.out).2.2 (ji8) p690 q690
            obtain rfl : ad689 = ad690 := (by injection e690)
            replace p690 := eq_true p690
            replace q690 := eq_true q690
            refine start_ (n := 17) (S := fun w' => w'.cell? (ad689.add (x7_2).toNat) = some (hEnc (rdH x0_2 x7_2)) ∧ w'.cell? (ad689.add ((ji8)).toNat) = some (hEnc (rdH x0_2 (ji8)))) (ds := []) #[F_,F_,F_,F_,F_,F_,F_,F_,F_,F_,F_,F_,F_,F_,F_,F_,F_] (by kernel_rfl) rfl rfl ⟨hx689_0, hx690_0⟩ (fun hHeld => ?_); refine with_tabW insCmp.tab4 insCmp.bits4 (fun HT_ HW_ => ?_)
            generalize wr.drew = w20 at HO_0 HK HB hx689_0 hx690_0 hHeld ⊢
            refine p_ 0 18 (m_ 17 1) HT_.out ?_
            refine p_ 1 19 (m_ 17 3) HT_.out ?_
            refine p_ 2 20 (m_ 17 7) HT_.out ?_
            refine p_ 3 21 (m_ 17 15) HT_.out ?_
            refine p_ 4 22 (m_ 17 31) HT_.out ?_
            refine p_ 5 23 (m_ 17 63) HT_.out ?_
            refine p_ 6 24 (m_ 17 127) HT_.out ?_
            refine p_ 7 25 (m_ 17 255) HT_.out ?_
            refine p_ 9 27 (m_ 17 767) HT_.out ?_
            refine p_ 10 28 (m_ 17 1791) HT_.out ?_
            refine p_ 11 29 (m_ 17 3839) HT_.out ?_
            refine p_ 12 30 (m_ 17 7935) HT_.out ?_
            refine t2_ 8 26 (m_ 17 8191) HT_.out HW_.out hHeld ?_
            refine t2_ 13 31 (m_ 17 16383) HT_.out HW_.out hHeld ?_
            refine one_ (i := 14) (N := some 32) (m_ 17 32767) rfl rfl (one_of HT_.out (by kernel_rfl)) (by decide) (fun K hK => ?_)
            refine goesV_ Try.func84 (by kernel_rfl) rfl #[hEnc (rdH x0_2 x7_2), hEnc (rdH x0_2 (ji8))] (by rfl) rfl rfl rfl (by (try simp only [List.map_toArray, List.map_cons, List.map_nil]); first | done | (simp only [hji8]; rfl) | rfl) ?_
            refine (HC_ _ HK.out HB.out (rdH x0_2 x7_2) (rdH x0_2 (ji8)) (HM_.out _ (rdH_mem (of_eq_true p689) (of_eq_true q689))) (HM_.out _ (rdH_mem (of_eq_true p690) (of_eq_true q690)))).mono ?_
            rintro e w' ⟨⟨cc, rfl, hcc⟩, ⟨nd, rfl⟩⟩
            rw [hLess_eq A11.out] at hcc
            refine ⟨_, rfl, ?_⟩
            refine hK.out _ _ ⟨hHeld.1, hHeld.2⟩ (fun hHeld => ?_)
            clear hK K
            refine norm_ (a' := ?_) ?_ ?_; rotate_left; (show Act.put _ (some 32) _ = _; simp only [Act.put, List.setIfInBounds_toArray, List.set_cons_zero, List.set_cons_succ, i64_w, i32_w]; rfl)
            refine p_ 15 33 (m_ 17 65535) HT_.out ?_
            refine p_ 16 34 (m_ 17 131071) HT_.out ?_
            refine done_ (done_of HT_.out (by kernel_rfl)) ?_
            try go_wp2
            go_roundg k2
            case measure => have := HK1.out; have := HK2.out; omega
            case rel => exact ⟨(x0_2), (wrap64 (x6_1 + 1)), (by first | rfl | (simp; done)), HM_, H', ⟨by have := HK1.out; have := HK2.out; omega⟩, ⟨rr_ HO_0⟩, ⟨by repeat (first | (with_reducible first | exact HK.out | apply Kept.alloc | apply Kept.drewN | apply Kept.drew) | exact HK.out)⟩, ⟨by repeat (first | (with_reducible first | exact HB.out | apply below_alloc | apply pw_below_drewN | apply below_drew1) | exact HB.out)⟩⟩
          ·rw [if_neg c10] at H
           exact absurd H (by simp)
         ·rw [if_neg c9] at H
          exact absurd H (by simp)
        ·rw [if_neg c7] at H
         exact absurd H (by simp)
       ·rw [if_neg c6] at H
        exact absurd H (by simp)
      ·rw [if_neg c5] at H
       have c5b0 : decide (a1 < x7_2) = false := decide_eq_false c5
       clear c5
       have H' := Aside0.mk H
       clear H
       try go_wp2
       have n0_ := Aside0.mk (Kd.R_drew HO_0.out)
       have n1_ := Aside0.mk (Kept.drew HK.out)
       have n2_ := Aside0.mk (below_drew1 HB.out)
       clear HO_0
       clear HK
       clear HB
       have HO_0 := n0_
       have HK := n1_
       have HB := n2_
       clear n0_ n1_ n2_
       refine start_ (n := 17) (S := fun w' => True) (ds := []) #[F_,F_,F_,F_,F_,F_,F_,F_,F_,F_,F_,F_,F_,F_,F_,F_,F_] (by kernel_rfl) rfl rfl trivial (fun hHeld => ?_); refine with_tabW insCmp.tab4 insCmp.bits4 (fun HT_ HW_ => ?_)
       generalize wr.drew = w22 at HO_0 HK HB hHeld ⊢
       refine p_ 0 18 (m_ 17 1) HT_.out ?_
       refine p_ 1 19 (m_ 17 3) HT_.out ?_
       refine p_ 2 20 (m_ 17 7) HT_.out ?_
       refine p_ 3 21 (m_ 17 15) HT_.out ?_
       refine u_ 4 22 (m_ 17 31) HT_.out ?_
       refine u_ 5 23 (m_ 17 63) HT_.out ?_
       refine u_ 6 24 (m_ 17 127) HT_.out ?_
       refine u_ 7 25 (m_ 17 255) HT_.out ?_
       refine u_ 8 26 (m_ 17 511) HT_.out ?_
       refine u_ 9 27 (m_ 17 1023) HT_.out ?_
       refine u_ 10 28 (m_ 17 2047) HT_.out ?_
       refine u_ 11 29 (m_ 17 4095) HT_.out ?_
       refine u_ 12 30 (m_ 17 8191) HT_.out ?_
       refine u_ 13 31 (m_ 17 16383) HT_.out ?_
       refine u_ 14 32 (m_ 17 32767) HT_.out ?_
       refine u_ 15 33 (m_ 17 65535) HT_.out ?_
       refine p_ 16 34 (m_ 17 131071) HT_.out ?_
       refine done_ (done_of HT_.out (by kernel_rfl)) ?_
       try go_wp2
       go_roundg k2
       case measure => have := HK1.out; have := HK2.out; omega
       case rel => exact ⟨(x0_2), (wrap64 (x6_1 + 1)), (by first | rfl | (simp; done)), HM_, H', ⟨by have := HK1.out; have := HK2.out; omega⟩, ⟨rr_ HO_0⟩, ⟨by repeat (first | (with_reducible first | exact HK.out | apply Kept.alloc | apply Kept.drewN | apply Kept.drew) | exact HK.out)⟩, ⟨by repeat (first | (with_reducible first | exact HB.out | apply below_alloc | apply pw_below_drewN | apply below_drew1) | exact HB.out)⟩⟩
   ·rw [if_neg c4] at H
    have c4b0 : decide (x6_1 < a2) = false := decide_eq_false c4
    clear c4
    obtain rfl := Option.some.inj H
    go_wp2
    first | go_end0 | ((try simp only [Exit.inBlock, Exit.then]); refine bodyPost_ret (results_none rfl _ _ _) rfl ?_)
    exact ⟨ee_, by (with_reducible repeat (first | apply Kd.R_alloc | apply Kd.R_drewN | apply Kd.R_drew)); exact HO_0.out, bb_ HB, by repeat (first | (with_reducible first | exact HK.out | apply Kept.alloc | apply Kept.drewN | apply Kept.drew) | exact HK.out)⟩
end Go.Proofs.Ytbfafjejmljcpaa.P

namespace Go.Proofs.Ytbfafjejmljcpaa.P
open Go.RowKit Go.Proofs.YtbfafjejmljcpaaW.PrintWords Go.Proofs.YtbfafjejmljcpaaW.PrintLast
set_option linter.unusedVariables false
set_option linter.unusedSimpArgs false

def laws_heldIntSS.l0 : Nat → List (List Int) → Int → Int → Option (Int)
 | 0, _, _, _ => none
 | k + 1, x0, x1, x5 => if x5 < (x0.length : Int) then (if 0 ≤ x5 then ((laws_heldIntS.f k (rd_LI x0 x5) x1).bind fun t851 => (if t851 < 0 then (some (-1)) else (laws_heldIntSS.l0 k x0 t851 (wrap64 (x5 + 1))))) else (none)) else (some x1)
def laws_heldIntSS.f (k : Nat) (l0 : List (List Int)) (a1 : Int) : Option (Int) := laws_heldIntSS.l0 k l0 a1 0
set_option maxHeartbeats 8000000 in
set_option maxRecDepth 100000 in
theorem laws_heldIntSS.calls (k : Nat) (A0 : Option Addr) (c0 : Nat) (l0 : List (List Int)) (a1 : Int) (r : Int) (w : World) (hr0 : Kd.C (Kd.slice 3 (Kd.int .i64)) w A0 l0.length l0) (hc0 : l0.length ≤ c0) (h : laws_heldIntSS.f k l0 a1 = some r) :
  Calls Try.prog 33 #[.slice A0 l0.length c0, .int .i64 a1] w fun e w' => e = .returned (.int .i64 r) ∧ Drawn0 w w' := by
 have HR0 := Aside0.mk hr0
 have HC0 := Aside0.mk hc0
 clear hr0 hc0
 have H : (laws_heldIntSS.l0 k l0 a1 0) = some r := h
 clear h
 have H' := Aside0.mk H
 clear H
 go_enter Try.func33, Try.ntmps33
 go_wp2
 go_loopg [1, 5] k (fun kq v1 v5 w' => ∃ (x1_1 : Int) (x5_1 : Int), v1 = .int .i64 x1_1 ∧ v5 = .int .i64 x5_1 ∧ Aside0 (laws_heldIntSS.l0 kq l0 x1_1 x5_1 = some r) ∧ Aside0 (kq ≤ k) ∧ Drawn0 w w')
 case atStart => exact ⟨(a1), (0), (by first | rfl | (simp; done) | (simp [*]; done)), (by first | rfl | (simp; done) | (simp [*]; done)), H', ⟨Nat.le_refl _⟩, by repeat (first | exact Drawn0.refl _ | apply Drawn0.step)⟩
 case round =>
  clear H'
  try clear p2
  obtain ⟨x1_1, x5_1, rfl, rfl, HA, HK1, ⟨m1, rfl⟩⟩ := hrel
  cases gk with
  | zero => exact absurd HA.out (by simp [laws_heldIntSS.l0])
  | succ k1 =>
   have H := HA.out
   clear HA
   simp only [laws_heldIntSS.l0] at H
   by_cases c3 : x5_1 < (l0.length : Int)
   ·rw [if_pos c3] at H
    have c3b0 : decide (x5_1 < (l0.length : Int)) = true := decide_eq_true c3
    clear c3
    by_cases c4 : 0 ≤ x5_1
    ·rw [if_pos c4] at H
     have c4b0 : decide (0 ≤ x5_1) = true := decide_eq_true c4
     clear c4
     replace H := Option.bind_eq_some_iff.mp H
     obtain ⟨t851, A50, H⟩ := H
     replace H : (if t851 < 0 then (some (-1)) else (laws_heldIntSS.l0 k1 l0 t851 (wrap64 (x5_1 + 1)))) = some r := H
     have A5 := Aside0.mk A50
     clear A50
     by_cases c6 : t851 < 0
     ·rw [if_pos c6] at H
      have c6b0 : decide (t851 < 0) = true := decide_eq_true c6
      clear c6
      obtain rfl := Option.some.inj H
      have p850 : 0 ≤ (x5_1 : Int) := dd_
      have q850 : x5_1 < (l0.length : Int) := dd_
      obtain ⟨ad850, A850_0, c850_0, e850, hx850_0, hl850_0, hi850_0⟩ := at_LI HR0.out x5_1 p850 q850
      cases e850
      have HR850_0 := Aside0.mk hi850_0
      have HC850_0 := Aside0.mk hl850_0
      clear hi850_0 hl850_0
      replace p850 := eq_true p850
      replace q850 := eq_true q850
      go_wp2_with (first | (refine goesL_ (some 17) rfl rfl Try.func68 (by kernel_rfl) rfl #[.slice A850_0 (rd_LI l0 x5_1).length c850_0, .int .i64 x1_1] rfl ll_ ?_; (with_reducible refine (laws_heldIntS.calls k1 _ _ (rd_LI l0 x5_1) x1_1 t851 _ ?side1 ?side2 A5.out).mono ?_); (case side1 => exact ss_ HR850_0); (case side2 => exact HC850_0.out); rintro e w' ⟨rfl, ⟨nd, rfl⟩⟩; refine ⟨_, rfl, ?_⟩))
      go_ret
      exact ⟨by first | rfl | (simp; done) | (simp [*]; done), by repeat (first | exact Drawn0.refl _ | apply Drawn0.step)⟩
     ·rw [if_neg c6] at H
      have c6b0 : decide (t851 < 0) = false := decide_eq_false c6
      clear c6
      have H' := Aside0.mk H
      clear H
      have p850 : 0 ≤ (x5_1 : Int) := dd_
      have q850 : x5_1 < (l0.length : Int) := dd_
      obtain ⟨ad850, A850_0, c850_0, e850, hx850_0, hl850_0, hi850_0⟩ := at_LI HR0.out x5_1 p850 q850
      cases e850
      have HR850_0 := Aside0.mk hi850_0
      have HC850_0 := Aside0.mk hl850_0
      clear hi850_0 hl850_0
      replace p850 := eq_true p850
      replace q850 := eq_true q850
      go_wp2_with (first | (refine goesL_ (some 17) rfl rfl Try.func68 (by kernel_rfl) rfl #[.slice A850_0 (rd_LI l0 x5_1).length c850_0, .int .i64 x1_1] rfl ll_ ?_; (with_reducible refine (laws_heldIntS.calls k1 _ _ (rd_LI l0 x5_1) x1_1 t851 _ ?side1 ?side2 A5.out).mono ?_); (case side1 => exact ss_ HR850_0); (case side2 => exact HC850_0.out); rintro e w' ⟨rfl, ⟨nd, rfl⟩⟩; refine ⟨_, rfl, ?_⟩))
      go_roundg k1
      case measure => have := HK1.out; omega
      case rel => exact ⟨(t851), (wrap64 (x5_1 + 1)), (by first | rfl | (simp; done) | (simp [*]; done)), (by first | rfl | (simp; done) | (simp [*]; done)), H', ⟨by have := HK1.out; omega⟩, by repeat (first | exact Drawn0.refl _ | apply Drawn0.step)⟩
    ·rw [if_neg c4] at H
     exact absurd H (by simp)
   ·rw [if_neg c3] at H
    have c3b0 : decide (x5_1 < (l0.length : Int)) = false := decide_eq_false c3
    clear c3
    obtain rfl := Option.some.inj H
    go_wp2
    go_ret
    exact ⟨by first | rfl | (simp; done) | (simp [*]; done), by repeat (first | exact Drawn0.refl _ | apply Drawn0.step)⟩
end Go.Proofs.Ytbfafjejmljcpaa.P

set_option linter.unusedVariables false
set_option linter.unusedSimpArgs false
namespace Go.Proofs.Ytbfafjejmljcpaa.X
open Go.RowKit Go.Proofs.YtbfafjejmljcpaaW.PrintWords Go.Proofs.YtbfafjejmljcpaaW.PrintLast Go.Proofs.Ytbfafjejmljcpaa.P

def kAt (xs : List (List Int)) (a : Int) : Nat → Int
  | 0 => a
  | n + 1 => kAt xs a n + ((rd_LI xs (n : Int)).length : Int)
def rowsAt (xs : List (List Int)) (a : Int) : Nat → List (List Int)
  | 0 => xs
  | n + 1 => (rowsAt xs a n).set n (marks (rd_LI xs (n : Int)).length (kAt xs a n))
theorem rowsAt_length (xs : List (List Int)) (a : Int) (n : Nat) : (rowsAt xs a n).length = xs.length := by
  induction n with
  | zero => rfl
  | succ n ih => show (List.set _ _ _).length = _; rw [List.length_set, ih]
theorem rowsAt_later (xs : List (List Int)) (a : Int) (n m : Nat) (h : n ≤ m) : rd_LI (rowsAt xs a n) (m : Int) = rd_LI xs (m : Int) := by
  induction n with
  | zero => rfl
  | succ n ih =>
    rw [← ih (by omega)]
    unfold rd_LI
    show (List.set _ _ _).getD _ _ = _
    rw [List.getD_eq_getElem?_getD, List.getD_eq_getElem?_getD, List.getElem?_set_ne (by omega)]
theorem rowsAt_past (xs : List (List Int)) (a : Int) (n m : Nat) (h : m < n) (hm : m < xs.length) : rd_LI (rowsAt xs a n) (m : Int) = marks (rd_LI xs (m : Int)).length (kAt xs a m) := by
  induction n with
  | zero => omega
  | succ n ih =>
    unfold rd_LI
    show (List.set _ _ _).getD _ _ = _
    rw [List.getD_eq_getElem?_getD, Int.toNat_natCast]
    by_cases e : m = n
    · subst e
      rw [List.getElem?_set_self (by rw [rowsAt_length]; exact hm)]; rfl
    · rw [List.getElem?_set_ne (by omega)]
      have := ih (by omega)
      unfold rd_LI at this
      rw [List.getD_eq_getElem?_getD, Int.toNat_natCast] at this
      exact this
def Few9 (xs : List (List Int)) : Prop := xs.length ≤ 1048576 ∧ ∀ x ∈ xs, x.length ≤ 1048576
theorem few_row {xs : List (List Int)} (h : Few9 xs) (n : Nat) : (rd_LI xs (n : Int)).length ≤ 1048576 := by
  unfold rd_LI
  rw [List.getD_eq_getElem?_getD]
  by_cases hn : n < xs.length
  · rw [List.getElem?_eq_getElem (by omega)]
    exact h.2 _ (List.getElem_mem _)
  · rw [List.getElem?_eq_none (by omega)]; simp
theorem kAt_range {xs : List (List Int)} (h : Few9 xs) {a : Int} (a0 : 0 ≤ a) (n : Nat) : 0 ≤ kAt xs a n ∧ kAt xs a n ≤ a + 1048576 * n := by
  induction n with
  | zero => exact ⟨a0, by unfold kAt; omega⟩
  | succ n ih =>
    have := few_row h n
    unfold kAt
    omega
set_option maxRecDepth 100000 in
set_option maxHeartbeats 4000000 in
theorem markSS_calls (A0 : Option Addr) (c0 : Nat) (xs : List (List Int)) (a : Int) (hf : Few9 xs) (a0 : 0 ≤ a) (a1 : a ≤ 1) (w0 w : World) (ok : Nat → Prop) (hB : Below w0.heap.size w0 w) (hS : Kd.S (Kd.slice 3 (Kd.int .i64)) 23 w w0.heap.size ok (.slice A0 xs.length c0) xs) :
    Calls Try.prog 32 #[.slice A0 xs.length c0, .int .i64 a] w fun e w' => e = .returned (.int .i64 (kAt xs a xs.length)) ∧ Kd.S (Kd.slice 3 (Kd.int .i64)) 23 w' w0.heap.size ok (.slice A0 xs.length c0) (rowsAt xs a xs.length) ∧ Below w0.heap.size w0 w' ∧ Kept w w' ok := by
  have HF := Aside0.mk hf
  have HS0 := Aside0.mk hS
  have HB0 := Aside0.mk hB
  have HK0 := Aside0.mk (Kept.refl w ok)
  clear hf hS hB
  go_enter Try.func32, Try.ntmps32
  go_wp2
  go_loopg [1, 5] 1048576 (fun kq v1 v5 w' => ∃ i : Int, v5 = .int .i64 i ∧ v1 = .int .i64 (kAt xs a i.toNat) ∧ Aside0 (0 ≤ i ∧ i ≤ xs.length) ∧ Aside0 ((1048576 : Int) - i ≤ kq) ∧ Aside0 (Kd.S (Kd.slice 3 (Kd.int .i64)) 23 w' w0.heap.size ok (.slice A0 xs.length c0) (rowsAt xs a i.toNat)) ∧ Aside0 (Below w0.heap.size w0 w') ∧ Aside0 (Kept w w' ok))
  case atStart => exact ⟨0, rfl, rfl, ⟨by omega⟩, ⟨by have := HF.out.1; omega⟩, HS0, HB0, HK0⟩
  case round =>
    clear HS0 HB0 HK0
    obtain ⟨i, rfl, rfl, HI, HK, HS, HB, HKP⟩ := hrel
    have h0 : 0 ≤ i := HI.out.1
    by_cases c6 : i < (xs.length : Int)
    · have hS := HS.out
      have i100 : i < 1048576 := by have := HF.out.1; omega
      obtain ⟨ad, hA⟩ : ∃ ad, A0 = some ad := by
        obtain ⟨ad, A', c', e, _⟩ := at_LI (Kd.S_reads' hS).2.2 i h0 (by rw [rowsAt_length]; exact c6)
        exact ⟨ad, e⟩
      subst hA
      obtain ⟨g, hg⟩ := Kd.R_head (Kd.S_R hS)
      have hS' := hS
      rw [hg] at hS'
      obtain ⟨oki, c, hcl, hM, hcc, hoki, hH⟩ := Kd.S_lend hS' ([] : List Int) i h0 (by omega)
      have hM : Kd.M (Kd.slice 3 (Kd.int .i64)) wr w0.heap.size oki (rd_LI (rowsAt xs a i.toNat) i) c := hM
      have hrow : rd_LI (rowsAt xs a i.toNat) i = rd_LI xs i := by
        have := rowsAt_later xs a i.toNat i.toNat (Nat.le_refl _)
        rwa [Int.toNat_of_nonneg h0] at this
      rw [hrow] at hM
      obtain ⟨v, rfl, hR⟩ := hM
      have hx : wr.cell? (ad.add i.toNat) = some v := by
        rw [hg, add_at, Nat.zero_add]
        have this : wr.cell? ⟨g, i.toNat * 1 + 0, none⟩ = some v := hcc 0 v rfl
        rw [Nat.mul_one, Nat.add_zero] at this
        exact this
      have hl9 : (rd_LI xs i).length ≤ 1048576 := by
        have := few_row HF.out i.toNat
        rwa [Int.toNat_of_nonneg h0] at this
      have hkr := kAt_range HF.out a0 i.toNat
      have hk1 : kAt xs a (i + 1).toNat = kAt xs a i.toNat + ((rd_LI xs i).length : Int) := by
        rw [show (i + 1).toNat = i.toNat + 1 by omega]
        show _ + ((rd_LI xs (i.toNat : Int)).length : Int) = _
        rw [Int.toNat_of_nonneg h0]
      have hr1 : rowsAt xs a (i + 1).toNat = (rowsAt xs a i.toNat).set i.toNat (marks (rd_LI xs i).length (kAt xs a i.toNat)) := by
        rw [show (i + 1).toNat = i.toNat + 1 by omega]
        show List.set _ _ (marks (rd_LI xs (i.toNat : Int)).length _) = _
        rw [Int.toNat_of_nonneg h0]
      obtain ⟨km, hkm⟩ := (markIntS_ev (rd_LI xs i) (kAt xs a i.toNat) (by omega) hkr.1 (by have := HI.out; have := HF.out.1; omega)).rounds
      obtain ⟨A', c', ev⟩ := Kd.R_slice hR
      subst ev
      have HM := Aside0.mk (laws_markIntS.calls km oki _ (rd_LI xs i) (kAt xs a i.toNat) _ _ w0 wr HB.out hR hkm)
      have HH := Aside0.mk hH
      have HR := Aside0.mk hR
      have HOK := Aside0.mk hoki
      have HE := Aside0.mk hr1
      have HE2 := Aside0.mk hk1
      have HG := Aside0.mk hg
      obtain ⟨kk, hkk⟩ : ∃ kk, kAt xs a i.toNat = kk := ⟨_, rfl⟩
      obtain ⟨L, hL⟩ : ∃ L, rd_LI xs i = L := ⟨_, rfl⟩
      rw [hkk, hL] at HM HE HE2
      rw [hL] at HR HH hx
      rw [hkk]
      clear hM hcc hcl hoki hH hR hS hS' hrow hl9 hkr hk1 hr1 hkm hg hL hkk
      go_wp2_with (go_at_call 31; refine HM.out.mono ?_; rintro e w' ⟨rfl, ho', hb', hk'⟩; have HO' := Aside0.mk ho'; have HB' := Aside0.mk hb'; have HK' := Aside0.mk hk'; clear ho' hb' hk')
      go_roundg (1048576 - (i.toNat + 1))
      case measure => have := HK.out; have := HF.out.1; omega
      case rel =>
        refine ⟨i + 1, rfl, by rw [HE2.out], ⟨by omega⟩, ⟨by omega⟩, ⟨?_⟩, HB', ⟨?_⟩⟩
        · rw [HE.out]
          have h1 := Kd.H_step (w1 := w') HH.out (fun k hk hn hlt => HK'.out.2 k hlt hn)
          rw [HG.out]
          exact Kd.H_back h1 (okp := oki) ⟨_, rfl, Kd.R_reok rfl HO'.out (fun k hk => HR.out.1 k hk)⟩ (fun _ h => h)
        · exact Kept.then_ HKP.out HK'.out (fun k hs => .inl (HOK.out k hs).1)
    · have hi : i = xs.length := by have := HI.out; omega
      have hin : i.toNat = xs.length := by omega
      have HS2 := Aside0.mk (show Kd.S (Kd.slice 3 (Kd.int .i64)) 23 wr w0.heap.size ok (.slice A0 xs.length c0) (rowsAt xs a xs.length) from (show rowsAt xs a i.toNat = rowsAt xs a xs.length by rw [hin]) ▸ HS.out)
      have HKE := Aside0.mk (show kAt xs a i.toNat = kAt xs a xs.length by rw [hin])
      obtain ⟨kk, hkk⟩ : ∃ kk, kAt xs a i.toNat = kk := ⟨_, rfl⟩
      rw [hkk] at HKE ⊢
      clear hin hi hkk
      go_wp2
      go_ret
      exact ⟨by rw [← HKE.out]; rfl, HS2.out, HB.out, HKP.out⟩
theorem heldSS_loop {xs : List (List Int)} (hf : Few9 xs) {a : Int} (a0 : 0 ≤ a) (a1 : a ≤ 1) (d : Nat) : ∀ n : Nat, n + d = xs.length → Ev (fun k => laws_heldIntSS.l0 k (rowsAt xs a xs.length) (kAt xs a n) (n : Int)) (kAt xs a xs.length) := by
  have hl := rowsAt_length xs a xs.length
  induction d with
  | zero =>
    intro n hn
    refine Ev.step (fun k => by rw [laws_heldIntSS.l0]) ?_
    rw [show n = xs.length by omega]
    exact Ev.neg (by omega) (Ev.done rfl)
  | succ d ih =>
    intro n hn
    have hr := rowsAt_past xs a xs.length n (by omega) (by omega)
    have h9 := few_row hf n
    have hk := kAt_range hf a0 n
    have hx := hf.1
    refine Ev.step (fun k => by rw [laws_heldIntSS.l0]) ?_
    rw [w64 (x := (n : Int) + 1) (by omega) (by omega), hr]
    refine Ev.pos (by omega) (Ev.pos (by omega) (Ev.bind (heldIntS_ev _ _ (by omega) hk.1 (by omega)) (Ev.neg (by omega) ?_)))
    have := ih (n + 1) (by omega)
    rwa [show ((n + 1 : Nat) : Int) = (n : Int) + 1 by omega] at this
theorem heldSS_ev {xs : List (List Int)} (hf : Few9 xs) {a : Int} (a0 : 0 ≤ a) (a1 : a ≤ 1) : Ev (fun k => laws_heldIntSS.f k (rowsAt xs a xs.length) a) (kAt xs a xs.length) := by
  unfold laws_heldIntSS.f
  exact heldSS_loop hf a0 a1 xs.length 0 (by omega)
end Go.Proofs.Ytbfafjejmljcpaa.X

set_option linter.unusedVariables false
set_option linter.unusedSimpArgs false
namespace Go.Proofs.Ytbfafjejmljcpaa.X
open Go.RowKit Go.Proofs.YtbfafjejmljcpaaW.PrintWords Go.Proofs.YtbfafjejmljcpaaW.PrintLast Go.Proofs.Ytbfafjejmljcpaa.P

theorem rdL_cast (l : List (List Int)) (i : Nat) (h : i < l.length) : rd_LI l (i : Int) = l[i] := by
  unfold rd_LI
  rw [List.getD_eq_getElem?_getD]
  simp [h]
theorem rdL_int {l : List (List Int)} {i : Int} (h0 : 0 ≤ i) (h1 : i < l.length) : rd_LI l i = l[i.toNat]'(by omega) := by
  rw [← rdL_cast l i.toNat (by omega), Int.toNat_of_nonneg h0]
theorem rdL_mem {l : List (List Int)} {i : Int} (h0 : 0 ≤ i) (h1 : i < l.length) : rd_LI l i ∈ l := by
  rw [rdL_int h0 h1]; exact List.getElem_mem _
theorem ext_rdL {a b : List (List Int)} (hl : a.length = b.length) (h : ∀ i : Nat, i < a.length → rd_LI a (i : Int) = rd_LI b (i : Int)) : a = b := by
  apply List.ext_getElem hl
  intro i h1 h2
  rw [← rdL_cast a i h1, ← rdL_cast b i h2]
  exact h i h1
end Go.Proofs.Ytbfafjejmljcpaa.X

namespace Go.Proofs.Ytbfafjejmljcpaa.P
open Go.RowKit Go.Proofs.YtbfafjejmljcpaaW.PrintWords Go.Proofs.YtbfafjejmljcpaaW.PrintLast
set_option linter.unusedVariables false
set_option linter.unusedSimpArgs false

def laws_toIntSS.l0 : Nat → List (List Int) → List (List Int) → Int → Option ((List (List Int)))
 | 0, _, _, _ => none
 | k + 1, x0, x3, x4 => if x4 < (x0.length : Int) then (if 0 ≤ x4 then ((laws_toIntS.f k (rd_LI x0 x4)).bind fun t931 => (if x4 < (x3.length : Int) then (laws_toIntSS.l0 k x0 (x3.set (x4 : Int).toNat t931) (wrap64 (x4 + 1))) else (none))) else (none)) else (some x3)
def laws_toIntSS.f (k : Nat) (l0 : List (List Int)) : Option ((List (List Int))) := if 0 ≤ (l0.length : Int) then (if ((l0.length : Int) : Int).toNat ≤ 11728124029610 then (laws_toIntSS.l0 k l0 (List.replicate ((l0.length : Int) : Int).toNat []) 0) else (none)) else (none)
set_option maxHeartbeats 8000000 in
set_option maxRecDepth 100000 in
theorem laws_toIntSS.calls (k : Nat) (A0 : Option Addr) (c0 : Nat) (l0 : List (List Int)) (r : List (List Int)) (w : World) (hr0 : Kd.C (Kd.slice 3 (Kd.int .i64)) w A0 l0.length l0) (hc0 : l0.length ≤ c0) (h : laws_toIntSS.f k l0 = some r) :
  Calls Try.prog 40 #[.slice A0 l0.length c0] w fun e w' => ∃ v0_ : Value, e = .returned (v0_) ∧ Kd.S (Kd.slice 3 (Kd.int .i64)) 23 w' w.heap.size (fun _ => True) v0_ r ∧ Below w.heap.size w w' := by
 have HR0 := Aside0.mk hr0
 have HC0 := Aside0.mk hc0
 clear hr0 hc0
 have HB := Aside0.mk (Below.refl w.heap.size w)
 have H : (if 0 ≤ (l0.length : Int) then (if ((l0.length : Int) : Int).toNat ≤ 11728124029610 then (laws_toIntSS.l0 k l0 (List.replicate ((l0.length : Int) : Int).toNat []) 0) else (none)) else (none)) = some r := h
 clear h
 by_cases c2 : 0 ≤ (l0.length : Int)
 ·rw [if_pos c2] at H
  have c2b0 := eq_true c2
  have c2b1 : decide (0 ≤ (l0.length : Int)) = true := decide_eq_true c2
  clear c2
  by_cases c3 : ((l0.length : Int) : Int).toNat ≤ 11728124029610
  ·rw [if_pos c3] at H
   have c3b0 := eq_true c3
   have c3b1 : decide (((l0.length : Int) : Int).toNat ≤ 11728124029610) = true := decide_eq_true c3
   clear c3
   obtain ⟨y927, hy927⟩ : ∃ y_ : List (List Int), y_ = (List.replicate ((l0.length : Int) : Int).toNat []) := ⟨_, rfl⟩
   replace H : (laws_toIntSS.l0 k l0 y927 0) = some r := by first | (rw [hy927]; with_reducible exact H) | (have H2_ := (Option.bind_some _ _).symm.trans H; rw [hy927]; with_reducible exact H2_) | (have H2_ := (Option.bind_some _ _).symm.trans H; with_reducible exact H2_) | with_reducible exact H | (rw [hy927]; exact H) | exact H
   have Ny927 := Aside0.mk hy927
   clear hy927
   have H' := Aside0.mk H
   clear H
   go_enter Try.func40, Try.ntmps40
   go_wp2_with (first | ((with_reducible refine gate_dst (N := 7) rfl ?_); refine Kd.S_make (Kd.slice 3 (Kd.int .i64)) _ 23 rfl (N := 7) rfl 32 _ _ rfl (l0.length : Int) rfl rfl Try.underlying32 (.slice none 0 0) 24 info23 rfl (by decide) (by omega) [] (ok := fun _ => True) (okp := fun _ => True) ⟨_, rfl, Kd.R_nil _ _ _ _ _⟩ (fun _ hk => hk) trivial (dd_) (Nat.le_trans (Nat.mul_le_mul_right _ (dd_ : (l0.length : Int).toNat ≤ 11728124029610)) (by omega)) (Below.refl _ _) (Nat.le_refl _) ?_; intro v928 w4 ho5 hb hg_ hnew_; clear hg_ hnew_; (first | rw [← Ny927.out] at ho5 | (simp only [Int.reduceToNat] at ho5; rw [← Ny927.out] at ho5)); have n0_ := Aside0.mk (Kd.S_lower ho5 (below_size (bb_ HB))); have n1_ := Aside0.mk (below_step (bb_ HB) hb); clear HB; have HO929 := n0_; have HB := n1_; clear n0_ n1_; clear hb ho5))
   go_loopg [4] k (fun kq v4 w' => ∃ (x3_1 : List (List Int)) (x4_1 : Int), v4 = .int .i64 x4_1 ∧ Aside0 (laws_toIntSS.l0 kq l0 x3_1 x4_1 = some r) ∧ Aside0 (kq ≤ k) ∧ Aside0 (Kd.S (Kd.slice 3 (Kd.int .i64)) 23 w' w.heap.size (fun _ => True) v928 x3_1) ∧ Aside0 (Below w.heap.size w w'))
   case atStart => exact ⟨(y927), (0), (by first | rfl | (simp; done) | (simp [*]; done)), H', ⟨Nat.le_refl _⟩, ⟨by (with_reducible repeat (first | apply Kd.S_alloc | apply Kd.S_drewN | apply Kd.S_drew)); exact HO929.out⟩, ⟨by repeat (first | (with_reducible first | exact HB.out | apply below_alloc | apply pw_below_drewN | apply below_drew1) | exact HB.out)⟩⟩
   case round =>
    clear H'
    try clear c2
    try clear c2b0
    try clear c2b1
    try clear p2
    try clear c3
    try clear c3b0
    try clear c3b1
    try clear c4
    obtain ⟨x3_1, x4_1, rfl, HA, HK1, HO_3, HB⟩ := hrel
    cases gk with
    | zero => exact absurd HA.out (by simp [laws_toIntSS.l0])
    | succ k1 =>
     have H := HA.out
     clear HA
     simp only [laws_toIntSS.l0] at H
     by_cases c6 : x4_1 < (l0.length : Int)
     ·rw [if_pos c6] at H
      have c6b0 : decide (x4_1 < (l0.length : Int)) = true := decide_eq_true c6
      clear c6
      by_cases c7 : 0 ≤ x4_1
      ·rw [if_pos c7] at H
       have c7b0 : decide (0 ≤ x4_1) = true := decide_eq_true c7
       clear c7
       replace H := Option.bind_eq_some_iff.mp H
       obtain ⟨t931, A80, H⟩ := H
       replace H : (if x4_1 < (x3_1.length : Int) then (laws_toIntSS.l0 k1 l0 (x3_1.set (x4_1 : Int).toNat t931) (wrap64 (x4_1 + 1))) else (none)) = some r := H
       have A8 := Aside0.mk A80
       clear A80
       by_cases c9 : x4_1 < (x3_1.length : Int)
       ·rw [if_pos c9] at H
        have c9b0 : decide (x4_1 < (x3_1.length : Int)) = true := decide_eq_true c9
        clear c9
        obtain ⟨y934, hy934⟩ : ∃ y_ : List (List Int), y_ = (x3_1.set (x4_1 : Int).toNat t931) := ⟨_, rfl⟩
        replace H : (laws_toIntSS.l0 k1 l0 y934 (wrap64 (x4_1 + 1))) = some r := by first | (rw [hy934]; with_reducible exact H) | (have H2_ := (Option.bind_some _ _).symm.trans H; rw [hy934]; with_reducible exact H2_) | (have H2_ := (Option.bind_some _ _).symm.trans H; with_reducible exact H2_) | with_reducible exact H | (rw [hy934]; exact H) | exact H
        have Ny934 := Aside0.mk hy934
        clear hy934
        have H' := Aside0.mk H
        clear H
        have p930 : 0 ≤ (x4_1 : Int) := dd_
        have q930 : x4_1 < (l0.length : Int) := dd_
        obtain ⟨ad930, A930_0, c930_0, e930, hx930_0, hl930_0, hi930_0⟩ := at_LI HR0.out x4_1 p930 q930
        cases e930
        replace hx930_0 := hc_ HB hx930_0
        have HR930_0 := Aside0.mk hi930_0
        have HC930_0 := Aside0.mk hl930_0
        clear hi930_0 hl930_0
        replace p930 := eq_true p930
        replace q930 := eq_true q930
        go_wp2_with (first | (refine goesL_ (some 20) rfl rfl Try.func27 (by kernel_rfl) rfl #[.slice A930_0 (rd_LI l0 x4_1).length c930_0] rfl ll_ ?_; (with_reducible refine (laws_toIntS.calls k1 _ _ (rd_LI l0 x4_1) t931 _ ?side1 ?side2 A8.out).mono ?_); (case side1 => exact sb_ HR930_0 HB); (case side2 => exact HC930_0.out); rintro e w11 ⟨v932, rfl, ho0, hb⟩; refine ⟨_, rfl, ?_⟩; have n0_ := Aside0.mk (Kd.S_elder' (by (with_reducible repeat (first | apply Kd.S_alloc | apply Kd.S_drewN | apply Kd.S_drew)); exact HO_3.out) (Kd.R_base ho0) hb); have n1_ := Aside0.mk (Kd.R_lower ho0 (below_size (bb_ HB))); have n2_ := Aside0.mk (below_step (bb_ HB) hb); clear HO_3; clear HB; have HO_3 := n0_; have HO933 := n1_; have HB := n2_; clear n0_ n1_ n2_; (try clear hb); (try clear hb2); (try clear hk); (try clear hi); (try clear ho0); have p10 : 0 ≤ (x4_1 : Int) := dd_; have q10 : (x4_1 : Int) < ((x3_1.length : Int) : Int) := dd_; obtain ⟨go10, co10, eo10, gb10, gl10, cl10, HG10⟩ := Kd.S_form HO_3.out (by omega); (first | cases eo10 | (injection eo10 with ea_ en_ ec_; (first | subst ea_ | (injection ea_ with ea_; subst ea_)); subst ec_; clear en_)); have GB10 := Aside0.mk gb10; have GG10 := Aside0.mk HG10; clear gb10 gl10 HG10; obtain ⟨_, ce10, hcl10, hM10, hcc10, hfr10, _, _⟩ := Kd.S_elem HO_3.out [] (x4_1 : Int) p10 q10; obtain ⟨ve10_0, rfl, ge10_0⟩ := hM10; have hx10_0 := hcc10 0 _ rfl; have hf10_0 := hfr10 0; (try simp only [show ((Kd.slice 3 (Kd.int .i64))).sz = 1 from rfl, Nat.mul_one, Nat.add_zero] at hx10_0); (try simp only [show ((Kd.slice 3 (Kd.int .i64))).sz = 1 from rfl, Nat.mul_one, Nat.add_zero] at hf10_0); (try clear hM10); clear hcl10 hcc10 hfr10; replace p10 := eq_true p10; replace q10 := eq_true q10; have n_ := Aside0.mk (Kd.S_mono (ok' := (fun k_ => some k_ ≠ (v932 : Value).ownBlock)) HO_3.out (fun k_ hk => hk.2)); clear HO_3; have HO_3 := n_; clear n_; have HX12 := Aside0.mk (show Kd.S (Kd.slice 3 (Kd.int .i64)) 23 w11 w.heap.size (fun k_ => ((fun _ => True)) k_ ∧ ¬ ((fun k_ => some k_ = (v932 : Value).ownBlock)) k_) (.slice (some ⟨go10, 0, none⟩) x3_1.length co10) x3_1 from (by (with_reducible repeat (first | apply Kd.S_alloc | apply Kd.S_drewN | apply Kd.S_drew)); exact Kd.S_mono HO_3.out (fun k_ hk => ⟨trivial, fun e_ => hk e_⟩))); obtain ⟨oki12, ce12, hcl12, hM12, hcc12, hfr12, hoki12, hH12⟩ := Kd.S_elem HX12.out [] (x4_1 : Int) (dd_) (by have h_ : (x4_1 : Int) < ((x3_1.length : Int) : Int) := dd_; first | exact h_ | (have e_ := (Kd.S_reads' HO_3.out).1; omega) | simpa using h_); obtain ⟨ve12_0, rfl, ge12_0⟩ := hM12; have HP12 := Kd.S_seg hH12 (dd_) (by have h_ : (x4_1 : Int) < ((x3_1.length : Int) : Int) := dd_; first | exact h_ | (have e_ := (Kd.S_reads' HO_3.out).1; omega) | simpa using h_) (seg := [v932]) (j := 0) (show 1 ≤ 1 from by decide) (x' := t931) (Kd.M_row (Kd.R_mono (Kd.R_tight rfl (Kd.R_mono (ok' := fun k_ => ((fun _ => True)) k_ ∧ k_ ≠ go10) (Kd.R_apart' (HO933.out) (Kd.S_typed HO_3.out) (by decide)) (fun k_ hk => ⟨trivial, fun e_ => (hk.2) (by rw [e_]; rfl)⟩))) (fun _ h_ => Or.inr (h_)))) (fun _ hk => hk) (fun k_ hk_ => ((Kd.R_mono (ok' := fun k_ => ((fun _ => True)) k_ ∧ k_ ≠ go10) (Kd.R_apart' (HO933.out) (Kd.S_typed HO_3.out) (by decide)) (fun k_ hk => ⟨trivial, fun e_ => (hk.2) (by rw [e_]; rfl)⟩))).1 k_ hk_.symm); have hx12_0 := hcc12 0 _ rfl; (try simp only [show ((Kd.slice 3 (Kd.int .i64))).sz = 1 from rfl, Nat.mul_one, Nat.add_zero] at hx12_0); have hf12_0 := hfr12 0; (try simp only [show ((Kd.slice 3 (Kd.int .i64))).sz = 1 from rfl, Nat.mul_one, Nat.add_zero] at hf12_0); (try clear hM12); clear hcl12 hcc12 hfr12 hoki12 hH12; (try simp only [show ((Kd.slice 3 (Kd.int .i64))).sz = 1 from rfl, Nat.mul_one, Nat.add_zero] at HP12)) | ((with_reducible refine gate_store (t := 23) (p := 21) rfl ?_); refine store_event (t := 23) (p := 21) (v := ?vo_w13) (w1 := (w11.setCell ⟨go10, (x4_1 : Int).toNat, none⟩ (v932))) ?hg ?ho ?hn ?hr ?_; (case ho => rfl); (case hg => rfl); (case hn => rfl); (case hr => first | (go_simp; done) | (go_simp; rfl) | (obtain ⟨a_, c_, e_⟩ := Kd.R_slice HO933.out; rw [e_]; first | (go_simp; done) | (go_simp; rfl)) | (obtain ⟨a_, c_, e_⟩ := Kd.N_slice HO933.out; rw [e_]; first | (go_simp; done) | (go_simp; rfl))); intro w13 hw; have hg : w11.grownBy w13 (some go10) := (by rw [hw]; exact HP12.2); have hp_ : Kd.S (Kd.slice 3 (Kd.int .i64)) 23 w13 w.heap.size (fun _ => True) (.slice (some ⟨go10, 0, none⟩) x3_1.length co10) y934 := (by rw [hw, Ny934.out]; exact HP12.1); clear HP12; have n0_ := Aside0.mk (hp_); have n1_ := Aside0.mk ((by rw [hw]; exact below_set (HB.out) GB10.out : Below w.heap.size w w13)); clear HO_3; clear HB; clear HO933; have HO_3 := n0_; have HB := n1_; clear n0_ n1_; clear hg hw hp_))
        go_roundg k1
        case measure => have := HK1.out; omega
        case rel => exact ⟨(y934), (wrap64 (x4_1 + 1)), (by first | rfl | (simp; done) | (simp [*]; done)), H', ⟨by have := HK1.out; omega⟩, ⟨by (with_reducible repeat (first | apply Kd.S_alloc | apply Kd.S_drewN | apply Kd.S_drew)); exact HO_3.out⟩, ⟨by repeat (first | (with_reducible first | exact HB.out | apply below_alloc | apply pw_below_drewN | apply below_drew1) | exact HB.out)⟩⟩
       ·rw [if_neg c9] at H
        exact absurd H (by simp)
      ·rw [if_neg c7] at H
       exact absurd H (by simp)
     ·rw [if_neg c6] at H
      have c6b0 : decide (x4_1 < (l0.length : Int)) = false := decide_eq_false c6
      clear c6
      obtain rfl := Option.some.inj H
      go_wp2
      go_ret
      exact ⟨_, ee_, by (with_reducible repeat (first | apply Kd.S_alloc | apply Kd.S_drewN | apply Kd.S_drew)); exact HO_3.out, bb_ HB⟩
  ·rw [if_neg c3] at H
   exact absurd H (by simp)
 ·rw [if_neg c2] at H
  exact absurd H (by simp)
end Go.Proofs.Ytbfafjejmljcpaa.P

namespace Go.Proofs.Ytbfafjejmljcpaa.P
open Go.RowKit Go.Proofs.YtbfafjejmljcpaaW.PrintWords Go.Proofs.YtbfafjejmljcpaaW.PrintLast
set_option linter.unusedVariables false
set_option linter.unusedSimpArgs false

def laws_eqIntSS.l0 : Nat → List (List Int) → List (List Int) → Int → Option (Bool)
 | 0, _, _, _ => none
 | k + 1, x0, x1, x5 => if x5 < (x0.length : Int) then (if 0 ≤ x5 then (if x5 < (x1.length : Int) then ((laws_eqIntS.f k (rd_LI x0 x5) (rd_LI x1 x5)).bind fun t847 => (if t847 = true then (laws_eqIntSS.l0 k x0 x1 (wrap64 (x5 + 1))) else (some false))) else (none)) else (none)) else (some true)
def laws_eqIntSS.f (k : Nat) (l0 : List (List Int)) (l1 : List (List Int)) : Option (Bool) := if (l0.length : Int) = (l1.length : Int) then (laws_eqIntSS.l0 k l0 l1 0) else (some false)
set_option maxHeartbeats 8000000 in
set_option maxRecDepth 100000 in
theorem laws_eqIntSS.calls (k : Nat) (A0 : Option Addr) (c0 : Nat) (l0 : List (List Int)) (A1 : Option Addr) (c1 : Nat) (l1 : List (List Int)) (r : Bool) (w : World) (hr0 : Kd.C (Kd.slice 3 (Kd.int .i64)) w A0 l0.length l0) (hc0 : l0.length ≤ c0) (hr1 : Kd.C (Kd.slice 3 (Kd.int .i64)) w A1 l1.length l1) (hc1 : l1.length ≤ c1) (h : laws_eqIntSS.f k l0 l1 = some r) :
  Calls Try.prog 29 #[.slice A0 l0.length c0, .slice A1 l1.length c1] w fun e w' => e = .returned (.bool r) ∧ Drawn0 w w' := by
 have HR0 := Aside0.mk hr0
 have HC0 := Aside0.mk hc0
 clear hr0 hc0
 have HR1 := Aside0.mk hr1
 have HC1 := Aside0.mk hc1
 clear hr1 hc1
 have H : (if (l0.length : Int) = (l1.length : Int) then (laws_eqIntSS.l0 k l0 l1 0) else (some false)) = some r := h
 clear h
 by_cases c3 : (l0.length : Int) = (l1.length : Int)
 ·rw [if_pos c3] at H
  have c3b0 : ((l0.length : Int) == (l1.length : Int)) = true := beq_iff_eq.mpr c3
  have c3b1 : ((l0.length : Int) != (l1.length : Int)) = false := bne_eq_false_iff_eq.mpr c3
  have c3b2 : (l0.length == l1.length) = true := by first | simpa using c3 | (simp at c3 ⊢; omega)
  clear c3
  have H' := Aside0.mk H
  clear H
  go_enter Try.func29, Try.ntmps29
  go_wp2
  repeat (go_quiet (fail); try go_wp2)
  go_loopg [5] k (fun kq v5 w' => ∃ (x5_1 : Int), v5 = .int .i64 x5_1 ∧ Aside0 (laws_eqIntSS.l0 kq l0 l1 x5_1 = some r) ∧ Aside0 (kq ≤ k) ∧ Drawn0 w w')
  case atStart => exact ⟨(0), (by first | rfl | (simp; done) | (simp [*]; done)), H', ⟨Nat.le_refl _⟩, by repeat (first | exact Drawn0.refl _ | apply Drawn0.step)⟩
  case round =>
   clear H'
   try clear c1
   try clear c2
   try clear p2
   try clear c3
   try clear c3b0
   try clear c3b1
   try clear c3b2
   obtain ⟨x5_1, rfl, HA, HK1, ⟨m1, rfl⟩⟩ := hrel
   cases gk with
   | zero => exact absurd HA.out (by simp [laws_eqIntSS.l0])
   | succ k1 =>
    have H := HA.out
    clear HA
    simp only [laws_eqIntSS.l0] at H
    by_cases c4 : x5_1 < (l0.length : Int)
    ·rw [if_pos c4] at H
     have c4b0 : decide (x5_1 < (l0.length : Int)) = true := decide_eq_true c4
     clear c4
     by_cases c5 : 0 ≤ x5_1
     ·rw [if_pos c5] at H
      have c5b0 : decide (0 ≤ x5_1) = true := decide_eq_true c5
      clear c5
      by_cases c6 : x5_1 < (l1.length : Int)
      ·rw [if_pos c6] at H
       have c6b0 : decide (x5_1 < (l1.length : Int)) = true := decide_eq_true c6
       clear c6
       replace H := Option.bind_eq_some_iff.mp H
       obtain ⟨t847, A70, H⟩ := H
       replace H : (if t847 = true then (laws_eqIntSS.l0 k1 l0 l1 (wrap64 (x5_1 + 1))) else (some false)) = some r := H
       have A7 := Aside0.mk A70
       clear A70
       by_cases c8 : t847 = true
       ·subst c8
        have H1 : (laws_eqIntSS.l0 k1 l0 l1 (wrap64 (x5_1 + 1))) = some r := by rw [if_pos rfl] at H; exact H
        clear H
        have H := H1
        clear H1
        have H' := Aside0.mk H
        clear H
        have p845 : 0 ≤ (x5_1 : Int) := dd_
        have q845 : x5_1 < (l0.length : Int) := dd_
        obtain ⟨ad845, A845_0, c845_0, e845, hx845_0, hl845_0, hi845_0⟩ := at_LI HR0.out x5_1 p845 q845
        cases e845
        have HR845_0 := Aside0.mk hi845_0
        have HC845_0 := Aside0.mk hl845_0
        clear hi845_0 hl845_0
        replace p845 := eq_true p845
        replace q845 := eq_true q845
        have p846 : 0 ≤ (x5_1 : Int) := dd_
        have q846 : x5_1 < (l1.length : Int) := dd_
        obtain ⟨ad846, A846_0, c846_0, e846, hx846_0, hl846_0, hi846_0⟩ := at_LI HR1.out x5_1 p846 q846
        cases e846
        have HR846_0 := Aside0.mk hi846_0
        have HC846_0 := Aside0.mk hl846_0
        clear hi846_0 hl846_0
        replace p846 := eq_true p846
        replace q846 := eq_true q846
        go_wp2_with (first | (go_at_call 30; (with_reducible refine (laws_eqIntS.calls k1 _ _ (rd_LI l0 x5_1) _ _ (rd_LI l1 x5_1) true _ ?side1 ?side2 ?side3 ?side4 A7.out).mono ?_); (case side1 => exact ss_ HR845_0); (case side2 => exact HC845_0.out); (case side3 => exact ss_ HR846_0); (case side4 => exact HC846_0.out); rintro e w' ⟨rfl, ⟨nd, rfl⟩⟩; (try first | exact ⟨rfl, _, World.drewN_drewN _ _ _⟩ | exact ⟨rfl, _, Eq.trans (World.drewN_drewN _ _ _) (congrArg (World.drewN _) (Nat.add_assoc _ _ _))⟩)))
        repeat (go_quiet (first | (go_at_call 30; (with_reducible refine (laws_eqIntS.calls k1 _ _ (rd_LI l0 x5_1) _ _ (rd_LI l1 x5_1) true _ ?side1 ?side2 ?side3 ?side4 A7.out).mono ?_); (case side1 => exact ss_ HR845_0); (case side2 => exact HC845_0.out); (case side3 => exact ss_ HR846_0); (case side4 => exact HC846_0.out); rintro e w' ⟨rfl, ⟨nd, rfl⟩⟩; (try first | exact ⟨rfl, _, World.drewN_drewN _ _ _⟩ | exact ⟨rfl, _, Eq.trans (World.drewN_drewN _ _ _) (congrArg (World.drewN _) (Nat.add_assoc _ _ _))⟩))); try go_wp2_with (first | (go_at_call 30; (with_reducible refine (laws_eqIntS.calls k1 _ _ (rd_LI l0 x5_1) _ _ (rd_LI l1 x5_1) true _ ?side1 ?side2 ?side3 ?side4 A7.out).mono ?_); (case side1 => exact ss_ HR845_0); (case side2 => exact HC845_0.out); (case side3 => exact ss_ HR846_0); (case side4 => exact HC846_0.out); rintro e w' ⟨rfl, ⟨nd, rfl⟩⟩; (try first | exact ⟨rfl, _, World.drewN_drewN _ _ _⟩ | exact ⟨rfl, _, Eq.trans (World.drewN_drewN _ _ _) (congrArg (World.drewN _) (Nat.add_assoc _ _ _))⟩))))
        go_roundg k1
        case measure => have := HK1.out; omega
        case rel => exact ⟨(wrap64 (x5_1 + 1)), (by first | rfl | (simp; done) | (simp [*]; done)), H', ⟨by have := HK1.out; omega⟩, by repeat (first | exact Drawn0.refl _ | apply Drawn0.step)⟩
       ·replace c8 := Bool.eq_false_iff.mpr c8
        subst c8
        have H1 : (some false) = some r := by rw [if_neg (show ¬ (false = true) by decide)] at H; exact H
        clear H
        have H := H1
        clear H1
        obtain rfl := Option.some.inj H
        have p845 : 0 ≤ (x5_1 : Int) := dd_
        have q845 : x5_1 < (l0.length : Int) := dd_
        obtain ⟨ad845, A845_0, c845_0, e845, hx845_0, hl845_0, hi845_0⟩ := at_LI HR0.out x5_1 p845 q845
        cases e845
        have HR845_0 := Aside0.mk hi845_0
        have HC845_0 := Aside0.mk hl845_0
        clear hi845_0 hl845_0
        replace p845 := eq_true p845
        replace q845 := eq_true q845
        have p846 : 0 ≤ (x5_1 : Int) := dd_
        have q846 : x5_1 < (l1.length : Int) := dd_
        obtain ⟨ad846, A846_0, c846_0, e846, hx846_0, hl846_0, hi846_0⟩ := at_LI HR1.out x5_1 p846 q846
        cases e846
        have HR846_0 := Aside0.mk hi846_0
        have HC846_0 := Aside0.mk hl846_0
        clear hi846_0 hl846_0
        replace p846 := eq_true p846
        replace q846 := eq_true q846
        go_wp2_with (first | (go_at_call 30; (with_reducible refine (laws_eqIntS.calls k1 _ _ (rd_LI l0 x5_1) _ _ (rd_LI l1 x5_1) false _ ?side1 ?side2 ?side3 ?side4 A7.out).mono ?_); (case side1 => exact ss_ HR845_0); (case side2 => exact HC845_0.out); (case side3 => exact ss_ HR846_0); (case side4 => exact HC846_0.out); rintro e w' ⟨rfl, ⟨nd, rfl⟩⟩; (try first | exact ⟨rfl, _, World.drewN_drewN _ _ _⟩ | exact ⟨rfl, _, Eq.trans (World.drewN_drewN _ _ _) (congrArg (World.drewN _) (Nat.add_assoc _ _ _))⟩)))
        repeat (go_quiet (first | (go_at_call 30; (with_reducible refine (laws_eqIntS.calls k1 _ _ (rd_LI l0 x5_1) _ _ (rd_LI l1 x5_1) false _ ?side1 ?side2 ?side3 ?side4 A7.out).mono ?_); (case side1 => exact ss_ HR845_0); (case side2 => exact HC845_0.out); (case side3 => exact ss_ HR846_0); (case side4 => exact HC846_0.out); rintro e w' ⟨rfl, ⟨nd, rfl⟩⟩; (try first | exact ⟨rfl, _, World.drewN_drewN _ _ _⟩ | exact ⟨rfl, _, Eq.trans (World.drewN_drewN _ _ _) (congrArg (World.drewN _) (Nat.add_assoc _ _ _))⟩))); try go_wp2_with (first | (go_at_call 30; (with_reducible refine (laws_eqIntS.calls k1 _ _ (rd_LI l0 x5_1) _ _ (rd_LI l1 x5_1) false _ ?side1 ?side2 ?side3 ?side4 A7.out).mono ?_); (case side1 => exact ss_ HR845_0); (case side2 => exact HC845_0.out); (case side3 => exact ss_ HR846_0); (case side4 => exact HC846_0.out); rintro e w' ⟨rfl, ⟨nd, rfl⟩⟩; (try first | exact ⟨rfl, _, World.drewN_drewN _ _ _⟩ | exact ⟨rfl, _, Eq.trans (World.drewN_drewN _ _ _) (congrArg (World.drewN _) (Nat.add_assoc _ _ _))⟩))))
        go_ret
        exact ⟨by first | rfl | (simp; done) | (simp [*]; done), by repeat (first | exact Drawn0.refl _ | apply Drawn0.step)⟩
      ·rw [if_neg c6] at H
       exact absurd H (by simp)
     ·rw [if_neg c5] at H
      exact absurd H (by simp)
    ·rw [if_neg c4] at H
     have c4b0 : decide (x5_1 < (l0.length : Int)) = false := decide_eq_false c4
     clear c4
     obtain rfl := Option.some.inj H
     go_wp2
     repeat (go_quiet (fail); try go_wp2)
     go_ret
     exact ⟨by first | rfl | (simp; done) | (simp [*]; done), by repeat (first | exact Drawn0.refl _ | apply Drawn0.step)⟩
 ·rw [if_neg c3] at H
  have c3b0 : ((l0.length : Int) == (l1.length : Int)) = false := beq_eq_false_iff_ne.mpr c3
  have c3b1 : ((l0.length : Int) != (l1.length : Int)) = true := bne_iff_ne.mpr c3
  have c3b2 : (l0.length == l1.length) = false := by first | simpa using c3 | (simp at c3 ⊢; omega)
  obtain rfl := Option.some.inj H
  go_enter Try.func29, Try.ntmps29
  go_wp2
  repeat (go_quiet (fail); try go_wp2)
  go_ret
  exact ⟨by first | rfl | (simp; done) | (simp [*]; done), by repeat (first | exact Drawn0.refl _ | apply Drawn0.step)⟩
end Go.Proofs.Ytbfafjejmljcpaa.P

namespace Go.Proofs.Ytbfafjejmljcpaa.P
open Go.RowKit Go.Proofs.YtbfafjejmljcpaaW.PrintWords Go.Proofs.YtbfafjejmljcpaaW.PrintLast
set_option linter.unusedVariables false
set_option linter.unusedSimpArgs false

def laws_szIntS.f (l0 : List Int) (a1 : Int) : Option (Int) := if (wrap64 (a1 - (l0.length : Int))) < 0 then (some (-1)) else (some (wrap64 (a1 - (l0.length : Int))))
set_option maxHeartbeats 8000000 in
set_option maxRecDepth 100000 in
theorem laws_szIntS.calls (A0 : Option Addr) (c0 : Nat) (l0 : List Int) (a1 : Int) (r : Int) (w : World) (hr0 : Kd.C (Kd.int .i64) w A0 l0.length l0) (hc0 : l0.length ≤ c0) (h : laws_szIntS.f l0 a1 = some r) :
  Calls Try.prog 73 #[.slice A0 l0.length c0, .int .i64 a1] w fun e w' => e = .returned (.int .i64 r) ∧ Drawn0 w w' := by
 have HR0 := Aside0.mk hr0
 have HC0 := Aside0.mk hc0
 clear hr0 hc0
 have H : (if (wrap64 (a1 - (l0.length : Int))) < 0 then (some (-1)) else (some (wrap64 (a1 - (l0.length : Int))))) = some r := h
 clear h
 by_cases c3 : (wrap64 (a1 - (l0.length : Int))) < 0
 ·rw [if_pos c3] at H
  have c3b0 : decide ((wrap64 (a1 - (l0.length : Int))) < 0) = true := decide_eq_true c3
  clear c3
  obtain rfl := Option.some.inj H
  go_enter Try.func73, Try.ntmps73
  go_wp2
  go_ret
  exact ⟨by first | rfl | (simp; done) | (simp [*]; done), by repeat (first | exact Drawn0.refl _ | apply Drawn0.step)⟩
 ·rw [if_neg c3] at H
  have c3b0 : decide ((wrap64 (a1 - (l0.length : Int))) < 0) = false := decide_eq_false c3
  clear c3
  obtain rfl := Option.some.inj H
  go_enter Try.func73, Try.ntmps73
  go_wp2
  go_ret
  exact ⟨by first | rfl | (simp; done) | (simp [*]; done), by repeat (first | exact Drawn0.refl _ | apply Drawn0.step)⟩
end Go.Proofs.Ytbfafjejmljcpaa.P

namespace Go.Proofs.Ytbfafjejmljcpaa.P
open Go.RowKit Go.Proofs.YtbfafjejmljcpaaW.PrintWords Go.Proofs.YtbfafjejmljcpaaW.PrintLast
set_option linter.unusedVariables false
set_option linter.unusedSimpArgs false

def laws_szIntSS.l0 : Nat → List (List Int) → Int → Int → Option (Int)
 | 0, _, _, _ => none
 | k + 1, x0, x1, x5 => if x5 < (x0.length : Int) then (if 0 ≤ x5 then ((laws_szIntS.f (rd_LI x0 x5) x1).bind fun t926 => (if t926 < 0 then (some (-1)) else (laws_szIntSS.l0 k x0 t926 (wrap64 (x5 + 1))))) else (none)) else (some x1)
def laws_szIntSS.f (k : Nat) (l0 : List (List Int)) (a1 : Int) : Option (Int) := if (wrap64 (a1 - (l0.length : Int))) < 0 then (some (-1)) else (laws_szIntSS.l0 k l0 (wrap64 (a1 - (l0.length : Int))) 0)
set_option maxHeartbeats 8000000 in
set_option maxRecDepth 100000 in
theorem laws_szIntSS.calls (k : Nat) (A0 : Option Addr) (c0 : Nat) (l0 : List (List Int)) (a1 : Int) (r : Int) (w : World) (hr0 : Kd.C (Kd.slice 3 (Kd.int .i64)) w A0 l0.length l0) (hc0 : l0.length ≤ c0) (h : laws_szIntSS.f k l0 a1 = some r) :
  Calls Try.prog 38 #[.slice A0 l0.length c0, .int .i64 a1] w fun e w' => e = .returned (.int .i64 r) ∧ Drawn0 w w' := by
 have HR0 := Aside0.mk hr0
 have HC0 := Aside0.mk hc0
 clear hr0 hc0
 have H : (if (wrap64 (a1 - (l0.length : Int))) < 0 then (some (-1)) else (laws_szIntSS.l0 k l0 (wrap64 (a1 - (l0.length : Int))) 0)) = some r := h
 clear h
 by_cases c3 : (wrap64 (a1 - (l0.length : Int))) < 0
 ·rw [if_pos c3] at H
  have c3b0 : decide ((wrap64 (a1 - (l0.length : Int))) < 0) = true := decide_eq_true c3
  clear c3
  obtain rfl := Option.some.inj H
  go_enter Try.func38, Try.ntmps38
  go_wp2
  go_ret
  exact ⟨by first | rfl | (simp; done) | (simp [*]; done), by repeat (first | exact Drawn0.refl _ | apply Drawn0.step)⟩
 ·rw [if_neg c3] at H
  have c3b0 : decide ((wrap64 (a1 - (l0.length : Int))) < 0) = false := decide_eq_false c3
  clear c3
  have H' := Aside0.mk H
  clear H
  go_enter Try.func38, Try.ntmps38
  go_wp2
  go_loopg [1, 5] k (fun kq v1 v5 w' => ∃ (x1_1 : Int) (x5_1 : Int), v1 = .int .i64 x1_1 ∧ v5 = .int .i64 x5_1 ∧ Aside0 (laws_szIntSS.l0 kq l0 x1_1 x5_1 = some r) ∧ Aside0 (kq ≤ k) ∧ Drawn0 w w')
  case atStart => exact ⟨(wrap64 (a1 - (l0.length : Int))), (0), (by first | rfl | (simp; done) | (simp [*]; done)), (by first | rfl | (simp; done) | (simp [*]; done)), H', ⟨Nat.le_refl _⟩, by repeat (first | exact Drawn0.refl _ | apply Drawn0.step)⟩
  case round =>
   clear H'
   try clear p2
   try clear c3
   try clear c3b0
   obtain ⟨x1_1, x5_1, rfl, rfl, HA, HK1, ⟨m1, rfl⟩⟩ := hrel
   cases gk with
   | zero => exact absurd HA.out (by simp [laws_szIntSS.l0])
   | succ k1 =>
    have H := HA.out
    clear HA
    simp only [laws_szIntSS.l0] at H
    by_cases c4 : x5_1 < (l0.length : Int)
    ·rw [if_pos c4] at H
     have c4b0 : decide (x5_1 < (l0.length : Int)) = true := decide_eq_true c4
     clear c4
     by_cases c5 : 0 ≤ x5_1
     ·rw [if_pos c5] at H
      have c5b0 : decide (0 ≤ x5_1) = true := decide_eq_true c5
      clear c5
      replace H := Option.bind_eq_some_iff.mp H
      obtain ⟨t926, A60, H⟩ := H
      replace H : (if t926 < 0 then (some (-1)) else (laws_szIntSS.l0 k1 l0 t926 (wrap64 (x5_1 + 1)))) = some r := H
      have A6 := Aside0.mk A60
      clear A60
      by_cases c7 : t926 < 0
      ·rw [if_pos c7] at H
       have c7b0 : decide (t926 < 0) = true := decide_eq_true c7
       clear c7
       obtain rfl := Option.some.inj H
       have p925 : 0 ≤ (x5_1 : Int) := dd_
       have q925 : x5_1 < (l0.length : Int) := dd_
       obtain ⟨ad925, A925_0, c925_0, e925, hx925_0, hl925_0, hi925_0⟩ := at_LI HR0.out x5_1 p925 q925
       cases e925
       have HR925_0 := Aside0.mk hi925_0
       have HC925_0 := Aside0.mk hl925_0
       clear hi925_0 hl925_0
       replace p925 := eq_true p925
       replace q925 := eq_true q925
       go_wp2_with (first | (refine goesL_ (some 23) rfl rfl Try.func73 (by kernel_rfl) rfl #[.slice A925_0 (rd_LI l0 x5_1).length c925_0, .int .i64 x1_1] rfl ll_ ?_; (with_reducible refine (laws_szIntS.calls _ _ (rd_LI l0 x5_1) x1_1 t926 _ ?side1 ?side2 A6.out).mono ?_); (case side1 => exact ss_ HR925_0); (case side2 => exact HC925_0.out); rintro e w' ⟨rfl, ⟨nd, rfl⟩⟩; refine ⟨_, rfl, ?_⟩))
       go_ret
       exact ⟨by first | rfl | (simp; done) | (simp [*]; done), by repeat (first | exact Drawn0.refl _ | apply Drawn0.step)⟩
      ·rw [if_neg c7] at H
       have c7b0 : decide (t926 < 0) = false := decide_eq_false c7
       clear c7
       have H' := Aside0.mk H
       clear H
       have p925 : 0 ≤ (x5_1 : Int) := dd_
       have q925 : x5_1 < (l0.length : Int) := dd_
       obtain ⟨ad925, A925_0, c925_0, e925, hx925_0, hl925_0, hi925_0⟩ := at_LI HR0.out x5_1 p925 q925
       cases e925
       have HR925_0 := Aside0.mk hi925_0
       have HC925_0 := Aside0.mk hl925_0
       clear hi925_0 hl925_0
       replace p925 := eq_true p925
       replace q925 := eq_true q925
       go_wp2_with (first | (refine goesL_ (some 23) rfl rfl Try.func73 (by kernel_rfl) rfl #[.slice A925_0 (rd_LI l0 x5_1).length c925_0, .int .i64 x1_1] rfl ll_ ?_; (with_reducible refine (laws_szIntS.calls _ _ (rd_LI l0 x5_1) x1_1 t926 _ ?side1 ?side2 A6.out).mono ?_); (case side1 => exact ss_ HR925_0); (case side2 => exact HC925_0.out); rintro e w' ⟨rfl, ⟨nd, rfl⟩⟩; refine ⟨_, rfl, ?_⟩))
       go_roundg k1
       case measure => have := HK1.out; omega
       case rel => exact ⟨(t926), (wrap64 (x5_1 + 1)), (by first | rfl | (simp; done) | (simp [*]; done)), (by first | rfl | (simp; done) | (simp [*]; done)), H', ⟨by have := HK1.out; omega⟩, by repeat (first | exact Drawn0.refl _ | apply Drawn0.step)⟩
     ·rw [if_neg c5] at H
      exact absurd H (by simp)
    ·rw [if_neg c4] at H
     have c4b0 : decide (x5_1 < (l0.length : Int)) = false := decide_eq_false c4
     clear c4
     obtain rfl := Option.some.inj H
     go_wp2
     go_ret
     exact ⟨by first | rfl | (simp; done) | (simp [*]; done), by repeat (first | exact Drawn0.refl _ | apply Drawn0.step)⟩
end Go.Proofs.Ytbfafjejmljcpaa.P

set_option linter.unusedVariables false
set_option linter.unusedSimpArgs false
namespace Go.Proofs.Ytbfafjejmljcpaa.X
open Go.RowKit Go.Proofs.YtbfafjejmljcpaaW.PrintWords Go.Proofs.YtbfafjejmljcpaaW.PrintLast Go.Proofs.Ytbfafjejmljcpaa.P

def Short (l : List (List Int)) : Prop := l.length ≤ 1048576 ∧ ∀ x ∈ l, x.length ≤ 1048576
theorem toIntSS_loop (l : List (List Int)) (hl : Short l) (d : Nat) : ∀ (i : Int) (acc : List (List Int)), 0 ≤ i → i + d = l.length → acc = l.take i.toNat ++ List.replicate d [] → Ev (fun k => laws_toIntSS.l0 k l acc i) l := by
  have hl1 := hl.1
  induction d with
  | zero =>
    intro i acc h0 h1 ha
    refine Ev.step (fun k => by rw [laws_toIntSS.l0]) ?_
    refine Ev.neg (by omega) ?_
    refine Ev.done ?_
    rw [ha, List.take_of_length_le (by omega)]; simp
  | succ d ih =>
    intro i acc h0 h1 ha
    have hlen : acc.length = l.length := by rw [ha]; simp; omega
    refine Ev.step (fun k => by rw [laws_toIntSS.l0]) ?_
    rw [w64 (x := i + 1) (by omega) (by omega)]
    refine Ev.pos (by omega) (Ev.pos (by omega) (Ev.bind (toIntS_ev _ (hl.2 _ (rdL_mem h0 (by omega)))) (Ev.pos (by omega) ?_)))
    refine ih (i + 1) _ (by omega) (by omega) ?_
    rw [ha, show (i + 1).toNat = i.toNat + 1 by omega, List.take_add_one, List.replicate_succ]
    rw [List.set_append, if_neg (by rw [List.length_take]; omega)]
    have hi : i.toNat < l.length := by omega
    have e1 : min i.toNat l.length = i.toNat := by omega
    simp only [List.length_take, e1, Nat.sub_self, List.set_cons_zero, List.getElem?_eq_getElem hi, Option.toList_some, List.append_assoc, List.singleton_append]
    rw [rdL_int h0 (by omega)]
theorem toIntSS_ev (l : List (List Int)) (hl : Short l) : Ev (fun k => laws_toIntSS.f k l) l := by
  have hl1 := hl.1
  unfold laws_toIntSS.f
  refine Ev.pos (by omega) (Ev.pos (by omega) ?_)
  exact toIntSS_loop l hl l.length 0 _ (by omega) (by omega) (by simp)
theorem eqIntSS_loop (a b : List (List Int)) (hl : Short a) (hab : a.length = b.length) (d : Nat) : ∀ (i : Int), 0 ≤ i → i + d = a.length → (∀ j : Nat, (j : Int) < i → rd_LI a (j : Int) = rd_LI b (j : Int)) → Ev (fun k => laws_eqIntSS.l0 k a b i) (decide (a = b)) := by
  have hl1 := hl.1
  induction d with
  | zero =>
    intro i h0 h1 h
    refine Ev.step (fun k => by rw [laws_eqIntSS.l0]) ?_
    refine Ev.neg (by omega) (Ev.done ?_)
    rw [decide_eq_true (ext_rdL hab fun j hj => h j (by omega))]
  | succ d ih =>
    intro i h0 h1 h
    refine Ev.step (fun k => by rw [laws_eqIntSS.l0]) ?_
    rw [w64 (x := i + 1) (by omega) (by omega)]
    refine Ev.pos (by omega) (Ev.pos (by omega) (Ev.pos (by omega) (Ev.bind (eqIntS_ev _ _ (hl.2 _ (rdL_mem h0 (by omega)))) ?_)))
    by_cases e : rd_LI a i = rd_LI b i
    · refine Ev.pos (decide_eq_true e) (ih (i + 1) (by omega) (by omega) fun j hj => ?_)
      by_cases ej : (j : Int) = i
      · rw [ej]; exact e
      · exact h j (by omega)
    · refine Ev.neg (by rw [decide_eq_false e]; decide) (Ev.done ?_)
      rw [decide_eq_false (fun hab => e (by rw [hab]))]
theorem eqIntSS_ev (a b : List (List Int)) (hl : Short a) : Ev (fun k => laws_eqIntSS.f k a b) (decide (a = b)) := by
  unfold laws_eqIntSS.f
  by_cases h : a.length = b.length
  · exact Ev.pos (by omega) (eqIntSS_loop a b hl h a.length 0 (by omega) (by omega) fun j hj => by omega)
  · refine Ev.neg (by omega) (Ev.done ?_)
    rw [decide_eq_false (fun hab => h (by rw [hab]))]
theorem szIntSS_loop (l : List (List Int)) (hm : ∀ x ∈ l, x.length ≤ 9223372036854775807) (hl : l.length ≤ 1048576) (d : Nat) : ∀ (i left : Int), 0 ≤ i → i + d = l.length → 0 ≤ left → left ≤ 1048576 → (∀ j : Nat, (j : Int) < i → (rd_LI l j).length ≤ 1048576) →
    ∃ v : Int, Ev (fun k => laws_szIntSS.l0 k l left i) v ∧ (v < 0 ∨ (0 ≤ v ∧ v ≤ 1048576 ∧ ∀ j : Nat, (j : Int) < l.length → (rd_LI l j).length ≤ 1048576)) := by
  induction d with
  | zero =>
    intro i left h0 h1 l0 l1 h
    refine ⟨left, Ev.step (fun k => by rw [laws_szIntSS.l0]) (Ev.neg (by omega) (Ev.done rfl)), .inr ⟨l0, l1, fun j hj => h j (by omega)⟩⟩
  | succ d ih =>
    intro i left h0 h1 l0 l1 h
    have hmi := hm _ (rdL_mem (l := l) h0 (by omega))
    have hz : wrap64 (left - ((rd_LI l i).length : Int)) = left - (rd_LI l i).length := w64 (by omega) (by omega)
    by_cases c : left - (rd_LI l i).length < 0
    · refine ⟨-1, ?_, .inl (by decide)⟩
      refine Ev.step (fun k => by rw [laws_szIntSS.l0]) ?_
      refine Ev.pos (by omega) (Ev.pos h0 ?_)
      refine Ev.fix (a := (-1 : Int)) ?_ ?_
      · unfold laws_szIntS.f; rw [hz, if_pos c]
      · exact Ev.pos (by decide) (Ev.done rfl)
    · obtain ⟨v, hv, hc⟩ := ih (i + 1) (left - (rd_LI l i).length) (by omega) (by omega) (by omega) (by omega) fun j hj => by
        by_cases e : (j : Int) = i
        · rw [e]; omega
        · exact h j (by omega)
      refine ⟨v, ?_, hc⟩
      refine Ev.step (fun k => by rw [laws_szIntSS.l0]) ?_
      refine Ev.pos (by omega) (Ev.pos h0 ?_)
      refine Ev.fix (a := left - ((rd_LI l i).length : Int)) ?_ ?_
      · unfold laws_szIntS.f; rw [hz, if_neg c]
      · refine Ev.neg c ?_
        rw [w64 (x := i + 1) (by omega) (by omega)]; exact hv
theorem szIntSS_ev (l : List (List Int)) (hl : l.length ≤ 9223372036854775807) (hm : ∀ x ∈ l, x.length ≤ 9223372036854775807) (left : Int) (l0 : 0 ≤ left) (l1 : left ≤ 1048576) : ∃ v : Int, Ev (fun k => laws_szIntSS.f k l left) v ∧ (v < 0 ∨ (0 ≤ v ∧ v ≤ 1048576 ∧ Short l)) := by
  have hz : wrap64 (left - (l.length : Int)) = left - l.length := w64 (by omega) (by omega)
  unfold laws_szIntSS.f
  rw [hz]
  by_cases c : left - l.length < 0
  · exact ⟨-1, Ev.pos c (Ev.done rfl), .inl (by decide)⟩
  · obtain ⟨v, hv, hc⟩ := szIntSS_loop l hm (by omega) l.length 0 (left - l.length) (by omega) (by omega) (by omega) (by omega) fun j hj => by omega
    refine ⟨v, Ev.neg c hv, hc.imp id fun h => ⟨h.1, h.2.1, by omega, fun x hx => ?_⟩⟩
    obtain ⟨j, hj, rfl⟩ := List.mem_iff_getElem.1 hx
    have := h.2.2 j (by omega)
    rwa [rdL_cast l j hj] at this
end Go.Proofs.Ytbfafjejmljcpaa.X

namespace Go.Proofs.Ytbfafjejmljcpaa.P
open Go.RowKit Go.Proofs.YtbfafjejmljcpaaW.PrintWords Go.Proofs.YtbfafjejmljcpaaW.PrintLast
set_option linter.unusedVariables false
set_option linter.unusedSimpArgs false

def slices_Index_int_int.l0 : Nat → List Int → Int → Int → Int → Option (Int)
 | 0, _, _, _, _ => none
 | k + 1, x0, x1, x7, x8 => if x8 < x7 then (if 0 ≤ x8 then (if x8 < (x0.length : Int) then (if x1 = (rd x0 x8) then (some x8) else (slices_Index_int_int.l0 k x0 x1 x7 (wrap64 (x8 + 1)))) else (none)) else (none)) else (some (-1))
def slices_Index_int_int.f (k : Nat) (l0 : List Int) (a1 : Int) : Option (Int) := slices_Index_int_int.l0 k l0 a1 (l0.length : Int) 0
set_option maxHeartbeats 8000000 in
set_option maxRecDepth 100000 in
theorem slices_Index_int_int.calls (k : Nat) (A0 : Option Addr) (c0 : Nat) (l0 : List Int) (a1 : Int) (r : Int) (w : World) (hr0 : Kd.C (Kd.int .i64) w A0 l0.length l0) (hc0 : l0.length ≤ c0) (h : slices_Index_int_int.f k l0 a1 = some r) :
  Calls Try.prog 96 #[.slice A0 l0.length c0, .int .i64 a1] w fun e w' => e = .returned (.int .i64 r) ∧ Drawn0 w w' := by
 have HR0 := Aside0.mk hr0
 have HC0 := Aside0.mk hc0
 clear hr0 hc0
 have H : (slices_Index_int_int.l0 k l0 a1 (l0.length : Int) 0) = some r := h
 clear h
 have H' := Aside0.mk H
 clear H
 go_enter Try.func96, Try.ntmps96
 go_wp2
 go_loopg [8] k (fun kq v8 w' => ∃ (x8_1 : Int), v8 = .int .i64 x8_1 ∧ Aside0 (slices_Index_int_int.l0 kq l0 a1 (l0.length : Int) x8_1 = some r) ∧ Aside0 (kq ≤ k) ∧ Drawn0 w w')
 case atStart => exact ⟨(0), (by first | rfl | (simp; done) | (simp [*]; done)), H', ⟨Nat.le_refl _⟩, by repeat (first | exact Drawn0.refl _ | apply Drawn0.step)⟩
 case round =>
  clear H'
  try clear p2
  obtain ⟨x8_1, rfl, HA, HK1, ⟨m1, rfl⟩⟩ := hrel
  cases gk with
  | zero => exact absurd HA.out (by simp [slices_Index_int_int.l0])
  | succ k1 =>
   have H := HA.out
   clear HA
   simp only [slices_Index_int_int.l0] at H
   by_cases c3 : x8_1 < (l0.length : Int)
   ·rw [if_pos c3] at H
    have c3b0 : decide (x8_1 < (l0.length : Int)) = true := decide_eq_true c3
    clear c3
    by_cases c4 : 0 ≤ x8_1
    ·rw [if_pos c4] at H
     have c4b0 : decide (0 ≤ x8_1) = true := decide_eq_true c4
     clear c4
     by_cases c5 : x8_1 < (l0.length : Int)
     ·rw [if_pos c5] at H
      have c5b0 : decide (x8_1 < (l0.length : Int)) = true := decide_eq_true c5
      clear c5
      by_cases c6 : a1 = (rd l0 x8_1)
      ·rw [if_pos c6] at H
       have c6b0 : (a1 == (rd l0 x8_1)) = true := beq_iff_eq.mpr c6
       have c6b1 : (a1 != (rd l0 x8_1)) = false := bne_eq_false_iff_eq.mpr c6
       clear c6
       obtain rfl := Option.some.inj H
       have p301 : 0 ≤ (x8_1 : Int) := dd_
       have q301 : x8_1 < (l0.length : Int) := dd_
       obtain ⟨ad301, e301, hx301_0⟩ := Kd.at_int HR0.out x8_1 p301 q301
       cases e301
       replace p301 := eq_true p301
       replace q301 := eq_true q301
       go_wp2
       go_ret
       exact ⟨by first | rfl | (simp; done) | (simp [*]; done), by repeat (first | exact Drawn0.refl _ | apply Drawn0.step)⟩
      ·rw [if_neg c6] at H
       have c6b0 : (a1 == (rd l0 x8_1)) = false := beq_eq_false_iff_ne.mpr c6
       have c6b1 : (a1 != (rd l0 x8_1)) = true := bne_iff_ne.mpr c6
       have H' := Aside0.mk H
       clear H
       have p301 : 0 ≤ (x8_1 : Int) := dd_
       have q301 : x8_1 < (l0.length : Int) := dd_
       obtain ⟨ad301, e301, hx301_0⟩ := Kd.at_int HR0.out x8_1 p301 q301
       cases e301
       replace p301 := eq_true p301
       replace q301 := eq_true q301
       go_wp2
       go_roundg k1
       case measure => have := HK1.out; omega
       case rel => exact ⟨(wrap64 (x8_1 + 1)), (by first | rfl | (simp; done) | (simp [*]; done)), H', ⟨by have := HK1.out; omega⟩, by repeat (first | exact Drawn0.refl _ | apply Drawn0.step)⟩
     ·rw [if_neg c5] at H
      exact absurd H (by simp)
    ·rw [if_neg c4] at H
     exact absurd H (by simp)
   ·rw [if_neg c3] at H
    have c3b0 : decide (x8_1 < (l0.length : Int)) = false := decide_eq_false c3
    clear c3
    obtain rfl := Option.some.inj H
    go_wp2
    go_ret
    exact ⟨by first | rfl | (simp; done) | (simp [*]; done), by repeat (first | exact Drawn0.refl _ | apply Drawn0.step)⟩
end Go.Proofs.Ytbfafjejmljcpaa.P

namespace Go.Proofs.Ytbfafjejmljcpaa.P
open Go.RowKit Go.Proofs.YtbfafjejmljcpaaW.PrintWords Go.Proofs.YtbfafjejmljcpaaW.PrintLast
set_option linter.unusedVariables false
set_option linter.unusedSimpArgs false

def slices_Contains_int_int.f (k : Nat) (l0 : List Int) (a1 : Int) : Option (Bool) := (slices_Index_int_int.f k l0 a1).bind fun t302 => (some (decide (t302 ≥ 0)))
set_option maxHeartbeats 8000000 in
set_option maxRecDepth 100000 in
theorem slices_Contains_int_int.calls (k : Nat) (A0 : Option Addr) (c0 : Nat) (l0 : List Int) (a1 : Int) (r : Bool) (w : World) (hr0 : Kd.C (Kd.int .i64) w A0 l0.length l0) (hc0 : l0.length ≤ c0) (h : slices_Contains_int_int.f k l0 a1 = some r) :
  Calls Try.prog 61 #[.slice A0 l0.length c0, .int .i64 a1] w fun e w' => e = .returned (.bool r) ∧ Drawn0 w w' := by
 have HR0 := Aside0.mk hr0
 have HC0 := Aside0.mk hc0
 clear hr0 hc0
 have H : ((slices_Index_int_int.f k l0 a1).bind fun t302 => (some (decide (t302 ≥ 0)))) = some r := h
 clear h
 replace H := Option.bind_eq_some_iff.mp H
 obtain ⟨t302, A30, H⟩ := H
 replace H : (some (decide (t302 ≥ 0))) = some r := H
 have A3 := Aside0.mk A30
 clear A30
 obtain rfl := Option.some.inj H
 go_enter Try.func61, Try.ntmps61
 go_wp2_with (first | (refine goesL_ (some 7) rfl rfl Try.func96 (by kernel_rfl) rfl #[.slice A0 l0.length c0, .int .i64 a1] rfl ll_ ?_; (with_reducible refine (slices_Index_int_int.calls k _ _ l0 a1 t302 _ ?side1 ?side2 A3.out).mono ?_); (case side1 => exact ss_ HR0); (case side2 => exact HC0.out); rintro e w' ⟨rfl, ⟨nd, rfl⟩⟩; refine ⟨_, rfl, ?_⟩))
 go_ret
 exact ⟨by first | rfl | (simp; done) | (simp [*]; done), by repeat (first | exact Drawn0.refl _ | apply Drawn0.step)⟩
end Go.Proofs.Ytbfafjejmljcpaa.P

set_option linter.unusedVariables false
set_option linter.unusedSimpArgs false
namespace Go.Proofs.Ytbfafjejmljcpaa.X
open Go.RowKit Go.Proofs.YtbfafjejmljcpaaW.PrintWords Go.Proofs.YtbfafjejmljcpaaW.PrintLast Go.Proofs.Ytbfafjejmljcpaa.P

theorem has_false {l : List Int} {x : Int} (h : ∀ j : Nat, j < l.length → rd l (j : Int) ≠ x) : decide (x ∈ l) = false := by
  refine decide_eq_false fun hx => ?_
  obtain ⟨j, hj, rfl⟩ := List.mem_iff_getElem.1 hx
  exact h j hj (rd_cast l j hj)
theorem index_loop (l : List Int) (hl : l.length ≤ 1048576) (x : Int) (d : Nat) : ∀ (i : Int), 0 ≤ i → i + d = l.length → (∀ j : Nat, (j : Int) < i → rd l (j : Int) ≠ x) → ∃ v : Int, Ev (fun k => slices_Index_int_int.l0 k l x (l.length : Int) i) v ∧ decide (v ≥ 0) = decide (x ∈ l) := by
  induction d with
  | zero =>
    intro i h0 h1 h
    refine ⟨-1, Ev.step (fun k => by rw [slices_Index_int_int.l0]) (Ev.neg (by omega) (Ev.done rfl)), ?_⟩
    rw [has_false fun j hj => h j (by omega)]; rfl
  | succ d ih =>
    intro i h0 h1 h
    by_cases e : x = rd l i
    · refine ⟨i, Ev.step (fun k => by rw [slices_Index_int_int.l0]) ?_, ?_⟩
      · exact Ev.pos (by omega) (Ev.pos (by omega) (Ev.pos (by omega) (Ev.pos e (Ev.done rfl))))
      · rw [decide_eq_true (show x ∈ l by rw [e]; exact rd_mem (by omega) h0)]; simpa using h0
    · obtain ⟨v, hv, hd⟩ := ih (i + 1) (by omega) (by omega) fun j hj => by
        by_cases ej : (j : Int) = i
        · rw [ej]; exact fun h => e h.symm
        · exact h j (by omega)
      refine ⟨v, Ev.step (fun k => by rw [slices_Index_int_int.l0]) ?_, hd⟩
      simp (disch := omega) only [w64]
      exact Ev.pos (by omega) (Ev.pos (by omega) (Ev.pos (by omega) (Ev.neg e hv)))
theorem contains_ev (l : List Int) (hl : l.length ≤ 1048576) (x : Int) : Ev (fun k => slices_Contains_int_int.f k l x) (decide (x ∈ l)) := by
  obtain ⟨v, hv, hd⟩ := index_loop l hl x l.length 0 (by omega) (by omega) (fun j h => by omega)
  unfold slices_Contains_int_int.f slices_Index_int_int.f
  exact Ev.bind hv (Ev.done (by rw [← hd]))
end Go.Proofs.Ytbfafjejmljcpaa.X

set_option linter.unusedVariables false
set_option linter.unusedSimpArgs false
namespace Go.Proofs.Ytbfafjejmljcpaa.X
open Go.RowKit Go.Proofs.YtbfafjejmljcpaaW.PrintWords Go.Proofs.YtbfafjejmljcpaaW.PrintLast

def Eg (g : Nat) : Prop := ∀ args w, (callFunc g args).run Try.prog w = .ok (.enter g args) w
def Fn1 (g : Nat) (lb : Array Value) (w : World) (D : Int → Prop) (p : Int → Value) : Prop :=
  ∀ (W : World) (x : Int), Below w.heap.size w W → D x → Calls Try.prog g (#[.int .i64 x] ++ lb) W fun e W' => e = .returned (p x) ∧ Below W.heap.size W W'
def Fn2 (g : Nat) (lb : Array Value) (w : World) (D : Int → Int → Prop) (p : Int → Int → Value) : Prop :=
  ∀ (W : World) (x y : Int), Below w.heap.size w W → D x y → Calls Try.prog g (#[.int .i64 x, .int .i64 y] ++ lb) W fun e W' => e = .returned (p x y) ∧ Below W.heap.size W W'
def Fn3 (g : Nat) (lb : Array Value) (w : World) (D : Int → Int → Int → Prop) (p : Int → Int → Int → Value) : Prop :=
  ∀ (W : World) (x y z : Int), Below w.heap.size w W → D x y z → Calls Try.prog g (#[.int .i64 x, .int .i64 y, .int .i64 z] ++ lb) W fun e W' => e = .returned (p x y z) ∧ Below W.heap.size W W'
theorem bstep {w W W' : World} (h : Below w.heap.size w W) (h' : Below W.heap.size W W') : Below w.heap.size w W' := h.trans (h'.mono h.size)
def idxI (p : Int → Bool) (l : List Int) : Int := match l.findIdx? p with | some i => i | none => -1
theorem idxI_none {p : Int → Bool} {l : List Int} (h : ∀ j : Nat, (j : Int) < l.length → p (rd l j) = false) : idxI p l = -1 := by
  have : l.findIdx? p = none := by
    rw [List.findIdx?_eq_none_iff]
    intro x hx
    obtain ⟨j, hj, rfl⟩ := List.mem_iff_getElem.1 hx
    have := h j (by omega)
    unfold rd at this
    rw [List.getD_eq_getElem?_getD] at this
    simpa [hj] using this
  unfold idxI; rw [this]
theorem idxI_some {p : Int → Bool} {l : List Int} (i : Int) (h0 : 0 ≤ i) (h1 : i < l.length) (hp : p (rd l i) = true) (h : ∀ j : Nat, (j : Int) < i → p (rd l j) = false) : idxI p l = i := by
  have : l.findIdx? p = some i.toNat := by
    rw [List.findIdx?_eq_some_iff_getElem]
    refine ⟨by omega, ?_, ?_⟩
    · unfold rd at hp
      rw [List.getD_eq_getElem?_getD] at hp
      simpa [show i.toNat < l.length by omega] using hp
    · intro j hj
      have := h j (by omega)
      unfold rd at this
      rw [List.getD_eq_getElem?_getD] at this
      simpa [show j < l.length by omega] using this
  unfold idxI; rw [this]; show ((i.toNat : Nat) : Int) = i; omega
theorem idxI_any (p : Int → Bool) (l : List Int) : decide (0 ≤ idxI p l) = l.any p := by
  unfold idxI
  cases h : l.findIdx? p with
  | none =>
    rw [List.findIdx?_eq_none_iff] at h
    have : l.any p = false := by rw [List.any_eq_false]; intro x hx; simp [h x hx]
    rw [this]; rfl
  | some i =>
    obtain ⟨hi, hp, _⟩ := List.findIdx?_eq_some_iff_getElem.1 h
    have : l.any p = true := List.any_eq_true.2 ⟨_, List.getElem_mem hi, hp⟩
    rw [this]; simp
set_option maxHeartbeats 2000000 in
theorem indexFunc_calls (g : Nat) (lb : Array Value) (eg : Eg g) (p : Int → Bool) (A0 : Option Addr) (c0 : Nat) (l : List Int) (w : World) (hr : Kd.C (Kd.int .i64) w A0 l.length l) (hp : Fn1 g lb w (fun x => x ∈ l) (fun x => .bool (p x))) :
    Calls Try.prog 125 #[.slice A0 l.length c0, .func (.func g) #[] lb] w fun e w' => e = .returned (.int .i64 (idxI p l)) ∧ Below w.heap.size w w' := by
  have HR0 := Aside0.mk hr
  have HP := Aside0.mk hp
  have hm : l.length ≤ 9223372036854775807 := hr.2.1
  clear hr hp
  unfold Eg at eg
  go_enter Try.func125, Try.ntmps125
  go_wp2
  go_loopg [8] l.length (fun kq v8 w' => ∃ i : Int, v8 = .int .i64 i ∧ Aside0 (0 ≤ i ∧ i ≤ l.length) ∧ Aside0 ((l.length : Int) - i ≤ kq) ∧ Aside0 (∀ j : Nat, (j : Int) < i → p (rd l j) = false) ∧ Aside0 (Below w.heap.size w w'))
  case atStart => exact ⟨0, rfl, ⟨by omega⟩, ⟨by omega⟩, ⟨fun j hj => by omega⟩, ⟨Below.refl _ _⟩⟩
  case round =>
    obtain ⟨i, rfl, HI, HK, HA, HB⟩ := hrel
    have h0 : 0 ≤ i := HI.out.1
    by_cases c6 : i < (l.length : Int)
    · obtain ⟨ad, e1, hx⟩ := Kd.at_int HR0.out i h0 c6
      cases e1
      replace hx := (HB.out.cell (World.block_lt_of_cell? w _ hx)).trans hx
      have hcall := HP.out wr (rd l i) HB.out (rd_mem c6 h0)
      dsimp only at hcall
      by_cases hv : p (rd l i) = true
      · rw [hv] at hcall
        have HV := Aside0.mk hv
        have HC := Aside0.mk hcall
        clear hcall hv
        go_wp2_with (go_at_fn g; refine HC.out.mono ?_; rintro e w' ⟨rfl, hb'⟩)
        go_ret
        exact ⟨by rw [idxI_some i h0 c6 HV.out HA.out]; rfl, bstep HB.out hb'⟩
      · have hv := Bool.eq_false_iff.2 hv
        rw [hv] at hcall
        have HV := Aside0.mk hv
        have HC := Aside0.mk hcall
        clear hcall hv
        go_wp2_with (go_at_fn g; refine HC.out.mono ?_; rintro e w' ⟨rfl, hb'⟩)
        go_roundg (l.length - (i.toNat + 1))
        case measure => have := HK.out; omega
        case rel =>
          refine ⟨i + 1, rfl, ⟨by omega⟩, ⟨by omega⟩, ⟨fun j hj => ?_⟩, ⟨bstep HB.out hb'⟩⟩
          by_cases e : (j : Int) = i
          · rw [e]; exact HV.out
          · exact HA.out j (by omega)
    · go_wp2
      go_ret
      have hi : i = l.length := by have := HI.out; omega
      exact ⟨by rw [idxI_none (fun j hj => HA.out j (by omega))]; rfl, HB.out⟩
set_option maxHeartbeats 1000000 in
theorem containsFunc_calls (g : Nat) (lb : Array Value) (eg : Eg g) (p : Int → Bool) (A0 : Option Addr) (c0 : Nat) (l : List Int) (w : World) (hr : Kd.C (Kd.int .i64) w A0 l.length l) (hp : Fn1 g lb w (fun x => x ∈ l) (fun x => .bool (p x))) :
    Calls Try.prog 88 #[.slice A0 l.length c0, .func (.func g) #[] lb] w fun e w' => e = .returned (.bool (l.any p)) ∧ Below w.heap.size w w' := by
  have HC := Aside0.mk (indexFunc_calls g lb eg p A0 c0 l w hr hp)
  rw [← idxI_any]
  clear hr hp
  go_enter Try.func88, Try.ntmps88
  go_wp2_with (go_at_call 125; refine HC.out.mono ?_; rintro e w' ⟨rfl, hb'⟩)
  go_ret
  exact ⟨rfl, hb'⟩
theorem onceB_hit {p : Int → Int} (i j : Int) (h0 : 0 ≤ i) (h1 : i < j) (h2 : j < 9) (h : p i = p j) : onceB p = false := by
  cases e : onceB p with
  | false => rfl
  | true =>
    have := onceB_iff.1 e i.toNat j.toNat (by omega) (by omega)
    rw [Int.toNat_of_nonneg h0, Int.toNat_of_nonneg (by omega)] at this
    exact absurd h this
set_option maxHeartbeats 2000000 in
theorem forAll_calls (g : Nat) (lb : Array Value) (eg : Eg g) (p : Int → Int → Int → Bool) (w : World) (hp : Fn3 g lb w (fun a b c => In9 a ∧ In9 b ∧ In9 c) (fun a b c => .bool (p a b c))) :
    Calls Try.prog 105 #[.func (.func g) #[] lb] w fun e w' => e = .returned (.bool (all3 p)) ∧ Below w.heap.size w w' := by
  have HP := Aside0.mk hp
  clear hp
  unfold Eg at eg
  go_enter Try.func105, Try.ntmps105
  go_wp2
  go_loopg [6] 9 (fun kq v6 w' => ∃ a : Int, v6 = .int .i64 a ∧ Aside0 (0 ≤ a ∧ a ≤ 9) ∧ Aside0 ((9 : Int) - a ≤ kq) ∧ Aside0 (∀ x y z : Int, 0 ≤ x → x < a → In9 y → In9 z → p x y z = true) ∧ Aside0 (Below w.heap.size w w'))
  case atStart => exact ⟨0, rfl, ⟨by omega⟩, ⟨by omega⟩, ⟨fun x y z h0 h1 => by omega⟩, ⟨Below.refl _ _⟩⟩
  case round =>
    obtain ⟨a, rfl, HI, HK, HA, HB⟩ := hrel
    have h0 : 0 ≤ a := HI.out.1
    by_cases c6 : a < 9
    · go_wp2
      go_loopg [9] 9 (fun kq v9 w' => ∃ b : Int, v9 = .int .i64 b ∧ Aside0 (0 ≤ b ∧ b ≤ 9) ∧ Aside0 ((9 : Int) - b ≤ kq) ∧ Aside0 (∀ y z : Int, 0 ≤ y → y < b → In9 z → p a y z = true) ∧ Aside0 (Below w.heap.size w w'))
      case atStart => exact ⟨0, rfl, ⟨by omega⟩, ⟨by omega⟩, ⟨fun y z h0 h1 => by omega⟩, HB⟩
      case round =>
        obtain ⟨b, rfl, HI2, HK2, HA2, HB2⟩ := hrel
        have h02 : 0 ≤ b := HI2.out.1
        by_cases c7 : b < 9
        · go_wp2
          go_loopg [12] 9 (fun kq v12 w' => ∃ c : Int, v12 = .int .i64 c ∧ Aside0 (0 ≤ c ∧ c ≤ 9) ∧ Aside0 ((9 : Int) - c ≤ kq) ∧ Aside0 (∀ z : Int, 0 ≤ z → z < c → p a b z = true) ∧ Aside0 (Below w.heap.size w w'))
          case atStart => exact ⟨0, rfl, ⟨by omega⟩, ⟨by omega⟩, ⟨fun z h0 h1 => by omega⟩, HB2⟩
          case round =>
            obtain ⟨c, rfl, HI3, HK3, HA3, HB3⟩ := hrel
            have h03 : 0 ≤ c := HI3.out.1
            by_cases c8 : c < 9
            · have hcall := HP.out wr a b c HB3.out ⟨⟨h0, c6⟩, ⟨h02, c7⟩, ⟨h03, c8⟩⟩
              dsimp only at hcall
              by_cases hv : p a b c = true
              · rw [hv] at hcall
                have HV := Aside0.mk hv
                have HC := Aside0.mk hcall
                clear hcall hv
                go_wp2_with (go_at_fn g; refine HC.out.mono ?_; rintro e w' ⟨rfl, hb'⟩)
                go_roundg (9 - (c.toNat + 1))
                case measure => have := HK3.out; omega
                case rel =>
                  refine ⟨c + 1, rfl, ⟨by omega⟩, ⟨by omega⟩, ⟨fun z hz0 hz1 => ?_⟩, ⟨bstep HB3.out hb'⟩⟩
                  by_cases e : z = c
                  · rw [e]; exact HV.out
                  · exact HA3.out z hz0 (by omega)
              · have hv := Bool.eq_false_iff.2 hv
                rw [hv] at hcall
                have HV := Aside0.mk hv
                have HC := Aside0.mk hcall
                clear hcall hv
                go_wp2_with (go_at_fn g; refine HC.out.mono ?_; rintro e w' ⟨rfl, hb'⟩)
                go_ret
                exact ⟨by rw [all3_hit ⟨h0, c6⟩ ⟨h02, c7⟩ ⟨h03, c8⟩ HV.out]; rfl, bstep HB3.out hb'⟩
            · go_wp2
              go_roundg (9 - (b.toNat + 1))
              case measure => have := HK2.out; omega
              case rel =>
                refine ⟨b + 1, rfl, ⟨by omega⟩, ⟨by omega⟩, ⟨fun y z hy0 hy1 hz => ?_⟩, HB3⟩
                by_cases e : y = b
                · rw [e]; exact HA3.out z hz.1 (by have := hz.2; omega)
                · exact HA2.out y z hy0 (by omega) hz
        · go_wp2
          go_roundg (9 - (a.toNat + 1))
          case measure => have := HK.out; omega
          case rel =>
            refine ⟨a + 1, rfl, ⟨by omega⟩, ⟨by omega⟩, ⟨fun x y z hx0 hx1 hy hz => ?_⟩, HB2⟩
            by_cases e : x = a
            · rw [e]; exact HA2.out y z hy.1 (by have := hy.2; omega) hz
            · exact HA.out x y z hx0 (by omega) hy hz
    · go_wp2
      go_ret
      have hall : all3 p = true := by
        have ha : a = 9 := by have := HI.out; omega
        refine allI_int_iff.2 fun x x0 x1 => allI_int_iff.2 fun y y0 y1 => allI_int_iff.2 fun z z0 z1 => HA.out x y z x0 (by omega) ⟨y0, y1⟩ ⟨z0, z1⟩
      exact ⟨by rw [hall]; rfl, HB.out⟩
end Go.Proofs.Ytbfafjejmljcpaa.X

set_option linter.unusedVariables false
set_option linter.unusedSimpArgs false
namespace Go.Proofs.Ytbfafjejmljcpaa.X
open Go.RowKit Go.Proofs.YtbfafjejmljcpaaW.PrintWords Go.Proofs.YtbfafjejmljcpaaW.PrintLast

def bA (n : Nat) (s : Nat → Bool) : Array Value := ((List.range n).map fun j => Value.bool (s j)).toArray
theorem bA_get {n : Nat} {s : Nat → Bool} (j : Nat) (h : j < n) : (bA n s)[j]? = some (.bool (s j)) := by simp [bA, h]
theorem bA_set {n : Nat} {s : Nat → Bool} (j : Nat) (v : Bool) : (bA n s).setIfInBounds j (.bool v) = bA n (fun x => if x = j then v else s x) := by
  apply Array.ext_getElem?
  intro i
  rw [Array.getElem?_setIfInBounds]
  by_cases hi : i < n
  · by_cases hj : j = i
    · subst hj; simp [bA, hi]
    · simp [bA, hi, hj, Ne.symm hj]
  · by_cases hj : j = i
    · subst hj; simp [bA, hi]
    · simp [bA, hi, hj]
structure Arr (w : World) (b t n : Nat) (s : Nat → Bool) : Prop where mk :: (out : w.heap[b]? = some (.cells (bA n s) t (0, 0)))
theorem Arr.lt {w : World} {b t n : Nat} {s : Nat → Bool} (h : Arr w b t n s) : b < w.heap.size := (Array.getElem?_eq_some_iff.1 h.out).1
theorem Arr.below {w W : World} {b t n : Nat} {s : Nat → Bool} (h : Arr w b t n s) (hb : Below w.heap.size w W) : Arr W b t n s := ⟨(hb.block b h.lt).trans h.out⟩
theorem Arr.cell {w : World} {b t n : Nat} {s : Nat → Bool} (h : Arr w b t n s) (j : Nat) (hj : j < n) : w.cell? ⟨b, j, none⟩ = some (.bool (s j)) := by
  simp [World.cell?, h.out, bA_get j hj]
theorem Arr.frozen {w : World} {b t n : Nat} {s : Nat → Bool} (h : Arr w b t n s) (j : Nat) : w.frozen? ⟨b, j, none⟩ = false := by
  simp [World.frozen?, h.out]
theorem Arr.set {w : World} {b t n : Nat} {s : Nat → Bool} (h : Arr w b t n s) (j : Nat) (v : Bool) : Arr (w.setCell ⟨b, j, none⟩ (.bool v)) b t n (fun x => if x = j then v else s x) := by
  constructor
  simp only [World.setCell, Array.getElem?_modify, if_true, h.out, Option.map_some, Option.isSome_none, Bool.false_eq_true, if_false, bA_set]
theorem Arr.congr {w : World} {b t n : Nat} {s s' : Nat → Bool} (h : Arr w b t n s) (e : ∀ j, j < n → s j = s' j) : Arr w b t n s' := by
  constructor
  rw [h.out]
  have : bA n s = bA n s' := by
    unfold bA
    congr 1
    apply List.map_congr_left
    intro j hj
    rw [e j (List.mem_range.1 hj)]
  rw [this]
theorem Arr.alloc (w : World) (t n : Nat) (s : Nat → Bool) : Arr (w.alloc (.cells (bA n s) t)) w.heap.size t n s := ⟨heap_alloc_new w _⟩
theorem bA_size (n : Nat) (s : Nat → Bool) : (bA n s).size = n := by simp [bA]
theorem bA_one (n : Nat) (s : Nat → Bool) : (bA n s).all (·.oneCell') = true := by
  rw [Array.all_eq_true]
  intro i hi
  simp [bA, Value.oneCell']
theorem arr_store {P : Program} (t n : Nat) (s : Nat → Bool) (hi : (P.info? t).map (·.size) = some n) (w : World) :
    Sem.run P (storeCells ⟨w.heap.size, 0, none⟩ (bA n s).toList) (w.alloc (.cells (bA n s) t)) = .ok () (w.alloc (.cells (bA n s) t)) :=
  run_storeCells_new w t _ _ (by rw [bA_size]; exact hi) rfl (bA_one n s)
def seenO (p : Int → Int) (i : Int) (j : Nat) : Bool := (List.range i.toNat).any fun (x : Nat) => decide (p x = (j : Int))
theorem seenO_succ (p : Int → Int) (i : Int) (h0 : 0 ≤ i) (j : Nat) : seenO p (i + 1) j = (seenO p i j || decide (p i = (j : Int))) := by
  unfold seenO
  rw [show (i + 1).toNat = i.toNat + 1 by omega, List.range_succ, List.any_append]
  simp [Int.toNat_of_nonneg h0]
set_option maxHeartbeats 2000000 in
theorem isOnce_calls (g : Nat) (lb : Array Value) (eg : Eg g) (p : Int → Int) (w : World) (hp : Fn1 g lb w In9 (fun x => .int .i64 (p x))) (hrange : ∀ x, In9 x → In9 (p x)) :
    Calls Try.prog 107 #[.func (.func g) #[] lb] w fun e w' => e = .returned (.bool (onceB p)) ∧ Below w.heap.size w w' := by
  have HP := Aside0.mk hp
  have HR := Aside0.mk hrange
  clear hp hrange
  have HS := Aside0.mk (Arr.alloc w 102 9 (fun _ => false))
  unfold Eg at eg
  go_enter Try.func107, Try.ntmps107
  go_wp2
  go_loopg [6] 9 (fun kq v6 w' => ∃ i : Int, v6 = .int .i64 i ∧ Aside0 (0 ≤ i ∧ i ≤ 9) ∧ Aside0 ((9 : Int) - i ≤ kq) ∧ Aside0 (∀ x y : Int, 0 ≤ x → x < y → y < i → p x ≠ p y) ∧ Aside0 (Arr w' w.heap.size 102 9 (seenO p i)) ∧ Aside0 (Below w.heap.size w w'))
  case atStart => exact ⟨0, rfl, ⟨by omega⟩, ⟨by omega⟩, ⟨fun x y h0 h1 => by omega⟩, ⟨HS.out.congr (fun j hj => rfl)⟩, ⟨(Below.refl _ _).alloc (Nat.le_refl _) _⟩⟩
  case round =>
    obtain ⟨i, rfl, HI, HK, HA, HS2, HB⟩ := hrel
    have h0 : 0 ≤ i := HI.out.1
    by_cases c6 : i < 9
    · have hcall := HP.out wr i HB.out ⟨h0, c6⟩
      obtain ⟨q0, q1⟩ := HR.out i ⟨h0, c6⟩
      dsimp only at hcall
      obtain ⟨v, hv⟩ : ∃ v : Int, p i = v := ⟨_, rfl⟩
      rw [hv] at hcall q0 q1
      have HV := Aside0.mk hv
      have HC := Aside0.mk hcall
      clear hcall hv
      go_wp2_with fail
      refine HC.out.mono ?_
      rintro e w1 ⟨rfl, hb1⟩
      have HS3 := HS2.out.below hb1
      have hc := HS3.cell v.toNat (by omega)
      have HB1 := Aside0.mk (bstep HB.out hb1)
      clear hb1
      by_cases hs : seenO p i v.toNat = true
      · rw [hs] at hc
        have HF := Aside0.mk hs
        clear hs
        go_wp2
        go_ret
        have : onceB p = false := by
          have h := HF.out
          unfold seenO at h
          obtain ⟨x, hx, hpx⟩ := List.any_eq_true.1 h
          have hx := List.mem_range.1 hx
          have hpx := of_decide_eq_true hpx
          exact onceB_hit x i (by omega) (by omega) c6 (by rw [hpx, HV.out]; omega)
        exact ⟨by rw [this]; rfl, HB1.out⟩
      · have hs := Bool.eq_false_iff.2 hs
        rw [hs] at hc
        have HF := Aside0.mk hs
        have HS4 := Aside0.mk HS3
        clear hs HS3
        have hcall2 := HP.out w1 i HB1.out ⟨h0, c6⟩
        dsimp only at hcall2
        rw [HV.out] at hcall2
        have HC2 := Aside0.mk hcall2
        clear hcall2
        go_wp2_with fail
        refine HC2.out.mono ?_
        rintro e w2 ⟨rfl, hb2⟩
        have HS5 := HS4.out.below hb2
        have hc2 := HS5.cell v.toNat (by omega)
        have hf2 := HS5.frozen v.toNat
        have HS6 := Aside0.mk (HS5.set v.toNat true)
        have HB2 := Aside0.mk ((bstep HB1.out hb2).setCell (p := ⟨w.heap.size, v.toNat, none⟩) (Nat.le_refl _) (.bool true))
        clear hb2 HS5
        go_wp2
        go_roundg (9 - (i.toNat + 1))
        case measure => have := HK.out; omega
        case rel =>
          refine ⟨i + 1, rfl, ⟨by omega⟩, ⟨by omega⟩, ⟨fun x y hx hxy hy => ?_⟩, ⟨HS6.out.congr (fun j hj => ?_)⟩, HB2⟩
          · by_cases e : y = i
            · subst e
              intro hxe
              have h := HF.out
              unfold seenO at h
              have := List.any_eq_false.1 h x.toNat (List.mem_range.2 (by omega))
              rw [Int.toNat_of_nonneg hx, hxe, HV.out] at this
              exact this (decide_eq_true (by omega))
            · exact HA.out x y hx hxy (by omega)
          · rw [seenO_succ p i h0 j, HV.out]
            by_cases e : j = v.toNat
            · subst e; rw [if_pos rfl, decide_eq_true (by omega), Bool.or_true]
            · rw [if_neg e, decide_eq_false (by omega), Bool.or_false]
    · go_wp2
      go_ret
      have hall : onceB p = true := by
        have hi : i = 9 := by have := HI.out; omega
        exact onceB_iff.2 fun x y hxy hy => HA.out x y (by omega) (by omega) (by omega)
      exact ⟨by rw [hall]; rfl, HB.out⟩
end Go.Proofs.Ytbfafjejmljcpaa.X

namespace Go.Proofs.Ytbfafjejmljcpaa.P
open Go.RowKit Go.Proofs.YtbfafjejmljcpaaW.PrintWords Go.Proofs.YtbfafjejmljcpaaW.PrintLast
set_option linter.unusedVariables false
set_option linter.unusedSimpArgs false

def impl_element.f (a0 : Int) (a1 : Int) : Option (Int) := some (wrap64 ((Int.tmod (wrap64 ((Int.tmod a0 3) + 3)) 3) + (wrap64 (3 * (Int.tmod (wrap64 ((Int.tmod a1 3) + 3)) 3)))))
set_option maxHeartbeats 8000000 in
set_option maxRecDepth 100000 in
theorem impl_element.calls (a0 : Int) (a1 : Int) (r : Int) (w : World) (h : impl_element.f a0 a1 = some r) :
  Calls Try.prog 114 #[.int .i64 a0, .int .i64 a1] w fun e w' => e = .returned (.int .i64 r) ∧ Drawn0 w w' := by
 have H : (some (wrap64 ((Int.tmod (wrap64 ((Int.tmod a0 3) + 3)) 3) + (wrap64 (3 * (Int.tmod (wrap64 ((Int.tmod a1 3) + 3)) 3)))))) = some r := h
 clear h
 obtain rfl := Option.some.inj H
 go_enter Try.func114, Try.ntmps114
 go_wp2
 go_ret
 exact ⟨by first | rfl | (simp; done) | (simp [*]; done), by repeat (first | exact Drawn0.refl _ | apply Drawn0.step)⟩
end Go.Proofs.Ytbfafjejmljcpaa.P

namespace Go.Proofs.Ytbfafjejmljcpaa.P
open Go.RowKit Go.Proofs.YtbfafjejmljcpaaW.PrintWords Go.Proofs.YtbfafjejmljcpaaW.PrintLast
set_option linter.unusedVariables false
set_option linter.unusedSimpArgs false

def impl_add.f (a0 : Int) (a1 : Int) : Option (Int) := (impl_element.f (wrap64 ((Int.tmod a0 3) + (Int.tmod a1 3))) (wrap64 ((wrap64 (Int.tdiv a0 3)) + (wrap64 (Int.tdiv a1 3))))).bind fun t296 => (some t296)
set_option maxHeartbeats 8000000 in
set_option maxRecDepth 100000 in
theorem impl_add.calls (a0 : Int) (a1 : Int) (r : Int) (w : World) (h : impl_add.f a0 a1 = some r) :
  Calls Try.prog 97 #[.int .i64 a0, .int .i64 a1] w fun e w' => e = .returned (.int .i64 r) ∧ Drawn0 w w' := by
 have H : ((impl_element.f (wrap64 ((Int.tmod a0 3) + (Int.tmod a1 3))) (wrap64 ((wrap64 (Int.tdiv a0 3)) + (wrap64 (Int.tdiv a1 3))))).bind fun t296 => (some t296)) = some r := h
 clear h
 replace H := Option.bind_eq_some_iff.mp H
 obtain ⟨t296, A30, H⟩ := H
 replace H : (some t296) = some r := H
 have A3 := Aside0.mk A30
 clear A30
 obtain rfl := Option.some.inj H
 go_enter Try.func97, Try.ntmps97
 go_wp2_with (first | (refine goesL_ (some 15) rfl rfl Try.func114 (by kernel_rfl) rfl #[.int .i64 (wrap64 ((Int.tmod a0 3) + (Int.tmod a1 3))), .int .i64 (wrap64 ((wrap64 (Int.tdiv a0 3)) + (wrap64 (Int.tdiv a1 3))))] rfl ll_ ?_; (with_reducible refine (impl_element.calls (wrap64 ((Int.tmod a0 3) + (Int.tmod a1 3))) (wrap64 ((wrap64 (Int.tdiv a0 3)) + (wrap64 (Int.tdiv a1 3)))) t296 _ A3.out).mono ?_); rintro e w' ⟨rfl, ⟨nd, rfl⟩⟩; refine ⟨_, rfl, ?_⟩))
 go_ret
 exact ⟨by first | rfl | (simp; done) | (simp [*]; done), by repeat (first | exact Drawn0.refl _ | apply Drawn0.step)⟩
end Go.Proofs.Ytbfafjejmljcpaa.P

namespace Go.Proofs.Ytbfafjejmljcpaa.P
open Go.RowKit Go.Proofs.YtbfafjejmljcpaaW.PrintWords Go.Proofs.YtbfafjejmljcpaaW.PrintLast
set_option linter.unusedVariables false
set_option linter.unusedSimpArgs false

def impl_minus.f (a0 : Int) : Option (Int) := (impl_element.f (wrap64 (-(Int.tmod a0 3))) (wrap64 (-(wrap64 (Int.tdiv a0 3))))).bind fun t998 => (some t998)
set_option maxHeartbeats 8000000 in
set_option maxRecDepth 100000 in
theorem impl_minus.calls (a0 : Int) (r : Int) (w : World) (h : impl_minus.f a0 = some r) :
  Calls Try.prog 109 #[.int .i64 a0] w fun e w' => e = .returned (.int .i64 r) ∧ Drawn0 w w' := by
 have H : ((impl_element.f (wrap64 (-(Int.tmod a0 3))) (wrap64 (-(wrap64 (Int.tdiv a0 3))))).bind fun t998 => (some t998)) = some r := h
 clear h
 replace H := Option.bind_eq_some_iff.mp H
 obtain ⟨t998, A20, H⟩ := H
 replace H : (some t998) = some r := H
 have A2 := Aside0.mk A20
 clear A20
 obtain rfl := Option.some.inj H
 go_enter Try.func109, Try.ntmps109
 go_wp2_with (first | (refine goesL_ (some 9) rfl rfl Try.func114 (by kernel_rfl) rfl #[.int .i64 (wrap64 (-(Int.tmod a0 3))), .int .i64 (wrap64 (-(wrap64 (Int.tdiv a0 3))))] rfl ll_ ?_; (with_reducible refine (impl_element.calls (wrap64 (-(Int.tmod a0 3))) (wrap64 (-(wrap64 (Int.tdiv a0 3)))) t998 _ A2.out).mono ?_); rintro e w' ⟨rfl, ⟨nd, rfl⟩⟩; refine ⟨_, rfl, ?_⟩))
 go_ret
 exact ⟨by first | rfl | (simp; done) | (simp [*]; done), by repeat (first | exact Drawn0.refl _ | apply Drawn0.step)⟩
end Go.Proofs.Ytbfafjejmljcpaa.P

namespace Go.Proofs.Ytbfafjejmljcpaa.P
open Go.RowKit Go.Proofs.YtbfafjejmljcpaaW.PrintWords Go.Proofs.YtbfafjejmljcpaaW.PrintLast
set_option linter.unusedVariables false
set_option linter.unusedSimpArgs false

def impl_isNine.f (a0 : Int) : Option (Bool) := if a0 ≥ 0 then (some (decide (a0 < 9))) else (some false)
set_option maxHeartbeats 8000000 in
set_option maxRecDepth 100000 in
theorem impl_isNine.calls (a0 : Int) (r : Bool) (w : World) (h : impl_isNine.f a0 = some r) :
  Calls Try.prog 142 #[.int .i64 a0] w fun e w' => e = .returned (.bool r) ∧ Drawn0 w w' := by
 have H : (if a0 ≥ 0 then (some (decide (a0 < 9))) else (some false)) = some r := h
 clear h
 by_cases c2 : a0 ≥ 0
 ·rw [if_pos c2] at H
  have c2b0 : decide (0 ≤ a0) = true := decide_eq_true c2
  clear c2
  obtain rfl := Option.some.inj H
  go_enter Try.func142, Try.ntmps142
  go_wp2
  go_ret
  exact ⟨by first | rfl | (simp; done) | (simp [*]; done), by repeat (first | exact Drawn0.refl _ | apply Drawn0.step)⟩
 ·rw [if_neg c2] at H
  have c2b0 : decide (0 ≤ a0) = false := decide_eq_false c2
  clear c2
  obtain rfl := Option.some.inj H
  go_enter Try.func142, Try.ntmps142
  go_wp2
  go_ret
  exact ⟨by first | rfl | (simp; done) | (simp [*]; done), by repeat (first | exact Drawn0.refl _ | apply Drawn0.step)⟩
end Go.Proofs.Ytbfafjejmljcpaa.P

set_option linter.unusedVariables false
set_option linter.unusedSimpArgs false
namespace Go.Proofs.Ytbfafjejmljcpaa.X
open Go.RowKit Go.Proofs.YtbfafjejmljcpaaW.PrintWords Go.Proofs.YtbfafjejmljcpaaW.PrintLast Go.Proofs.Ytbfafjejmljcpaa.P

theorem impl_add_eq (a b : Int) (ha : In9 a) (hb : In9 b) : impl_add.f a b = some (addN a b) :=
  nine2 (P := fun a b => impl_add.f a b = some (addN a b)) (by decide +kernel) a b ha.1 ha.2 hb.1 hb.2
theorem impl_minus_eq (a : Int) (ha : In9 a) : impl_minus.f a = some (minusN a) :=
  nine1 (P := fun a => impl_minus.f a = some (minusN a)) (by decide +kernel) a ha.1 ha.2
theorem add_calls (a b : Int) (ha : In9 a) (hb : In9 b) (w : World) : Calls Try.prog 97 #[.int .i64 a, .int .i64 b] w fun e w' => e = .returned (.int .i64 (addN a b)) ∧ Drawn0 w w' := impl_add.calls a b _ w (impl_add_eq a b ha hb)
theorem minus_calls (a : Int) (ha : In9 a) (w : World) : Calls Try.prog 109 #[.int .i64 a] w fun e w' => e = .returned (.int .i64 (minusN a)) ∧ Drawn0 w w' := impl_minus.calls a _ w (impl_minus_eq a ha)
theorem qd {P : Program} {f : FuncId} {args : Array Value} {w : World} {n : Nat} {v : Value} (h : Calls P f args (w.drewN n) fun e w' => e = .returned v ∧ Drawn0 (w.drewN n) w') :
    Calls P f args (w.drewN n) fun e w'' => e = .returned v ∧ ∃ m, w'' = w.drewN m :=
  h.mono fun _ _ ⟨he, hd⟩ => ⟨he, by obtain ⟨m, hm⟩ := hd.out; exact ⟨n + m, by rw [hm, World.drewN_drewN]⟩⟩
structure BoxT (w : World) (b : Nat) (A0 : Option Addr) (c0 : Nat) (t : List Int) : Prop where
  cell : w.cell? ⟨b, 0, none⟩ = some (.slice A0 t.length c0)
  read : Kd.C (Kd.int .i64) w A0 t.length t
theorem BoxT.below {w W : World} {b : Nat} {A0 : Option Addr} {c0 : Nat} {t : List Int} (h : BoxT w b A0 c0 t) (hb : Below w.heap.size w W) : BoxT W b A0 c0 t :=
  ⟨(hb.cell (World.block_lt_of_cell? w _ h.cell)).trans h.cell, Kd.C_below h.read hb⟩
theorem BoxT.at {w : World} {b : Nat} {ad : Addr} {c0 : Nat} {t : List Int} (h : BoxT w b (some ad) c0 t) (i : Int) (h0 : 0 ≤ i) (h1 : i < t.length) : w.cell? (ad.add i.toNat) = some (.int .i64 (rd t i)) := by
  obtain ⟨ad', e, hc⟩ := Kd.at_int h.read i h0 h1
  cases e; exact hc
theorem BoxT.some {w : World} {b : Nat} {A0 : Option Addr} {c0 : Nat} {t : List Int} (h : BoxT w b A0 c0 t) (hl : 0 < t.length) : ∃ ad, A0 = some ad := by
  obtain ⟨ad', e, hc⟩ := Kd.at_int h.read 0 (by omega) (by omega)
  exact ⟨ad', e⟩
set_option maxHeartbeats 2000000 in
theorem isSystem1_calls (b : Nat) (A0 : Option Addr) (c0 : Nat) (t : List Int) (w : World) (hb : BoxT w b A0 c0 t) (hn : ninesB t 81 = true) (x y z : Int) (hx : In9 x) (hy : In9 y) (hz : In9 z) :
    Calls Try.prog 106 #[.int .i64 x, .int .i64 y, .int .i64 z, .pointer (some ⟨b, 0, none⟩)] w fun e w' => e = .returned (.bool (decide (rd t (9 * addN x y + z) = addN (rd t (9 * x + z)) (rd t (9 * y + z))))) ∧ Below w.heap.size w w' := by
  obtain ⟨hl, _⟩ := ninesB_iff.1 hn
  obtain ⟨ad, rfl⟩ := hb.some (by omega)
  obtain ⟨r0, r1⟩ := addN_range x y
  obtain ⟨x0, x1⟩ := hx
  obtain ⟨y0, y1⟩ := hy
  obtain ⟨z0, z1⟩ := hz
  have hc := hb.cell
  have q1 := nines_rd hn (i := 9 * x + z) (by omega) (by omega)
  have q2 := nines_rd hn (i := 9 * y + z) (by omega) (by omega)
  have C1 := Aside0.mk (add_calls x y ⟨x0, x1⟩ ⟨y0, y1⟩)
  have C2 := Aside0.mk (add_calls (rd t (9 * x + z)) (rd t (9 * y + z)) q1 q2)
  obtain ⟨s, hs⟩ : ∃ s, addN x y = s := ⟨_, rfl⟩
  rw [hs] at C1 r0 r1 ⊢
  clear hs
  have g1 := hb.at (9 * x + z) (by omega) (by omega)
  have g2 := hb.at (9 * y + z) (by omega) (by omega)
  have g3 := hb.at (9 * s + z) (by omega) (by omega)
  clear hb hn
  go_enter Try.func106, Try.ntmps106
  go_wp2
  go_quiet ((first | (go_at_call 97; with_reducible exact qd (C1.out _)) | (go_at_call 97; with_reducible exact qd (C2.out _))))
  go_wp2
  go_ret
  exact ⟨rfl, Drawn0.below ⟨⟨_, rfl⟩⟩⟩
set_option maxHeartbeats 2000000 in
theorem isSystem2_calls (b bc bd : Nat) (A0 : Option Addr) (c0 : Nat) (t : List Int) (w : World) (hb : BoxT w b A0 c0 t) (hn : ninesB t 81 = true) (c d : Int) (hC : In9 c) (hD : In9 d)
    (hc : w.cell? ⟨bc, 0, none⟩ = some (.int .i64 c)) (hd : w.cell? ⟨bd, 0, none⟩ = some (.int .i64 d)) (x : Int) (hx : In9 x) :
    Calls Try.prog 108 #[.int .i64 x, .pointer (some ⟨b, 0, none⟩), .pointer (some ⟨bc, 0, none⟩), .pointer (some ⟨bd, 0, none⟩)] w fun e w' => e = .returned (.int .i64 (addN (rd t (9 * x + c)) (minusN (rd t (9 * x + d))))) ∧ Below w.heap.size w w' := by
  obtain ⟨hl, _⟩ := ninesB_iff.1 hn
  obtain ⟨ad, rfl⟩ := hb.some (by omega)
  obtain ⟨x0, x1⟩ := hx
  obtain ⟨c1, c2⟩ := hC
  obtain ⟨d1, d2⟩ := hD
  have hcc := hb.cell
  have q1 := nines_rd hn (i := 9 * x + c) (by omega) (by omega)
  have q2 := nines_rd hn (i := 9 * x + d) (by omega) (by omega)
  have C1 := Aside0.mk (minus_calls (rd t (9 * x + d)) q2)
  have C2 := Aside0.mk (add_calls (rd t (9 * x + c)) (minusN (rd t (9 * x + d))) q1 (minusN_range _))
  have g1 := hb.at (9 * x + c) (by omega) (by omega)
  have g2 := hb.at (9 * x + d) (by omega) (by omega)
  clear hb hn q1 q2
  go_enter Try.func108, Try.ntmps108
  go_wp2
  go_quiet ((first | (go_at_call 109; with_reducible exact qd (C1.out _)) | (go_at_call 97; with_reducible exact qd (C2.out _))))
  go_wp2
  go_ret
  exact ⟨rfl, Drawn0.below ⟨⟨_, rfl⟩⟩⟩
theorem any_not (l : List Int) : (l.any fun x => !isN x) = !l.all isN := by
  induction l with
  | nil => rfl
  | cons a l ih => rw [List.any_cons, List.all_cons, ih, Bool.not_and]
theorem impl_isNine_eq (a : Int) : impl_isNine.f a = some (isN a) := by
  unfold impl_isNine.f isN
  by_cases h : a ≥ 0
  · rw [if_pos h]; simp [h]
  · rw [if_neg h]; simp [h]
theorem isNine_calls (a : Int) (w : World) : Calls Try.prog 142 #[.int .i64 a] w fun e w' => e = .returned (.bool (isN a)) ∧ Drawn0 w w' := impl_isNine.calls a _ w (impl_isNine_eq a)
set_option maxHeartbeats 1000000 in
theorem areNines1_calls (a : Int) (w : World) : Calls Try.prog 141 #[.int .i64 a] w fun e w' => e = .returned (.bool (!isN a)) ∧ Below w.heap.size w w' := by
  have C1 := Aside0.mk (isNine_calls a)
  obtain ⟨v, hv⟩ : ∃ v, isN a = v := ⟨_, rfl⟩
  rw [hv] at C1 ⊢
  clear hv
  go_enter Try.func141, Try.ntmps141
  go_wp2_with (go_at_call 142; refine (C1.out _).mono ?_; rintro e w' ⟨rfl, ⟨nd, rfl⟩⟩)
  go_ret
  exact ⟨rfl, Drawn0.below ⟨⟨_, rfl⟩⟩⟩
theorem enters1 : Eg 141 := enters_of Try.func141 (by kernel_rfl) rfl
set_option maxHeartbeats 1000000 in
theorem areNines_calls (A0 : Option Addr) (c0 : Nat) (l : List Int) (n : Int) (w : World) (hr : Kd.C (Kd.int .i64) w A0 l.length l) :
    Calls Try.prog 104 #[.slice A0 l.length c0, .int .i64 n] w fun e w' => e = .returned (.bool (decide ((l.length : Int) = n) && l.all isN)) ∧ Below w.heap.size w w' := by
  have HC := Aside0.mk (containsFunc_calls 141 #[] enters1 (fun x => !isN x) A0 c0 l w hr (fun W x _ _ => areNines1_calls x W))
  have e1 : (l.any fun x => !isN x) = !l.all isN := any_not l
  rw [e1] at HC
  clear e1 hr
  obtain ⟨v, hv⟩ : ∃ v, l.all isN = v := ⟨_, rfl⟩
  rw [hv] at HC ⊢
  clear hv
  by_cases h : (l.length : Int) = n
  · have h1 : ((l.length : Int) == n) = true := beq_iff_eq.2 h
    rw [decide_eq_true h]
    clear h
    go_enter Try.func104, Try.ntmps104
    go_wp2_with (go_at_call 88; refine HC.out.mono ?_; rintro e w' ⟨rfl, hb⟩)
    go_ret
    exact ⟨by cases v <;> rfl, hb⟩
  · have h1 : ((l.length : Int) == n) = false := beq_eq_false_iff_ne.2 h
    rw [decide_eq_false h]
    clear h
    go_enter Try.func104, Try.ntmps104
    go_wp2
    go_ret
    exact ⟨rfl, Below.refl _ _⟩
end Go.Proofs.Ytbfafjejmljcpaa.X

namespace Go.Proofs.Ytbfafjejmljcpaa.P
open Go.RowKit Go.Proofs.YtbfafjejmljcpaaW.PrintWords Go.Proofs.YtbfafjejmljcpaaW.PrintLast
set_option linter.unusedVariables false
set_option linter.unusedSimpArgs false

def spec_l1Add.f (a0 : Int) (a1 : Int) : Option (Int) := some (wrap64 ((Int.tmod (wrap64 ((Int.tmod a0 3) + (Int.tmod a1 3))) 3) + (wrap64 ((Int.tmod (wrap64 ((wrap64 (Int.tdiv a0 3)) + (wrap64 (Int.tdiv a1 3)))) 3) * 3))))
set_option maxHeartbeats 8000000 in
set_option maxRecDepth 100000 in
theorem spec_l1Add.calls (a0 : Int) (a1 : Int) (r : Int) (w : World) (h : spec_l1Add.f a0 a1 = some r) :
  Calls Try.prog 95 #[.int .i64 a0, .int .i64 a1] w fun e w' => e = .returned (.int .i64 r) ∧ Drawn0 w w' := by
 have H : (some (wrap64 ((Int.tmod (wrap64 ((Int.tmod a0 3) + (Int.tmod a1 3))) 3) + (wrap64 ((Int.tmod (wrap64 ((wrap64 (Int.tdiv a0 3)) + (wrap64 (Int.tdiv a1 3)))) 3) * 3))))) = some r := h
 clear h
 obtain rfl := Option.some.inj H
 go_enter Try.func95, Try.ntmps95
 go_wp2
 go_ret
 exact ⟨by first | rfl | (simp; done) | (simp [*]; done), by repeat (first | exact Drawn0.refl _ | apply Drawn0.step)⟩
end Go.Proofs.Ytbfafjejmljcpaa.P

namespace Go.Proofs.Ytbfafjejmljcpaa.P
open Go.RowKit Go.Proofs.YtbfafjejmljcpaaW.PrintWords Go.Proofs.YtbfafjejmljcpaaW.PrintLast
set_option linter.unusedVariables false
set_option linter.unusedSimpArgs false

def spec_l1Minus.f (a0 : Int) : Option (Int) := some (wrap64 ((Int.tmod (wrap64 (3 - (Int.tmod a0 3))) 3) + (wrap64 ((Int.tmod (wrap64 (3 - (wrap64 (Int.tdiv a0 3)))) 3) * 3))))
set_option maxHeartbeats 8000000 in
set_option maxRecDepth 100000 in
theorem spec_l1Minus.calls (a0 : Int) (r : Int) (w : World) (h : spec_l1Minus.f a0 = some r) :
  Calls Try.prog 140 #[.int .i64 a0] w fun e w' => e = .returned (.int .i64 r) ∧ Drawn0 w w' := by
 have H : (some (wrap64 ((Int.tmod (wrap64 (3 - (Int.tmod a0 3))) 3) + (wrap64 ((Int.tmod (wrap64 (3 - (wrap64 (Int.tdiv a0 3)))) 3) * 3))))) = some r := h
 clear h
 obtain rfl := Option.some.inj H
 go_enter Try.func140, Try.ntmps140
 go_wp2
 go_ret
 exact ⟨by first | rfl | (simp; done) | (simp [*]; done), by repeat (first | exact Drawn0.refl _ | apply Drawn0.step)⟩
end Go.Proofs.Ytbfafjejmljcpaa.P

set_option linter.unusedVariables false
set_option linter.unusedSimpArgs false
namespace Go.Proofs.Ytbfafjejmljcpaa.X
open Go.RowKit Go.Proofs.YtbfafjejmljcpaaW.PrintWords Go.Proofs.YtbfafjejmljcpaaW.PrintLast Go.Proofs.Ytbfafjejmljcpaa.P

theorem qd' {P : Program} {f : FuncId} {args : Array Value} {w : World} {n : Nat} {v : Value} (h : Calls P f args (w.drewN n) fun e w' => e = .returned v ∧ Drawn0 (w.drewN n) w') :
    Calls P f args (w.drewN n) fun e w'' => e = .returned v ∧ ∃ m, w'' = w.drewN m :=
  h.mono fun _ _ ⟨he, hd⟩ => ⟨he, by obtain ⟨m, hm⟩ := hd.out; exact ⟨n + m, by rw [hm, World.drewN_drewN]⟩⟩
theorem spec_l1Add_eq (a b : Int) (ha : In9 a) (hb : In9 b) : spec_l1Add.f a b = some (addN a b) :=
  nine2 (P := fun a b => spec_l1Add.f a b = some (addN a b)) (by decide +kernel) a b ha.1 ha.2 hb.1 hb.2
theorem spec_l1Minus_eq (a : Int) (ha : In9 a) : spec_l1Minus.f a = some (minusN a) :=
  nine1 (P := fun a => spec_l1Minus.f a = some (minusN a)) (by decide +kernel) a ha.1 ha.2
theorem l1Add_calls (a b : Int) (ha : In9 a) (hb : In9 b) (w : World) : Calls Try.prog 95 #[.int .i64 a, .int .i64 b] w fun e w' => e = .returned (.int .i64 (addN a b)) ∧ Drawn0 w w' := spec_l1Add.calls a b _ w (spec_l1Add_eq a b ha hb)
theorem l1Minus_calls (a : Int) (ha : In9 a) (w : World) : Calls Try.prog 140 #[.int .i64 a] w fun e w' => e = .returned (.int .i64 (minusN a)) ∧ Drawn0 w w' := spec_l1Minus.calls a _ w (spec_l1Minus_eq a ha)
theorem tab_at {w : World} {ad : Addr} {t : List Int} {n : Nat} (h : Kd.C (Kd.int .i64) w (some ad) n t) (i : Int) (h0 : 0 ≤ i) (h1 : i < n) : w.cell? (ad.add i.toNat) = some (.int .i64 (rd t i)) := by
  obtain ⟨ad', e, hc⟩ := Kd.at_int h i h0 h1
  cases e; exact hc
theorem tab_some {w : World} {A0 : Option Addr} {t : List Int} {n : Nat} (h : Kd.C (Kd.int .i64) w A0 n t) (hl : 0 < n) : ∃ ad, A0 = some ad := by
  obtain ⟨ad', e, hc⟩ := Kd.at_int h 0 (by omega) (by omega)
  exact ⟨ad', e⟩
def shareB (t : List Int) (x y z : Int) : Bool := decide (rd t (9 * addN x y + z) = addN (rd t (9 * x + z)) (rd t (9 * y + z)))
theorem sharesB_all {t : List Int} (h : ∀ x y z : Int, In9 x → In9 y → In9 z → shareB t x y z = true) : sharesB t = true :=
  allI_int_iff.2 fun x x0 x1 => allI_int_iff.2 fun y y0 y1 => allI_int_iff.2 fun z z0 z1 => h x y z ⟨x0, x1⟩ ⟨y0, y1⟩ ⟨z0, z1⟩
theorem sharesB_hit {t : List Int} {x y z : Int} (hx : In9 x) (hy : In9 y) (hz : In9 z) (h : shareB t x y z = false) : sharesB t = false := all3_hit (p := shareB t) hx hy hz h
set_option maxRecDepth 100000 in
set_option maxHeartbeats 4000000 in
theorem l2Shares_calls (A0 : Option Addr) (c0 : Nat) (t : List Int) (w : World) (hr : Kd.C (Kd.int .i64) w A0 t.length t) (hn : ninesB t 81 = true) :
    Calls Try.prog 102 #[.slice A0 t.length c0] w fun e w' => e = .returned (.bool (sharesB t)) ∧ Drawn0 w w' := by
  obtain ⟨hl, _⟩ := ninesB_iff.1 hn
  obtain ⟨ad, rfl⟩ := tab_some hr (by omega)
  have HT := Aside0.mk hr
  have HN := Aside0.mk hn
  have hlen : 81 ≤ t.length := by omega
  clear hr hn hl
  go_enter Try.func102, Try.ntmps102
  go_wp2
  go_loopg [3] 9 (fun kq v3 w' => ∃ a : Int, v3 = .int .i64 a ∧ Aside0 (0 ≤ a ∧ a ≤ 9) ∧ Aside0 ((9 : Int) - a ≤ kq) ∧ Aside0 (∀ x y z : Int, 0 ≤ x → x < a → In9 y → In9 z → shareB t x y z = true) ∧ Aside0 (Drawn0 w w'))
  case atStart => exact ⟨0, rfl, ⟨by omega⟩, ⟨by omega⟩, ⟨fun x y z h0 h1 => by omega⟩, ⟨Drawn0.refl _⟩⟩
  case round =>
    obtain ⟨a, rfl, HI, HK, HA, HD⟩ := hrel
    have h0 : 0 ≤ a := HI.out.1
    by_cases c6 : a < 9
    · go_wp2
      go_loopg [4] 9 (fun kq v4 w' => ∃ b : Int, v4 = .int .i64 b ∧ Aside0 (0 ≤ b ∧ b ≤ 9) ∧ Aside0 ((9 : Int) - b ≤ kq) ∧ Aside0 (∀ y z : Int, 0 ≤ y → y < b → In9 z → shareB t a y z = true) ∧ Aside0 (Drawn0 w w'))
      case atStart => exact ⟨0, rfl, ⟨by omega⟩, ⟨by omega⟩, ⟨fun y z h0 h1 => by omega⟩, HD⟩
      case round =>
        clear HD
        obtain ⟨b, rfl, HI2, HK2, HA2, HD⟩ := hrel
        have h02 : 0 ≤ b := HI2.out.1
        by_cases c7 : b < 9
        · go_wp2
          go_loopg [5] 9 (fun kq v5 w' => ∃ c : Int, v5 = .int .i64 c ∧ Aside0 (0 ≤ c ∧ c ≤ 9) ∧ Aside0 ((9 : Int) - c ≤ kq) ∧ Aside0 (∀ z : Int, 0 ≤ z → z < c → shareB t a b z = true) ∧ Aside0 (Drawn0 w w'))
          case atStart => exact ⟨0, rfl, ⟨by omega⟩, ⟨by omega⟩, ⟨fun z h0 h1 => by omega⟩, HD⟩
          case round =>
            clear HD
            obtain ⟨c, rfl, HI3, HK3, HA3, HD⟩ := hrel
            have h03 : 0 ≤ c := HI3.out.1
            by_cases c8 : c < 9
            · have HTw := Kd.C_below HT.out HD.out.below
              have q1 := nines_rd HN.out (i := 9 * a + c) (by omega) (by omega)
              have q2 := nines_rd HN.out (i := 9 * b + c) (by omega) (by omega)
              have r01 := addN_range a b
              have hs : shareB t a b c = decide (rd t (9 * addN a b + c) = addN (rd t (9 * a + c)) (rd t (9 * b + c))) := rfl
              have C1 := Aside0.mk (l1Add_calls a b ⟨h0, c6⟩ ⟨h02, c7⟩)
              have C2 := Aside0.mk (l1Add_calls (rd t (9 * a + c)) (rd t (9 * b + c)) q1 q2)
              obtain ⟨s, hs1⟩ : ∃ s, addN a b = s := ⟨_, rfl⟩
              rw [hs1] at C1 r01 hs
              clear hs1
              obtain ⟨r0, r1⟩ := r01
              have g1 := tab_at HTw (9 * a + c) (by omega) (by omega)
              have g2 := tab_at HTw (9 * b + c) (by omega) (by omega)
              have g3 := tab_at HTw (9 * s + c) (by omega) (by omega)
              obtain ⟨v1, hv1⟩ : ∃ v, rd t (9 * a + c) = v := ⟨_, rfl⟩
              obtain ⟨v2, hv2⟩ : ∃ v, rd t (9 * b + c) = v := ⟨_, rfl⟩
              obtain ⟨v3, hv3⟩ : ∃ v, rd t (9 * s + c) = v := ⟨_, rfl⟩
              rw [hv1] at g1 hs C2
              rw [hv2] at g2 hs C2
              rw [hv3] at g3 hs
              obtain ⟨v4, hv4⟩ : ∃ v, addN v1 v2 = v := ⟨_, rfl⟩
              rw [hv4] at hs C2
              have HS := Aside0.mk hs
              clear hs hv1 hv2 hv3 hv4 q1 q2 HTw
              by_cases he : v3 = v4
              · have he1 : (v3 == v4) = true := beq_iff_eq.2 he
                have he2 : (v3 != v4) = false := by rw [bne, he1]; rfl
                have HP := Aside0.mk (show shareB t a b c = true by rw [HS.out, decide_eq_true he])
                clear he
                go_wp2
                go_quiet ((first | (go_at_call 95; with_reducible exact qd' (C1.out _)) | (go_at_call 95; with_reducible exact qd' (C2.out _))))
                go_wp2
                go_roundg (9 - (c.toNat + 1))
                case measure => have := HK3.out; omega
                case rel =>
                  refine ⟨c + 1, rfl, ⟨by omega⟩, ⟨by omega⟩, ⟨fun z hz0 hz1 => ?_⟩, ⟨HD.out.step _⟩⟩
                  by_cases e : z = c
                  · rw [e]; exact HP.out
                  · exact HA3.out z hz0 (by omega)
              · have he1 : (v3 == v4) = false := beq_eq_false_iff_ne.2 he
                have he2 : (v3 != v4) = true := by rw [bne, he1]; rfl
                have HP := Aside0.mk (show shareB t a b c = false by rw [HS.out, decide_eq_false he])
                clear he
                go_wp2
                go_quiet ((first | (go_at_call 95; with_reducible exact qd' (C1.out _)) | (go_at_call 95; with_reducible exact qd' (C2.out _))))
                go_wp2
                go_ret
                exact ⟨by rw [sharesB_hit ⟨h0, c6⟩ ⟨h02, c7⟩ ⟨h03, c8⟩ HP.out]; rfl, HD.out.step _⟩
            · go_wp2
              go_roundg (9 - (b.toNat + 1))
              case measure => have := HK2.out; omega
              case rel =>
                refine ⟨b + 1, rfl, ⟨by omega⟩, ⟨by omega⟩, ⟨fun y z hy0 hy1 hz => ?_⟩, HD⟩
                by_cases e : y = b
                · rw [e]; exact HA3.out z hz.1 (by have := hz.2; have := HI3.out; omega)
                · exact HA2.out y z hy0 (by omega) hz
        · go_wp2
          go_roundg (9 - (a.toNat + 1))
          case measure => have := HK.out; omega
          case rel =>
            refine ⟨a + 1, rfl, ⟨by omega⟩, ⟨by omega⟩, ⟨fun x y z hx0 hx1 hy hz => ?_⟩, HD⟩
            by_cases e : x = a
            · rw [e]; exact HA2.out y z hy.1 (by have := hy.2; have := HI2.out; omega) hz
            · exact HA.out x y z hx0 (by omega) hy hz
    · go_wp2
      go_ret
      have hall : sharesB t = true := sharesB_all fun x y z hx hy hz => HA.out x y z hx.1 (by have := HI.out; have := hx.2; omega) hy hz
      exact ⟨by rw [hall]; rfl, HD.out⟩
theorem gapsB_of {t : List Int} {c d : Int} (h : ∀ x y : Int, 0 ≤ x → x < y → y < 9 → addN (rd t (9 * x + c)) (minusN (rd t (9 * x + d))) ≠ addN (rd t (9 * y + c)) (minusN (rd t (9 * y + d)))) : gapsB t c d = true :=
  onceB_iff.2 fun x y hxy hy => h x y (by omega) (by omega) (by omega)
set_option maxRecDepth 100000 in
set_option maxHeartbeats 4000000 in
theorem l2Solves_calls (A0 : Option Addr) (c0 : Nat) (t : List Int) (c d : Int) (w : World) (hr : Kd.C (Kd.int .i64) w A0 t.length t) (hn : ninesB t 81 = true) (hc : In9 c) (hd : In9 d) :
    Calls Try.prog 103 #[.slice A0 t.length c0, .int .i64 c, .int .i64 d] w fun e w' => e = .returned (.bool (gapsB t c d)) ∧ Below w.heap.size w w' := by
  obtain ⟨hl, _⟩ := ninesB_iff.1 hn
  obtain ⟨ad, rfl⟩ := tab_some hr (by omega)
  obtain ⟨c1, c2⟩ := hc
  obtain ⟨d1, d2⟩ := hd
  have HT := Aside0.mk hr
  have HN := Aside0.mk hn
  have hlen : 81 ≤ t.length := by omega
  have HS := Aside0.mk (Arr.alloc w 4 9 (fun _ => false))
  have hmk : ∀ w, (Instr.makeSlice 52 (.int .i64 9) (.int .i64 9)).run Try.prog w = .ok (.slice (some ⟨w.heap.size, 0, none⟩) 9 9) (w.alloc (.cells #[.bool false, .bool false, .bool false, .bool false, .bool false, .bool false, .bool false, .bool false, .bool false] 4)) := fun _ => by kernel_rfl
  obtain ⟨p, hp⟩ : ∃ p : Int → Int, p = fun x => addN (rd t (9 * x + c)) (minusN (rd t (9 * x + d))) := ⟨_, rfl⟩
  have HP := Aside0.mk hp
  clear hr hn hl hp
  go_enter Try.func103, Try.ntmps103
  go_wp2
  go_loopg [8] 9 (fun kq v8 w' => ∃ i : Int, v8 = .int .i64 i ∧ Aside0 (0 ≤ i ∧ i ≤ 9) ∧ Aside0 ((9 : Int) - i ≤ kq) ∧ Aside0 (∀ x y : Int, 0 ≤ x → x < y → y < i → p x ≠ p y) ∧ Aside0 (Arr w' w.heap.size 4 9 (seenO p i)) ∧ Aside0 (Below w.heap.size w w'))
  case atStart => exact ⟨0, rfl, ⟨by omega⟩, ⟨by omega⟩, ⟨fun x y h0 h1 => by omega⟩, ⟨HS.out.congr (fun j hj => rfl)⟩, ⟨(Below.refl _ _).alloc (Nat.le_refl _) _⟩⟩
  case round =>
    clear HS
    obtain ⟨i, rfl, HI, HK, HA, HS, HB⟩ := hrel
    have h0 : 0 ≤ i := HI.out.1
    by_cases c6 : i < 9
    · have HTw := Kd.C_below HT.out HB.out
      have q1 := nines_rd HN.out (i := 9 * i + c) (by omega) (by omega)
      have q2 := nines_rd HN.out (i := 9 * i + d) (by omega) (by omega)
      have g1 := tab_at HTw (9 * i + c) (by omega) (by omega)
      have g2 := tab_at HTw (9 * i + d) (by omega) (by omega)
      have hv : p i = addN (rd t (9 * i + c)) (minusN (rd t (9 * i + d))) := by rw [HP.out]
      have C1 := Aside0.mk (l1Minus_calls (rd t (9 * i + d)) q2)
      have C2 := Aside0.mk (l1Add_calls (rd t (9 * i + c)) (minusN (rd t (9 * i + d))) q1 (minusN_range _))
      have r01 := addN_range (rd t (9 * i + c)) (minusN (rd t (9 * i + d)))
      obtain ⟨v, hv1⟩ : ∃ v, addN (rd t (9 * i + c)) (minusN (rd t (9 * i + d))) = v := ⟨_, rfl⟩
      rw [hv1] at C2 r01 hv
      obtain ⟨r0, r1⟩ := r01
      have HV := Aside0.mk hv
      clear hv hv1 q1 q2 HTw
      have hcl := HS.out.cell v.toNat (by omega)
      have hf := HS.out.frozen v.toNat
      by_cases hs : seenO p i v.toNat = true
      · rw [hs] at hcl
        have HF := Aside0.mk hs
        clear hs
        go_wp2
        go_quiet ((first | (go_at_call 140; with_reducible exact qd' (C1.out _)) | (go_at_call 95; with_reducible exact qd' (C2.out _))))
        go_wp2
        go_ret
        have : gapsB t c d = false := by
          have h := HF.out
          unfold seenO at h
          obtain ⟨x, hx, hpx⟩ := List.any_eq_true.1 h
          have hx := List.mem_range.1 hx
          have hpx := of_decide_eq_true hpx
          have := onceB_hit (p := p) x i (by omega) (by omega) c6 (by rw [hpx, HV.out]; omega)
          rw [HP.out] at this
          exact this
        exact ⟨by rw [this]; rfl, HB.out.trans (Below.mono (Drawn0.below ⟨⟨_, rfl⟩⟩) HB.out.size)⟩
      · have hs := Bool.eq_false_iff.2 hs
        rw [hs] at hcl
        have HF := Aside0.mk hs
        have HS6 := Aside0.mk (fun n : Nat => (HS.out.below (Drawn0.below (w' := wr.drewN n) ⟨⟨n, rfl⟩⟩)).set v.toNat true)
        have HB2 := Aside0.mk (fun n : Nat => (bstep HB.out (Drawn0.below (w' := wr.drewN n) ⟨⟨n, rfl⟩⟩)).setCell (p := ⟨w.heap.size, v.toNat, none⟩) (Nat.le_refl _) (.bool true))
        clear hs
        go_wp2
        go_quiet ((first | (go_at_call 140; with_reducible exact qd' (C1.out _)) | (go_at_call 95; with_reducible exact qd' (C2.out _))))
        go_wp2
        go_roundg (9 - (i.toNat + 1))
        case measure => have := HK.out; omega
        case rel =>
          refine ⟨i + 1, rfl, ⟨by omega⟩, ⟨by omega⟩, ⟨fun x y hx hxy hy => ?_⟩, ⟨(HS6.out nq).congr (fun j hj => ?_)⟩, ⟨HB2.out nq⟩⟩
          · by_cases e : y = i
            · subst e
              intro hxe
              have h := HF.out
              unfold seenO at h
              have := List.any_eq_false.1 h x.toNat (List.mem_range.2 (by omega))
              rw [Int.toNat_of_nonneg hx, hxe, HV.out] at this
              exact this (decide_eq_true (by omega))
            · exact HA.out x y hx hxy (by omega)
          · rw [seenO_succ p i h0 j, HV.out]
            by_cases e : j = v.toNat
            · subst e; rw [if_pos rfl, decide_eq_true (by omega), Bool.or_true]
            · rw [if_neg e, decide_eq_false (by omega), Bool.or_false]
    · go_wp2
      go_ret
      have hall : gapsB t c d = true := by
        refine gapsB_of fun x y hx hxy hy => ?_
        have := HA.out x y hx hxy (by have := HI.out; omega)
        rwa [HP.out] at this
      exact ⟨by rw [hall]; rfl, HB.out⟩
end Go.Proofs.Ytbfafjejmljcpaa.X
namespace Go.Proofs.Ytbfafjejmljcpaa.P
open Go.RowKit Go.Proofs.YtbfafjejmljcpaaW.PrintWords Go.Proofs.YtbfafjejmljcpaaW.PrintLast
def spec_l2Shares.f (l0 : List Int) : Option Bool := if X.ninesB l0 81 = true then some (X.sharesB l0) else none
theorem spec_l2Shares.calls (A0 : Option Addr) (c0 : Nat) (l0 : List Int) (r : Bool) (w : World) (hr0 : Kd.C (Kd.int .i64) w A0 l0.length l0) (hc0 : l0.length ≤ c0) (h : spec_l2Shares.f l0 = some r) :
    Calls Try.prog 102 #[.slice A0 l0.length c0] w fun e w' => e = .returned (.bool r) ∧ Drawn0 w w' := by
  unfold spec_l2Shares.f at h
  by_cases hn : X.ninesB l0 81 = true
  · rw [if_pos hn] at h
    obtain rfl := Option.some.inj h
    exact X.l2Shares_calls A0 c0 l0 w hr0 hn
  · rw [if_neg hn] at h; exact absurd h (by simp)
def spec_l2Solves.f (l0 : List Int) (a1 a2 : Int) : Option Bool := if X.ninesB l0 81 = true ∧ (0 ≤ a1 ∧ a1 < 9) ∧ (0 ≤ a2 ∧ a2 < 9) then some (X.gapsB l0 a1 a2) else none
theorem spec_l2Solves.calls (A0 : Option Addr) (c0 : Nat) (l0 : List Int) (a1 a2 : Int) (r : Bool) (w : World) (hr0 : Kd.C (Kd.int .i64) w A0 l0.length l0) (hc0 : l0.length ≤ c0) (h : spec_l2Solves.f l0 a1 a2 = some r) :
    Calls Try.prog 103 #[.slice A0 l0.length c0, .int .i64 a1, .int .i64 a2] w fun e w' => e = .returned (.bool r) ∧ Below w.heap.size w w' := by
  unfold spec_l2Solves.f at h
  by_cases hn : X.ninesB l0 81 = true ∧ (0 ≤ a1 ∧ a1 < 9) ∧ (0 ≤ a2 ∧ a2 < 9)
  · rw [if_pos hn] at h
    obtain rfl := Option.some.inj h
    exact X.l2Solves_calls A0 c0 l0 a1 a2 w hr0 hn.1 hn.2.1 hn.2.2
  · rw [if_neg hn] at h; exact absurd h (by simp)
end Go.Proofs.Ytbfafjejmljcpaa.P

namespace Go.Proofs.Ytbfafjejmljcpaa.P
open Go.RowKit Go.Proofs.YtbfafjejmljcpaaW.PrintWords Go.Proofs.YtbfafjejmljcpaaW.PrintLast
set_option linter.unusedVariables false
set_option linter.unusedSimpArgs false

def spec_l6In.f (a0 : Int) (a1 : Int) (a2 : Int) : Option (Bool) := if a0 ≥ a1 then (some (decide (a0 ≤ a2))) else (some false)
set_option maxHeartbeats 8000000 in
set_option maxRecDepth 100000 in
theorem spec_l6In.calls (a0 : Int) (a1 : Int) (a2 : Int) (r : Bool) (w : World) (h : spec_l6In.f a0 a1 a2 = some r) :
  Calls Try.prog 57 #[.int .i64 a0, .int .i64 a1, .int .i64 a2] w fun e w' => e = .returned (.bool r) ∧ Drawn0 w w' := by
 have H : (if a0 ≥ a1 then (some (decide (a0 ≤ a2))) else (some false)) = some r := h
 clear h
 by_cases c4 : a0 ≥ a1
 ·rw [if_pos c4] at H
  have c4b0 : decide (a1 ≤ a0) = true := decide_eq_true c4
  clear c4
  obtain rfl := Option.some.inj H
  go_enter Try.func57, Try.ntmps57
  go_wp2
  go_ret
  exact ⟨by first | rfl | (simp; done) | (simp [*]; done), by repeat (first | exact Drawn0.refl _ | apply Drawn0.step)⟩
 ·rw [if_neg c4] at H
  have c4b0 : decide (a1 ≤ a0) = false := decide_eq_false c4
  clear c4
  obtain rfl := Option.some.inj H
  go_enter Try.func57, Try.ntmps57
  go_wp2
  go_ret
  exact ⟨by first | rfl | (simp; done) | (simp [*]; done), by repeat (first | exact Drawn0.refl _ | apply Drawn0.step)⟩
end Go.Proofs.Ytbfafjejmljcpaa.P

namespace Go.Proofs.Ytbfafjejmljcpaa.P
open Go.RowKit Go.Proofs.YtbfafjejmljcpaaW.PrintWords Go.Proofs.YtbfafjejmljcpaaW.PrintLast
set_option linter.unusedVariables false
set_option linter.unusedSimpArgs false

def spec_l6lAdd.f (a0 : Int) (a1 : Int) : Option (Int) := (spec_l1Add.f (wrap64 (Int.tdiv a0 9)) (wrap64 (Int.tdiv a1 9))).bind fun t465 => ((spec_l1Add.f (Int.tmod a0 9) (Int.tmod a1 9)).bind fun t466 => (some (wrap64 ((wrap64 (9 * t465)) + t466))))
set_option maxHeartbeats 8000000 in
set_option maxRecDepth 100000 in
theorem spec_l6lAdd.calls (a0 : Int) (a1 : Int) (r : Int) (w : World) (h : spec_l6lAdd.f a0 a1 = some r) :
  Calls Try.prog 59 #[.int .i64 a0, .int .i64 a1] w fun e w' => e = .returned (.int .i64 r) ∧ Drawn0 w w' := by
 have H : ((spec_l1Add.f (wrap64 (Int.tdiv a0 9)) (wrap64 (Int.tdiv a1 9))).bind fun t465 => ((spec_l1Add.f (Int.tmod a0 9) (Int.tmod a1 9)).bind fun t466 => (some (wrap64 ((wrap64 (9 * t465)) + t466))))) = some r := h
 clear h
 replace H := Option.bind_eq_some_iff.mp H
 obtain ⟨t465, A30, H⟩ := H
 replace H : ((spec_l1Add.f (Int.tmod a0 9) (Int.tmod a1 9)).bind fun t466 => (some (wrap64 ((wrap64 (9 * t465)) + t466)))) = some r := H
 have A3 := Aside0.mk A30
 clear A30
 replace H := Option.bind_eq_some_iff.mp H
 obtain ⟨t466, A40, H⟩ := H
 replace H : (some (wrap64 ((wrap64 (9 * t465)) + t466))) = some r := H
 have A4 := Aside0.mk A40
 clear A40
 obtain rfl := Option.some.inj H
 go_enter Try.func59, Try.ntmps59
 go_wp2_with (first | (refine goesL_ (some 9) rfl rfl Try.func95 (by kernel_rfl) rfl #[.int .i64 (wrap64 (Int.tdiv a0 9)), .int .i64 (wrap64 (Int.tdiv a1 9))] rfl ll_ ?_; (with_reducible refine (spec_l1Add.calls (wrap64 (Int.tdiv a0 9)) (wrap64 (Int.tdiv a1 9)) t465 _ A3.out).mono ?_); rintro e w' ⟨rfl, ⟨nd, rfl⟩⟩; refine ⟨_, rfl, ?_⟩) | (refine goesL_ (some 15) rfl rfl Try.func95 (by kernel_rfl) rfl #[.int .i64 (Int.tmod a0 9), .int .i64 (Int.tmod a1 9)] rfl ll_ ?_; (with_reducible refine (spec_l1Add.calls (Int.tmod a0 9) (Int.tmod a1 9) t466 _ A4.out).mono ?_); rintro e w' ⟨rfl, ⟨nd, rfl⟩⟩; refine ⟨_, rfl, ?_⟩))
 go_ret
 exact ⟨by first | rfl | (simp; done) | (simp [*]; done), by repeat (first | exact Drawn0.refl _ | apply Drawn0.step)⟩
end Go.Proofs.Ytbfafjejmljcpaa.P

namespace Go.Proofs.Ytbfafjejmljcpaa.P
open Go.RowKit Go.Proofs.YtbfafjejmljcpaaW.PrintWords Go.Proofs.YtbfafjejmljcpaaW.PrintLast
set_option linter.unusedVariables false
set_option linter.unusedSimpArgs false

def spec_l6lHas.l0 : Nat → List Int → Int → Int → Option (Bool)
 | 0, _, _, _ => none
 | k + 1, x0, x1, x5 => if x5 < (x0.length : Int) then (if 0 ≤ x5 then (if (rd x0 x5) = x1 then (some true) else (spec_l6lHas.l0 k x0 x1 (wrap64 (x5 + 1)))) else (none)) else (some false)
def spec_l6lHas.f (k : Nat) (l0 : List Int) (a1 : Int) : Option (Bool) := spec_l6lHas.l0 k l0 a1 0
set_option maxHeartbeats 8000000 in
set_option maxRecDepth 100000 in
theorem spec_l6lHas.calls (k : Nat) (A0 : Option Addr) (c0 : Nat) (l0 : List Int) (a1 : Int) (r : Bool) (w : World) (hr0 : Kd.C (Kd.int .i64) w A0 l0.length l0) (hc0 : l0.length ≤ c0) (h : spec_l6lHas.f k l0 a1 = some r) :
  Calls Try.prog 58 #[.slice A0 l0.length c0, .int .i64 a1] w fun e w' => e = .returned (.bool r) ∧ Drawn0 w w' := by
 have HR0 := Aside0.mk hr0
 have HC0 := Aside0.mk hc0
 clear hr0 hc0
 have H : (spec_l6lHas.l0 k l0 a1 0) = some r := h
 clear h
 have H' := Aside0.mk H
 clear H
 go_enter Try.func58, Try.ntmps58
 go_wp2
 go_loopg [5] k (fun kq v5 w' => ∃ (x5_1 : Int), v5 = .int .i64 x5_1 ∧ Aside0 (spec_l6lHas.l0 kq l0 a1 x5_1 = some r) ∧ Aside0 (kq ≤ k) ∧ Drawn0 w w')
 case atStart => exact ⟨(0), (by first | rfl | (simp; done) | (simp [*]; done)), H', ⟨Nat.le_refl _⟩, by repeat (first | exact Drawn0.refl _ | apply Drawn0.step)⟩
 case round =>
  clear H'
  try clear p2
  obtain ⟨x5_1, rfl, HA, HK1, ⟨m1, rfl⟩⟩ := hrel
  cases gk with
  | zero => exact absurd HA.out (by simp [spec_l6lHas.l0])
  | succ k1 =>
   have H := HA.out
   clear HA
   simp only [spec_l6lHas.l0] at H
   by_cases c3 : x5_1 < (l0.length : Int)
   ·rw [if_pos c3] at H
    have c3b0 : decide (x5_1 < (l0.length : Int)) = true := decide_eq_true c3
    clear c3
    by_cases c4 : 0 ≤ x5_1
    ·rw [if_pos c4] at H
     have c4b0 : decide (0 ≤ x5_1) = true := decide_eq_true c4
     clear c4
     by_cases c5 : (rd l0 x5_1) = a1
     ·rw [if_pos c5] at H
      have c5b0 : ((rd l0 x5_1) == a1) = true := beq_iff_eq.mpr c5
      have c5b1 : ((rd l0 x5_1) != a1) = false := bne_eq_false_iff_eq.mpr c5
      clear c5
      obtain rfl := Option.some.inj H
      have p464 : 0 ≤ (x5_1 : Int) := dd_
      have q464 : x5_1 < (l0.length : Int) := dd_
      obtain ⟨ad464, e464, hx464_0⟩ := Kd.at_int HR0.out x5_1 p464 q464
      cases e464
      replace p464 := eq_true p464
      replace q464 := eq_true q464
      go_wp2
      go_ret
      exact ⟨by first | rfl | (simp; done) | (simp [*]; done), by repeat (first | exact Drawn0.refl _ | apply Drawn0.step)⟩
     ·rw [if_neg c5] at H
      have c5b0 : ((rd l0 x5_1) == a1) = false := beq_eq_false_iff_ne.mpr c5
      have c5b1 : ((rd l0 x5_1) != a1) = true := bne_iff_ne.mpr c5
      have H' := Aside0.mk H
      clear H
      have p464 : 0 ≤ (x5_1 : Int) := dd_
      have q464 : x5_1 < (l0.length : Int) := dd_
      obtain ⟨ad464, e464, hx464_0⟩ := Kd.at_int HR0.out x5_1 p464 q464
      cases e464
      replace p464 := eq_true p464
      replace q464 := eq_true q464
      go_wp2
      go_roundg k1
      case measure => have := HK1.out; omega
      case rel => exact ⟨(wrap64 (x5_1 + 1)), (by first | rfl | (simp; done) | (simp [*]; done)), H', ⟨by have := HK1.out; omega⟩, by repeat (first | exact Drawn0.refl _ | apply Drawn0.step)⟩
    ·rw [if_neg c4] at H
     exact absurd H (by simp)
   ·rw [if_neg c3] at H
    have c3b0 : decide (x5_1 < (l0.length : Int)) = false := decide_eq_false c3
    clear c3
    obtain rfl := Option.some.inj H
    go_wp2
    go_ret
    exact ⟨by first | rfl | (simp; done) | (simp [*]; done), by repeat (first | exact Drawn0.refl _ | apply Drawn0.step)⟩
end Go.Proofs.Ytbfafjejmljcpaa.P

namespace Go.Proofs.Ytbfafjejmljcpaa.P
open Go.RowKit Go.Proofs.YtbfafjejmljcpaaW.PrintWords Go.Proofs.YtbfafjejmljcpaaW.PrintLast
set_option linter.unusedVariables false
set_option linter.unusedSimpArgs false

mutual
def spec_LeafIn.l0 : Nat → List Int → Int → Option (Bool)
 | 0, _, _ => none
 | k + 1, x0, x3 => if x3 < 9 then (if 0 ≤ x3 then (if x3 < (x0.length : Int) then ((spec_l6In.f (rd x0 x3) 0 80).bind fun t468 => (if t468 = true then (if x3 > 0 then (if 0 ≤ (wrap64 (x3 - 1)) then (if (wrap64 (x3 - 1)) < (x0.length : Int) then (if (rd x0 x3) ≤ (rd x0 (wrap64 (x3 - 1))) then (some false) else (spec_LeafIn.l0 k x0 (wrap64 (x3 + 1)))) else (none)) else (none)) else (spec_LeafIn.l0 k x0 (wrap64 (x3 + 1)))) else (some false))) else (none)) else (none)) else (spec_LeafIn.l1 k x0 0)
def spec_LeafIn.l1 : Nat → List Int → Int → Option (Bool)
 | 0, _, _ => none
 | k + 1, x0, x4 => if x4 < 9 then (spec_LeafIn.l2 k x0 x4 0) else (some true)
def spec_LeafIn.l2 : Nat → List Int → Int → Int → Option (Bool)
 | 0, _, _, _ => none
 | k + 1, x0, x4, x5 => if x5 < 9 then (if 0 ≤ x4 then (if x4 < (x0.length : Int) then (if 0 ≤ x5 then (if x5 < (x0.length : Int) then ((spec_l6lAdd.f (rd x0 x4) (rd x0 x5)).bind fun t473 => ((spec_l6lHas.f k x0 t473).bind fun t474 => (if t474 = true then (spec_LeafIn.l2 k x0 x4 (wrap64 (x5 + 1))) else (some false)))) else (none)) else (none)) else (none)) else (none)) else (spec_LeafIn.l1 k x0 (wrap64 (x4 + 1)))
end
def spec_LeafIn.f (k : Nat) (l0 : List Int) : Option (Bool) := if (l0.length : Int) = 9 then (spec_LeafIn.l0 k l0 0) else (some false)
set_option maxHeartbeats 8000000 in
set_option maxRecDepth 100000 in
theorem spec_LeafIn.calls (k : Nat) (A0 : Option Addr) (c0 : Nat) (l0 : List Int) (r : Bool) (w : World) (hr0 : Kd.C (Kd.int .i64) w A0 l0.length l0) (hc0 : l0.length ≤ c0) (h : spec_LeafIn.f k l0 = some r) :
  Calls Try.prog 24 #[.slice A0 l0.length c0] w fun e w' => e = .returned (.bool r) ∧ Drawn0 w w' := by
 have HR0 := Aside0.mk hr0
 have HC0 := Aside0.mk hc0
 clear hr0 hc0
 have H : (if (l0.length : Int) = 9 then (spec_LeafIn.l0 k l0 0) else (some false)) = some r := h
 clear h
 by_cases c2 : (l0.length : Int) = 9
 ·rw [if_pos c2] at H
  have c2b0 : ((l0.length : Int) == 9) = true := beq_iff_eq.mpr c2
  have c2b1 : ((l0.length : Int) != 9) = false := bne_eq_false_iff_eq.mpr c2
  clear c2
  have H' := Aside0.mk H
  clear H
  go_enter Try.func24, Try.ntmps24
  go_wp2
  repeat (go_quiet (fail); try go_wp2)
  go_loopg [3] k (fun kq v3 w' => ∃ (x3_1 : Int), v3 = .int .i64 x3_1 ∧ Aside0 (spec_LeafIn.l0 kq l0 x3_1 = some r) ∧ Aside0 (kq ≤ k) ∧ Drawn0 w w')
  case atStart => exact ⟨(0), (by first | rfl | (simp; done) | (simp [*]; done)), H', ⟨Nat.le_refl _⟩, by repeat (first | exact Drawn0.refl _ | apply Drawn0.step)⟩
  case round =>
   clear H'
   try clear c2
   try clear c2b0
   try clear c2b1
   try clear p2
   obtain ⟨x3_1, rfl, HA, HK1, ⟨m1, rfl⟩⟩ := hrel
   cases gk with
   | zero => exact absurd HA.out (by simp [spec_LeafIn.l0])
   | succ k1 =>
    have H := HA.out
    clear HA
    simp only [spec_LeafIn.l0] at H
    by_cases c3 : x3_1 < 9
    ·rw [if_pos c3] at H
     have c3b0 : decide (x3_1 < 9) = true := decide_eq_true c3
     clear c3
     by_cases c4 : 0 ≤ x3_1
     ·rw [if_pos c4] at H
      have c4b0 : decide (0 ≤ x3_1) = true := decide_eq_true c4
      clear c4
      by_cases c5 : x3_1 < (l0.length : Int)
      ·rw [if_pos c5] at H
       have c5b0 : decide (x3_1 < (l0.length : Int)) = true := decide_eq_true c5
       clear c5
       replace H := Option.bind_eq_some_iff.mp H
       obtain ⟨t468, A60, H⟩ := H
       replace H : (if t468 = true then (if x3_1 > 0 then (if 0 ≤ (wrap64 (x3_1 - 1)) then (if (wrap64 (x3_1 - 1)) < (l0.length : Int) then (if (rd l0 x3_1) ≤ (rd l0 (wrap64 (x3_1 - 1))) then (some false) else (spec_LeafIn.l0 k1 l0 (wrap64 (x3_1 + 1)))) else (none)) else (none)) else (spec_LeafIn.l0 k1 l0 (wrap64 (x3_1 + 1)))) else (some false)) = some r := H
       have A6 := Aside0.mk A60
       clear A60
       by_cases c7 : t468 = true
       ·subst c7
        have H1 : (if x3_1 > 0 then (if 0 ≤ (wrap64 (x3_1 - 1)) then (if (wrap64 (x3_1 - 1)) < (l0.length : Int) then (if (rd l0 x3_1) ≤ (rd l0 (wrap64 (x3_1 - 1))) then (some false) else (spec_LeafIn.l0 k1 l0 (wrap64 (x3_1 + 1)))) else (none)) else (none)) else (spec_LeafIn.l0 k1 l0 (wrap64 (x3_1 + 1)))) = some r := by rw [if_pos rfl] at H; exact H
        clear H
        have H := H1
        clear H1
        by_cases c8 : x3_1 > 0
        ·rw [if_pos c8] at H
         have c8b0 : decide (0 < x3_1) = true := decide_eq_true c8
         clear c8
         obtain ⟨ji9, hji9⟩ : ∃ j_ : Int, (wrap64 (x3_1 - 1)) = j_ := ⟨_, rfl⟩
         replace H : (if 0 ≤ (ji9) then (if (ji9) < (l0.length : Int) then (if (rd l0 x3_1) ≤ (rd l0 (ji9)) then (some false) else (spec_LeafIn.l0 k1 l0 (wrap64 (x3_1 + 1)))) else (none)) else (none)) = some r := by first | (rw [hji9] at H; exact H) | (simp only [hji9] at H ⊢; exact H)
         (try rw [hji9] at A6)
         have hji9w : (IntKind.i64.wrap (x3_1 - 1)) = ji9 := (i64_w _).trans hji9
         by_cases c10 : 0 ≤ (ji9)
         ·rw [if_pos c10] at H
          have c10b0 : decide (0 ≤ (ji9)) = true := decide_eq_true c10
          clear c10
          by_cases c11 : (ji9) < (l0.length : Int)
          ·rw [if_pos c11] at H
           have c11b0 : decide ((ji9) < (l0.length : Int)) = true := decide_eq_true c11
           clear c11
           by_cases c12 : (rd l0 x3_1) ≤ (rd l0 (ji9))
           ·rw [if_pos c12] at H
            have c12b0 : decide ((rd l0 x3_1) ≤ (rd l0 (ji9))) = true := decide_eq_true c12
            clear c12
            obtain rfl := Option.some.inj H
            have p467 : 0 ≤ (x3_1 : Int) := dd_
            have q467 : x3_1 < (l0.length : Int) := dd_
            obtain ⟨ad467, e467, hx467_0⟩ := Kd.at_int HR0.out x3_1 p467 q467
            cases e467
            replace p467 := eq_true p467
            replace q467 := eq_true q467
            go_wp2_with (first | (go_at_call 57; (with_reducible refine (spec_l6In.calls (rd l0 x3_1) 0 80 true _ A6.out).mono ?_); rintro e w' ⟨rfl, ⟨nd, rfl⟩⟩; (try first | exact ⟨rfl, _, World.drewN_drewN _ _ _⟩ | exact ⟨rfl, _, Eq.trans (World.drewN_drewN _ _ _) (congrArg (World.drewN _) (Nat.add_assoc _ _ _))⟩); have p469 : 0 ≤ (x3_1 : Int) := dd_; have q469 : x3_1 < (l0.length : Int) := dd_; obtain ⟨ad469, e469, hx469_0⟩ := Kd.at_int HR0.out x3_1 p469 q469; obtain rfl : ad467 = ad469 := (by injection e469); replace p469 := eq_true p469; replace q469 := eq_true q469; have p470 : 0 ≤ ((ji9) : Int) := dd_; have q470 : (ji9) < (l0.length : Int) := dd_; obtain ⟨ad470, e470, hx470_0⟩ := Kd.at_int HR0.out (ji9) p470 q470; obtain rfl : ad467 = ad470 := (by injection e470); replace p470 := eq_true p470; replace q470 := eq_true q470))
            repeat (go_quiet (first | (go_at_call 57; (with_reducible refine (spec_l6In.calls (rd l0 x3_1) 0 80 true _ A6.out).mono ?_); rintro e w' ⟨rfl, ⟨nd, rfl⟩⟩; (try first | exact ⟨rfl, _, World.drewN_drewN _ _ _⟩ | exact ⟨rfl, _, Eq.trans (World.drewN_drewN _ _ _) (congrArg (World.drewN _) (Nat.add_assoc _ _ _))⟩); have p469 : 0 ≤ (x3_1 : Int) := dd_; have q469 : x3_1 < (l0.length : Int) := dd_; obtain ⟨ad469, e469, hx469_0⟩ := Kd.at_int HR0.out x3_1 p469 q469; obtain rfl : ad467 = ad469 := (by injection e469); replace p469 := eq_true p469; replace q469 := eq_true q469; have p470 : 0 ≤ ((ji9) : Int) := dd_; have q470 : (ji9) < (l0.length : Int) := dd_; obtain ⟨ad470, e470, hx470_0⟩ := Kd.at_int HR0.out (ji9) p470 q470; obtain rfl : ad467 = ad470 := (by injection e470); replace p470 := eq_true p470; replace q470 := eq_true q470)); try go_wp2_with (first | (go_at_call 57; (with_reducible refine (spec_l6In.calls (rd l0 x3_1) 0 80 true _ A6.out).mono ?_); rintro e w' ⟨rfl, ⟨nd, rfl⟩⟩; (try first | exact ⟨rfl, _, World.drewN_drewN _ _ _⟩ | exact ⟨rfl, _, Eq.trans (World.drewN_drewN _ _ _) (congrArg (World.drewN _) (Nat.add_assoc _ _ _))⟩); have p469 : 0 ≤ (x3_1 : Int) := dd_; have q469 : x3_1 < (l0.length : Int) := dd_; obtain ⟨ad469, e469, hx469_0⟩ := Kd.at_int HR0.out x3_1 p469 q469; obtain rfl : ad467 = ad469 := (by injection e469); replace p469 := eq_true p469; replace q469 := eq_true q469; have p470 : 0 ≤ ((ji9) : Int) := dd_; have q470 : (ji9) < (l0.length : Int) := dd_; obtain ⟨ad470, e470, hx470_0⟩ := Kd.at_int HR0.out (ji9) p470 q470; obtain rfl : ad467 = ad470 := (by injection e470); replace p470 := eq_true p470; replace q470 := eq_true q470)))
            go_ret
            exact ⟨by first | rfl | (simp; done) | (simp only [← hji9] <;> (first | rfl | simp)) | (simp [*]; done), by repeat (first | exact Drawn0.refl _ | apply Drawn0.step)⟩
           ·rw [if_neg c12] at H
            have c12b0 : decide ((rd l0 x3_1) ≤ (rd l0 (ji9))) = false := decide_eq_false c12
            clear c12
            have H' := Aside0.mk H
            clear H
            have p467 : 0 ≤ (x3_1 : Int) := dd_
            have q467 : x3_1 < (l0.length : Int) := dd_
            obtain ⟨ad467, e467, hx467_0⟩ := Kd.at_int HR0.out x3_1 p467 q467
            cases e467
            replace p467 := eq_true p467
            replace q467 := eq_true q467
            go_wp2_with (first | (go_at_call 57; (with_reducible refine (spec_l6In.calls (rd l0 x3_1) 0 80 true _ A6.out).mono ?_); rintro e w' ⟨rfl, ⟨nd, rfl⟩⟩; (try first | exact ⟨rfl, _, World.drewN_drewN _ _ _⟩ | exact ⟨rfl, _, Eq.trans (World.drewN_drewN _ _ _) (congrArg (World.drewN _) (Nat.add_assoc _ _ _))⟩); have p469 : 0 ≤ (x3_1 : Int) := dd_; have q469 : x3_1 < (l0.length : Int) := dd_; obtain ⟨ad469, e469, hx469_0⟩ := Kd.at_int HR0.out x3_1 p469 q469; obtain rfl : ad467 = ad469 := (by injection e469); replace p469 := eq_true p469; replace q469 := eq_true q469; have p470 : 0 ≤ ((ji9) : Int) := dd_; have q470 : (ji9) < (l0.length : Int) := dd_; obtain ⟨ad470, e470, hx470_0⟩ := Kd.at_int HR0.out (ji9) p470 q470; obtain rfl : ad467 = ad470 := (by injection e470); replace p470 := eq_true p470; replace q470 := eq_true q470))
            repeat (go_quiet (first | (go_at_call 57; (with_reducible refine (spec_l6In.calls (rd l0 x3_1) 0 80 true _ A6.out).mono ?_); rintro e w' ⟨rfl, ⟨nd, rfl⟩⟩; (try first | exact ⟨rfl, _, World.drewN_drewN _ _ _⟩ | exact ⟨rfl, _, Eq.trans (World.drewN_drewN _ _ _) (congrArg (World.drewN _) (Nat.add_assoc _ _ _))⟩); have p469 : 0 ≤ (x3_1 : Int) := dd_; have q469 : x3_1 < (l0.length : Int) := dd_; obtain ⟨ad469, e469, hx469_0⟩ := Kd.at_int HR0.out x3_1 p469 q469; obtain rfl : ad467 = ad469 := (by injection e469); replace p469 := eq_true p469; replace q469 := eq_true q469; have p470 : 0 ≤ ((ji9) : Int) := dd_; have q470 : (ji9) < (l0.length : Int) := dd_; obtain ⟨ad470, e470, hx470_0⟩ := Kd.at_int HR0.out (ji9) p470 q470; obtain rfl : ad467 = ad470 := (by injection e470); replace p470 := eq_true p470; replace q470 := eq_true q470)); try go_wp2_with (first | (go_at_call 57; (with_reducible refine (spec_l6In.calls (rd l0 x3_1) 0 80 true _ A6.out).mono ?_); rintro e w' ⟨rfl, ⟨nd, rfl⟩⟩; (try first | exact ⟨rfl, _, World.drewN_drewN _ _ _⟩ | exact ⟨rfl, _, Eq.trans (World.drewN_drewN _ _ _) (congrArg (World.drewN _) (Nat.add_assoc _ _ _))⟩); have p469 : 0 ≤ (x3_1 : Int) := dd_; have q469 : x3_1 < (l0.length : Int) := dd_; obtain ⟨ad469, e469, hx469_0⟩ := Kd.at_int HR0.out x3_1 p469 q469; obtain rfl : ad467 = ad469 := (by injection e469); replace p469 := eq_true p469; replace q469 := eq_true q469; have p470 : 0 ≤ ((ji9) : Int) := dd_; have q470 : (ji9) < (l0.length : Int) := dd_; obtain ⟨ad470, e470, hx470_0⟩ := Kd.at_int HR0.out (ji9) p470 q470; obtain rfl : ad467 = ad470 := (by injection e470); replace p470 := eq_true p470; replace q470 := eq_true q470)))
            go_roundg k1
            case measure => have := HK1.out; omega
            case rel => exact ⟨(wrap64 (x3_1 + 1)), (by first | rfl | (simp; done) | (simp [*]; done)), H', ⟨by have := HK1.out; omega⟩, by repeat (first | exact Drawn0.refl _ | apply Drawn0.step)⟩
          ·rw [if_neg c11] at H
           exact absurd H (by simp)
         ·rw [if_neg c10] at H
          exact absurd H (by simp)
        ·rw [if_neg c8] at H
         have c8b0 : decide (0 < x3_1) = false := decide_eq_false c8
         clear c8
         have H' := Aside0.mk H
         clear H
         have p467 : 0 ≤ (x3_1 : Int) := dd_
         have q467 : x3_1 < (l0.length : Int) := dd_
         obtain ⟨ad467, e467, hx467_0⟩ := Kd.at_int HR0.out x3_1 p467 q467
         cases e467
         replace p467 := eq_true p467
         replace q467 := eq_true q467
         go_wp2_with (first | (go_at_call 57; (with_reducible refine (spec_l6In.calls (rd l0 x3_1) 0 80 true _ A6.out).mono ?_); rintro e w' ⟨rfl, ⟨nd, rfl⟩⟩; (try first | exact ⟨rfl, _, World.drewN_drewN _ _ _⟩ | exact ⟨rfl, _, Eq.trans (World.drewN_drewN _ _ _) (congrArg (World.drewN _) (Nat.add_assoc _ _ _))⟩)))
         repeat (go_quiet (first | (go_at_call 57; (with_reducible refine (spec_l6In.calls (rd l0 x3_1) 0 80 true _ A6.out).mono ?_); rintro e w' ⟨rfl, ⟨nd, rfl⟩⟩; (try first | exact ⟨rfl, _, World.drewN_drewN _ _ _⟩ | exact ⟨rfl, _, Eq.trans (World.drewN_drewN _ _ _) (congrArg (World.drewN _) (Nat.add_assoc _ _ _))⟩))); try go_wp2_with (first | (go_at_call 57; (with_reducible refine (spec_l6In.calls (rd l0 x3_1) 0 80 true _ A6.out).mono ?_); rintro e w' ⟨rfl, ⟨nd, rfl⟩⟩; (try first | exact ⟨rfl, _, World.drewN_drewN _ _ _⟩ | exact ⟨rfl, _, Eq.trans (World.drewN_drewN _ _ _) (congrArg (World.drewN _) (Nat.add_assoc _ _ _))⟩))))
         go_roundg k1
         case measure => have := HK1.out; omega
         case rel => exact ⟨(wrap64 (x3_1 + 1)), (by first | rfl | (simp; done) | (simp [*]; done)), H', ⟨by have := HK1.out; omega⟩, by repeat (first | exact Drawn0.refl _ | apply Drawn0.step)⟩
       ·replace c7 := Bool.eq_false_iff.mpr c7
        subst c7
        have H1 : (some false) = some r := by rw [if_neg (show ¬ (false = true) by decide)] at H; exact H
        clear H
        have H := H1
        clear H1
        obtain rfl := Option.some.inj H
        have p467 : 0 ≤ (x3_1 : Int) := dd_
        have q467 : x3_1 < (l0.length : Int) := dd_
        obtain ⟨ad467, e467, hx467_0⟩ := Kd.at_int HR0.out x3_1 p467 q467
        cases e467
        replace p467 := eq_true p467
        replace q467 := eq_true q467
        go_wp2_with (first | (go_at_call 57; (with_reducible refine (spec_l6In.calls (rd l0 x3_1) 0 80 false _ A6.out).mono ?_); rintro e w' ⟨rfl, ⟨nd, rfl⟩⟩; (try first | exact ⟨rfl, _, World.drewN_drewN _ _ _⟩ | exact ⟨rfl, _, Eq.trans (World.drewN_drewN _ _ _) (congrArg (World.drewN _) (Nat.add_assoc _ _ _))⟩)))
        repeat (go_quiet (first | (go_at_call 57; (with_reducible refine (spec_l6In.calls (rd l0 x3_1) 0 80 false _ A6.out).mono ?_); rintro e w' ⟨rfl, ⟨nd, rfl⟩⟩; (try first | exact ⟨rfl, _, World.drewN_drewN _ _ _⟩ | exact ⟨rfl, _, Eq.trans (World.drewN_drewN _ _ _) (congrArg (World.drewN _) (Nat.add_assoc _ _ _))⟩))); try go_wp2_with (first | (go_at_call 57; (with_reducible refine (spec_l6In.calls (rd l0 x3_1) 0 80 false _ A6.out).mono ?_); rintro e w' ⟨rfl, ⟨nd, rfl⟩⟩; (try first | exact ⟨rfl, _, World.drewN_drewN _ _ _⟩ | exact ⟨rfl, _, Eq.trans (World.drewN_drewN _ _ _) (congrArg (World.drewN _) (Nat.add_assoc _ _ _))⟩))))
        go_ret
        exact ⟨by first | rfl | (simp; done) | (simp [*]; done), by repeat (first | exact Drawn0.refl _ | apply Drawn0.step)⟩
      ·rw [if_neg c5] at H
       exact absurd H (by simp)
     ·rw [if_neg c4] at H
      exact absurd H (by simp)
    ·rw [if_neg c3] at H
     have c3b0 : decide (x3_1 < 9) = false := decide_eq_false c3
     clear c3
     have H' := Aside0.mk H
     clear H
     go_wp2
     repeat (go_quiet (fail); try go_wp2)
     go_loopg [4] k1 (fun kq v4 w' => ∃ (x4_2 : Int), v4 = .int .i64 x4_2 ∧ Aside0 (spec_LeafIn.l1 kq l0 x4_2 = some r) ∧ Aside0 (kq ≤ k1) ∧ Drawn0 w w')
     case atStart => exact ⟨(0), (by first | rfl | (simp; done) | (simp [*]; done)), H', ⟨Nat.le_refl _⟩, by repeat (first | exact Drawn0.refl _ | apply Drawn0.step)⟩
     case round =>
      clear H'
      try clear c1
      try clear c2
      try clear c2b0
      try clear c2b1
      try clear p2
      try clear c3
      try clear c3b0
      try clear c4
      try clear c4b0
      try clear p4
      try clear q4
      try clear hx4
      try clear c5
      try clear c5b0
      try clear p6
      try clear c7
      try clear c8
      try clear c8b0
      try clear c10
      try clear c10b0
      try clear c11
      try clear c11b0
      try clear c12
      try clear c12b0
      try clear hx467_0
      try clear hx469_0
      try clear hx470_0
      try clear p2
      try clear p467
      try clear p469
      try clear p470
      try clear q467
      try clear q469
      try clear q470
      obtain ⟨x4_2, rfl, HA, HK2, ⟨m2, rfl⟩⟩ := hrel
      cases gk with
      | zero => exact absurd HA.out (by simp [spec_LeafIn.l1])
      | succ k2 =>
       have H := HA.out
       clear HA
       simp only [spec_LeafIn.l1] at H
       by_cases c13 : x4_2 < 9
       ·rw [if_pos c13] at H
        have c13b0 : decide (x4_2 < 9) = true := decide_eq_true c13
        clear c13
        have H' := Aside0.mk H
        clear H
        go_wp2
        repeat (go_quiet (fail); try go_wp2)
        go_loopg [5] k2 (fun kq v5 w' => ∃ (x5_3 : Int), v5 = .int .i64 x5_3 ∧ Aside0 (spec_LeafIn.l2 kq l0 x4_2 x5_3 = some r) ∧ Aside0 (kq ≤ k2) ∧ Drawn0 w w')
        case atStart => exact ⟨(0), (by first | rfl | (simp; done) | (simp [*]; done)), H', ⟨Nat.le_refl _⟩, by repeat (first | exact Drawn0.refl _ | apply Drawn0.step)⟩
        case round =>
         clear H'
         try clear c1
         try clear c2
         try clear c2b0
         try clear c2b1
         try clear p2
         try clear c3
         try clear c3b0
         try clear c4
         try clear c4b0
         try clear p4
         try clear q4
         try clear hx4
         try clear c5
         try clear c5b0
         try clear p6
         try clear c7
         try clear c8
         try clear c8b0
         try clear c10
         try clear c10b0
         try clear c11
         try clear c11b0
         try clear c12
         try clear c12b0
         try clear c13
         try clear c13b0
         try clear hx467_0
         try clear hx469_0
         try clear hx470_0
         try clear p2
         try clear p4
         try clear p467
         try clear p469
         try clear p470
         try clear p6
         try clear q4
         try clear q467
         try clear q469
         try clear q470
         obtain ⟨x5_3, rfl, HA, HK3, ⟨m3, rfl⟩⟩ := hrel
         cases gk with
         | zero => exact absurd HA.out (by simp [spec_LeafIn.l2])
         | succ k3 =>
          have H := HA.out
          clear HA
          simp only [spec_LeafIn.l2] at H
          by_cases c14 : x5_3 < 9
          ·rw [if_pos c14] at H
           have c14b0 : decide (x5_3 < 9) = true := decide_eq_true c14
           clear c14
           by_cases c15 : 0 ≤ x4_2
           ·rw [if_pos c15] at H
            have c15b0 : decide (0 ≤ x4_2) = true := decide_eq_true c15
            clear c15
            by_cases c16 : x4_2 < (l0.length : Int)
            ·rw [if_pos c16] at H
             have c16b0 : decide (x4_2 < (l0.length : Int)) = true := decide_eq_true c16
             clear c16
             by_cases c17 : 0 ≤ x5_3
             ·rw [if_pos c17] at H
              have c17b0 : decide (0 ≤ x5_3) = true := decide_eq_true c17
              clear c17
              by_cases c18 : x5_3 < (l0.length : Int)
              ·rw [if_pos c18] at H
               have c18b0 : decide (x5_3 < (l0.length : Int)) = true := decide_eq_true c18
               clear c18
               replace H := Option.bind_eq_some_iff.mp H
               obtain ⟨t473, A190, H⟩ := H
               replace H : ((spec_l6lHas.f k3 l0 t473).bind fun t474 => (if t474 = true then (spec_LeafIn.l2 k3 l0 x4_2 (wrap64 (x5_3 + 1))) else (some false))) = some r := H
               have A19 := Aside0.mk A190
               clear A190
               replace H := Option.bind_eq_some_iff.mp H
               obtain ⟨t474, A200, H⟩ := H
               replace H : (if t474 = true then (spec_LeafIn.l2 k3 l0 x4_2 (wrap64 (x5_3 + 1))) else (some false)) = some r := H
               have A20 := Aside0.mk A200
               clear A200
               by_cases c21 : t474 = true
               ·subst c21
                have H1 : (spec_LeafIn.l2 k3 l0 x4_2 (wrap64 (x5_3 + 1))) = some r := by rw [if_pos rfl] at H; exact H
                clear H
                have H := H1
                clear H1
                have H' := Aside0.mk H
                clear H
                have p471 : 0 ≤ (x4_2 : Int) := dd_
                have q471 : x4_2 < (l0.length : Int) := dd_
                obtain ⟨ad471, e471, hx471_0⟩ := Kd.at_int HR0.out x4_2 p471 q471
                cases e471
                replace p471 := eq_true p471
                replace q471 := eq_true q471
                have p472 : 0 ≤ (x5_3 : Int) := dd_
                have q472 : x5_3 < (l0.length : Int) := dd_
                obtain ⟨ad472, e472, hx472_0⟩ := Kd.at_int HR0.out x5_3 p472 q472
                obtain rfl : ad471 = ad472 := (by injection e472)
                replace p472 := eq_true p472
                replace q472 := eq_true q472
                go_wp2_with (first | (go_at_call 59; (with_reducible refine (spec_l6lAdd.calls (rd l0 x4_2) (rd l0 x5_3) t473 _ A19.out).mono ?_); rintro e w' ⟨rfl, ⟨nd, rfl⟩⟩; (try first | exact ⟨rfl, _, World.drewN_drewN _ _ _⟩ | exact ⟨rfl, _, Eq.trans (World.drewN_drewN _ _ _) (congrArg (World.drewN _) (Nat.add_assoc _ _ _))⟩)) | (go_at_call 58; (with_reducible refine (spec_l6lHas.calls k3 _ _ l0 t473 true _ ?side1 ?side2 A20.out).mono ?_); (case side1 => exact ss_ HR0); (case side2 => exact HC0.out); rintro e w' ⟨rfl, ⟨nd, rfl⟩⟩; (try first | exact ⟨rfl, _, World.drewN_drewN _ _ _⟩ | exact ⟨rfl, _, Eq.trans (World.drewN_drewN _ _ _) (congrArg (World.drewN _) (Nat.add_assoc _ _ _))⟩)))
                repeat (go_quiet (first | (go_at_call 59; (with_reducible refine (spec_l6lAdd.calls (rd l0 x4_2) (rd l0 x5_3) t473 _ A19.out).mono ?_); rintro e w' ⟨rfl, ⟨nd, rfl⟩⟩; (try first | exact ⟨rfl, _, World.drewN_drewN _ _ _⟩ | exact ⟨rfl, _, Eq.trans (World.drewN_drewN _ _ _) (congrArg (World.drewN _) (Nat.add_assoc _ _ _))⟩)) | (go_at_call 58; (with_reducible refine (spec_l6lHas.calls k3 _ _ l0 t473 true _ ?side1 ?side2 A20.out).mono ?_); (case side1 => exact ss_ HR0); (case side2 => exact HC0.out); rintro e w' ⟨rfl, ⟨nd, rfl⟩⟩; (try first | exact ⟨rfl, _, World.drewN_drewN _ _ _⟩ | exact ⟨rfl, _, Eq.trans (World.drewN_drewN _ _ _) (congrArg (World.drewN _) (Nat.add_assoc _ _ _))⟩))); try go_wp2_with (first | (go_at_call 59; (with_reducible refine (spec_l6lAdd.calls (rd l0 x4_2) (rd l0 x5_3) t473 _ A19.out).mono ?_); rintro e w' ⟨rfl, ⟨nd, rfl⟩⟩; (try first | exact ⟨rfl, _, World.drewN_drewN _ _ _⟩ | exact ⟨rfl, _, Eq.trans (World.drewN_drewN _ _ _) (congrArg (World.drewN _) (Nat.add_assoc _ _ _))⟩)) | (go_at_call 58; (with_reducible refine (spec_l6lHas.calls k3 _ _ l0 t473 true _ ?side1 ?side2 A20.out).mono ?_); (case side1 => exact ss_ HR0); (case side2 => exact HC0.out); rintro e w' ⟨rfl, ⟨nd, rfl⟩⟩; (try first | exact ⟨rfl, _, World.drewN_drewN _ _ _⟩ | exact ⟨rfl, _, Eq.trans (World.drewN_drewN _ _ _) (congrArg (World.drewN _) (Nat.add_assoc _ _ _))⟩))))
                go_roundg k3
                case measure => have := HK1.out; have := HK2.out; have := HK3.out; omega
                case rel => exact ⟨(wrap64 (x5_3 + 1)), (by first | rfl | (simp; done) | (simp [*]; done)), H', ⟨by have := HK1.out; have := HK2.out; have := HK3.out; omega⟩, by repeat (first | exact Drawn0.refl _ | apply Drawn0.step)⟩
               ·replace c21 := Bool.eq_false_iff.mpr c21
                subst c21
                have H1 : (some false) = some r := by rw [if_neg (show ¬ (false = true) by decide)] at H; exact H
                clear H
                have H := H1
                clear H1
                obtain rfl := Option.some.inj H
                have p471 : 0 ≤ (x4_2 : Int) := dd_
                have q471 : x4_2 < (l0.length : Int) := dd_
                obtain ⟨ad471, e471, hx471_0⟩ := Kd.at_int HR0.out x4_2 p471 q471
                cases e471
                replace p471 := eq_true p471
                replace q471 := eq_true q471
                have p472 : 0 ≤ (x5_3 : Int) := dd_
                have q472 : x5_3 < (l0.length : Int) := dd_
                obtain ⟨ad472, e472, hx472_0⟩ := Kd.at_int HR0.out x5_3 p472 q472
                obtain rfl : ad471 = ad472 := (by injection e472)
                replace p472 := eq_true p472
                replace q472 := eq_true q472
                go_wp2_with (first | (go_at_call 59; (with_reducible refine (spec_l6lAdd.calls (rd l0 x4_2) (rd l0 x5_3) t473 _ A19.out).mono ?_); rintro e w' ⟨rfl, ⟨nd, rfl⟩⟩; (try first | exact ⟨rfl, _, World.drewN_drewN _ _ _⟩ | exact ⟨rfl, _, Eq.trans (World.drewN_drewN _ _ _) (congrArg (World.drewN _) (Nat.add_assoc _ _ _))⟩)) | (go_at_call 58; (with_reducible refine (spec_l6lHas.calls k3 _ _ l0 t473 false _ ?side1 ?side2 A20.out).mono ?_); (case side1 => exact ss_ HR0); (case side2 => exact HC0.out); rintro e w' ⟨rfl, ⟨nd, rfl⟩⟩; (try first | exact ⟨rfl, _, World.drewN_drewN _ _ _⟩ | exact ⟨rfl, _, Eq.trans (World.drewN_drewN _ _ _) (congrArg (World.drewN _) (Nat.add_assoc _ _ _))⟩)))
                repeat (go_quiet (first | (go_at_call 59; (with_reducible refine (spec_l6lAdd.calls (rd l0 x4_2) (rd l0 x5_3) t473 _ A19.out).mono ?_); rintro e w' ⟨rfl, ⟨nd, rfl⟩⟩; (try first | exact ⟨rfl, _, World.drewN_drewN _ _ _⟩ | exact ⟨rfl, _, Eq.trans (World.drewN_drewN _ _ _) (congrArg (World.drewN _) (Nat.add_assoc _ _ _))⟩)) | (go_at_call 58; (with_reducible refine (spec_l6lHas.calls k3 _ _ l0 t473 false _ ?side1 ?side2 A20.out).mono ?_); (case side1 => exact ss_ HR0); (case side2 => exact HC0.out); rintro e w' ⟨rfl, ⟨nd, rfl⟩⟩; (try first | exact ⟨rfl, _, World.drewN_drewN _ _ _⟩ | exact ⟨rfl, _, Eq.trans (World.drewN_drewN _ _ _) (congrArg (World.drewN _) (Nat.add_assoc _ _ _))⟩))); try go_wp2_with (first | (go_at_call 59; (with_reducible refine (spec_l6lAdd.calls (rd l0 x4_2) (rd l0 x5_3) t473 _ A19.out).mono ?_); rintro e w' ⟨rfl, ⟨nd, rfl⟩⟩; (try first | exact ⟨rfl, _, World.drewN_drewN _ _ _⟩ | exact ⟨rfl, _, Eq.trans (World.drewN_drewN _ _ _) (congrArg (World.drewN _) (Nat.add_assoc _ _ _))⟩)) | (go_at_call 58; (with_reducible refine (spec_l6lHas.calls k3 _ _ l0 t473 false _ ?side1 ?side2 A20.out).mono ?_); (case side1 => exact ss_ HR0); (case side2 => exact HC0.out); rintro e w' ⟨rfl, ⟨nd, rfl⟩⟩; (try first | exact ⟨rfl, _, World.drewN_drewN _ _ _⟩ | exact ⟨rfl, _, Eq.trans (World.drewN_drewN _ _ _) (congrArg (World.drewN _) (Nat.add_assoc _ _ _))⟩))))
                go_ret
                exact ⟨by first | rfl | (simp; done) | (simp [*]; done), by repeat (first | exact Drawn0.refl _ | apply Drawn0.step)⟩
              ·rw [if_neg c18] at H
               exact absurd H (by simp)
             ·rw [if_neg c17] at H
              exact absurd H (by simp)
            ·rw [if_neg c16] at H
             exact absurd H (by simp)
           ·rw [if_neg c15] at H
            exact absurd H (by simp)
          ·rw [if_neg c14] at H
           have c14b0 : decide (x5_3 < 9) = false := decide_eq_false c14
           clear c14
           have H' := Aside0.mk H
           clear H
           go_wp2
           repeat (go_quiet (fail); try go_wp2)
           go_roundg k3
           case measure => have := HK1.out; have := HK2.out; have := HK3.out; omega
           case rel => exact ⟨(wrap64 (x4_2 + 1)), (by first | rfl | (simp; done) | (simp [*]; done)), H', ⟨by have := HK1.out; have := HK2.out; have := HK3.out; omega⟩, by repeat (first | exact Drawn0.refl _ | apply Drawn0.step)⟩
       ·rw [if_neg c13] at H
        have c13b0 : decide (x4_2 < 9) = false := decide_eq_false c13
        clear c13
        obtain rfl := Option.some.inj H
        go_wp2
        repeat (go_quiet (fail); try go_wp2)
        go_ret
        exact ⟨by first | rfl | (simp; done) | (simp [*]; done), by repeat (first | exact Drawn0.refl _ | apply Drawn0.step)⟩
 ·rw [if_neg c2] at H
  have c2b0 : ((l0.length : Int) == 9) = false := beq_eq_false_iff_ne.mpr c2
  have c2b1 : ((l0.length : Int) != 9) = true := bne_iff_ne.mpr c2
  obtain rfl := Option.some.inj H
  go_enter Try.func24, Try.ntmps24
  go_wp2
  repeat (go_quiet (fail); try go_wp2)
  go_ret
  exact ⟨by first | rfl | (simp; done) | (simp [*]; done), by repeat (first | exact Drawn0.refl _ | apply Drawn0.step)⟩
end Go.Proofs.Ytbfafjejmljcpaa.P

namespace Go.Proofs.Ytbfafjejmljcpaa.P
open Go.RowKit Go.Proofs.YtbfafjejmljcpaaW.PrintWords Go.Proofs.YtbfafjejmljcpaaW.PrintLast
set_option linter.unusedVariables false
set_option linter.unusedSimpArgs false

def impl_addNear.f (a0 : Int) (a1 : Int) : Option (Int) := (impl_add.f (wrap64 (Int.tdiv a0 9)) (wrap64 (Int.tdiv a1 9))).bind fun t641 => ((impl_add.f (Int.tmod a0 9) (Int.tmod a1 9)).bind fun t642 => (some (wrap64 ((wrap64 (9 * t641)) + t642))))
set_option maxHeartbeats 8000000 in
set_option maxRecDepth 100000 in
theorem impl_addNear.calls (a0 : Int) (a1 : Int) (r : Int) (w : World) (h : impl_addNear.f a0 a1 = some r) :
  Calls Try.prog 62 #[.int .i64 a0, .int .i64 a1] w fun e w' => e = .returned (.int .i64 r) ∧ Drawn0 w w' := by
 have H : ((impl_add.f (wrap64 (Int.tdiv a0 9)) (wrap64 (Int.tdiv a1 9))).bind fun t641 => ((impl_add.f (Int.tmod a0 9) (Int.tmod a1 9)).bind fun t642 => (some (wrap64 ((wrap64 (9 * t641)) + t642))))) = some r := h
 clear h
 replace H := Option.bind_eq_some_iff.mp H
 obtain ⟨t641, A30, H⟩ := H
 replace H : ((impl_add.f (Int.tmod a0 9) (Int.tmod a1 9)).bind fun t642 => (some (wrap64 ((wrap64 (9 * t641)) + t642)))) = some r := H
 have A3 := Aside0.mk A30
 clear A30
 replace H := Option.bind_eq_some_iff.mp H
 obtain ⟨t642, A40, H⟩ := H
 replace H : (some (wrap64 ((wrap64 (9 * t641)) + t642))) = some r := H
 have A4 := Aside0.mk A40
 clear A40
 obtain rfl := Option.some.inj H
 go_enter Try.func62, Try.ntmps62
 go_wp2_with (first | (refine goesL_ (some 9) rfl rfl Try.func97 (by kernel_rfl) rfl #[.int .i64 (wrap64 (Int.tdiv a0 9)), .int .i64 (wrap64 (Int.tdiv a1 9))] rfl ll_ ?_; (with_reducible refine (impl_add.calls (wrap64 (Int.tdiv a0 9)) (wrap64 (Int.tdiv a1 9)) t641 _ A3.out).mono ?_); rintro e w' ⟨rfl, ⟨nd, rfl⟩⟩; refine ⟨_, rfl, ?_⟩) | (refine goesL_ (some 15) rfl rfl Try.func97 (by kernel_rfl) rfl #[.int .i64 (Int.tmod a0 9), .int .i64 (Int.tmod a1 9)] rfl ll_ ?_; (with_reducible refine (impl_add.calls (Int.tmod a0 9) (Int.tmod a1 9) t642 _ A4.out).mono ?_); rintro e w' ⟨rfl, ⟨nd, rfl⟩⟩; refine ⟨_, rfl, ?_⟩))
 go_ret
 exact ⟨by first | rfl | (simp; done) | (simp [*]; done), by repeat (first | exact Drawn0.refl _ | apply Drawn0.step)⟩
end Go.Proofs.Ytbfafjejmljcpaa.P

namespace Go.Proofs.Ytbfafjejmljcpaa.P
open Go.RowKit Go.Proofs.YtbfafjejmljcpaaW.PrintWords Go.Proofs.YtbfafjejmljcpaaW.PrintLast
set_option linter.unusedVariables false
set_option linter.unusedSimpArgs false

def impl_isNear.f (a0 : Int) : Option (Bool) := if a0 ≥ 0 then (some (decide (a0 < 81))) else (some false)
set_option maxHeartbeats 8000000 in
set_option maxRecDepth 100000 in
theorem impl_isNear.calls (a0 : Int) (r : Bool) (w : World) (h : impl_isNear.f a0 = some r) :
  Calls Try.prog 60 #[.int .i64 a0] w fun e w' => e = .returned (.bool r) ∧ Drawn0 w w' := by
 have H : (if a0 ≥ 0 then (some (decide (a0 < 81))) else (some false)) = some r := h
 clear h
 by_cases c2 : a0 ≥ 0
 ·rw [if_pos c2] at H
  have c2b0 : decide (0 ≤ a0) = true := decide_eq_true c2
  clear c2
  obtain rfl := Option.some.inj H
  go_enter Try.func60, Try.ntmps60
  go_wp2
  go_ret
  exact ⟨by first | rfl | (simp; done) | (simp [*]; done), by repeat (first | exact Drawn0.refl _ | apply Drawn0.step)⟩
 ·rw [if_neg c2] at H
  have c2b0 : decide (0 ≤ a0) = false := decide_eq_false c2
  clear c2
  obtain rfl := Option.some.inj H
  go_enter Try.func60, Try.ntmps60
  go_wp2
  go_ret
  exact ⟨by first | rfl | (simp; done) | (simp [*]; done), by repeat (first | exact Drawn0.refl _ | apply Drawn0.step)⟩
end Go.Proofs.Ytbfafjejmljcpaa.P

namespace Go.Proofs.Ytbfafjejmljcpaa.P
open Go.RowKit Go.Proofs.YtbfafjejmljcpaaW.PrintWords Go.Proofs.YtbfafjejmljcpaaW.PrintLast
set_option linter.unusedVariables false
set_option linter.unusedSimpArgs false

mutual
def impl_isLeaf.l0 : Nat → List Int → List Int → Int → Int → Option (Bool)
 | 0, _, _, _, _ => none
 | k + 1, x0, x12, x13, x14 => if x14 < x13 then (if 0 ≤ x14 then (if x14 < (x12.length : Int) then ((impl_isNear.f (rd x12 x14)).bind fun t644 => (if t644 = true then (if x14 > 0 then (if 0 ≤ (wrap64 (x14 - 1)) then (if (wrap64 (x14 - 1)) < (x0.length : Int) then (if (rd x0 (wrap64 (x14 - 1))) ≥ (rd x12 x14) then (some false) else (impl_isLeaf.l0 k x0 x12 x13 (wrap64 (x14 + 1)))) else (none)) else (none)) else (impl_isLeaf.l0 k x0 x12 x13 (wrap64 (x14 + 1)))) else (some false))) else (none)) else (none)) else (impl_isLeaf.l1 k x0 x0 (x0.length : Int) 0)
def impl_isLeaf.l1 : Nat → List Int → List Int → Int → Int → Option (Bool)
 | 0, _, _, _, _ => none
 | k + 1, x0, x36, x37, x38 => if x38 < x37 then (if 0 ≤ x38 then (if x38 < (x36.length : Int) then (impl_isLeaf.l2 k x0 (rd x36 x38) x36 x37 x38 x0 (x0.length : Int) 0) else (none)) else (none)) else (some true)
def impl_isLeaf.l2 : Nat → List Int → Int → List Int → Int → Int → List Int → Int → Int → Option (Bool)
 | 0, _, _, _, _, _, _, _, _ => none
 | k + 1, x0, x6, x36, x37, x38, x42, x43, x44 => if x44 < x43 then (if 0 ≤ x44 then (if x44 < (x42.length : Int) then ((impl_addNear.f x6 (rd x42 x44)).bind fun t648 => ((slices_Contains_int_int.f k x0 t648).bind fun t649 => (if t649 = true then (impl_isLeaf.l2 k x0 x6 x36 x37 x38 x42 x43 (wrap64 (x44 + 1))) else (some false)))) else (none)) else (none)) else (impl_isLeaf.l1 k x0 x36 x37 (wrap64 (x38 + 1)))
end
def impl_isLeaf.f (k : Nat) (l0 : List Int) : Option (Bool) := if (l0.length : Int) = 9 then (impl_isLeaf.l0 k l0 l0 (l0.length : Int) 0) else (some false)
set_option maxHeartbeats 8000000 in
set_option maxRecDepth 100000 in
theorem impl_isLeaf.calls (k : Nat) (A0 : Option Addr) (c0 : Nat) (l0 : List Int) (r : Bool) (w : World) (hr0 : Kd.C (Kd.int .i64) w A0 l0.length l0) (hc0 : l0.length ≤ c0) (h : impl_isLeaf.f k l0 = some r) :
  Calls Try.prog 56 #[.slice A0 l0.length c0] w fun e w' => e = .returned (.bool r) ∧ Drawn0 w w' := by
 have HR0 := Aside0.mk hr0
 have HC0 := Aside0.mk hc0
 clear hr0 hc0
 have H : (if (l0.length : Int) = 9 then (impl_isLeaf.l0 k l0 l0 (l0.length : Int) 0) else (some false)) = some r := h
 clear h
 by_cases c2 : (l0.length : Int) = 9
 ·rw [if_pos c2] at H
  have c2b0 : ((l0.length : Int) == 9) = true := beq_iff_eq.mpr c2
  have c2b1 : ((l0.length : Int) != 9) = false := bne_eq_false_iff_eq.mpr c2
  clear c2
  have H' := Aside0.mk H
  clear H
  go_enter Try.func56, Try.ntmps56
  go_wp2
  go_loopg [14] k (fun kq v14 w' => ∃ (x14_1 : Int), v14 = .int .i64 x14_1 ∧ Aside0 (impl_isLeaf.l0 kq l0 l0 (l0.length : Int) x14_1 = some r) ∧ Aside0 (kq ≤ k) ∧ Drawn0 w w')
  case atStart => exact ⟨(0), (by first | rfl | (simp; done) | (simp [*]; done)), H', ⟨Nat.le_refl _⟩, by repeat (first | exact Drawn0.refl _ | apply Drawn0.step)⟩
  case round =>
   clear H'
   try clear c2
   try clear c2b0
   try clear c2b1
   try clear p2
   obtain ⟨x14_1, rfl, HA, HK1, ⟨m1, rfl⟩⟩ := hrel
   cases gk with
   | zero => exact absurd HA.out (by simp [impl_isLeaf.l0])
   | succ k1 =>
    have H := HA.out
    clear HA
    simp only [impl_isLeaf.l0] at H
    by_cases c3 : x14_1 < (l0.length : Int)
    ·rw [if_pos c3] at H
     have c3b0 : decide (x14_1 < (l0.length : Int)) = true := decide_eq_true c3
     clear c3
     by_cases c4 : 0 ≤ x14_1
     ·rw [if_pos c4] at H
      have c4b0 : decide (0 ≤ x14_1) = true := decide_eq_true c4
      clear c4
      by_cases c5 : x14_1 < (l0.length : Int)
      ·rw [if_pos c5] at H
       have c5b0 : decide (x14_1 < (l0.length : Int)) = true := decide_eq_true c5
       clear c5
       replace H := Option.bind_eq_some_iff.mp H
       obtain ⟨t644, A60, H⟩ := H
       replace H : (if t644 = true then (if x14_1 > 0 then (if 0 ≤ (wrap64 (x14_1 - 1)) then (if (wrap64 (x14_1 - 1)) < (l0.length : Int) then (if (rd l0 (wrap64 (x14_1 - 1))) ≥ (rd l0 x14_1) then (some false) else (impl_isLeaf.l0 k1 l0 l0 (l0.length : Int) (wrap64 (x14_1 + 1)))) else (none)) else (none)) else (impl_isLeaf.l0 k1 l0 l0 (l0.length : Int) (wrap64 (x14_1 + 1)))) else (some false)) = some r := H
       have A6 := Aside0.mk A60
       clear A60
       by_cases c7 : t644 = true
       ·subst c7
        have H1 : (if x14_1 > 0 then (if 0 ≤ (wrap64 (x14_1 - 1)) then (if (wrap64 (x14_1 - 1)) < (l0.length : Int) then (if (rd l0 (wrap64 (x14_1 - 1))) ≥ (rd l0 x14_1) then (some false) else (impl_isLeaf.l0 k1 l0 l0 (l0.length : Int) (wrap64 (x14_1 + 1)))) else (none)) else (none)) else (impl_isLeaf.l0 k1 l0 l0 (l0.length : Int) (wrap64 (x14_1 + 1)))) = some r := by rw [if_pos rfl] at H; exact H
        clear H
        have H := H1
        clear H1
        by_cases c8 : x14_1 > 0
        ·rw [if_pos c8] at H
         have c8b0 : decide (0 < x14_1) = true := decide_eq_true c8
         clear c8
         obtain ⟨ji9, hji9⟩ : ∃ j_ : Int, (wrap64 (x14_1 - 1)) = j_ := ⟨_, rfl⟩
         replace H : (if 0 ≤ (ji9) then (if (ji9) < (l0.length : Int) then (if (rd l0 (ji9)) ≥ (rd l0 x14_1) then (some false) else (impl_isLeaf.l0 k1 l0 l0 (l0.length : Int) (wrap64 (x14_1 + 1)))) else (none)) else (none)) = some r := by first | (rw [hji9] at H; exact H) | (simp only [hji9] at H ⊢; exact H)
         (try rw [hji9] at A6)
         have hji9w : (IntKind.i64.wrap (x14_1 - 1)) = ji9 := (i64_w _).trans hji9
         by_cases c10 : 0 ≤ (ji9)
         ·rw [if_pos c10] at H
          have c10b0 : decide (0 ≤ (ji9)) = true := decide_eq_true c10
          clear c10
          by_cases c11 : (ji9) < (l0.length : Int)
          ·rw [if_pos c11] at H
           have c11b0 : decide ((ji9) < (l0.length : Int)) = true := decide_eq_true c11
           clear c11
           by_cases c12 : (rd l0 (ji9)) ≥ (rd l0 x14_1)
           ·rw [if_pos c12] at H
            have c12b0 : decide ((rd l0 x14_1) ≤ (rd l0 (ji9))) = true := decide_eq_true c12
            clear c12
            obtain rfl := Option.some.inj H
            have p643 : 0 ≤ (x14_1 : Int) := dd_
            have q643 : x14_1 < (l0.length : Int) := dd_
            obtain ⟨ad643, e643, hx643_0⟩ := Kd.at_int HR0.out x14_1 p643 q643
            cases e643
            replace p643 := eq_true p643
            replace q643 := eq_true q643
            go_wp2_with (first | (refine goesL_ (some 20) rfl rfl Try.func60 (by kernel_rfl) rfl #[.int .i64 (rd l0 x14_1)] rfl ll_ ?_; (with_reducible refine (impl_isNear.calls (rd l0 x14_1) true _ A6.out).mono ?_); rintro e w' ⟨rfl, ⟨nd, rfl⟩⟩; refine ⟨_, rfl, ?_⟩; have p645 : 0 ≤ ((ji9) : Int) := dd_; have q645 : (ji9) < (l0.length : Int) := dd_; obtain ⟨ad645, e645, hx645_0⟩ := Kd.at_int HR0.out (ji9) p645 q645; obtain rfl : ad643 = ad645 := (by injection e645); replace p645 := eq_true p645; replace q645 := eq_true q645))
            go_ret
            exact ⟨by first | rfl | (simp; done) | (simp only [← hji9] <;> (first | rfl | simp)) | (simp [*]; done), by repeat (first | exact Drawn0.refl _ | apply Drawn0.step)⟩
           ·rw [if_neg c12] at H
            have c12b0 : decide ((rd l0 x14_1) ≤ (rd l0 (ji9))) = false := decide_eq_false c12
            clear c12
            have H' := Aside0.mk H
            clear H
            have p643 : 0 ≤ (x14_1 : Int) := dd_
            have q643 : x14_1 < (l0.length : Int) := dd_
            obtain ⟨ad643, e643, hx643_0⟩ := Kd.at_int HR0.out x14_1 p643 q643
            cases e643
            replace p643 := eq_true p643
            replace q643 := eq_true q643
            go_wp2_with (first | (refine goesL_ (some 20) rfl rfl Try.func60 (by kernel_rfl) rfl #[.int .i64 (rd l0 x14_1)] rfl ll_ ?_; (with_reducible refine (impl_isNear.calls (rd l0 x14_1) true _ A6.out).mono ?_); rintro e w' ⟨rfl, ⟨nd, rfl⟩⟩; refine ⟨_, rfl, ?_⟩; have p645 : 0 ≤ ((ji9) : Int) := dd_; have q645 : (ji9) < (l0.length : Int) := dd_; obtain ⟨ad645, e645, hx645_0⟩ := Kd.at_int HR0.out (ji9) p645 q645; obtain rfl : ad643 = ad645 := (by injection e645); replace p645 := eq_true p645; replace q645 := eq_true q645))
            go_roundg k1
            case measure => have := HK1.out; omega
            case rel => exact ⟨(wrap64 (x14_1 + 1)), (by first | rfl | (simp; done) | (simp [*]; done)), H', ⟨by have := HK1.out; omega⟩, by repeat (first | exact Drawn0.refl _ | apply Drawn0.step)⟩
          ·rw [if_neg c11] at H
           exact absurd H (by simp)
         ·rw [if_neg c10] at H
          exact absurd H (by simp)
        ·rw [if_neg c8] at H
         have c8b0 : decide (0 < x14_1) = false := decide_eq_false c8
         clear c8
         have H' := Aside0.mk H
         clear H
         have p643 : 0 ≤ (x14_1 : Int) := dd_
         have q643 : x14_1 < (l0.length : Int) := dd_
         obtain ⟨ad643, e643, hx643_0⟩ := Kd.at_int HR0.out x14_1 p643 q643
         cases e643
         replace p643 := eq_true p643
         replace q643 := eq_true q643
         go_wp2_with (first | (refine goesL_ (some 20) rfl rfl Try.func60 (by kernel_rfl) rfl #[.int .i64 (rd l0 x14_1)] rfl ll_ ?_; (with_reducible refine (impl_isNear.calls (rd l0 x14_1) true _ A6.out).mono ?_); rintro e w' ⟨rfl, ⟨nd, rfl⟩⟩; refine ⟨_, rfl, ?_⟩))
         go_roundg k1
         case measure => have := HK1.out; omega
         case rel => exact ⟨(wrap64 (x14_1 + 1)), (by first | rfl | (simp; done) | (simp [*]; done)), H', ⟨by have := HK1.out; omega⟩, by repeat (first | exact Drawn0.refl _ | apply Drawn0.step)⟩
       ·replace c7 := Bool.eq_false_iff.mpr c7
        subst c7
        have H1 : (some false) = some r := by rw [if_neg (show ¬ (false = true) by decide)] at H; exact H
        clear H
        have H := H1
        clear H1
        obtain rfl := Option.some.inj H
        have p643 : 0 ≤ (x14_1 : Int) := dd_
        have q643 : x14_1 < (l0.length : Int) := dd_
        obtain ⟨ad643, e643, hx643_0⟩ := Kd.at_int HR0.out x14_1 p643 q643
        cases e643
        replace p643 := eq_true p643
        replace q643 := eq_true q643
        go_wp2_with (first | (refine goesL_ (some 20) rfl rfl Try.func60 (by kernel_rfl) rfl #[.int .i64 (rd l0 x14_1)] rfl ll_ ?_; (with_reducible refine (impl_isNear.calls (rd l0 x14_1) false _ A6.out).mono ?_); rintro e w' ⟨rfl, ⟨nd, rfl⟩⟩; refine ⟨_, rfl, ?_⟩))
        go_ret
        exact ⟨by first | rfl | (simp; done) | (simp [*]; done), by repeat (first | exact Drawn0.refl _ | apply Drawn0.step)⟩
      ·rw [if_neg c5] at H
       exact absurd H (by simp)
     ·rw [if_neg c4] at H
      exact absurd H (by simp)
    ·rw [if_neg c3] at H
     have c3b0 : decide (x14_1 < (l0.length : Int)) = false := decide_eq_false c3
     clear c3
     have H' := Aside0.mk H
     clear H
     go_wp2
     go_loopg [38] k1 (fun kq v38 w' => ∃ (x38_2 : Int), v38 = .int .i64 x38_2 ∧ Aside0 (impl_isLeaf.l1 kq l0 l0 (l0.length : Int) x38_2 = some r) ∧ Aside0 (kq ≤ k1) ∧ Drawn0 w w')
     case atStart => exact ⟨(0), (by first | rfl | (simp; done) | (simp [*]; done)), H', ⟨Nat.le_refl _⟩, by repeat (first | exact Drawn0.refl _ | apply Drawn0.step)⟩
     case round =>
      clear H'
      try clear c1
      try clear c2
      try clear c2b0
      try clear c2b1
      try clear p2
      try clear c3
      try clear c3b0
      try clear c4
      try clear c4b0
      try clear c5
      try clear c5b0
      try clear c6
      try clear p6
      try clear q6
      try clear hx6
      try clear c7
      try clear c8
      try clear c8b0
      try clear c10
      try clear c10b0
      try clear c11
      try clear c11b0
      try clear c12
      try clear c12b0
      try clear hx643_0
      try clear hx645_0
      try clear p2
      try clear p643
      try clear p645
      try clear q643
      try clear q645
      obtain ⟨x38_2, rfl, HA, HK2, ⟨m2, rfl⟩⟩ := hrel
      cases gk with
      | zero => exact absurd HA.out (by simp [impl_isLeaf.l1])
      | succ k2 =>
       have H := HA.out
       clear HA
       simp only [impl_isLeaf.l1] at H
       by_cases c13 : x38_2 < (l0.length : Int)
       ·rw [if_pos c13] at H
        have c13b0 : decide (x38_2 < (l0.length : Int)) = true := decide_eq_true c13
        clear c13
        by_cases c14 : 0 ≤ x38_2
        ·rw [if_pos c14] at H
         have c14b0 : decide (0 ≤ x38_2) = true := decide_eq_true c14
         clear c14
         by_cases c15 : x38_2 < (l0.length : Int)
         ·rw [if_pos c15] at H
          have c15b0 : decide (x38_2 < (l0.length : Int)) = true := decide_eq_true c15
          clear c15
          have H' := Aside0.mk H
          clear H
          have p646 : 0 ≤ (x38_2 : Int) := dd_
          have q646 : x38_2 < (l0.length : Int) := dd_
          obtain ⟨ad646, e646, hx646_0⟩ := Kd.at_int HR0.out x38_2 p646 q646
          cases e646
          replace p646 := eq_true p646
          replace q646 := eq_true q646
          go_wp2
          go_loopg [44] k2 (fun kq v44 w' => ∃ (x44_3 : Int), v44 = .int .i64 x44_3 ∧ Aside0 (impl_isLeaf.l2 kq l0 (rd l0 x38_2) l0 (l0.length : Int) x38_2 l0 (l0.length : Int) x44_3 = some r) ∧ Aside0 (kq ≤ k2) ∧ Drawn0 w w')
          case atStart => exact ⟨(0), (by first | rfl | (simp; done) | (simp [*]; done)), H', ⟨Nat.le_refl _⟩, by repeat (first | exact Drawn0.refl _ | apply Drawn0.step)⟩
          case round =>
           clear H'
           try clear c1
           try clear c2
           try clear c2b0
           try clear c2b1
           try clear p2
           try clear c3
           try clear c3b0
           try clear c4
           try clear c4b0
           try clear c5
           try clear c5b0
           try clear c6
           try clear p6
           try clear q6
           try clear hx6
           try clear c7
           try clear c8
           try clear c8b0
           try clear c10
           try clear c10b0
           try clear c11
           try clear c11b0
           try clear c12
           try clear c12b0
           try clear c13
           try clear c13b0
           try clear c14
           try clear c14b0
           try clear c15
           try clear c15b0
           try clear hx643_0
           try clear hx645_0
           try clear hx646_0
           try clear p2
           try clear p6
           try clear p643
           try clear p645
           try clear p646
           try clear q6
           try clear q643
           try clear q645
           try clear q646
           obtain ⟨x44_3, rfl, HA, HK3, ⟨m3, rfl⟩⟩ := hrel
           cases gk with
           | zero => exact absurd HA.out (by simp [impl_isLeaf.l2])
           | succ k3 =>
            have H := HA.out
            clear HA
            simp only [impl_isLeaf.l2] at H
            by_cases c16 : x44_3 < (l0.length : Int)
            ·rw [if_pos c16] at H
             have c16b0 : decide (x44_3 < (l0.length : Int)) = true := decide_eq_true c16
             clear c16
             by_cases c17 : 0 ≤ x44_3
             ·rw [if_pos c17] at H
              have c17b0 : decide (0 ≤ x44_3) = true := decide_eq_true c17
              clear c17
              by_cases c18 : x44_3 < (l0.length : Int)
              ·rw [if_pos c18] at H
               have c18b0 : decide (x44_3 < (l0.length : Int)) = true := decide_eq_true c18
               clear c18
               replace H := Option.bind_eq_some_iff.mp H
               obtain ⟨t648, A190, H⟩ := H
               replace H : ((slices_Contains_int_int.f k3 l0 t648).bind fun t649 => (if t649 = true then (impl_isLeaf.l2 k3 l0 (rd l0 x38_2) l0 (l0.length : Int) x38_2 l0 (l0.length : Int) (wrap64 (x44_3 + 1))) else (some false))) = some r := H
               have A19 := Aside0.mk A190
               clear A190
               replace H := Option.bind_eq_some_iff.mp H
               obtain ⟨t649, A200, H⟩ := H
               replace H : (if t649 = true then (impl_isLeaf.l2 k3 l0 (rd l0 x38_2) l0 (l0.length : Int) x38_2 l0 (l0.length : Int) (wrap64 (x44_3 + 1))) else (some false)) = some r := H
               have A20 := Aside0.mk A200
               clear A200
               by_cases c21 : t649 = true
               ·subst c21
                have H1 : (impl_isLeaf.l2 k3 l0 (rd l0 x38_2) l0 (l0.length : Int) x38_2 l0 (l0.length : Int) (wrap64 (x44_3 + 1))) = some r := by rw [if_pos rfl] at H; exact H
                clear H
                have H := H1
                clear H1
                have H' := Aside0.mk H
                clear H
                have p647 : 0 ≤ (x44_3 : Int) := dd_
                have q647 : x44_3 < (l0.length : Int) := dd_
                obtain ⟨ad647, e647, hx647_0⟩ := Kd.at_int HR0.out x44_3 p647 q647
                obtain rfl : ad646 = ad647 := (by injection e647)
                replace p647 := eq_true p647
                replace q647 := eq_true q647
                go_wp2_with (first | (refine goesL_ (some 51) rfl rfl Try.func62 (by kernel_rfl) rfl #[.int .i64 (rd l0 x38_2), .int .i64 (rd l0 x44_3)] rfl ll_ ?_; (with_reducible refine (impl_addNear.calls (rd l0 x38_2) (rd l0 x44_3) t648 _ A19.out).mono ?_); rintro e w' ⟨rfl, ⟨nd, rfl⟩⟩; refine ⟨_, rfl, ?_⟩) | (refine goesL_ (some 52) rfl rfl Try.func61 (by kernel_rfl) rfl #[.slice (some ad646) l0.length c0, .int .i64 t648] rfl ll_ ?_; (with_reducible refine (slices_Contains_int_int.calls k3 _ _ l0 t648 true _ ?side1 ?side2 A20.out).mono ?_); (case side1 => exact ss_ HR0); (case side2 => exact HC0.out); rintro e w' ⟨rfl, ⟨nd, rfl⟩⟩; refine ⟨_, rfl, ?_⟩))
                go_roundg k3
                case measure => have := HK1.out; have := HK2.out; have := HK3.out; omega
                case rel => exact ⟨(wrap64 (x44_3 + 1)), (by first | rfl | (simp; done) | (simp [*]; done)), H', ⟨by have := HK1.out; have := HK2.out; have := HK3.out; omega⟩, by repeat (first | exact Drawn0.refl _ | apply Drawn0.step)⟩
               ·replace c21 := Bool.eq_false_iff.mpr c21
                subst c21
                have H1 : (some false) = some r := by rw [if_neg (show ¬ (false = true) by decide)] at H; exact H
                clear H
                have H := H1
                clear H1
                obtain rfl := Option.some.inj H
                have p647 : 0 ≤ (x44_3 : Int) := dd_
                have q647 : x44_3 < (l0.length : Int) := dd_
                obtain ⟨ad647, e647, hx647_0⟩ := Kd.at_int HR0.out x44_3 p647 q647
                obtain rfl : ad646 = ad647 := (by injection e647)
                replace p647 := eq_true p647
                replace q647 := eq_true q647
                go_wp2_with (first | (refine goesL_ (some 51) rfl rfl Try.func62 (by kernel_rfl) rfl #[.int .i64 (rd l0 x38_2), .int .i64 (rd l0 x44_3)] rfl ll_ ?_; (with_reducible refine (impl_addNear.calls (rd l0 x38_2) (rd l0 x44_3) t648 _ A19.out).mono ?_); rintro e w' ⟨rfl, ⟨nd, rfl⟩⟩; refine ⟨_, rfl, ?_⟩) | (refine goesL_ (some 52) rfl rfl Try.func61 (by kernel_rfl) rfl #[.slice (some ad646) l0.length c0, .int .i64 t648] rfl ll_ ?_; (with_reducible refine (slices_Contains_int_int.calls k3 _ _ l0 t648 false _ ?side1 ?side2 A20.out).mono ?_); (case side1 => exact ss_ HR0); (case side2 => exact HC0.out); rintro e w' ⟨rfl, ⟨nd, rfl⟩⟩; refine ⟨_, rfl, ?_⟩))
                go_ret
                exact ⟨by first | rfl | (simp; done) | (simp [*]; done), by repeat (first | exact Drawn0.refl _ | apply Drawn0.step)⟩
              ·rw [if_neg c18] at H
               exact absurd H (by simp)
             ·rw [if_neg c17] at H
              exact absurd H (by simp)
            ·rw [if_neg c16] at H
             have c16b0 : decide (x44_3 < (l0.length : Int)) = false := decide_eq_false c16
             clear c16
             have H' := Aside0.mk H
             clear H
             go_wp2
             go_roundg k3
             case measure => have := HK1.out; have := HK2.out; have := HK3.out; omega
             case rel => exact ⟨(wrap64 (x38_2 + 1)), (by first | rfl | (simp; done) | (simp [*]; done)), H', ⟨by have := HK1.out; have := HK2.out; have := HK3.out; omega⟩, by repeat (first | exact Drawn0.refl _ | apply Drawn0.step)⟩
         ·rw [if_neg c15] at H
          exact absurd H (by simp)
        ·rw [if_neg c14] at H
         exact absurd H (by simp)
       ·rw [if_neg c13] at H
        have c13b0 : decide (x38_2 < (l0.length : Int)) = false := decide_eq_false c13
        clear c13
        obtain rfl := Option.some.inj H
        go_wp2
        go_ret
        exact ⟨by first | rfl | (simp; done) | (simp [*]; done), by repeat (first | exact Drawn0.refl _ | apply Drawn0.step)⟩
 ·rw [if_neg c2] at H
  have c2b0 : ((l0.length : Int) == 9) = false := beq_eq_false_iff_ne.mpr c2
  have c2b1 : ((l0.length : Int) != 9) = true := bne_iff_ne.mpr c2
  obtain rfl := Option.some.inj H
  go_enter Try.func56, Try.ntmps56
  go_wp2
  go_ret
  exact ⟨by first | rfl | (simp; done) | (simp [*]; done), by repeat (first | exact Drawn0.refl _ | apply Drawn0.step)⟩
end Go.Proofs.Ytbfafjejmljcpaa.P

set_option linter.unusedVariables false
set_option linter.unusedSimpArgs false
namespace Go.Proofs.Ytbfafjejmljcpaa.X
open Go.RowKit Go.Proofs.YtbfafjejmljcpaaW.PrintWords Go.Proofs.YtbfafjejmljcpaaW.PrintLast Go.Proofs.Ytbfafjejmljcpaa.P

def nearB (p : Int) : Bool := decide (0 ≤ p) && decide (p < 81)
theorem nearB_iff {p : Int} : nearB p = true ↔ 0 ≤ p ∧ p < 81 := by simp [nearB]
def addF (p q : Int) : Int := 9 * addN (p / 9) (q / 9) + addN (p % 9) (q % 9)
def stepB (l : List Int) (i : Int) : Bool := nearB (rd l i) && (!decide (0 < i) || decide (rd l (i - 1) < rd l i))
def sumB (l : List Int) (i k : Int) : Bool := decide (addF (rd l i) (rd l k) ∈ l)
def leafB (l : List Int) : Bool := decide (l.length = 9) && (allI 9 (stepB l) && allI 9 fun i => allI 9 fun k => sumB l i k)
theorem leafB_hit1 {l : List Int} {i : Int} (h0 : 0 ≤ i) (h1 : i < 9) (h : stepB l i = false) : leafB l = false := by
  have : allI 9 (stepB l) = false := by
    cases e : allI 9 (stepB l) with
    | false => rfl
    | true => have := allI_int e i h0 h1; rw [h] at this; exact absurd this (by decide)
  unfold leafB; rw [this, Bool.false_and, Bool.and_false]
theorem leafB_hit2 {l : List Int} {i k : Int} (h0 : 0 ≤ i) (h1 : i < 9) (k0 : 0 ≤ k) (k1 : k < 9) (h : sumB l i k = false) : leafB l = false := by
  have : (allI 9 fun i => allI 9 fun k => sumB l i k) = false := by
    cases e : (allI 9 fun i => allI 9 fun k => sumB l i k) with
    | false => rfl
    | true => have := allI_int (allI_int e i h0 h1) k k0 k1; rw [h] at this; exact absurd this (by decide)
  unfold leafB; rw [this, Bool.and_false, Bool.and_false]
theorem leafB_all {l : List Int} (hl : l.length = 9) (h1 : ∀ i : Int, 0 ≤ i → i < 9 → stepB l i = true) (h2 : ∀ i k : Int, 0 ≤ i → i < 9 → 0 ≤ k → k < 9 → sumB l i k = true) : leafB l = true := by
  unfold leafB
  rw [decide_eq_true hl, allI_int_iff.2 h1, allI_int_iff.2 fun i i0 i1 => allI_int_iff.2 fun k k0 k1 => h2 i k i0 i1 k0 k1]; rfl
theorem l6lHas_loop (l : List Int) (hl : l.length ≤ 1048576) (x : Int) (d : Nat) : ∀ (i : Int), 0 ≤ i → i + d = l.length → (∀ j : Nat, (j : Int) < i → rd l (j : Int) ≠ x) → Ev (fun k => spec_l6lHas.l0 k l x i) (decide (x ∈ l)) := by
  induction d with
  | zero =>
    intro i h0 h1 h
    refine Ev.step (fun k => by rw [spec_l6lHas.l0]) ?_
    refine Ev.neg (by omega) (Ev.done ?_)
    rw [has_false fun j hj => h j (by omega)]
  | succ d ih =>
    intro i h0 h1 h
    refine Ev.step (fun k => by rw [spec_l6lHas.l0]) ?_
    simp (disch := omega) only [w64]
    refine Ev.pos (by omega) (Ev.pos (by omega) ?_)
    by_cases e : rd l i = x
    · refine Ev.pos e (Ev.done ?_)
      rw [decide_eq_true (e ▸ rd_mem (by omega) h0)]
    · refine Ev.neg e (ih (i + 1) (by omega) (by omega) fun j hj => ?_)
      by_cases ej : (j : Int) = i
      · rw [ej]; exact e
      · exact h j (by omega)
theorem l6lHas_ev (l : List Int) (hl : l.length ≤ 1048576) (x : Int) : Ev (fun k => spec_l6lHas.f k l x) (decide (x ∈ l)) :=
  l6lHas_loop l hl x l.length 0 (by omega) (by omega) (fun j h => by omega)
theorem l6lAdd_eq {p q : Int} (hp : nearB p = true) (hq : nearB q = true) : spec_l6lAdd.f p q = some (addF p q) := by
  obtain ⟨p0, p1⟩ := nearB_iff.1 hp
  obtain ⟨q0, q1⟩ := nearB_iff.1 hq
  have h1 := spec_l1Add_eq (p / 9) (q / 9) ⟨by omega, by omega⟩ ⟨by omega, by omega⟩
  have h2 := spec_l1Add_eq (p % 9) (q % 9) ⟨by omega, by omega⟩ ⟨by omega, by omega⟩
  obtain ⟨r0, r1⟩ := addN_range (p / 9) (q / 9)
  obtain ⟨s0, s1⟩ := addN_range (p % 9) (q % 9)
  unfold spec_l6lAdd.f addF
  simp (disch := omega) only [w64, tdiv_nn, tmod_nn, h1, h2, Option.bind_some]
theorem addNear_eq {p q : Int} (hp : nearB p = true) (hq : nearB q = true) : impl_addNear.f p q = some (addF p q) := by
  obtain ⟨p0, p1⟩ := nearB_iff.1 hp
  obtain ⟨q0, q1⟩ := nearB_iff.1 hq
  have h1 := impl_add_eq (p / 9) (q / 9) ⟨by omega, by omega⟩ ⟨by omega, by omega⟩
  have h2 := impl_add_eq (p % 9) (q % 9) ⟨by omega, by omega⟩ ⟨by omega, by omega⟩
  obtain ⟨r0, r1⟩ := addN_range (p / 9) (q / 9)
  obtain ⟨s0, s1⟩ := addN_range (p % 9) (q % 9)
  unfold impl_addNear.f addF
  simp (disch := omega) only [w64, tdiv_nn, tmod_nn, h1, h2, Option.bind_some]
theorem isNear_eq (p : Int) : impl_isNear.f p = some (nearB p) := by
  unfold impl_isNear.f nearB
  by_cases h : p ≥ 0
  · rw [if_pos h, decide_eq_true h]; simp
  · rw [if_neg h, decide_eq_false h]; simp
theorem l6In80 (p : Int) : spec_l6In.f p 0 80 = some (nearB p) := by
  unfold spec_l6In.f nearB
  by_cases h : p ≥ 0
  · rw [if_pos h, decide_eq_true h, Bool.true_and, show decide (p ≤ 80) = decide (p < 81) from decide_eq_decide.2 (by omega)]
  · rw [if_neg h, decide_eq_false h]; simp
theorem specLeaf_l2 (l : List Int) (hl : l.length = 9) (hs : ∀ i : Int, 0 ≤ i → i < 9 → stepB l i = true) (i : Int) (i0 : 0 ≤ i) (i1 : i < 9) (hr : (∀ k : Int, 0 ≤ k → k < 9 → sumB l i k = true) → Ev (fun n => spec_LeafIn.l1 n l (i + 1)) (leafB l)) (d : Nat) :
    ∀ (j : Int), 0 ≤ j → j + d = 9 → (∀ k : Int, 0 ≤ k → k < j → sumB l i k = true) → Ev (fun n => spec_LeafIn.l2 n l i j) (leafB l) := by
  induction d with
  | zero =>
    intro j h0 h1 h
    refine Ev.step (fun k => by rw [spec_LeafIn.l2]) ?_
    simp (disch := omega) only [w64]
    exact Ev.neg (by omega) (hr fun k k0 k1 => h k k0 (by omega))
  | succ d ih =>
    intro j h0 h1 h
    have n1 := hs i i0 i1
    have n2 := hs j h0 (by omega)
    unfold stepB at n1 n2
    have ha := l6lAdd_eq (Bool.and_eq_true _ _ ▸ n1).1 (Bool.and_eq_true _ _ ▸ n2).1
    refine Ev.step (fun k => by rw [spec_LeafIn.l2]) ?_
    simp (disch := omega) only [w64, ha, Option.bind_some]
    refine Ev.pos (by omega) (Ev.pos (by omega) (Ev.pos (by omega) (Ev.pos (by omega) (Ev.pos (by omega) (Ev.bind (l6lHas_ev l (by omega) _) ?_)))))
    by_cases e : sumB l i j = true
    · refine Ev.pos e (ih (j + 1) (by omega) (by omega) fun k k0 k1 => ?_)
      by_cases ek : k = j
      · rw [ek]; exact e
      · exact h k k0 (by omega)
    · refine Ev.neg e (Ev.done ?_)
      rw [leafB_hit2 i0 i1 h0 (by omega) (Bool.eq_false_iff.2 e)]
theorem specLeaf_l1 (l : List Int) (hl : l.length = 9) (hs : ∀ i : Int, 0 ≤ i → i < 9 → stepB l i = true) (d : Nat) : ∀ (i : Int), 0 ≤ i → i + d = 9 → (∀ x k : Int, 0 ≤ x → x < i → 0 ≤ k → k < 9 → sumB l x k = true) → Ev (fun n => spec_LeafIn.l1 n l i) (leafB l) := by
  induction d with
  | zero =>
    intro i h0 h1 h
    refine Ev.step (fun k => by rw [spec_LeafIn.l1]) ?_
    refine Ev.neg (by omega) (Ev.done ?_)
    rw [leafB_all hl hs fun x k x0 x1 k0 k1 => h x k x0 (by omega) k0 k1]
  | succ d ih =>
    intro i h0 h1 h
    refine Ev.step (fun k => by rw [spec_LeafIn.l1]) ?_
    refine Ev.pos (by omega) ?_
    refine specLeaf_l2 l hl hs i h0 (by omega) (fun hk => ih (i + 1) (by omega) (by omega) fun x k x0 x1 k0 k1 => ?_) 9 0 (by omega) (by omega) (fun k h0 h1 => by omega)
    by_cases e : x = i
    · rw [e]; exact hk k k0 k1
    · exact h x k x0 (by omega) k0 k1
theorem specLeaf_l0 (l : List Int) (hl : l.length = 9) (d : Nat) : ∀ (i : Int), 0 ≤ i → i + d = 9 → (∀ x : Int, 0 ≤ x → x < i → stepB l x = true) → Ev (fun n => spec_LeafIn.l0 n l i) (leafB l) := by
  induction d with
  | zero =>
    intro i h0 h1 h
    refine Ev.step (fun k => by rw [spec_LeafIn.l0]) ?_
    refine Ev.neg (by omega) ?_
    exact specLeaf_l1 l hl (fun x x0 x1 => h x x0 (by omega)) 9 0 (by omega) (by omega) (fun x k h0 h1 => by omega)
  | succ d ih =>
    intro i h0 h1 h
    have hst : stepB l i = (nearB (rd l i) && (!decide (0 < i) || decide (rd l (i - 1) < rd l i))) := rfl
    refine Ev.step (fun k => by rw [spec_LeafIn.l0]) ?_
    simp (disch := omega) only [w64, l6In80, Option.bind_some]
    refine Ev.pos (by omega) (Ev.pos (by omega) (Ev.pos (by omega) ?_))
    by_cases e1 : nearB (rd l i) = true
    case neg => exact Ev.neg e1 (Ev.done (by rw [leafB_hit1 h0 (by omega) (by rw [hst, Bool.eq_false_iff.2 e1]; rfl)]))
    refine Ev.pos e1 ?_
    have next : stepB l i = true → Ev (fun n => spec_LeafIn.l0 n l (i + 1)) (leafB l) := fun hs => ih (i + 1) (by omega) (by omega) fun x x0 x1 => by
      by_cases e : x = i
      · rw [e]; exact hs
      · exact h x x0 (by omega)
    by_cases hi : i > 0
    · refine Ev.pos hi (Ev.pos (by omega) (Ev.pos (by omega) ?_))
      by_cases e2 : rd l i ≤ rd l (i - 1)
      · refine Ev.pos e2 (Ev.done ?_)
        rw [leafB_hit1 h0 (by omega) (by rw [hst, decide_eq_true hi, decide_eq_false (by omega)]; simp)]
      · refine Ev.neg e2 (next ?_)
        rw [hst, e1, decide_eq_true (show rd l (i - 1) < rd l i by omega)]; simp
    · refine Ev.neg hi (next ?_)
      rw [hst, e1, decide_eq_false (show ¬ 0 < i by omega)]; rfl
theorem specLeaf_ev (l : List Int) : Ev (fun k => spec_LeafIn.f k l) (leafB l) := by
  unfold spec_LeafIn.f
  by_cases hl : l.length = 9
  · exact Ev.pos (by omega) (specLeaf_l0 l hl 9 0 (by omega) (by omega) (fun x h0 h1 => by omega))
  · refine Ev.neg (by omega) (Ev.done ?_)
    unfold leafB; rw [decide_eq_false hl]; rfl
theorem implLeaf_l2 (l : List Int) (hl : l.length = 9) (hs : ∀ i : Int, 0 ≤ i → i < 9 → stepB l i = true) (i : Int) (i0 : 0 ≤ i) (i1 : i < 9) (hr : (∀ k : Int, 0 ≤ k → k < 9 → sumB l i k = true) → Ev (fun n => impl_isLeaf.l1 n l l (l.length : Int) (i + 1)) (leafB l)) (d : Nat) :
    ∀ (j : Int), 0 ≤ j → j + d = 9 → (∀ k : Int, 0 ≤ k → k < j → sumB l i k = true) → Ev (fun n => impl_isLeaf.l2 n l (rd l i) l (l.length : Int) i l (l.length : Int) j) (leafB l) := by
  induction d with
  | zero =>
    intro j h0 h1 h
    refine Ev.step (fun k => by rw [impl_isLeaf.l2]) ?_
    simp (disch := omega) only [w64]
    exact Ev.neg (by omega) (hr fun k k0 k1 => h k k0 (by omega))
  | succ d ih =>
    intro j h0 h1 h
    have n1 := hs i i0 i1
    have n2 := hs j h0 (by omega)
    unfold stepB at n1 n2
    have ha := addNear_eq (Bool.and_eq_true _ _ ▸ n1).1 (Bool.and_eq_true _ _ ▸ n2).1
    refine Ev.step (fun k => by rw [impl_isLeaf.l2]) ?_
    simp (disch := omega) only [w64, ha, Option.bind_some]
    refine Ev.pos (by omega) (Ev.pos (by omega) (Ev.pos (by omega) (Ev.bind (contains_ev l (by omega) _) ?_)))
    by_cases e : sumB l i j = true
    · refine Ev.pos e (ih (j + 1) (by omega) (by omega) fun k k0 k1 => ?_)
      by_cases ek : k = j
      · rw [ek]; exact e
      · exact h k k0 (by omega)
    · refine Ev.neg e (Ev.done ?_)
      rw [leafB_hit2 i0 i1 h0 (by omega) (Bool.eq_false_iff.2 e)]
theorem implLeaf_l1 (l : List Int) (hl : l.length = 9) (hs : ∀ i : Int, 0 ≤ i → i < 9 → stepB l i = true) (d : Nat) : ∀ (i : Int), 0 ≤ i → i + d = 9 → (∀ x k : Int, 0 ≤ x → x < i → 0 ≤ k → k < 9 → sumB l x k = true) → Ev (fun n => impl_isLeaf.l1 n l l (l.length : Int) i) (leafB l) := by
  induction d with
  | zero =>
    intro i h0 h1 h
    refine Ev.step (fun k => by rw [impl_isLeaf.l1]) ?_
    refine Ev.neg (by omega) (Ev.done ?_)
    rw [leafB_all hl hs fun x k x0 x1 k0 k1 => h x k x0 (by omega) k0 k1]
  | succ d ih =>
    intro i h0 h1 h
    refine Ev.step (fun k => by rw [impl_isLeaf.l1]) ?_
    refine Ev.pos (by omega) (Ev.pos (by omega) (Ev.pos (by omega) ?_))
    refine implLeaf_l2 l hl hs i h0 (by omega) (fun hk => ih (i + 1) (by omega) (by omega) fun x k x0 x1 k0 k1 => ?_) 9 0 (by omega) (by omega) (fun k h0 h1 => by omega)
    by_cases e : x = i
    · rw [e]; exact hk k k0 k1
    · exact h x k x0 (by omega) k0 k1
theorem implLeaf_l0 (l : List Int) (hl : l.length = 9) (d : Nat) : ∀ (i : Int), 0 ≤ i → i + d = 9 → (∀ x : Int, 0 ≤ x → x < i → stepB l x = true) → Ev (fun n => impl_isLeaf.l0 n l l (l.length : Int) i) (leafB l) := by
  induction d with
  | zero =>
    intro i h0 h1 h
    refine Ev.step (fun k => by rw [impl_isLeaf.l0]) ?_
    refine Ev.neg (by omega) ?_
    exact implLeaf_l1 l hl (fun x x0 x1 => h x x0 (by omega)) 9 0 (by omega) (by omega) (fun x k h0 h1 => by omega)
  | succ d ih =>
    intro i h0 h1 h
    have hst : stepB l i = (nearB (rd l i) && (!decide (0 < i) || decide (rd l (i - 1) < rd l i))) := rfl
    refine Ev.step (fun k => by rw [impl_isLeaf.l0]) ?_
    simp (disch := omega) only [w64, isNear_eq, Option.bind_some]
    refine Ev.pos (by omega) (Ev.pos (by omega) (Ev.pos (by omega) ?_))
    by_cases e1 : nearB (rd l i) = true
    case neg => exact Ev.neg e1 (Ev.done (by rw [leafB_hit1 h0 (by omega) (by rw [hst, Bool.eq_false_iff.2 e1]; rfl)]))
    refine Ev.pos e1 ?_
    have next : stepB l i = true → Ev (fun n => impl_isLeaf.l0 n l l (l.length : Int) (i + 1)) (leafB l) := fun hs => ih (i + 1) (by omega) (by omega) fun x x0 x1 => by
      by_cases e : x = i
      · rw [e]; exact hs
      · exact h x x0 (by omega)
    by_cases hi : i > 0
    · refine Ev.pos hi (Ev.pos (by omega) (Ev.pos (by omega) ?_))
      by_cases e2 : rd l (i - 1) ≥ rd l i
      · refine Ev.pos e2 (Ev.done ?_)
        rw [leafB_hit1 h0 (by omega) (by rw [hst, decide_eq_true hi, decide_eq_false (by omega)]; simp)]
      · refine Ev.neg e2 (next ?_)
        rw [hst, e1, decide_eq_true (show rd l (i - 1) < rd l i by omega)]; simp
    · refine Ev.neg hi (next ?_)
      rw [hst, e1, decide_eq_false (show ¬ 0 < i by omega)]; rfl
theorem implLeaf_ev (l : List Int) : Ev (fun k => impl_isLeaf.f k l) (leafB l) := by
  unfold impl_isLeaf.f
  by_cases hl : l.length = 9
  · exact Ev.pos (by omega) (implLeaf_l0 l hl 9 0 (by omega) (by omega) (fun x h0 h1 => by omega))
  · refine Ev.neg (by omega) (Ev.done ?_)
    unfold leafB; rw [decide_eq_false hl]; rfl
end Go.Proofs.Ytbfafjejmljcpaa.X

set_option linter.unusedVariables false
set_option linter.unusedSimpArgs false
namespace Go.Proofs.Ytbfafjejmljcpaa.X
open Go.RowKit Go.Proofs.YtbfafjejmljcpaaW.PrintWords

def firstI (n : Nat) (p : Int → Bool) : Int := match (List.range n).find? fun (i : Nat) => p (i : Int) with | some i => (i : Int) | none => -1
theorem firstI_none {n : Nat} {p : Int → Bool} (h : ∀ i : Int, 0 ≤ i → i < n → p i = false) : firstI n p = -1 := by
  have : ((List.range n).find? fun (i : Nat) => p (i : Int)) = none := by
    rw [List.find?_eq_none]
    intro i hi
    rw [h i (by omega) (by have := List.mem_range.1 hi; omega)]; simp
  unfold firstI; rw [this]
theorem firstI_some {n : Nat} {p : Int → Bool} (i : Int) (h0 : 0 ≤ i) (h1 : i < n) (hp : p i = true) (h : ∀ j : Int, 0 ≤ j → j < i → p j = false) : firstI n p = i := by
  have : ((List.range n).find? fun (i : Nat) => p (i : Int)) = some i.toNat := by
    rw [List.find?_range_eq_some]
    refine ⟨by rw [Int.toNat_of_nonneg h0]; exact hp, List.mem_range.2 (by omega), fun j hj => ?_⟩
    rw [h j (by omega) (by omega)]; rfl
  unfold firstI; rw [this]; show ((i.toNat : Nat) : Int) = i; omega
theorem firstI_spec {n : Nat} {p : Int → Bool} (i : Int) (h0 : 0 ≤ i) (h1 : i < n) (hp : p i = true) : 0 ≤ firstI n p ∧ firstI n p < n ∧ p (firstI n p) = true ∧ firstI n p ≤ i := by
  cases e : ((List.range n).find? fun (i : Nat) => p (i : Int)) with
  | none =>
    rw [List.find?_eq_none] at e
    have := e i.toNat (List.mem_range.2 (by omega))
    rw [Int.toNat_of_nonneg h0, hp] at this; exact absurd rfl this
  | some j =>
    rw [List.find?_range_eq_some] at e
    obtain ⟨h2, h3, h4⟩ := e
    have hj : firstI n p = (j : Int) := by
      unfold firstI
      rw [show ((List.range n).find? fun (i : Nat) => p (i : Int)) = some j from List.find?_range_eq_some.2 ⟨h2, h3, h4⟩]
    have hjn := List.mem_range.1 h3
    rw [hj]
    refine ⟨by omega, by omega, h2, ?_⟩
    rcases Int.lt_or_le i (j : Int) with hlt | hle
    · have := h4 i.toNat (by omega)
      rw [Int.toNat_of_nonneg h0, hp] at this; exact absurd this (by decide)
    · exact hle
theorem sysB_parts {t : List Int} (h : sysB t = true) : ninesB t 81 = true ∧ unitsB t = true ∧ sharesB t = true ∧ solvesB t = true := by
  unfold sysB at h
  simp only [Bool.and_eq_true] at h
  exact h
theorem sys_units {t : List Int} (h : sysB t = true) {a : Int} (a0 : 0 ≤ a) (a1 : a < 9) : rd t a = 0 ∧ rd t (9 * a) = 0 ∧ rd t (9 + a) = a ∧ rd t (9 * a + 1) = a := by
  have := allI_int (sysB_parts h).2.1 a a0 a1
  simp only [Bool.and_eq_true, decide_eq_true_eq] at this
  exact ⟨this.1.1.1, this.1.1.2, this.1.2, this.2⟩
end Go.Proofs.Ytbfafjejmljcpaa.X

namespace Go.Proofs.Ytbfafjejmljcpaa.P
open Go.RowKit Go.Proofs.YtbfafjejmljcpaaW.PrintWords Go.Proofs.YtbfafjejmljcpaaW.PrintLast
set_option linter.unusedVariables false
set_option linter.unusedSimpArgs false

def cmp_isNaN_int.f (a0 : Int) : Option (Bool) := some (a0 != a0)
set_option maxHeartbeats 8000000 in
set_option maxRecDepth 100000 in
theorem cmp_isNaN_int.calls (a0 : Int) (r : Bool) (w : World) (h : cmp_isNaN_int.f a0 = some r) :
  Calls Try.prog 126 #[.int .i64 a0] w fun e w' => e = .returned (.bool r) ∧ Drawn0 w w' := by
 have H : (some (a0 != a0)) = some r := h
 clear h
 obtain rfl := Option.some.inj H
 go_enter Try.func126, Try.ntmps126
 go_wp2
 go_ret
 exact ⟨by first | rfl | (simp; done) | (simp [*]; done), by repeat (first | exact Drawn0.refl _ | apply Drawn0.step)⟩
end Go.Proofs.Ytbfafjejmljcpaa.P

namespace Go.Proofs.Ytbfafjejmljcpaa.P
open Go.RowKit Go.Proofs.YtbfafjejmljcpaaW.PrintWords Go.Proofs.YtbfafjejmljcpaaW.PrintLast
set_option linter.unusedVariables false
set_option linter.unusedSimpArgs false

def cmp_Compare_int.f (a0 : Int) (a1 : Int) : Option (Int) := (cmp_isNaN_int.f a0).bind fun t650 => ((cmp_isNaN_int.f a1).bind fun t651 => (if t650 = true then (if t651 = true then (some 0) else (some (-1))) else (if t651 = true then (some 1) else (if a0 < a1 then (some (-1)) else (if a0 > a1 then (some 1) else (some 0))))))
set_option maxHeartbeats 8000000 in
set_option maxRecDepth 100000 in
theorem cmp_Compare_int.calls (a0 : Int) (a1 : Int) (r : Int) (w : World) (h : cmp_Compare_int.f a0 a1 = some r) :
  Calls Try.prog 119 #[.int .i64 a0, .int .i64 a1] w fun e w' => e = .returned (.int .i64 r) ∧ Drawn0 w w' := by
 have H : ((cmp_isNaN_int.f a0).bind fun t650 => ((cmp_isNaN_int.f a1).bind fun t651 => (if t650 = true then (if t651 = true then (some 0) else (some (-1))) else (if t651 = true then (some 1) else (if a0 < a1 then (some (-1)) else (if a0 > a1 then (some 1) else (some 0))))))) = some r := h
 clear h
 replace H := Option.bind_eq_some_iff.mp H
 obtain ⟨t650, A30, H⟩ := H
 replace H : ((cmp_isNaN_int.f a1).bind fun t651 => (if t650 = true then (if t651 = true then (some 0) else (some (-1))) else (if t651 = true then (some 1) else (if a0 < a1 then (some (-1)) else (if a0 > a1 then (some 1) else (some 0)))))) = some r := H
 have A3 := Aside0.mk A30
 clear A30
 replace H := Option.bind_eq_some_iff.mp H
 obtain ⟨t651, A40, H⟩ := H
 replace H : (if t650 = true then (if t651 = true then (some 0) else (some (-1))) else (if t651 = true then (some 1) else (if a0 < a1 then (some (-1)) else (if a0 > a1 then (some 1) else (some 0))))) = some r := H
 have A4 := Aside0.mk A40
 clear A40
 by_cases c5 : t650 = true
 ·subst c5
  have H1 : (if t651 = true then (some 0) else (some (-1))) = some r := by rw [if_pos rfl] at H; exact H
  clear H
  have H := H1
  clear H1
  by_cases c6 : t651 = true
  ·subst c6
   have H1 : (some 0) = some r := by rw [if_pos rfl] at H; exact H
   clear H
   have H := H1
   clear H1
   obtain rfl := Option.some.inj H
   go_enter Try.func119, Try.ntmps119
   go_wp2_with (first | (refine goesL_ (some 8) rfl rfl Try.func126 (by kernel_rfl) rfl #[.int .i64 a0] rfl ll_ ?_; (with_reducible refine (cmp_isNaN_int.calls a0 true _ A3.out).mono ?_); rintro e w' ⟨rfl, ⟨nd, rfl⟩⟩; refine ⟨_, rfl, ?_⟩) | (refine goesL_ (some 10) rfl rfl Try.func126 (by kernel_rfl) rfl #[.int .i64 a1] rfl ll_ ?_; (with_reducible refine (cmp_isNaN_int.calls a1 true _ A4.out).mono ?_); rintro e w' ⟨rfl, ⟨nd, rfl⟩⟩; refine ⟨_, rfl, ?_⟩))
   go_ret
   exact ⟨by first | rfl | (simp; done) | (simp [*]; done), by repeat (first | exact Drawn0.refl _ | apply Drawn0.step)⟩
  ·replace c6 := Bool.eq_false_iff.mpr c6
   subst c6
   have H1 : (some (-1)) = some r := by rw [if_neg (show ¬ (false = true) by decide)] at H; exact H
   clear H
   have H := H1
   clear H1
   obtain rfl := Option.some.inj H
   go_enter Try.func119, Try.ntmps119
   go_wp2_with (first | (refine goesL_ (some 8) rfl rfl Try.func126 (by kernel_rfl) rfl #[.int .i64 a0] rfl ll_ ?_; (with_reducible refine (cmp_isNaN_int.calls a0 true _ A3.out).mono ?_); rintro e w' ⟨rfl, ⟨nd, rfl⟩⟩; refine ⟨_, rfl, ?_⟩) | (refine goesL_ (some 10) rfl rfl Try.func126 (by kernel_rfl) rfl #[.int .i64 a1] rfl ll_ ?_; (with_reducible refine (cmp_isNaN_int.calls a1 false _ A4.out).mono ?_); rintro e w' ⟨rfl, ⟨nd, rfl⟩⟩; refine ⟨_, rfl, ?_⟩))
   go_ret
   exact ⟨by first | rfl | (simp; done) | (simp [*]; done), by repeat (first | exact Drawn0.refl _ | apply Drawn0.step)⟩
 ·replace c5 := Bool.eq_false_iff.mpr c5
  subst c5
  have H1 : (if t651 = true then (some 1) else (if a0 < a1 then (some (-1)) else (if a0 > a1 then (some 1) else (some 0)))) = some r := by rw [if_neg (show ¬ (false = true) by decide)] at H; exact H
  clear H
  have H := H1
  clear H1
  by_cases c7 : t651 = true
  ·subst c7
   have H1 : (some 1) = some r := by rw [if_pos rfl] at H; exact H
   clear H
   have H := H1
   clear H1
   obtain rfl := Option.some.inj H
   go_enter Try.func119, Try.ntmps119
   go_wp2_with (first | (refine goesL_ (some 8) rfl rfl Try.func126 (by kernel_rfl) rfl #[.int .i64 a0] rfl ll_ ?_; (with_reducible refine (cmp_isNaN_int.calls a0 false _ A3.out).mono ?_); rintro e w' ⟨rfl, ⟨nd, rfl⟩⟩; refine ⟨_, rfl, ?_⟩) | (refine goesL_ (some 10) rfl rfl Try.func126 (by kernel_rfl) rfl #[.int .i64 a1] rfl ll_ ?_; (with_reducible refine (cmp_isNaN_int.calls a1 true _ A4.out).mono ?_); rintro e w' ⟨rfl, ⟨nd, rfl⟩⟩; refine ⟨_, rfl, ?_⟩))
   go_ret
   exact ⟨by first | rfl | (simp; done) | (simp [*]; done), by repeat (first | exact Drawn0.refl _ | apply Drawn0.step)⟩
  ·replace c7 := Bool.eq_false_iff.mpr c7
   subst c7
   have H1 : (if a0 < a1 then (some (-1)) else (if a0 > a1 then (some 1) else (some 0))) = some r := by rw [if_neg (show ¬ (false = true) by decide)] at H; exact H
   clear H
   have H := H1
   clear H1
   by_cases c8 : a0 < a1
   ·rw [if_pos c8] at H
    have c8b0 : decide (a0 < a1) = true := decide_eq_true c8
    clear c8
    obtain rfl := Option.some.inj H
    go_enter Try.func119, Try.ntmps119
    go_wp2_with (first | (refine goesL_ (some 8) rfl rfl Try.func126 (by kernel_rfl) rfl #[.int .i64 a0] rfl ll_ ?_; (with_reducible refine (cmp_isNaN_int.calls a0 false _ A3.out).mono ?_); rintro e w' ⟨rfl, ⟨nd, rfl⟩⟩; refine ⟨_, rfl, ?_⟩) | (refine goesL_ (some 10) rfl rfl Try.func126 (by kernel_rfl) rfl #[.int .i64 a1] rfl ll_ ?_; (with_reducible refine (cmp_isNaN_int.calls a1 false _ A4.out).mono ?_); rintro e w' ⟨rfl, ⟨nd, rfl⟩⟩; refine ⟨_, rfl, ?_⟩))
    go_ret
    exact ⟨by first | rfl | (simp; done) | (simp [*]; done), by repeat (first | exact Drawn0.refl _ | apply Drawn0.step)⟩
   ·rw [if_neg c8] at H
    have c8b0 : decide (a0 < a1) = false := decide_eq_false c8
    clear c8
    by_cases c9 : a0 > a1
    ·rw [if_pos c9] at H
     have c9b0 : decide (a1 < a0) = true := decide_eq_true c9
     clear c9
     obtain rfl := Option.some.inj H
     go_enter Try.func119, Try.ntmps119
     go_wp2_with (first | (refine goesL_ (some 8) rfl rfl Try.func126 (by kernel_rfl) rfl #[.int .i64 a0] rfl ll_ ?_; (with_reducible refine (cmp_isNaN_int.calls a0 false _ A3.out).mono ?_); rintro e w' ⟨rfl, ⟨nd, rfl⟩⟩; refine ⟨_, rfl, ?_⟩) | (refine goesL_ (some 10) rfl rfl Try.func126 (by kernel_rfl) rfl #[.int .i64 a1] rfl ll_ ?_; (with_reducible refine (cmp_isNaN_int.calls a1 false _ A4.out).mono ?_); rintro e w' ⟨rfl, ⟨nd, rfl⟩⟩; refine ⟨_, rfl, ?_⟩))
     go_ret
     exact ⟨by first | rfl | (simp; done) | (simp [*]; done), by repeat (first | exact Drawn0.refl _ | apply Drawn0.step)⟩
    ·rw [if_neg c9] at H
     have c9b0 : decide (a1 < a0) = false := decide_eq_false c9
     clear c9
     obtain rfl := Option.some.inj H
     go_enter Try.func119, Try.ntmps119
     go_wp2_with (first | (refine goesL_ (some 8) rfl rfl Try.func126 (by kernel_rfl) rfl #[.int .i64 a0] rfl ll_ ?_; (with_reducible refine (cmp_isNaN_int.calls a0 false _ A3.out).mono ?_); rintro e w' ⟨rfl, ⟨nd, rfl⟩⟩; refine ⟨_, rfl, ?_⟩) | (refine goesL_ (some 10) rfl rfl Try.func126 (by kernel_rfl) rfl #[.int .i64 a1] rfl ll_ ?_; (with_reducible refine (cmp_isNaN_int.calls a1 false _ A4.out).mono ?_); rintro e w' ⟨rfl, ⟨nd, rfl⟩⟩; refine ⟨_, rfl, ?_⟩))
     go_ret
     exact ⟨by first | rfl | (simp; done) | (simp [*]; done), by repeat (first | exact Drawn0.refl _ | apply Drawn0.step)⟩
end Go.Proofs.Ytbfafjejmljcpaa.P

namespace Go.Proofs.Ytbfafjejmljcpaa.P
open Go.RowKit Go.Proofs.YtbfafjejmljcpaaW.PrintWords Go.Proofs.YtbfafjejmljcpaaW.PrintLast
set_option linter.unusedVariables false
set_option linter.unusedSimpArgs false

def slices_Compare_int_int.l0 : Nat → List Int → List Int → List Int → Int → Int → Option (Int)
 | 0, _, _, _, _, _ => none
 | k + 1, x0, x1, x9, x10, x11 => if x11 < x10 then (if 0 ≤ x11 then (if x11 < (x9.length : Int) then (if x11 ≥ (x1.length : Int) then (some 1) else (if x11 < (x1.length : Int) then ((cmp_Compare_int.f (rd x9 x11) (rd x1 x11)).bind fun t654 => (if t654 = 0 then (slices_Compare_int_int.l0 k x0 x1 x9 x10 (wrap64 (x11 + 1))) else (some t654))) else (none))) else (none)) else (none)) else (if (x0.length : Int) < (x1.length : Int) then (some (-1)) else (some 0))
def slices_Compare_int_int.f (k : Nat) (l0 : List Int) (l1 : List Int) : Option (Int) := slices_Compare_int_int.l0 k l0 l1 l0 (l0.length : Int) 0
set_option maxHeartbeats 8000000 in
set_option maxRecDepth 100000 in
theorem slices_Compare_int_int.calls (k : Nat) (A0 : Option Addr) (c0 : Nat) (l0 : List Int) (A1 : Option Addr) (c1 : Nat) (l1 : List Int) (r : Int) (w : World) (hr0 : Kd.C (Kd.int .i64) w A0 l0.length l0) (hc0 : l0.length ≤ c0) (hr1 : Kd.C (Kd.int .i64) w A1 l1.length l1) (hc1 : l1.length ≤ c1) (h : slices_Compare_int_int.f k l0 l1 = some r) :
  Calls Try.prog 84 #[.slice A0 l0.length c0, .slice A1 l1.length c1] w fun e w' => e = .returned (.int .i64 r) ∧ Drawn0 w w' := by
 have HR0 := Aside0.mk hr0
 have HC0 := Aside0.mk hc0
 clear hr0 hc0
 have HR1 := Aside0.mk hr1
 have HC1 := Aside0.mk hc1
 clear hr1 hc1
 have H : (slices_Compare_int_int.l0 k l0 l1 l0 (l0.length : Int) 0) = some r := h
 clear h
 have H' := Aside0.mk H
 clear H
 go_enter Try.func84, Try.ntmps84
 go_wp2
 go_loopg [11] k (fun kq v11 w' => ∃ (x11_1 : Int), v11 = .int .i64 x11_1 ∧ Aside0 (slices_Compare_int_int.l0 kq l0 l1 l0 (l0.length : Int) x11_1 = some r) ∧ Aside0 (kq ≤ k) ∧ Drawn0 w w')
 case atStart => exact ⟨(0), (by first | rfl | (simp; done) | (simp [*]; done)), H', ⟨Nat.le_refl _⟩, by repeat (first | exact Drawn0.refl _ | apply Drawn0.step)⟩
 case round =>
  clear H'
  try clear c1
  try clear p2
  obtain ⟨x11_1, rfl, HA, HK1, ⟨m1, rfl⟩⟩ := hrel
  cases gk with
  | zero => exact absurd HA.out (by simp [slices_Compare_int_int.l0])
  | succ k1 =>
   have H := HA.out
   clear HA
   simp only [slices_Compare_int_int.l0] at H
   by_cases c3 : x11_1 < (l0.length : Int)
   ·rw [if_pos c3] at H
    have c3b0 : decide (x11_1 < (l0.length : Int)) = true := decide_eq_true c3
    clear c3
    by_cases c4 : 0 ≤ x11_1
    ·rw [if_pos c4] at H
     have c4b0 : decide (0 ≤ x11_1) = true := decide_eq_true c4
     clear c4
     by_cases c5 : x11_1 < (l0.length : Int)
     ·rw [if_pos c5] at H
      have c5b0 : decide (x11_1 < (l0.length : Int)) = true := decide_eq_true c5
      clear c5
      by_cases c6 : x11_1 ≥ (l1.length : Int)
      ·rw [if_pos c6] at H
       have c6b0 : decide ((l1.length : Int) ≤ x11_1) = true := decide_eq_true c6
       clear c6
       obtain rfl := Option.some.inj H
       have p652 : 0 ≤ (x11_1 : Int) := dd_
       have q652 : x11_1 < (l0.length : Int) := dd_
       obtain ⟨ad652, e652, hx652_0⟩ := Kd.at_int HR0.out x11_1 p652 q652
       cases e652
       replace p652 := eq_true p652
       replace q652 := eq_true q652
       go_wp2
       go_ret
       exact ⟨by first | rfl | (simp; done) | (simp [*]; done), by repeat (first | exact Drawn0.refl _ | apply Drawn0.step)⟩
      ·rw [if_neg c6] at H
       have c6b0 : decide ((l1.length : Int) ≤ x11_1) = false := decide_eq_false c6
       clear c6
       by_cases c7 : x11_1 < (l1.length : Int)
       ·rw [if_pos c7] at H
        have c7b0 : decide (x11_1 < (l1.length : Int)) = true := decide_eq_true c7
        clear c7
        replace H := Option.bind_eq_some_iff.mp H
        obtain ⟨t654, A80, H⟩ := H
        replace H : (if t654 = 0 then (slices_Compare_int_int.l0 k1 l0 l1 l0 (l0.length : Int) (wrap64 (x11_1 + 1))) else (some t654)) = some r := H
        have A8 := Aside0.mk A80
        clear A80
        by_cases c9 : t654 = 0
        ·rw [if_pos c9] at H
         have c9b0 : (t654 == 0) = true := beq_iff_eq.mpr c9
         have c9b1 : (t654 != 0) = false := bne_eq_false_iff_eq.mpr c9
         clear c9
         have H' := Aside0.mk H
         clear H
         have p652 : 0 ≤ (x11_1 : Int) := dd_
         have q652 : x11_1 < (l0.length : Int) := dd_
         obtain ⟨ad652, e652, hx652_0⟩ := Kd.at_int HR0.out x11_1 p652 q652
         cases e652
         replace p652 := eq_true p652
         replace q652 := eq_true q652
         have p653 : 0 ≤ (x11_1 : Int) := dd_
         have q653 : x11_1 < (l1.length : Int) := dd_
         obtain ⟨ad653, e653, hx653_0⟩ := Kd.at_int HR1.out x11_1 p653 q653
         cases e653
         replace p653 := eq_true p653
         replace q653 := eq_true q653
         go_wp2_with (first | (refine goesL_ (some 26) rfl rfl Try.func119 (by kernel_rfl) rfl #[.int .i64 (rd l0 x11_1), .int .i64 (rd l1 x11_1)] rfl ll_ ?_; (with_reducible refine (cmp_Compare_int.calls (rd l0 x11_1) (rd l1 x11_1) t654 _ A8.out).mono ?_); rintro e w' ⟨rfl, ⟨nd, rfl⟩⟩; refine ⟨_, rfl, ?_⟩))
         go_roundg k1
         case measure => have := HK1.out; omega
         case rel => exact ⟨(wrap64 (x11_1 + 1)), (by first | rfl | (simp; done) | (simp [*]; done)), H', ⟨by have := HK1.out; omega⟩, by repeat (first | exact Drawn0.refl _ | apply Drawn0.step)⟩
        ·rw [if_neg c9] at H
         have c9b0 : (t654 == 0) = false := beq_eq_false_iff_ne.mpr c9
         have c9b1 : (t654 != 0) = true := bne_iff_ne.mpr c9
         obtain rfl := Option.some.inj H
         have p652 : 0 ≤ (x11_1 : Int) := dd_
         have q652 : x11_1 < (l0.length : Int) := dd_
         obtain ⟨ad652, e652, hx652_0⟩ := Kd.at_int HR0.out x11_1 p652 q652
         cases e652
         replace p652 := eq_true p652
         replace q652 := eq_true q652
         have p653 : 0 ≤ (x11_1 : Int) := dd_
         have q653 : x11_1 < (l1.length : Int) := dd_
         obtain ⟨ad653, e653, hx653_0⟩ := Kd.at_int HR1.out x11_1 p653 q653
         cases e653
         replace p653 := eq_true p653
         replace q653 := eq_true q653
         go_wp2_with (first | (refine goesL_ (some 26) rfl rfl Try.func119 (by kernel_rfl) rfl #[.int .i64 (rd l0 x11_1), .int .i64 (rd l1 x11_1)] rfl ll_ ?_; (with_reducible refine (cmp_Compare_int.calls (rd l0 x11_1) (rd l1 x11_1) t654 _ A8.out).mono ?_); rintro e w' ⟨rfl, ⟨nd, rfl⟩⟩; refine ⟨_, rfl, ?_⟩))
         go_ret
         exact ⟨by first | rfl | (simp; done) | (simp [*]; done), by repeat (first | exact Drawn0.refl _ | apply Drawn0.step)⟩
       ·rw [if_neg c7] at H
        exact absurd H (by simp)
     ·rw [if_neg c5] at H
      exact absurd H (by simp)
    ·rw [if_neg c4] at H
     exact absurd H (by simp)
   ·rw [if_neg c3] at H
    have c3b0 : decide (x11_1 < (l0.length : Int)) = false := decide_eq_false c3
    clear c3
    by_cases c10 : (l0.length : Int) < (l1.length : Int)
    ·rw [if_pos c10] at H
     have c10b0 : decide ((l0.length : Int) < (l1.length : Int)) = true := decide_eq_true c10
     have c10b1 : decide (l0.length < l1.length) = true := decide_eq_true (Int.ofNat_lt.mp c10)
     clear c10
     obtain rfl := Option.some.inj H
     go_wp2
     go_ret
     exact ⟨by first | rfl | (simp; done) | (simp [*]; done), by repeat (first | exact Drawn0.refl _ | apply Drawn0.step)⟩
    ·rw [if_neg c10] at H
     have c10b0 : decide ((l0.length : Int) < (l1.length : Int)) = false := decide_eq_false c10
     have c10b1 : decide (l0.length < l1.length) = false := decide_eq_false (fun h => c10 (Int.ofNat_lt.mpr h))
     clear c10
     obtain rfl := Option.some.inj H
     go_wp2
     go_ret
     exact ⟨by first | rfl | (simp; done) | (simp [*]; done), by repeat (first | exact Drawn0.refl _ | apply Drawn0.step)⟩
end Go.Proofs.Ytbfafjejmljcpaa.P

set_option linter.unusedVariables false
set_option linter.unusedSimpArgs false
namespace Go.Proofs.Ytbfafjejmljcpaa.X
open Go.RowKit Go.Proofs.YtbfafjejmljcpaaW.PrintWords Go.Proofs.YtbfafjejmljcpaaW.PrintLast Go.Proofs.Ytbfafjejmljcpaa.P

def gapI (a b : List Int) : Int := firstI 9 fun i => rd a i != rd b i
def lessB (a b : List Int) : Bool := decide (0 ≤ gapI a b) && decide (rd a (gapI a b) < rd b (gapI a b))
def cmpI (a b : List Int) : Int := if gapI a b < 0 then 0 else if rd a (gapI a b) < rd b (gapI a b) then -1 else 1
theorem gapI_ge (a b : List Int) : -1 ≤ gapI a b := by
  unfold gapI
  by_cases h : ∃ i : Int, 0 ≤ i ∧ i < 9 ∧ (rd a i != rd b i) = true
  · obtain ⟨i, h0, h1, h2⟩ := h
    have := firstI_spec (n := 9) (p := fun i => rd a i != rd b i) i h0 h1 h2
    omega
  · rw [firstI_none fun i h0 h1 => Bool.eq_false_iff.2 fun h2 => h ⟨i, h0, h1, h2⟩]; omega
theorem cmpI_less {a b : List Int} : decide (cmpI a b ≥ 0) = !lessB a b := by
  unfold cmpI lessB
  have := gapI_ge a b
  by_cases h : gapI a b < 0
  · rw [if_pos h, decide_eq_false (by omega : ¬ 0 ≤ gapI a b)]; rfl
  · rw [if_neg h, decide_eq_true (by omega : 0 ≤ gapI a b)]
    by_cases h2 : rd a (gapI a b) < rd b (gapI a b)
    · rw [if_pos h2, decide_eq_true h2]; rfl
    · rw [if_neg h2, decide_eq_false h2]; rfl
theorem isNaN_eq (x : Int) : cmp_isNaN_int.f x = some false := by
  unfold cmp_isNaN_int.f
  simp
theorem cmpInt_eq (x y : Int) : cmp_Compare_int.f x y = some (if x < y then -1 else if x > y then 1 else 0) := by
  unfold cmp_Compare_int.f
  rw [isNaN_eq, isNaN_eq]
  simp only [Option.bind_some, Bool.false_eq_true, if_false]
  split <;> (try split) <;> rfl
theorem compare_loop (a b : List Int) (ha : a.length = 9) (hb : b.length = 9) (d : Nat) : ∀ i : Int, 0 ≤ i → i + d = 9 → (∀ j : Int, 0 ≤ j → j < i → rd a j = rd b j) → Ev (fun k => slices_Compare_int_int.l0 k a b a 9 i) (cmpI a b) := by
  induction d with
  | zero =>
    intro i h0 h1 h
    refine Ev.step (fun k => by rw [slices_Compare_int_int.l0]) ?_
    refine Ev.neg (by omega) (Ev.neg (by omega) (Ev.done ?_))
    have : gapI a b = -1 := firstI_none fun j j0 j1 => by rw [h j j0 (by omega)]; simp
    unfold cmpI; rw [this]; rfl
  | succ d ih =>
    intro i h0 h1 h
    refine Ev.step (fun k => by rw [slices_Compare_int_int.l0]) ?_
    rw [w64 (x := i + 1) (by omega) (by omega), cmpInt_eq]
    refine Ev.pos (by omega) (Ev.pos h0 (Ev.pos (by omega) (Ev.neg (by omega) (Ev.pos (by omega) (Ev.fix rfl ?_)))))
    have gap : rd a i ≠ rd b i → gapI a b = i := fun hne => firstI_some i h0 (by omega) (by simpa using hne) fun j j0 j1 => by rw [h j j0 j1]; simp
    by_cases c1 : rd a i < rd b i
    · rw [if_pos c1]
      refine Ev.neg (by decide) (Ev.done ?_)
      unfold cmpI; rw [gap (by omega), if_neg (by omega), if_pos c1]
    · rw [if_neg c1]
      by_cases c2 : rd a i > rd b i
      · rw [if_pos c2]
        refine Ev.neg (by decide) (Ev.done ?_)
        unfold cmpI; rw [gap (by omega), if_neg (by omega), if_neg c1]
      · rw [if_neg c2]
        refine Ev.pos rfl (ih (i + 1) (by omega) (by omega) fun j j0 j1 => ?_)
        by_cases e : j = i
        · rw [e]; omega
        · exact h j j0 (by omega)
theorem compare_ev (a b : List Int) (ha : a.length = 9) (hb : b.length = 9) : Ev (fun k => slices_Compare_int_int.f k a b) (cmpI a b) := by
  unfold slices_Compare_int_int.f
  rw [show (a.length : Int) = 9 by omega]
  exact compare_loop a b ha hb 9 0 (by omega) (by omega) (fun j j0 j1 => by omega)
theorem leafB_parts {l : List Int} (h : leafB l = true) : l.length = 9 ∧ (∀ i : Int, 0 ≤ i → i < 9 → stepB l i = true) ∧ (∀ i k : Int, 0 ≤ i → i < 9 → 0 ≤ k → k < 9 → sumB l i k = true) := by
  unfold leafB at h
  simp only [Bool.and_eq_true, decide_eq_true_eq] at h
  exact ⟨h.1, fun i i0 i1 => allI_int h.2.1 i i0 i1, fun i k i0 i1 k0 k1 => allI_int (allI_int h.2.2 i i0 i1) k k0 k1⟩
theorem leaf_near {l : List Int} (h : leafB l = true) {i : Int} (i0 : 0 ≤ i) (i1 : i < 9) : 0 ≤ rd l i ∧ rd l i < 81 := by
  have := (leafB_parts h).2.1 i i0 i1
  unfold stepB at this
  exact nearB_iff.1 (Bool.and_eq_true _ _ ▸ this).1
theorem leaf_step {l : List Int} (h : leafB l = true) {i : Int} (i0 : 0 < i) (i1 : i < 9) : rd l (i - 1) < rd l i := by
  have := (leafB_parts h).2.1 i (by omega) i1
  unfold stepB at this
  have := (Bool.and_eq_true _ _ ▸ this).2
  rw [decide_eq_true i0] at this
  simpa using this
theorem leaf_lt {l : List Int} (h : leafB l = true) (d : Nat) : ∀ i : Int, 0 ≤ i → i + 1 + d < 9 → rd l i < rd l (i + 1 + d) := by
  induction d with
  | zero =>
    intro i i0 i1
    have := leaf_step h (i := i + 1) (by omega) (by omega)
    rw [show i + 1 - 1 = i by omega] at this
    simpa using this
  | succ d ih =>
    intro i i0 i1
    have h1 := ih i i0 (by omega)
    have h2 := leaf_step h (i := i + 1 + ((d + 1 : Nat) : Int)) (by omega) (by omega)
    rw [show i + 1 + ((d + 1 : Nat) : Int) - 1 = i + 1 + (d : Int) by omega] at h2
    omega
theorem leaf_asc {l : List Int} (h : leafB l = true) {i j : Int} (i0 : 0 ≤ i) (ij : i < j) (j1 : j < 9) : rd l i < rd l j := by
  have := leaf_lt h (j - i - 1).toNat i i0 (by omega)
  rwa [show i + 1 + ((j - i - 1).toNat : Int) = j by omega] at this
theorem mem_rd {l : List Int} {v : Int} (h : v ∈ l) : ∃ i : Int, 0 ≤ i ∧ i < l.length ∧ rd l i = v := by
  obtain ⟨i, hi, e⟩ := List.mem_iff_getElem.1 h
  exact ⟨i, by omega, by omega, by rw [rd_cast l i hi, e]⟩
theorem addF_three (x : Int) (h0 : 0 ≤ x) (h1 : x < 81) : addF (addF x x) x = 0 := by
  have k : ∀ u : Int, 0 ≤ u → u < 9 → addN (addN u u) u = 0 := fun u u0 u1 => nine1 (P := fun u => addN (addN u u) u = 0) (by decide +kernel) u u0 u1
  have r1 := addN_range (x / 9) (x / 9)
  have r2 := addN_range (x % 9) (x % 9)
  have e1 := k (x / 9) (by omega) (by omega)
  have e2 := k (x % 9) (by omega) (by omega)
  unfold addF
  rw [show (9 * addN (x / 9) (x / 9) + addN (x % 9) (x % 9)) / 9 = addN (x / 9) (x / 9) by omega, show (9 * addN (x / 9) (x / 9) + addN (x % 9) (x % 9)) % 9 = addN (x % 9) (x % 9) by omega, e1, e2]
  rfl
theorem leaf_sum {l : List Int} (h : leafB l = true) {x y : Int} (hx : x ∈ l) (hy : y ∈ l) : addF x y ∈ l := by
  have hl := (leafB_parts h).1
  obtain ⟨i, i0, i1, rfl⟩ := mem_rd hx
  obtain ⟨j, j0, j1, rfl⟩ := mem_rd hy
  have := (leafB_parts h).2.2 i j i0 (by omega) j0 (by omega)
  unfold sumB at this
  exact of_decide_eq_true this
theorem leaf_zero {l : List Int} (h : leafB l = true) : rd l 0 = 0 := by
  have hl := (leafB_parts h).1
  have hm : rd l 0 ∈ l := rd_mem (by omega) (by omega)
  have hn := leaf_near h (i := 0) (by omega) (by omega)
  have hz := leaf_sum h (leaf_sum h hm hm) hm
  rw [addF_three _ hn.1 hn.2] at hz
  obtain ⟨i, i0, i1, e⟩ := mem_rd hz
  by_cases e0 : i = 0
  · rw [e0] at e; exact e
  · have := leaf_asc h (i := 0) (j := i) (by omega) (by omega) (by omega)
    omega
theorem leaf_pos {l : List Int} (h : leafB l = true) {i : Int} (i0 : 0 < i) (i1 : i < 9) : 0 < rd l i := by
  have := leaf_asc h (i := 0) (j := i) (by omega) i0 i1
  have := leaf_zero h
  omega
theorem leaf_take {l : List Int} (h : leafB l = true) {i : Int} (i0 : 0 ≤ i) (i1 : i < 9) : rd l i ∉ l.take i.toNat := by
  intro hm
  obtain ⟨j, hj, e⟩ := List.mem_take_iff_getElem.1 hm
  have := leaf_asc h (i := (j : Int)) (j := i) (by omega) (by omega) i1
  rw [rd_cast l j (by omega), e] at this
  omega
def seenS (l : List (List Int)) (i p : Int) : Bool := (List.range i.toNat).any fun (j : Nat) => decide (p ∈ rd_LI l (j : Int))
theorem seenS_zero (l : List (List Int)) (p : Int) : seenS l 0 p = false := rfl
theorem seenS_succ (l : List (List Int)) {i : Int} (h0 : 0 ≤ i) (p : Int) : seenS l (i + 1) p = (seenS l i p || decide (p ∈ rd_LI l i)) := by
  unfold seenS
  rw [show (i + 1).toNat = i.toNat + 1 by omega, List.range_succ, List.any_append]
  simp [Int.toNat_of_nonneg h0]
def freshB (l : List (List Int)) (i : Int) : Bool := (rd_LI l i).all fun p => decide (p ≤ 0) || !seenS l i p
def ordB (l : List (List Int)) (i : Int) : Bool := decide (i ≤ 0) || lessB (rd_LI l (i - 1)) (rd_LI l i)
def leafOk (l : List (List Int)) (i : Int) : Bool := leafB (rd_LI l i) && (ordB l i && freshB l i)
def spreadB (l : List (List Int)) : Bool := decide (l.length = 10) && allI 10 (leafOk l)
theorem spreadB_hit {l : List (List Int)} {i : Int} (h0 : 0 ≤ i) (h1 : i < 10) (h : leafOk l i = false) : spreadB l = false := by
  cases e : spreadB l with
  | false => rfl
  | true =>
    unfold spreadB at e
    have := allI_int (Bool.and_eq_true _ _ ▸ e).2 i h0 h1
    rw [h] at this; exact absurd this (by decide)
theorem spreadB_all {l : List (List Int)} (hl : l.length = 10) (h : ∀ i : Int, 0 ≤ i → i < 10 → leafOk l i = true) : spreadB l = true := by
  unfold spreadB
  rw [decide_eq_true hl, allI_int_iff.2 h]; rfl
theorem spreadB_parts {l : List (List Int)} (h : spreadB l = true) : l.length = 10 ∧ ∀ i : Int, 0 ≤ i → i < 10 → leafOk l i = true := by
  unfold spreadB at h
  simp only [Bool.and_eq_true, decide_eq_true_eq] at h
  exact ⟨h.1, fun i i0 i1 => allI_int h.2 i i0 i1⟩
theorem leafOk_parts {l : List (List Int)} {i : Int} (h : leafOk l i = true) : leafB (rd_LI l i) = true ∧ ordB l i = true ∧ freshB l i = true := by
  unfold leafOk at h
  simp only [Bool.and_eq_true] at h
  exact h
end Go.Proofs.Ytbfafjejmljcpaa.X

set_option linter.unusedVariables false
set_option linter.unusedSimpArgs false
namespace Go.Proofs.Ytbfafjejmljcpaa.X
open Go.RowKit Go.Proofs.YtbfafjejmljcpaaW.PrintWords

theorem filI_asc (n : Nat) (p : Int → Bool) : (filI n p).Pairwise (· < ·) := by
  induction n with
  | zero => exact List.Pairwise.nil
  | succ n ih =>
    rw [filI_succ, List.pairwise_append]
    refine ⟨ih, ?_, fun a ha b hb => ?_⟩
    · by_cases h : p (n : Int) = true
      · rw [if_pos h]; exact List.pairwise_singleton _ _
      · rw [if_neg h]; exact List.Pairwise.nil
    · by_cases h : p (n : Int) = true
      · rw [if_pos h] at hb
        have hbn := List.mem_singleton.1 hb
        have := (mem_filI.1 ha).2.1
        omega
      · rw [if_neg h] at hb; exact absurd hb (by simp)
theorem rd_getElem {l : List Int} {i : Int} (h0 : 0 ≤ i) (h1 : i < l.length) : rd l i = l[i.toNat]'(by omega) := by
  unfold rd
  rw [List.getD_eq_getElem?_getD]
  simp [show i.toNat < l.length by omega]
end Go.Proofs.Ytbfafjejmljcpaa.X

set_option linter.unusedVariables false
set_option linter.unusedSimpArgs false
namespace Go.Proofs.Ytbfafjejmljcpaa.X
open Go.RowKit Go.Proofs.YtbfafjejmljcpaaW.PrintWords Go.Proofs.YtbfafjejmljcpaaW.PrintLast Go.Proofs.Ytbfafjejmljcpaa.P

theorem enters2 : Eg 106 := enters_of Try.func106 (by kernel_rfl) rfl
theorem enters3 : Eg 108 := enters_of Try.func108 (by kernel_rfl) rfl
theorem BoxT.alloc {w : World} {A0 : Option Addr} {c0 : Nat} {t : List Int} (hr : Kd.C (Kd.int .i64) w A0 t.length t) : BoxT (w.alloc (.cells #[.slice A0 t.length c0] 23)) w.heap.size A0 c0 t :=
  ⟨World.cell?_alloc_at _ _ _ _ rfl, Kd.C_below hr ((Below.refl _ _).alloc (Nat.le_refl _) _)⟩
def unitB (t : List Int) (a : Int) : Bool := decide (rd t a = 0) && decide (rd t (9 * a) = 0) && decide (rd t (9 + a) = a) && decide (rd t (9 * a + 1) = a)
theorem unitsB_iff {t : List Int} : unitsB t = true ↔ ∀ x : Int, 0 ≤ x → x < 9 → unitB t x = true := allI_int_iff
theorem unitsB_hit {t : List Int} {x : Int} (h0 : 0 ≤ x) (h1 : x < 9) (h : unitB t x = false) : unitsB t = false := by
  cases e : unitsB t with
  | false => rfl
  | true => have := unitsB_iff.1 e x h0 h1; rw [h] at this; exact absurd this (by decide)
theorem solvesB_hit {t : List Int} {c d : Int} (h0 : 0 ≤ d) (h1 : d < c) (h2 : c < 9) (h : gapsB t c d = false) : solvesB t = false := by
  cases e : solvesB t with
  | false => rfl
  | true =>
    have := allI_int (allI_int e c (by omega) (by omega)) d h0 (by omega)
    rw [h, decide_eq_true h1] at this; exact absurd this (by decide)
theorem solvesB_all {t : List Int} (h : ∀ c d : Int, 0 ≤ d → d < c → c < 9 → gapsB t c d = true) : solvesB t = true :=
  allI_int_iff.2 fun c c0 c1 => allI_int_iff.2 fun d d0 d1 => by
    by_cases e : d < c
    · rw [h c d d0 e (by omega)]; simp
    · rw [decide_eq_false e]; rfl
theorem sysB_of {t : List Int} (h : ninesB t 81 = true) : sysB t = (unitsB t && (sharesB t && solvesB t)) := by unfold sysB; rw [h]; rfl
set_option maxRecDepth 100000 in
set_option maxHeartbeats 8000000 in
theorem isSystem_calls (A0 : Option Addr) (c0 : Nat) (t : List Int) (w : World) (hr : Kd.C (Kd.int .i64) w A0 t.length t) :
    Calls Try.prog 66 #[.slice A0 t.length c0] w fun e w' => e = .returned (.bool (sysB t)) ∧ Below w.heap.size w w' := by
  have hmf : ∀ (fn : Fn) (first cap : Array Value) (w : World), (Instr.makeFunc fn first cap).run Try.prog w = .ok (.func fn first cap) w := fun _ _ _ _ => rfl
  have HC0 := Aside0.mk (areNines_calls A0 c0 t 81 (w.alloc (.cells #[.slice A0 t.length c0] 23)) (BoxT.alloc (c0 := c0) hr).read)
  have HX := Aside0.mk (BoxT.alloc (c0 := c0) hr)
  have hB0 := Aside0.mk ((Below.refl w.heap.size w).alloc (Nat.le_refl _) (.cells #[.slice A0 t.length c0] 23))
  by_cases hn : ninesB t 81 = true
  case neg =>
    have hn := Bool.eq_false_iff.2 hn
    have e : sysB t = false := by unfold sysB; rw [hn]; rfl
    rw [e]
    have e2 : (decide ((t.length : Int) = 81) && t.all isN) = false := by
      unfold ninesB at hn
      rw [← hn, show decide ((t.length : Int) = 81) = decide (t.length = 81) from decide_eq_decide.2 (by omega)]
    rw [e2] at HC0
    clear hn e e2 hr HX
    go_enter Try.func66, Try.ntmps66
    go_wp2_with (go_at_call 104; refine HC0.out.mono ?_; rintro e w' ⟨rfl, hb⟩)
    go_ret
    exact ⟨rfl, hB0.out.trans (hb.mono (by simp))⟩
  case pos =>
    have e2 : (decide ((t.length : Int) = 81) && t.all isN) = true := by
      have := hn
      unfold ninesB at this
      rw [← this, show decide ((t.length : Int) = 81) = decide (t.length = 81) from decide_eq_decide.2 (by omega)]
    rw [e2] at HC0
    rw [sysB_of hn]
    have HN := Aside0.mk hn
    obtain ⟨hl, _⟩ := ninesB_iff.1 hn
    have hlen : 81 ≤ t.length := by omega
    clear e2 hr hl hn
    go_enter Try.func66, Try.ntmps66
    go_wp2_with (go_at_call 104; refine HC0.out.mono ?_; rintro e w1 ⟨rfl, hb⟩)
    have HX1 := Aside0.mk (HX.out.below hb)
    have HB1 := Aside0.mk (hB0.out.trans (hb.mono (by simp)))
    clear hb HX hB0 HC0
    go_loopg [9] 9 (fun kq v9 w' => ∃ i : Int, v9 = .int .i64 i ∧ Aside0 (0 ≤ i ∧ i ≤ 9) ∧ Aside0 ((9 : Int) - i ≤ kq) ∧ Aside0 (∀ x : Int, 0 ≤ x → x < i → unitB t x = true) ∧ Aside0 (BoxT w' w.heap.size A0 c0 t) ∧ Aside0 (Below w.heap.size w w'))
    case atStart => exact ⟨0, rfl, ⟨by omega⟩, ⟨by omega⟩, ⟨fun x h0 h1 => by omega⟩, HX1, HB1⟩
    case round =>
      clear HX1 HB1
      obtain ⟨i, rfl, HI, HK, HA, HX, HB⟩ := hrel
      have h0 : 0 ≤ i := HI.out.1
      by_cases c6 : i < 9
      · obtain ⟨ad, e1⟩ := HX.out.some (by omega)
        cases e1
        have hc := HX.out.cell
        have g1 := HX.out.at i h0 (by omega)
        have g2 := HX.out.at (9 * i) (by omega) (by omega)
        have g3 := HX.out.at (9 + i) (by omega) (by omega)
        have g4 := HX.out.at (9 * i + 1) (by omega) (by omega)
        have hu : unitB t i = (decide (rd t i = 0) && decide (rd t (9 * i) = 0) && decide (rd t (9 + i) = i) && decide (rd t (9 * i + 1) = i)) := rfl
        have HU := Aside0.mk hu
        clear hu
        obtain ⟨v1, hv1⟩ : ∃ v, rd t i = v := ⟨_, rfl⟩
        obtain ⟨v2, hv2⟩ : ∃ v, rd t (9 * i) = v := ⟨_, rfl⟩
        obtain ⟨v3, hv3⟩ : ∃ v, rd t (9 + i) = v := ⟨_, rfl⟩
        obtain ⟨v4, hv4⟩ : ∃ v, rd t (9 * i + 1) = v := ⟨_, rfl⟩
        rw [hv1] at g1 HU
        rw [hv2] at g2 HU
        rw [hv3] at g3 HU
        rw [hv4] at g4 HU
        clear hv1 hv2 hv3 hv4
        have fin : ∀ (b : Bool), unitB t i = b → b = false → (unitsB t && (sharesB t && solvesB t)) = false := fun b hb hf => by
          rw [unitsB_hit h0 c6 (hb.trans hf)]; rfl
        have FIN := Aside0.mk fin
        clear fin
        by_cases t1 : v1 = 0
        · have t1a : (v1 == 0) = true := beq_iff_eq.2 t1
          have t1b : (v1 != 0) = false := by rw [bne, t1a]; rfl
          by_cases t2 : v2 = 0
          · have t2a : (v2 == 0) = true := beq_iff_eq.2 t2
            have t2b : (v2 != 0) = false := by rw [bne, t2a]; rfl
            by_cases t3 : v3 = i
            · have t3a : (v3 == i) = true := beq_iff_eq.2 t3
              have t3b : (v3 != i) = false := by rw [bne, t3a]; rfl
              by_cases t4 : v4 = i
              · have t4a : (v4 == i) = true := beq_iff_eq.2 t4
                have t4b : (v4 != i) = false := by rw [bne, t4a]; rfl
                have HP := Aside0.mk (show unitB t i = true by rw [HU.out, decide_eq_true t1, decide_eq_true t2, decide_eq_true t3, decide_eq_true t4]; rfl)
                clear t1 t2 t3 t4
                go_wp2
                go_roundg (9 - (i.toNat + 1))
                case measure => have := HK.out; omega
                case rel =>
                  refine ⟨i + 1, rfl, ⟨by omega⟩, ⟨by omega⟩, ⟨fun x hx0 hx1 => ?_⟩, HX, HB⟩
                  by_cases e : x = i
                  · rw [e]; exact HP.out
                  · exact HA.out x hx0 (by omega)
              · have t4a : (v4 == i) = false := beq_eq_false_iff_ne.2 t4
                have t4b : (v4 != i) = true := by rw [bne, t4a]; rfl
                have HP := Aside0.mk (FIN.out _ HU.out (by rw [decide_eq_false t4, Bool.and_false]))
                clear t1 t2 t3 t4
                go_wp2
                go_ret
                exact ⟨by rw [HP.out]; rfl, HB.out⟩
            · have t3a : (v3 == i) = false := beq_eq_false_iff_ne.2 t3
              have t3b : (v3 != i) = true := by rw [bne, t3a]; rfl
              have HP := Aside0.mk (FIN.out _ HU.out (by rw [decide_eq_false t3, Bool.and_false, Bool.false_and]))
              clear t1 t2 t3
              go_wp2
              go_ret
              exact ⟨by rw [HP.out]; rfl, HB.out⟩
          · have t2a : (v2 == 0) = false := beq_eq_false_iff_ne.2 t2
            have t2b : (v2 != 0) = true := by rw [bne, t2a]; rfl
            have HP := Aside0.mk (FIN.out _ HU.out (by rw [decide_eq_false t2, Bool.and_false, Bool.false_and, Bool.false_and]))
            clear t1 t2
            go_wp2
            go_ret
            exact ⟨by rw [HP.out]; rfl, HB.out⟩
        · have t1a : (v1 == 0) = false := beq_eq_false_iff_ne.2 t1
          have t1b : (v1 != 0) = true := by rw [bne, t1a]; rfl
          have HP := Aside0.mk (FIN.out _ HU.out (by rw [decide_eq_false t1, Bool.false_and, Bool.false_and, Bool.false_and]))
          clear t1
          go_wp2
          go_ret
          exact ⟨by rw [HP.out]; rfl, HB.out⟩
      · have HU := Aside0.mk (unitsB_iff.2 fun x x0 x1 => HA.out x x0 (by have := HI.out; omega))
        clear HA HK HI
        have hp : Fn3 106 #[.pointer (some ⟨w.heap.size, 0, none⟩)] wr (fun a b c => In9 a ∧ In9 b ∧ In9 c) (fun x y z => .bool (decide (rd t (9 * addN x y + z) = addN (rd t (9 * x + z)) (rd t (9 * y + z))))) :=
          fun W x y z hW hd => isSystem1_calls w.heap.size A0 c0 t W (HX.out.below hW) HN.out x y z hd.1 hd.2.1 hd.2.2
        have hcall := forAll_calls 106 #[.pointer (some ⟨w.heap.size, 0, none⟩)] enters2 _ wr hp
        clear hp
        have es : all3 (fun x y z => decide (rd t (9 * addN x y + z) = addN (rd t (9 * x + z)) (rd t (9 * y + z)))) = sharesB t := rfl
        rw [es] at hcall
        clear es
        by_cases hs : sharesB t = true
        case neg =>
          have hs := Bool.eq_false_iff.2 hs
          rw [hs] at hcall
          have HS := Aside0.mk hs
          have HC := Aside0.mk hcall
          clear hs hcall
          go_wp2_with (go_at_call 105; refine HC.out.mono ?_; rintro e w2 ⟨rfl, hb2⟩)
          go_ret
          exact ⟨by rw [HU.out, HS.out]; rfl, bstep HB.out hb2⟩
        case pos =>
          rw [hs] at hcall
          have HS := Aside0.mk hs
          have HC := Aside0.mk hcall
          clear hs hcall
          go_wp2_with (go_at_call 105; refine HC.out.mono ?_; rintro e w2 ⟨rfl, hb2⟩)
          have HX2 := Aside0.mk (HX.out.below hb2)
          have HB2 := Aside0.mk (bstep HB.out hb2)
          clear HX HB hb2 HC
          go_loopg [48] 9 (fun kq v9 w' => ∃ c : Int, v9 = .int .i64 c ∧ Aside0 (0 ≤ c ∧ c ≤ 9) ∧ Aside0 ((9 : Int) - c ≤ kq) ∧ Aside0 (∀ x y : Int, 0 ≤ y → y < x → x < c → gapsB t x y = true) ∧ Aside0 (BoxT w' w.heap.size A0 c0 t) ∧ Aside0 (Below w.heap.size w w'))
          case atStart => exact ⟨0, rfl, ⟨by omega⟩, ⟨by omega⟩, ⟨fun x y h0 h1 => by omega⟩, HX2, HB2⟩
          case round =>
            clear HX2 HB2
            obtain ⟨c, rfl, HI, HK, HA, HX, HB⟩ := hrel
            have h0 : 0 ≤ c := HI.out.1
            by_cases c7 : c < 9
            · obtain ⟨wo, hwo⟩ : ∃ wo : World, wr = wo := ⟨_, rfl⟩
              subst hwo
              have HXc := Aside0.mk (HX.out.below ((Below.refl _ _).alloc (Nat.le_refl _) (.cells #[.int .i64 c] 3)))
              have HBc := Aside0.mk (HB.out.alloc HB.out.size (.cells #[.int .i64 c] 3))
              have HCc := Aside0.mk (show (wr.alloc (.cells #[.int .i64 c] 3)).cell? ⟨wr.heap.size, 0, none⟩ = some (.int .i64 c) from World.cell?_alloc_at _ _ _ _ rfl)
              go_wp2
              obtain ⟨cb, hcb⟩ : ∃ cb, wr.heap.size = cb := ⟨_, rfl⟩
              rw [hcb] at HCc ⊢
              clear hcb
              go_loopg [52] 9 (fun kq v9 w' => ∃ d : Int, v9 = .int .i64 d ∧ Aside0 (0 ≤ d ∧ d ≤ c) ∧ Aside0 (c - d ≤ kq) ∧ Aside0 (∀ y : Int, 0 ≤ y → y < d → gapsB t c y = true) ∧ Aside0 (w'.cell? ⟨cb, 0, none⟩ = some (.int .i64 c)) ∧ Aside0 (BoxT w' w.heap.size A0 c0 t) ∧ Aside0 (Below w.heap.size w w'))
              case atStart => exact ⟨0, rfl, ⟨by omega⟩, ⟨by omega⟩, ⟨fun y h0 h1 => by omega⟩, HCc, HXc, HBc⟩
              case round =>
                clear HXc HBc HCc HX HB
                obtain ⟨d, rfl, HI2, HK2, HA2, HC, HX, HB⟩ := hrel
                have h02 : 0 ≤ d := HI2.out.1
                by_cases c8 : d < c
                · have hbel := (Below.refl wr.heap.size wr).alloc (Nat.le_refl _) (.cells #[.int .i64 d] 3)
                  have HXd := Aside0.mk (HX.out.below hbel)
                  have HBd := Aside0.mk (HB.out.alloc HB.out.size (.cells #[.int .i64 d] 3))
                  have hcd : (wr.alloc (.cells #[.int .i64 d] 3)).cell? ⟨cb, 0, none⟩ = some (.int .i64 c) := (hbel.cell (World.block_lt_of_cell? wr _ HC.out)).trans HC.out
                  have hdd : (wr.alloc (.cells #[.int .i64 d] 3)).cell? ⟨wr.heap.size, 0, none⟩ = some (.int .i64 d) := World.cell?_alloc_at _ _ _ _ rfl
                  have hp : Fn1 108 #[.pointer (some ⟨w.heap.size, 0, none⟩), .pointer (some ⟨cb, 0, none⟩), .pointer (some ⟨wr.heap.size, 0, none⟩)] (wr.alloc (.cells #[.int .i64 d] 3)) In9 (fun x => .int .i64 (addN (rd t (9 * x + c)) (minusN (rd t (9 * x + d))))) :=
                    fun W x hW hd => isSystem2_calls w.heap.size cb wr.heap.size A0 c0 t W (HXd.out.below hW) HN.out c d ⟨h0, c7⟩ ⟨h02, by omega⟩ ((hW.cell (World.block_lt_of_cell? _ _ hcd)).trans hcd) ((hW.cell (World.block_lt_of_cell? _ _ hdd)).trans hdd) x hd
                  have hcall := isOnce_calls 108 #[.pointer (some ⟨w.heap.size, 0, none⟩), .pointer (some ⟨cb, 0, none⟩), .pointer (some ⟨wr.heap.size, 0, none⟩)] enters3 _ _ hp (fun x _ => addN_range _ _)
                  have eg : onceB (fun x => addN (rd t (9 * x + c)) (minusN (rd t (9 * x + d)))) = gapsB t c d := rfl
                  rw [eg] at hcall
                  have HCD := Aside0.mk hcd
                  clear hp eg hbel hcd hdd
                  by_cases hg : gapsB t c d = true
                  · rw [hg] at hcall
                    have HG := Aside0.mk hg
                    have HCA := Aside0.mk hcall
                    clear hg hcall
                    go_wp2_with (go_at_call 107; refine HCA.out.mono ?_; rintro e w2 ⟨rfl, hb2⟩)
                    go_roundg ((c - (d + 1)).toNat)
                    case measure => have := HK2.out; omega
                    case rel =>
                      refine ⟨d + 1, rfl, ⟨by omega⟩, ⟨by omega⟩, ⟨fun y y0 y1 => ?_⟩, ⟨(hb2.cell (World.block_lt_of_cell? _ _ HCD.out)).trans HCD.out⟩, ⟨HXd.out.below hb2⟩, ⟨bstep HBd.out hb2⟩⟩
                      by_cases e : y = d
                      · rw [e]; exact HG.out
                      · exact HA2.out y y0 (by omega)
                  · have hg := Bool.eq_false_iff.2 hg
                    rw [hg] at hcall
                    have HG := Aside0.mk hg
                    have HCA := Aside0.mk hcall
                    clear hg hcall
                    go_wp2_with (go_at_call 107; refine HCA.out.mono ?_; rintro e w2 ⟨rfl, hb2⟩)
                    go_ret
                    exact ⟨by rw [HU.out, HS.out, solvesB_hit h02 c8 c7 HG.out]; rfl, bstep HBd.out hb2⟩
                · go_wp2
                  go_roundg (9 - (c.toNat + 1))
                  case measure => have := HK.out; omega
                  case rel =>
                    refine ⟨c + 1, rfl, ⟨by omega⟩, ⟨by omega⟩, ⟨fun x y y0 yx x1 => ?_⟩, HX, HB⟩
                    by_cases e : x = c
                    · subst e; exact HA2.out y y0 (by omega)
                    · exact HA.out x y y0 yx (by omega)
            · go_wp2
              go_ret
              have hsol : solvesB t = true := solvesB_all fun x y y0 yx x9 => HA.out x y y0 yx (by have := HI.out; omega)
              exact ⟨by rw [HU.out, HS.out, hsol]; rfl, HB.out⟩
end Go.Proofs.Ytbfafjejmljcpaa.X
namespace Go.Proofs.Ytbfafjejmljcpaa.P
open Go.RowKit Go.Proofs.YtbfafjejmljcpaaW.PrintWords Go.Proofs.YtbfafjejmljcpaaW.PrintLast
def impl_isSystem.f (l0 : List Int) : Option Bool := some (X.sysB l0)
theorem impl_isSystem.calls (A0 : Option Addr) (c0 : Nat) (l0 : List Int) (r : Bool) (w : World) (hr0 : Kd.C (Kd.int .i64) w A0 l0.length l0) (hc0 : l0.length ≤ c0) (h : impl_isSystem.f l0 = some r) :
    Calls Try.prog 66 #[.slice A0 l0.length c0] w fun e w' => e = .returned (.bool r) ∧ Below w.heap.size w w' := by
  obtain rfl := Option.some.inj h
  exact X.isSystem_calls A0 c0 l0 w hr0
end Go.Proofs.Ytbfafjejmljcpaa.P

namespace Go.Proofs.Ytbfafjejmljcpaa.P
open Go.RowKit Go.Proofs.YtbfafjejmljcpaaW.PrintWords Go.Proofs.YtbfafjejmljcpaaW.PrintLast
set_option linter.unusedVariables false
set_option linter.unusedSimpArgs false

def spec_l1In.f (a0 : Int) : Option (Bool) := (spec_l6In.f a0 0 8).bind fun t143 => (some t143)
set_option maxHeartbeats 8000000 in
set_option maxRecDepth 100000 in
theorem spec_l1In.calls (a0 : Int) (r : Bool) (w : World) (h : spec_l1In.f a0 = some r) :
  Calls Try.prog 139 #[.int .i64 a0] w fun e w' => e = .returned (.bool r) ∧ Drawn0 w w' := by
 have H : ((spec_l6In.f a0 0 8).bind fun t143 => (some t143)) = some r := h
 clear h
 replace H := Option.bind_eq_some_iff.mp H
 obtain ⟨t143, A20, H⟩ := H
 replace H : (some t143) = some r := H
 have A2 := Aside0.mk A20
 clear A20
 obtain rfl := Option.some.inj H
 go_enter Try.func139, Try.ntmps139
 go_wp2_with (first | (refine goesL_ (some 4) rfl rfl Try.func57 (by kernel_rfl) rfl #[.int .i64 a0, .int .i64 0, .int .i64 8] rfl ll_ ?_; (with_reducible refine (spec_l6In.calls a0 0 8 t143 _ A2.out).mono ?_); rintro e w' ⟨rfl, ⟨nd, rfl⟩⟩; refine ⟨_, rfl, ?_⟩))
 go_ret
 exact ⟨by first | rfl | (simp; done) | (simp [*]; done), by repeat (first | exact Drawn0.refl _ | apply Drawn0.step)⟩
end Go.Proofs.Ytbfafjejmljcpaa.P

namespace Go.Proofs.Ytbfafjejmljcpaa.P
open Go.RowKit Go.Proofs.YtbfafjejmljcpaaW.PrintWords Go.Proofs.YtbfafjejmljcpaaW.PrintLast
set_option linter.unusedVariables false
set_option linter.unusedSimpArgs false

def spec_l2Table.l0 : Nat → List Int → Int → Option (Bool)
 | 0, _, _ => none
 | k + 1, x0, x3 => if x3 < (x0.length : Int) then (if 0 ≤ x3 then ((spec_l1In.f (rd x0 x3)).bind fun t145 => (if t145 = true then (spec_l2Table.l0 k x0 (wrap64 (x3 + 1))) else (some false))) else (none)) else (some ((x0.length : Int) == 81))
def spec_l2Table.f (k : Nat) (l0 : List Int) : Option (Bool) := spec_l2Table.l0 k l0 0
set_option maxHeartbeats 8000000 in
set_option maxRecDepth 100000 in
theorem spec_l2Table.calls (k : Nat) (A0 : Option Addr) (c0 : Nat) (l0 : List Int) (r : Bool) (w : World) (hr0 : Kd.C (Kd.int .i64) w A0 l0.length l0) (hc0 : l0.length ≤ c0) (h : spec_l2Table.f k l0 = some r) :
  Calls Try.prog 100 #[.slice A0 l0.length c0] w fun e w' => e = .returned (.bool r) ∧ Drawn0 w w' := by
 have HR0 := Aside0.mk hr0
 have HC0 := Aside0.mk hc0
 clear hr0 hc0
 have H : (spec_l2Table.l0 k l0 0) = some r := h
 clear h
 have H' := Aside0.mk H
 clear H
 go_enter Try.func100, Try.ntmps100
 go_wp2
 go_loopg [3] k (fun kq v3 w' => ∃ (x3_1 : Int), v3 = .int .i64 x3_1 ∧ Aside0 (spec_l2Table.l0 kq l0 x3_1 = some r) ∧ Aside0 (kq ≤ k) ∧ Drawn0 w w')
 case atStart => exact ⟨(0), (by first | rfl | (simp; done) | (simp [*]; done)), H', ⟨Nat.le_refl _⟩, by repeat (first | exact Drawn0.refl _ | apply Drawn0.step)⟩
 case round =>
  clear H'
  try clear c1
  obtain ⟨x3_1, rfl, HA, HK1, ⟨m1, rfl⟩⟩ := hrel
  cases gk with
  | zero => exact absurd HA.out (by simp [spec_l2Table.l0])
  | succ k1 =>
   have H := HA.out
   clear HA
   simp only [spec_l2Table.l0] at H
   by_cases c2 : x3_1 < (l0.length : Int)
   ·rw [if_pos c2] at H
    have c2b0 : decide (x3_1 < (l0.length : Int)) = true := decide_eq_true c2
    clear c2
    by_cases c3 : 0 ≤ x3_1
    ·rw [if_pos c3] at H
     have c3b0 : decide (0 ≤ x3_1) = true := decide_eq_true c3
     clear c3
     replace H := Option.bind_eq_some_iff.mp H
     obtain ⟨t145, A40, H⟩ := H
     replace H : (if t145 = true then (spec_l2Table.l0 k1 l0 (wrap64 (x3_1 + 1))) else (some false)) = some r := H
     have A4 := Aside0.mk A40
     clear A40
     by_cases c5 : t145 = true
     ·subst c5
      have H1 : (spec_l2Table.l0 k1 l0 (wrap64 (x3_1 + 1))) = some r := by rw [if_pos rfl] at H; exact H
      clear H
      have H := H1
      clear H1
      have H' := Aside0.mk H
      clear H
      have p144 : 0 ≤ (x3_1 : Int) := dd_
      have q144 : x3_1 < (l0.length : Int) := dd_
      obtain ⟨ad144, e144, hx144_0⟩ := Kd.at_int HR0.out x3_1 p144 q144
      cases e144
      replace p144 := eq_true p144
      replace q144 := eq_true q144
      go_wp2_with (first | (refine goesL_ (some 14) rfl rfl Try.func139 (by kernel_rfl) rfl #[.int .i64 (rd l0 x3_1)] rfl ll_ ?_; (with_reducible refine (spec_l1In.calls (rd l0 x3_1) true _ A4.out).mono ?_); rintro e w' ⟨rfl, ⟨nd, rfl⟩⟩; refine ⟨_, rfl, ?_⟩))
      go_roundg k1
      case measure => have := HK1.out; omega
      case rel => exact ⟨(wrap64 (x3_1 + 1)), (by first | rfl | (simp; done) | (simp [*]; done)), H', ⟨by have := HK1.out; omega⟩, by repeat (first | exact Drawn0.refl _ | apply Drawn0.step)⟩
     ·replace c5 := Bool.eq_false_iff.mpr c5
      subst c5
      have H1 : (some false) = some r := by rw [if_neg (show ¬ (false = true) by decide)] at H; exact H
      clear H
      have H := H1
      clear H1
      obtain rfl := Option.some.inj H
      have p144 : 0 ≤ (x3_1 : Int) := dd_
      have q144 : x3_1 < (l0.length : Int) := dd_
      obtain ⟨ad144, e144, hx144_0⟩ := Kd.at_int HR0.out x3_1 p144 q144
      cases e144
      replace p144 := eq_true p144
      replace q144 := eq_true q144
      go_wp2_with (first | (refine goesL_ (some 14) rfl rfl Try.func139 (by kernel_rfl) rfl #[.int .i64 (rd l0 x3_1)] rfl ll_ ?_; (with_reducible refine (spec_l1In.calls (rd l0 x3_1) false _ A4.out).mono ?_); rintro e w' ⟨rfl, ⟨nd, rfl⟩⟩; refine ⟨_, rfl, ?_⟩))
      go_ret
      exact ⟨by first | rfl | (simp; done) | (simp [*]; done), by repeat (first | exact Drawn0.refl _ | apply Drawn0.step)⟩
    ·rw [if_neg c3] at H
     exact absurd H (by simp)
   ·rw [if_neg c2] at H
    have c2b0 : decide (x3_1 < (l0.length : Int)) = false := decide_eq_false c2
    clear c2
    obtain rfl := Option.some.inj H
    go_wp2
    go_ret
    exact ⟨by first | rfl | (simp; done) | (simp [*]; done), by repeat (first | exact Drawn0.refl _ | apply Drawn0.step)⟩
end Go.Proofs.Ytbfafjejmljcpaa.P
