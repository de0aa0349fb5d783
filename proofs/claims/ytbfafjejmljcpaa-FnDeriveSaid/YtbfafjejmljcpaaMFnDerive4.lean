/- The law FnDerive of the given program: for every input the call returns true, and each argument reads afterwards as it read before. No conditions. (Part 5 of 6; the last part holds the theorem.) -/
import Derived.Test.YtbfafjejmljcpaaMFnDerive0
import Derived.Test.YtbfafjejmljcpaaMFnDerive3
import Derived.Test.YtbfafjejmljcpaaMFnDerive2
import Derived.Test.YtbfafjejmljcpaaMFnDerive1
set_option linter.unusedVariables false
set_option linter.unusedSimpArgs false
namespace Go.Proofs.Ytbfafjejmljcpaa.P
open Go.RowKit Go.Proofs.YtbfafjejmljcpaaW.PrintWords Go.Proofs.YtbfafjejmljcpaaW.PrintLast

abbrev HH := Option Addr × Nat
def hEnc (h : HH) : Value := .slice h.1 9 h.2
def hdK : Kd HH := Kd.scalar hEnc (fun _ => rfl)
def rdH (l : List HH) (i : Int) : HH := rdOf ((none, 0) : HH) l i
theorem at_hd {w : World} {A : Option Addr} {n : Nat} {xs : List HH} (h : hdK.C w A n xs) (i : Int) (h0 : 0 ≤ i) (h1 : i < n) : ∃ ad, A = some ad ∧ w.cell? (ad.add i.toNat) = some (hEnc (rdH xs i)) :=
  ReadsOf.at_ (Kd.reads_of_C (enc := hEnc) (d := ((none, 0) : HH)) (h1 := fun _ => rfl) h) i h0 h1
theorem rdH_mem {l : List HH} {i : Int} (h0 : 0 ≤ i) (h1 : i < l.length) : rdH l i ∈ l := by
  unfold rdH rdOf
  rw [List.getD_eq_getElem?_getD, List.getElem?_eq_getElem (by omega)]
  exact List.getElem_mem _
theorem swapH_mem {l y z : List HH} {i j : Int} (i0 : 0 ≤ i) (i1 : i < l.length) (j0 : 0 ≤ j) (j1 : j < l.length) (hy : y = l.set i.toNat (rdH l j)) (hz : z = y.set j.toNat (rdH l i)) {v : HH} (hv : v ∈ z) : v ∈ l := by
  rw [hz] at hv
  rcases List.mem_or_eq_of_mem_set hv with h | h
  · rw [hy] at h
    rcases List.mem_or_eq_of_mem_set h with h | h
    · exact h
    · rw [h]; exact rdH_mem j0 j1
  · rw [h]; exact rdH_mem i0 i1
def hLess (lt : HH → HH → Bool) (a b : HH) : Option Bool := some (lt a b)
theorem hLess_eq {lt : HH → HH → Bool} {a b : HH} {v : Bool} (h : hLess lt a b = some v) : lt a b = v := Option.some.inj h
mutual
def hsL0 (lt : HH → HH → Bool) : Nat → List HH → Int → Int → Int → Option (List HH)
  | 0, _, _, _, _ => none
  | k + 1, x0, x1, x2, x6 => if x6 < x2 then (hsL1 lt k x0 x1 x2 x6 x6) else (some x0)
def hsL1 (lt : HH → HH → Bool) : Nat → List HH → Int → Int → Int → Int → Option (List HH)
  | 0, _, _, _, _, _ => none
  | k + 1, x0, x1, x2, x6, x7 => if x7 > x1 then (if 0 ≤ x7 then (if x7 < (x0.length : Int) then (if 0 ≤ (wrap64 (x7 - 1)) then (if (wrap64 (x7 - 1)) < (x0.length : Int) then ((hLess lt (rdH x0 x7) (rdH x0 (wrap64 (x7 - 1)))).bind fun t655 => (if t655 = true then (hsL1 lt k ((x0.set (x7 : Int).toNat (rdH x0 (wrap64 (x7 - 1)))).set ((wrap64 (x7 - 1)) : Int).toNat (rdH x0 x7)) x1 x2 x6 (wrap64 (x7 - 1))) else (hsL0 lt k x0 x1 x2 (wrap64 (x6 + 1))))) else (none)) else (none)) else (none)) else (none)) else (hsL0 lt k x0 x1 x2 (wrap64 (x6 + 1)))
end
section
variable {P : Program} {ops : Array Oper} {Q : Exit → Act → World → Prop}
theorem goesV_ {oi : Oper} {N : Option Tmp} {a : Act} {w : World} {K : Act → World → Prop} {f : FuncId} {fn : Func} {c : Tmp} {ar : Array Operand} {ts : Array TypeId} (hf : P.funcs[f]? = some fn) (hname : (fn.name == "runtime.NumGoroutine") = false) (hb : fn.body.isSome = true) (args : Array Value)
    (hw : Region.wanted oi (yielded ops a.tmps) = true) (hN : oi.dst = N) (hop : oi.op = .call { callee := .value (.tmp c), args := ar, argTypes := ts }) (hcl : a.tmps.getD c undef = .func (.func f) #[] #[]) (hargs : ar.map a.eval = args)
    (h : Calls P f args w fun e w' => ∃ v, e = .returned v ∧ K (a.put N v) w') : if Region.wanted oi (yielded ops a.tmps) = true then Oper.wp P oi a w K Q else K (a.put N undef) w := by
  refine call_ f args hw hN ?_ h
  have he := enters_ hf hname hb args w
  have hc : a.eval (.tmp c) = .func (.func f) #[] #[] := hcl
  unfold execOp
  simp [hop, resolve, Deferred.ofValue, invoke, hc, hargs, he]
end
def insCmp.T4 : Bool × List (List Nat × List Nat) := (true, [([], []), ([], []), ([0, 1], [0, 1]), ([2], [2]), ([3], [3]), ([3], [3]), ([3], [3]), ([5, 6, 3], [3, 5, 6]), ([7, 3], [3, 7]), ([3], [3]), ([3], [3]), ([10, 3], [3, 10]), ([9, 11, 3], [3, 9, 11]), ([12, 3], [3, 12]), ([4, 8, 13, 3, 3], [3, 4, 8, 13]), ([14, 3], [3, 14]), ([3, 15], [3, 15])])
def insCmp.B4 : List Nat := [0, 0, 3, 7, 15, 15, 15, 111, 239, 15, 15, 1039, 3599, 7695, 16383, 32767, 65535]
theorem insCmp.tab4 : rtab .any (opsOf Try.f145 4) = insCmp.T4 := by kernel_rfl
theorem insCmp.bits4 : waitsOk insCmp.T4.2 insCmp.B4 = true := by kernel_rfl
def insCmp.T6 : Bool × List (List Nat × List Nat) := (true, [([], []), ([], []), ([], []), ([], []), ([3], [3]), ([], []), ([], []), ([6], [6]), ([5, 7], [5, 7]), ([8], [8]), ([], []), ([], []), ([10, 11], [10, 11]), ([12], [12]), ([0, 1, 0, 1, 5, 6, 7, 8, 9, 13], [0, 1]), ([14, 9, 0, 1, 5, 6, 7, 8, 9, 13], [9, 14]), ([2, 4, 0, 1, 2, 3, 4, 5, 6, 7, 8, 9, 10, 11, 12, 13, 14, 15], [2, 4]), ([16, 13, 15, 0, 1, 2, 3, 4, 5, 6, 7, 8, 9, 10, 11, 12, 13, 14, 15], [13, 16])])
def insCmp.B6 : List Nat := [0, 0, 0, 0, 8, 0, 0, 64, 224, 480, 0, 0, 3072, 7168, 16355, 32739, 65535, 131071]
theorem insCmp.tab6 : rtab .any (opsOf Try.f145 6) = insCmp.T6 := by kernel_rfl
theorem insCmp.bits6 : waitsOk insCmp.T6.2 insCmp.B6 = true := by kernel_rfl
set_option maxHeartbeats 8000000 in
set_option maxRecDepth 100000 in
theorem insCmp_calls (lt : HH → HH → Bool) (k : Nat) (P0_ : Nat → Prop) (u9000_ : Value) (l0 : List HH) (a1 : Int) (a2 : Int) (r : List HH) (w0 w : World) (hB : Below w0.heap.size w0 w) (ho0 : Kd.R hdK 23 w w0.heap.size P0_ u9000_ l0)
  (HC_ : ∀ W : World, Kept w W (fun k_ => P0_ k_) → Below w0.heap.size w0 W → ∀ a b : HH, a ∈ l0 → b ∈ l0 → Calls Try.prog 84 #[hEnc a, hEnc b] W fun e w' => (∃ c : Int, e = .returned (.int .i64 c) ∧ decide (c < 0) = lt a b) ∧ Drawn0 W w') (h : hsL0 lt k l0 a1 a2 (wrap64 (a1 + 1)) = some r) :
  Calls Try.prog 145 #[u9000_, .int .i64 a1, .int .i64 a2, .func (.func 84) #[] #[]] w fun e w' => e = .returned (.tuple #[]) ∧ Kd.R hdK 23 w' w0.heap.size (fun k_ => (P0_ k_ ∨ w.heap.size ≤ k_)) u9000_ r ∧ Below w0.heap.size w0 w' ∧ Kept w w' (fun k_ => P0_ k_) := by
 have HO0 := Aside0.mk (show Kd.R hdK 23 w w0.heap.size (fun k_ => (P0_ k_ ∨ w.heap.size ≤ k_)) u9000_ l0 from Kd.R_mono ho0 (fun k_ hk => (.inl hk)))
 have HK := Aside0.mk (Kept.refl w (fun k_ => P0_ k_))
 have HW0 := Aside0.mk hB.size
 have HB := Aside0.mk hB
 clear hB
 have H : (hsL0 lt k l0 a1 a2 (wrap64 (a1 + 1))) = some r := h
 clear h
 have H' := Aside0.mk H
 clear H
 go_enter Try.func145, Try.ntmps145
 go_wp2
 go_loopg [8] k (fun kq v6 w' => ∃ (x0_1 : List HH) (x6_1 : Int), v6 = .int .i64 x6_1 ∧ Aside0 (∀ z, z ∈ x0_1 → z ∈ l0) ∧ Aside0 (hsL0 lt kq x0_1 a1 a2 x6_1 = some r) ∧ Aside0 (kq ≤ k) ∧ Aside0 (Kd.R hdK 23 w' w0.heap.size (fun k_ => (P0_ k_ ∨ w.heap.size ≤ k_)) u9000_ x0_1) ∧ Aside0 (Kept w w' (fun k_ => P0_ k_)) ∧ Aside0 (Below w0.heap.size w0 w'))
 case atStart => exact ⟨(l0), (wrap64 (a1 + 1)), (by first | rfl | (simp; done)), ⟨fun z hz => hz⟩, H', ⟨Nat.le_refl _⟩, ⟨rr_ HO0⟩, ⟨by repeat (first | (with_reducible first | exact HK.out | apply Kept.alloc | apply Kept.drewN | apply Kept.drew) | exact HK.out)⟩, ⟨by repeat (first | (with_reducible first | exact HB.out | apply below_alloc | apply pw_below_drewN | apply below_drew1) | exact HB.out)⟩⟩
 case round =>
  clear H'
  try clear c1
  try clear p2
  obtain ⟨x0_1, x6_1, rfl, HM1_, HA, HK1, HO_0, HK, HB⟩ := hrel
  cases gk with
  | zero => exact absurd HA.out (by simp [hsL0])
  | succ k1 =>
   have H := HA.out
   clear HA
   simp only [hsL0] at H
   by_cases c4 : x6_1 < a2
   ·rw [if_pos c4] at H
    have c4b0 : decide (x6_1 < a2) = true := decide_eq_true c4
    clear c4
    have H' := Aside0.mk H
    clear H
    go_wp2
    go_loopg [9] k1 (fun kq v7 w' => ∃ (x0_2 : List HH) (x7_2 : Int), v7 = .int .i64 x7_2 ∧ Aside0 (∀ z, z ∈ x0_2 → z ∈ l0) ∧ Aside0 (hsL1 lt kq x0_2 a1 a2 x6_1 x7_2 = some r) ∧ Aside0 (kq ≤ k1) ∧ Aside0 (Kd.R hdK 23 w' w0.heap.size (fun k_ => (P0_ k_ ∨ w.heap.size ≤ k_)) u9000_ x0_2) ∧ Aside0 (Kept w w' (fun k_ => P0_ k_)) ∧ Aside0 (Below w0.heap.size w0 w'))
    case atStart => exact ⟨(x0_1), (x6_1), (by first | rfl | (simp; done)), HM1_, H', ⟨Nat.le_refl _⟩, ⟨rr_ HO_0⟩, ⟨by repeat (first | (with_reducible first | exact HK.out | apply Kept.alloc | apply Kept.drewN | apply Kept.drew) | exact HK.out)⟩, ⟨by repeat (first | (with_reducible first | exact HB.out | apply below_alloc | apply pw_below_drewN | apply below_drew1) | exact HB.out)⟩⟩
    case round =>
     clear H'
     try clear c1
     try clear p2
     try clear c4
     try clear c4b0
     try clear p2
     obtain ⟨x0_2, x7_2, rfl, HM_, HA, HK2, HO_0, HK, HB⟩ := hrel
     cases gk with
     | zero => exact absurd HA.out (by simp [hsL1])
     | succ k2 =>
      have H := HA.out
      clear HA
      simp only [hsL1] at H
      by_cases c5 : x7_2 > a1
      ·rw [if_pos c5] at H
       have c5b0 : decide (a1 < x7_2) = true := decide_eq_true c5
       clear c5
       by_cases c6 : 0 ≤ x7_2
       ·rw [if_pos c6] at H
        have c6b0 : decide (0 ≤ x7_2) = true := decide_eq_true c6
        clear c6
        by_cases c7 : x7_2 < (x0_2.length : Int)
        ·rw [if_pos c7] at H
         have c7b0 : decide (x7_2 < (x0_2.length : Int)) = true := decide_eq_true c7
         clear c7
         obtain ⟨ji8, hji8⟩ : ∃ j_ : Int, (wrap64 (x7_2 - 1)) = j_ := ⟨_, rfl⟩
         replace H : (if 0 ≤ (ji8) then (if (ji8) < (x0_2.length : Int) then ((hLess lt (rdH x0_2 x7_2) (rdH x0_2 (ji8))).bind fun t691 => (if t691 = true then (hsL1 lt k2 ((x0_2.set (x7_2 : Int).toNat (rdH x0_2 (ji8))).set ((ji8) : Int).toNat (rdH x0_2 x7_2)) a1 a2 x6_1 ji8) else (hsL0 lt k2 x0_2 a1 a2 (wrap64 (x6_1 + 1))))) else (none)) else (none)) = some r := by first | (rw [hji8] at H; exact H) | (simp only [hji8] at H ⊢; exact H)
         have hji8w : (IntKind.i64.wrap (x7_2 - 1)) = ji8 := (i64_w _).trans hji8
         by_cases c9 : 0 ≤ (ji8)
         ·rw [if_pos c9] at H
          have c9b0 : decide (0 ≤ (ji8)) = true := decide_eq_true c9
          clear c9
          by_cases c10 : (ji8) < (x0_2.length : Int)
          ·rw [if_pos c10] at H
           have c10b0 : decide ((ji8) < (x0_2.length : Int)) = true := decide_eq_true c10
           clear c10
           replace H := Option.bind_eq_some_iff.mp H
           obtain ⟨t691, A110, H⟩ := H
           replace H : (if t691 = true then (hsL1 lt k2 ((x0_2.set (x7_2 : Int).toNat (rdH x0_2 (ji8))).set ((ji8) : Int).toNat (rdH x0_2 x7_2)) a1 a2 x6_1 ji8) else (hsL0 lt k2 x0_2 a1 a2 (wrap64 (x6_1 + 1)))) = some r := H
           have A11 := Aside0.mk A110
           clear A110
           by_cases c12 : t691 = true
           ·subst c12
            have H1 : (hsL1 lt k2 ((x0_2.set (x7_2 : Int).toNat (rdH x0_2 (ji8))).set ((ji8) : Int).toNat (rdH x0_2 x7_2)) a1 a2 x6_1 ji8) = some r := by rw [if_pos rfl] at H; exact H
            clear H
            have H := H1
            clear H1
            obtain ⟨y694, hy694⟩ : ∃ y_ : List HH, y_ = (x0_2.set (x7_2 : Int).toNat (rdH x0_2 (ji8))) := ⟨_, rfl⟩
            replace H : (hsL1 lt k2 (y694.set ((ji8) : Int).toNat (rdH x0_2 x7_2)) a1 a2 x6_1 ji8) = some r := by first | (rw [hy694]; with_reducible exact H) | (have H2_ := (Option.bind_some _ _).symm.trans H; rw [hy694]; with_reducible exact H2_) | (have H2_ := (Option.bind_some _ _).symm.trans H; with_reducible exact H2_) | with_reducible exact H | (rw [hy694]; exact H) | exact H
            have Ny694 := Aside0.mk hy694
            clear hy694
            obtain ⟨y695, hy695⟩ : ∃ y_ : List HH, y_ = (y694.set ((ji8) : Int).toNat (rdH x0_2 x7_2)) := ⟨_, rfl⟩
            replace H : (hsL1 lt k2 y695 a1 a2 x6_1 ji8) = some r := by first | (rw [hy695]; with_reducible exact H) | (have H2_ := (Option.bind_some _ _).symm.trans H; rw [hy695]; with_reducible exact H2_) | (have H2_ := (Option.bind_some _ _).symm.trans H; with_reducible exact H2_) | with_reducible exact H | (rw [hy695]; exact H) | exact H
            have Ny695 := Aside0.mk hy695
            clear hy695
            have H' := Aside0.mk H
            clear H
            try go_wp2
            have n0_ := Aside0.mk (Kd.R_drew HO_0.out)
            have n1_ := Aside0.mk (Kept.drew HK.out)
            have n2_ := Aside0.mk (below_drew1 HB.out)
            clear HO_0
            clear HK
            clear HB
            have HO_0 := n0_
            have HK := n1_
            have HB := n2_
            clear n0_ n1_ n2_
            obtain ⟨Ao16, co16, eo16⟩ := Kd.R_slice HO_0.out
            (first | subst eo16 | (injection eo16 with f1_ f2_ f3_; have f4_ := f1_.symm; have f5_ := f3_.symm; clear f1_ f2_ f3_; subst f4_; subst f5_))
            have p689 : 0 ≤ (x7_2 : Int) := dd_
            have q689 : x7_2 < (x0_2.length : Int) := dd_
            obtain ⟨ad689, e689, hx689_0⟩ := at_hd (Kd.R_reads' HO_0.out).2.2 x7_2 p689 q689
            cases e689
            replace p689 := eq_true p689
            replace q689 := eq_true q689
            have p690 : 0 ≤ ((ji8) : Int) := dd_
            have q690 : (ji8) < (x0_2.length : Int) := dd_
            obtain ⟨ad690, e690, hx690_0⟩ := at_hd (Kd.R_reads' HO_0.out).2.2 (ji8) p690 q690
            obtain rfl : ad689 = ad690 := (by injection e690)
            replace p690 := eq_true p690
            replace q690 := eq_true q690
            refine start_ (n := 17) (S := fun w' => w'.cell? (ad689.add (x7_2).toNat) = some (hEnc (rdH x0_2 x7_2)) ∧ w'.cell? (ad689.add ((ji8)).toNat) = some (hEnc (rdH x0_2 (ji8)))) (ds := []) #[F_,F_,F_,F_,F_,F_,F_,F_,F_,F_,F_,F_,F_,F_,F_,F_,F_] (by kernel_rfl) rfl rfl ⟨hx689_0, hx690_0⟩ (fun hHeld => ?_); refine with_tabW insCmp.tab4 insCmp.bits4 (fun HT_ HW_ => ?_)
            generalize wr.drew = w15 at HO_0 HK HB hx689_0 hx690_0 hHeld ⊢
            refine p_ 0 18 (m_ 17 1) HT_.out ?_
            refine p_ 1 19 (m_ 17 3) HT_.out ?_
            refine p_ 2 20 (m_ 17 7) HT_.out ?_
            refine p_ 3 21 (m_ 17 15) HT_.out ?_
            refine p_ 4 22 (m_ 17 31) HT_.out ?_
            refine p_ 5 23 (m_ 17 63) HT_.out ?_
            refine p_ 6 24 (m_ 17 127) HT_.out ?_
            refine p_ 7 25 (m_ 17 255) HT_.out ?_
            refine p_ 9 27 (m_ 17 767) HT_.out ?_
            refine p_ 10 28 (m_ 17 1791) HT_.out ?_
            refine p_ 11 29 (m_ 17 3839) HT_.out ?_
            refine p_ 12 30 (m_ 17 7935) HT_.out ?_
            refine t2_ 8 26 (m_ 17 8191) HT_.out HW_.out hHeld ?_
            refine t2_ 13 31 (m_ 17 16383) HT_.out HW_.out hHeld ?_
            refine one_ (i := 14) (N := some 32) (m_ 17 32767) rfl rfl (one_of HT_.out (by kernel_rfl)) (by decide) (fun K hK => ?_)
            refine goesV_ Try.func84 (by kernel_rfl) rfl #[hEnc (rdH x0_2 x7_2), hEnc (rdH x0_2 (ji8))] (by rfl) rfl rfl rfl (by (try simp only [List.map_toArray, List.map_cons, List.map_nil]); first | done | (simp only [hji8]; rfl) | rfl) ?_
            refine (HC_ _ HK.out HB.out (rdH x0_2 x7_2) (rdH x0_2 (ji8)) (HM_.out _ (rdH_mem (of_eq_true p689) (of_eq_true q689))) (HM_.out _ (rdH_mem (of_eq_true p690) (of_eq_true q690)))).mono ?_
            rintro e w' ⟨⟨cc, rfl, hcc⟩, ⟨nd, rfl⟩⟩
            rw [hLess_eq A11.out] at hcc
            refine ⟨_, rfl, ?_⟩
            refine hK.out _ _ ⟨hHeld.1, hHeld.2⟩ (fun hHeld => ?_)
            clear hK K
            refine norm_ (a' := ?_) ?_ ?_; rotate_left; (show Act.put _ (some 32) _ = _; simp only [Act.put, List.setIfInBounds_toArray, List.set_cons_zero, List.set_cons_succ, i64_w, i32_w]; rfl)
            refine p_ 15 33 (m_ 17 65535) HT_.out ?_
            refine p_ 16 34 (m_ 17 131071) HT_.out ?_
            refine done_ (done_of HT_.out (by kernel_rfl)) ?_
            try go_wp2
            (try (rw [dself_ w15]; generalize hq_ : World.drewN w15 _ = w15; have n0_ : Aside0 (Kd.R hdK 23 w15 w0.heap.size (fun k_ => (P0_ k_ ∨ w.heap.size ≤ k_)) (.slice (some ad689) x0_2.length co16) x0_2) := ⟨by rw [← hq_]; exact (rr_ HO_0)⟩; have n1_ : Aside0 (Kept w w15 (fun k_ => P0_ k_)) := ⟨by rw [← hq_]; exact (by repeat (first | (with_reducible first | exact HK.out | apply Kept.alloc | apply Kept.drewN | apply Kept.drew) | exact HK.out))⟩; have n2_ : Aside0 (Below w0.heap.size w0 w15) := ⟨by rw [← hq_]; exact (bb_ HB)⟩; clear HO_0 HK HB hq_; have HO_0 := n0_; have HK := n1_; have HB := n2_; clear n0_ n1_ n2_))
            have n0_ := Aside0.mk (Kd.R_drew HO_0.out)
            have n1_ := Aside0.mk (Kept.drew HK.out)
            have n2_ := Aside0.mk (below_drew1 HB.out)
            clear HO_0
            clear HK
            clear HB
            have HO_0 := n0_
            have HK := n1_
            have HB := n2_
            clear n0_ n1_ n2_
            have p692 : 0 ≤ ((ji8) : Int) := dd_
            have q692 : (ji8) < (x0_2.length : Int) := dd_
            obtain ⟨ad692, e692, hx692_0⟩ := at_hd (Kd.R_reads' HO_0.out).2.2 (ji8) p692 q692
            obtain rfl : ad689 = ad692 := (by injection e692)
            replace p692 := eq_true p692
            replace q692 := eq_true q692
            have p693 : 0 ≤ (x7_2 : Int) := dd_
            have q693 : x7_2 < (x0_2.length : Int) := dd_
            obtain ⟨ad693, e693, hx693_0⟩ := at_hd (Kd.R_reads' HO_0.out).2.2 x7_2 p693 q693
            obtain rfl : ad689 = ad693 := (by injection e693)
            replace p693 := eq_true p693
            replace q693 := eq_true q693
            have p13 : 0 ≤ (x7_2 : Int) := dd_
            have q13 : (x7_2 : Int) < ((x0_2.length : Int) : Int) := dd_
            obtain ⟨go13, co13, eo13, gb13, gl13, cl13, HG13⟩ := Kd.R_form HO_0.out (by omega)
            (first | cases eo13 | (injection eo13 with ea_ en_ ec_; (first | subst ea_ | (injection ea_ with ea_; subst ea_)); subst ec_; clear en_))
            have GB13 := Aside0.mk gb13
            have GG13 := Aside0.mk HG13
            clear gb13 gl13 HG13
            have HMgo13 := Aside0.mk (show (P0_ go13 ∨ w.heap.size ≤ go13) from (HO_0.out.1 _ rfl))
            (first | simp only [add_plain] at hx689_0 | skip)
            (first | simp only [add_plain] at hx690_0 | skip)
            (first | simp only [add_plain] at hx692_0 | skip)
            (first | simp only [add_plain] at hx693_0 | skip)
            obtain ⟨hx13_0, hf13_0⟩ := Kd.R_celln ((none, 0) : HH) HO_0.out (x7_2 : Int) p13 q13
            replace p13 := eq_true p13
            replace q13 := eq_true q13
            have HP18 := Kd.R_putn HO_0.out (x7_2 : Int) (rdH x0_2 (ji8))
            rw [← Ny694.out] at HP18
            have HQ18 := Aside0.mk HP18
            clear HP18
            have p14 : 0 ≤ ((ji8) : Int) := dd_
            have q14 : ((ji8) : Int) < ((x0_2.length : Int) : Int) := dd_
            obtain ⟨hx14_0, hf14_0⟩ := Kd.R_celln ((none, 0) : HH) HQ18.out ((ji8) : Int) p14 q14
            replace p14 := eq_true p14
            replace q14 := eq_true q14
            have HP19 := Kd.R_putn HQ18.out ((ji8) : Int) (rdH x0_2 x7_2)
            rw [← Ny695.out] at HP19
            have HQ19 := Aside0.mk HP19
            clear HP19
            refine start_ (n := 18) (S := fun w' => w'.cell? ⟨go13, ((ji8)).toNat, none⟩ = some (hEnc (rdH x0_2 (ji8))) ∧ w'.cell? ⟨go13, (x7_2).toNat, none⟩ = some (hEnc (rdH x0_2 x7_2))) (ds := [15, 17]) #[F_,F_,F_,F_,F_,F_,F_,F_,F_,F_,F_,F_,F_,F_,F_,F_,F_,F_] (by kernel_rfl) rfl rfl ⟨hx692_0, hx693_0⟩ (fun hHeld => ?_); refine with_tabW insCmp.tab6 insCmp.bits6 (fun HT_ HW_ => ?_)
            generalize w15.drew = w17 at HO_0 HK HB GG13 HQ18 HQ19 hf13_0 hf14_0 hx13_0 hx14_0 hx689_0 hx690_0 hx692_0 hx693_0 hHeld ⊢
            refine p_ 0 37 (m_ 18 1) HT_.out ?_
            refine p_ 1 38 (m_ 18 3) HT_.out ?_
            refine p_ 2 39 (m_ 18 7) HT_.out ?_
            refine p_ 3 40 (m_ 18 15) HT_.out ?_
            refine p_ 4 41 (m_ 18 31) HT_.out ?_
            refine p_ 5 42 (m_ 18 63) HT_.out ?_
            refine p_ 6 43 (m_ 18 127) HT_.out ?_
            refine p_ 7 44 (m_ 18 255) HT_.out ?_
            refine p_ 8 45 (m_ 18 511) HT_.out ?_
            refine p_ 10 47 (m_ 18 1535) HT_.out ?_
            refine p_ 11 48 (m_ 18 3583) HT_.out ?_
            refine p_ 12 49 (m_ 18 7679) HT_.out ?_
            refine t2_ 9 46 (m_ 18 8191) HT_.out HW_.out hHeld ?_
            refine t2_ 13 50 (m_ 18 16383) HT_.out HW_.out hHeld ?_
            refine p_ 14 51 (m_ 18 32767) HT_.out ?_
            refine last_ (i := 15) (N := none) (m_ 18 65535) rfl rfl (one_of HT_.out (by kernel_rfl)) (by decide) (fun K hK => ?_)
            refine skip_ (w1 := ?_) (by rfl) rfl ?_ ?_; rotate_left; (go_simp; (try simp only [hEnc]); (try go_simp); rfl)
            refine hK.out _ _ ?_
            clear hK K
            refine p_ 16 52 (m_ 18 131071) HT_.out ?_
            refine last_ (i := 17) (N := none) (m_ 18 262143) rfl rfl (one_of HT_.out (by kernel_rfl)) (by decide) (fun K hK => ?_)
            refine skip_ (w1 := ?_) (by rfl) rfl ?_ ?_; rotate_left; (have hxu_ := hx14_0; have hfu_ := hf14_0; (try simp only [hEnc] at hxu_); (try simp only [hEnc] at hfu_); go_simp; (try simp only [hEnc]); (try go_simp); rfl)
            refine hK.out _ _ ?_
            clear hK K
            refine done_ (done_of HT_.out (by kernel_rfl)) ?_
            try go_wp2
            go_roundg k2
            case measure => have := HK1.out; have := HK2.out; omega
            case rel => exact ⟨(y695), (ji8), (by first | rfl | (simp only [← hji8] <;> (first | rfl | simp))), ⟨fun z hz => HM_.out z (swapH_mem (of_eq_true p13) (of_eq_true q13) (of_eq_true p14) (of_eq_true q14) Ny694.out Ny695.out hz)⟩, H', ⟨by have := HK1.out; have := HK2.out; omega⟩, ⟨rr_ HQ19⟩, ⟨by repeat (first | (with_reducible first | exact HK.out | apply Kept.alloc | apply Kept.drewN | apply Kept.drew | refine Kept.setCell ?_ HMgo13.out _ | refine Kept.setCell ?_ HMgo13.out _) | exact HK.out)⟩, ⟨by repeat (first | (with_reducible first | exact HB.out | apply below_alloc | apply pw_below_drewN | apply below_drew1 | refine below_set ?_ GB13.out | refine below_set ?_ GB13.out) | exact HB.out)⟩⟩
           ·replace c12 := Bool.eq_false_iff.mpr c12
            subst c12
            have H1 : (hsL0 lt k2 x0_2 a1 a2 (wrap64 (x6_1 + 1))) = some r := by rw [if_neg (show ¬ (false = true) by decide)] at H; exact H
            clear H
            have H := H1
            clear H1
            have H' := Aside0.mk H
            clear H
            try go_wp2
            have n0_ := Aside0.mk (Kd.R_drew HO_0.out)
            have n1_ := Aside0.mk (Kept.drew HK.out)
            have n2_ := Aside0.mk (below_drew1 HB.out)
            clear HO_0
            clear HK
            clear HB
            have HO_0 := n0_
            have HK := n1_
            have HB := n2_
            clear n0_ n1_ n2_
            obtain ⟨Ao21, co21, eo21⟩ := Kd.R_slice HO_0.out
            (first | subst eo21 | (injection eo21 with f1_ f2_ f3_; have f4_ := f1_.symm; have f5_ := f3_.symm; clear f1_ f2_ f3_; subst f4_; subst f5_))
            have p689 : 0 ≤ (x7_2 : Int) := dd_
            have q689 : x7_2 < (x0_2.length : Int) := dd_
            obtain ⟨ad689, e689, hx689_0⟩ := at_hd (Kd.R_reads' HO_0.out).2.2 x7_2 p689 q689
            cases e689
            replace p689 := eq_true p689
            replace q689 := eq_true q689
            have p690 : 0 ≤ ((ji8) : Int) := dd_
            have q690 : (ji8) < (x0_2.length : Int) := dd_
            obtain ⟨ad690, e690, hx690_0⟩ := at_hd (Kd.R_reads' HO_0.out).2.2 (ji8) p690 q690
            obtain rfl : ad689 = ad690 := (by injection e690)
            replace p690 := eq_true p690
            replace q690 := eq_true q690
            refine start_ (n := 17) (S := fun w' => w'.cell? (ad689.add (x7_2).toNat) = some (hEnc (rdH x0_2 x7_2)) ∧ w'.cell? (ad689.add ((ji8)).toNat) = some (hEnc (rdH x0_2 (ji8)))) (ds := []) #[F_,F_,F_,F_,F_,F_,F_,F_,F_,F_,F_,F_,F_,F_,F_,F_,F_] (by kernel_rfl) rfl rfl ⟨hx689_0, hx690_0⟩ (fun hHeld => ?_); refine with_tabW insCmp.tab4 insCmp.bits4 (fun HT_ HW_ => ?_)
            generalize wr.drew = w20 at HO_0 HK HB hx689_0 hx690_0 hHeld ⊢
            refine p_ 0 18 (m_ 17 1) HT_.out ?_
            refine p_ 1 19 (m_ 17 3) HT_.out ?_
            refine p_ 2 20 (m_ 17 7) HT_.out ?_
            refine p_ 3 21 (m_ 17 15) HT_.out ?_
            refine p_ 4 22 (m_ 17 31) HT_.out ?_
            refine p_ 5 23 (m_ 17 63) HT_.out ?_
            refine p_ 6 24 (m_ 17 127) HT_.out ?_
            refine p_ 7 25 (m_ 17 255) HT_.out ?_
            refine p_ 9 27 (m_ 17 767) HT_.out ?_
            refine p_ 10 28 (m_ 17 1791) HT_.out ?_
            refine p_ 11 29 (m_ 17 3839) HT_.out ?_
            refine p_ 12 30 (m_ 17 7935) HT_.out ?_
            refine t2_ 8 26 (m_ 17 8191) HT_.out HW_.out hHeld ?_
            refine t2_ 13 31 (m_ 17 16383) HT_.out HW_.out hHeld ?_
            refine one_ (i := 14) (N := some 32) (m_ 17 32767) rfl rfl (one_of HT_.out (by kernel_rfl)) (by decide) (fun K hK => ?_)
            refine goesV_ Try.func84 (by kernel_rfl) rfl #[hEnc (rdH x0_2 x7_2), hEnc (rdH x0_2 (ji8))] (by rfl) rfl rfl rfl (by (try simp only [List.map_toArray, List.map_cons, List.map_nil]); first | done | (simp only [hji8]; rfl) | rfl) ?_
            refine (HC_ _ HK.out HB.out (rdH x0_2 x7_2) (rdH x0_2 (ji8)) (HM_.out _ (rdH_mem (of_eq_true p689) (of_eq_true q689))) (HM_.out _ (rdH_mem (of_eq_true p690) (of_eq_true q690)))).mono ?_
            rintro e w' ⟨⟨cc, rfl, hcc⟩, ⟨nd, rfl⟩⟩
            rw [hLess_eq A11.out] at hcc
            refine ⟨_, rfl, ?_⟩
            refine hK.out _ _ ⟨hHeld.1, hHeld.2⟩ (fun hHeld => ?_)
            clear hK K
            refine norm_ (a' := ?_) ?_ ?_; rotate_left; (show Act.put _ (some 32) _ = _; simp only [Act.put, List.setIfInBounds_toArray, List.set_cons_zero, List.set_cons_succ, i64_w, i32_w]; rfl)
            refine p_ 15 33 (m_ 17 65535) HT_.out ?_
            refine p_ 16 34 (m_ 17 131071) HT_.out ?_
            refine done_ (done_of HT_.out (by kernel_rfl)) ?_
            try go_wp2
            go_roundg k2
            case measure => have := HK1.out; have := HK2.out; omega
            case rel => exact ⟨(x0_2), (wrap64 (x6_1 + 1)), (by first | rfl | (simp; done)), HM_, H', ⟨by have := HK1.out; have := HK2.out; omega⟩, ⟨rr_ HO_0⟩, ⟨by repeat (first | (with_reducible first | exact HK.out | apply Kept.alloc | apply Kept.drewN | apply Kept.drew) | exact HK.out)⟩, ⟨by repeat (first | (with_reducible first | exact HB.out | apply below_alloc | apply pw_below_drewN | apply below_drew1) | exact HB.out)⟩⟩
          ·rw [if_neg c10] at H
           exact absurd H (by simp)
         ·rw [if_neg c9] at H
          exact absurd H (by simp)
        ·rw [if_neg c7] at H
         exact absurd H (by simp)
       ·rw [if_neg c6] at H
        exact absurd H (by simp)
      ·rw [if_neg c5] at H
       have c5b0 : decide (a1 < x7_2) = false := decide_eq_false c5
       clear c5
       have H' := Aside0.mk H
       clear H
       try go_wp2
       have n0_ := Aside0.mk (Kd.R_drew HO_0.out)
       have n1_ := Aside0.mk (Kept.drew HK.out)
       have n2_ := Aside0.mk (below_drew1 HB.out)
       clear HO_0
       clear HK
       clear HB
       have HO_0 := n0_
       have HK := n1_
       have HB := n2_
       clear n0_ n1_ n2_
       refine start_ (n := 17) (S := fun w' => True) (ds := []) #[F_,F_,F_,F_,F_,F_,F_,F_,F_,F_,F_,F_,F_,F_,F_,F_,F_] (by kernel_rfl) rfl rfl trivial (fun hHeld => ?_); refine with_tabW insCmp.tab4 insCmp.bits4 (fun HT_ HW_ => ?_)
       generalize wr.drew = w22 at HO_0 HK HB hHeld ⊢
       refine p_ 0 18 (m_ 17 1) HT_.out ?_
       refine p_ 1 19 (m_ 17 3) HT_.out ?_
       refine p_ 2 20 (m_ 17 7) HT_.out ?_
       refine p_ 3 21 (m_ 17 15) HT_.out ?_
       refine u_ 4 22 (m_ 17 31) HT_.out ?_
       refine u_ 5 23 (m_ 17 63) HT_.out ?_
       refine u_ 6 24 (m_ 17 127) HT_.out ?_
       refine u_ 7 25 (m_ 17 255) HT_.out ?_
       refine u_ 8 26 (m_ 17 511) HT_.out ?_
       refine u_ 9 27 (m_ 17 1023) HT_.out ?_
       refine u_ 10 28 (m_ 17 2047) HT_.out ?_
       refine u_ 11 29 (m_ 17 4095) HT_.out ?_
       refine u_ 12 30 (m_ 17 8191) HT_.out ?_
       refine u_ 13 31 (m_ 17 16383) HT_.out ?_
       refine u_ 14 32 (m_ 17 32767) HT_.out ?_
       refine u_ 15 33 (m_ 17 65535) HT_.out ?_
       refine p_ 16 34 (m_ 17 131071) HT_.out ?_
       refine done_ (done_of HT_.out (by kernel_rfl)) ?_
       try go_wp2
       go_roundg k2
       case measure => have := HK1.out; have := HK2.out; omega
       case rel => exact ⟨(x0_2), (wrap64 (x6_1 + 1)), (by first | rfl | (simp; done)), HM_, H', ⟨by have := HK1.out; have := HK2.out; omega⟩, ⟨rr_ HO_0⟩, ⟨by repeat (first | (with_reducible first | exact HK.out | apply Kept.alloc | apply Kept.drewN | apply Kept.drew) | exact HK.out)⟩, ⟨by repeat (first | (with_reducible first | exact HB.out | apply below_alloc | apply pw_below_drewN | apply below_drew1) | exact HB.out)⟩⟩
   ·rw [if_neg c4] at H
    have c4b0 : decide (x6_1 < a2) = false := decide_eq_false c4
    clear c4
    obtain rfl := Option.some.inj H
    go_wp2
    first | go_end0 | ((try simp only [Exit.inBlock, Exit.then]); refine bodyPost_ret (results_none rfl _ _ _) rfl ?_)
    exact ⟨ee_, by (with_reducible repeat (first | apply Kd.R_alloc | apply Kd.R_drewN | apply Kd.R_drew)); exact HO_0.out, bb_ HB, by repeat (first | (with_reducible first | exact HK.out | apply Kept.alloc | apply Kept.drewN | apply Kept.drew) | exact HK.out)⟩
end Go.Proofs.Ytbfafjejmljcpaa.P

set_option linter.unusedVariables false
set_option linter.unusedSimpArgs false
namespace Go.Proofs.Ytbfafjejmljcpaa.P
open Go.RowKit Go.Proofs.YtbfafjejmljcpaaW.PrintWords Go.Proofs.YtbfafjejmljcpaaW.PrintLast

def bits_Len64.f (a0 : Int) : Option Int := if a0 = 9 then some 4 else none
set_option maxHeartbeats 4000000 in
set_option maxRecDepth 100000 in
theorem bits_Len64.calls (a0 : Int) (r : Int) (w : World) (h : bits_Len64.f a0 = some r) :
    Calls Try.prog 138 #[.int .u64 a0] w fun e w' => e = .returned (.int .i64 r) ∧ Drawn0 w w' := by
  unfold bits_Len64.f at h
  by_cases hc : a0 = 9
  case neg => rw [if_neg hc] at h; exact absurd h (by simp)
  rw [if_pos hc] at h
  obtain rfl := Option.some.inj h
  subst hc
  clear h
  go_enter Try.func138, Try.ntmps138
  go_wp2
  go_ret
  exact ⟨by kernel_rfl, Drawn0.refl _⟩
end Go.Proofs.Ytbfafjejmljcpaa.P

namespace Go.Proofs.Ytbfafjejmljcpaa.P
open Go.RowKit Go.Proofs.YtbfafjejmljcpaaW.PrintWords Go.Proofs.YtbfafjejmljcpaaW.PrintLast
set_option linter.unusedVariables false
set_option linter.unusedSimpArgs false

def bits_Len.f (a0 : Int) : Option (Int) := (bits_Len64.f a0).bind fun t719 => (some t719)
set_option maxHeartbeats 8000000 in
set_option maxRecDepth 100000 in
theorem bits_Len.calls (a0 : Int) (r : Int) (w : World) (h : bits_Len.f a0 = some r) :
  Calls Try.prog 99 #[.int .u64 a0] w fun e w' => e = .returned (.int .i64 r) ∧ Drawn0 w w' := by
 have H : ((bits_Len64.f a0).bind fun t719 => (some t719)) = some r := h
 clear h
 replace H := Option.bind_eq_some_iff.mp H
 obtain ⟨t719, A20, H⟩ := H
 replace H : (some t719) = some r := H
 have A2 := Aside0.mk A20
 clear A20
 obtain rfl := Option.some.inj H
 go_enter Try.func99, Try.ntmps99
 go_wp2_with (first | (refine goesL_ (some 7) rfl rfl Try.func138 (by kernel_rfl) rfl #[.int .u64 a0] rfl ll_ ?_; (with_reducible refine (bits_Len64.calls a0 t719 _ A2.out).mono ?_); rintro e w' ⟨rfl, ⟨nd, rfl⟩⟩; refine ⟨_, rfl, ?_⟩))
 go_ret
 exact ⟨by first | rfl | (simp; done) | (simp [*]; done), by repeat (first | exact Drawn0.refl _ | apply Drawn0.step)⟩
end Go.Proofs.Ytbfafjejmljcpaa.P

set_option linter.unusedVariables false
set_option linter.unusedSimpArgs false
namespace Go.Proofs.Ytbfafjejmljcpaa.P
open Go.RowKit Go.Proofs.YtbfafjejmljcpaaW.PrintWords Go.Proofs.YtbfafjejmljcpaaW.PrintLast

abbrev HCmp (lt : HH → HH → Bool) (P0_ : Nat → Prop) (l0 : List HH) (w0 w : World) : Prop :=
  ∀ W : World, Kept w W (fun k_ => P0_ k_) → Below w0.heap.size w0 W → ∀ a b : HH, a ∈ l0 → b ∈ l0 → Calls Try.prog 84 #[hEnc a, hEnc b] W fun e w' => (∃ c : Int, e = .returned (.int .i64 c) ∧ decide (c < 0) = lt a b) ∧ Drawn0 W w'
set_option maxHeartbeats 4000000 in
set_option maxRecDepth 100000 in
theorem pdqCmp_calls (lt : HH → HH → Bool) (k : Nat) (P0_ : Nat → Prop) (u9000_ : Value) (l0 : List HH) (a1 a2 a3 : Int) (r : List HH) (w0 w : World) (hB : Below w0.heap.size w0 w) (ho0 : Kd.R hdK 23 w w0.heap.size P0_ u9000_ l0) (HC_ : HCmp lt P0_ l0 w0 w)
    (h0 : 0 ≤ a1) (h1 : a1 ≤ a2) (h2 : a2 ≤ 4611686018427387904) (h3 : a2 - a1 ≤ 12) (h : hsL0 lt k l0 a1 a2 (wrap64 (a1 + 1)) = some r) :
    Calls Try.prog 118 #[u9000_, .int .i64 a1, .int .i64 a2, .int .i64 a3, .func (.func 84) #[] #[]] w fun e w' => e = .returned (.tuple #[]) ∧ Kd.R hdK 23 w' w0.heap.size (fun k_ => (P0_ k_ ∨ w.heap.size ≤ k_)) u9000_ r ∧ Below w0.heap.size w0 w' ∧ Kept w w' (fun k_ => P0_ k_) := by
  have HS := Aside0.mk (insCmp_calls lt k P0_ u9000_ l0 a1 a2 r w0 w hB ho0 HC_ h)
  clear hB ho0 h HC_
  go_enter Try.func118, Try.ntmps118
  go_wp2
  go_loopg [1, 2, 3] 1 (fun kq v1 v2 v3 w' => v1 = .int .i64 a1 ∧ v2 = .int .i64 a2 ∧ v3 = .int .i64 a3 ∧ Aside0 (w' = w))
  case atStart => exact ⟨rfl, rfl, rfl, ⟨rfl⟩⟩
  case round =>
    obtain ⟨rfl, rfl, rfl, HW⟩ := hrel
    have hw := HW.out
    subst hw
    have e12 : wrap64 (a2 - a1) = a2 - a1 := by unfold wrap64; omega
    have c12 : decide (a2 - a1 ≤ 12) = true := decide_eq_true h3
    go_wp2_with (go_at_call 145; refine HS.out.mono ?_; rintro e w' ⟨rfl, hr', hb', hk'⟩)
    first | go_end0 | ((try simp only [Exit.inBlock, Exit.then]); refine bodyPost_ret (results_none rfl _ _ _) rfl ?_)
    exact ⟨rfl, hr', hb', hk'⟩
end Go.Proofs.Ytbfafjejmljcpaa.P

set_option linter.unusedVariables false
set_option linter.unusedSimpArgs false
namespace Go.Proofs.Ytbfafjejmljcpaa.X
open Go.RowKit Go.Proofs.YtbfafjejmljcpaaW.PrintWords Go.Proofs.YtbfafjejmljcpaaW.PrintLast Go.Proofs.Ytbfafjejmljcpaa.P

theorem enters2 : Eg 106 := enters_of Try.func106 (by kernel_rfl) rfl
theorem enters3 : Eg 108 := enters_of Try.func108 (by kernel_rfl) rfl
theorem BoxT.alloc {w : World} {A0 : Option Addr} {c0 : Nat} {t : List Int} (hr : Kd.C (Kd.int .i64) w A0 t.length t) : BoxT (w.alloc (.cells #[.slice A0 t.length c0] 23)) w.heap.size A0 c0 t :=
  ⟨World.cell?_alloc_at _ _ _ _ rfl, Kd.C_below hr ((Below.refl _ _).alloc (Nat.le_refl _) _)⟩
def unitB (t : List Int) (a : Int) : Bool := decide (rd t a = 0) && decide (rd t (9 * a) = 0) && decide (rd t (9 + a) = a) && decide (rd t (9 * a + 1) = a)
theorem unitsB_iff {t : List Int} : unitsB t = true ↔ ∀ x : Int, 0 ≤ x → x < 9 → unitB t x = true := allI_int_iff
theorem unitsB_hit {t : List Int} {x : Int} (h0 : 0 ≤ x) (h1 : x < 9) (h : unitB t x = false) : unitsB t = false := by
  cases e : unitsB t with
  | false => rfl
  | true => have := unitsB_iff.1 e x h0 h1; rw [h] at this; exact absurd this (by decide)
theorem solvesB_hit {t : List Int} {c d : Int} (h0 : 0 ≤ d) (h1 : d < c) (h2 : c < 9) (h : gapsB t c d = false) : solvesB t = false := by
  cases e : solvesB t with
  | false => rfl
  | true =>
    have := allI_int (allI_int e c (by omega) (by omega)) d h0 (by omega)
    rw [h, decide_eq_true h1] at this; exact absurd this (by decide)
theorem solvesB_all {t : List Int} (h : ∀ c d : Int, 0 ≤ d → d < c → c < 9 → gapsB t c d = true) : solvesB t = true :=
  allI_int_iff.2 fun c c0 c1 => allI_int_iff.2 fun d d0 d1 => by
    by_cases e : d < c
    · rw [h c d d0 e (by omega)]; simp
    · rw [decide_eq_false e]; rfl
theorem sysB_of {t : List Int} (h : ninesB t 81 = true) : sysB t = (unitsB t && (sharesB t && solvesB t)) := by unfold sysB; rw [h]; rfl
set_option maxRecDepth 100000 in
set_option maxHeartbeats 8000000 in
theorem isSystem_calls (A0 : Option Addr) (c0 : Nat) (t : List Int) (w : World) (hr : Kd.C (Kd.int .i64) w A0 t.length t) :
    Calls Try.prog 66 #[.slice A0 t.length c0] w fun e w' => e = .returned (.bool (sysB t)) ∧ Below w.heap.size w w' := by
  have hmf : ∀ (fn : Fn) (first cap : Array Value) (w : World), (Instr.makeFunc fn first cap).run Try.prog w = .ok (.func fn first cap) w := fun _ _ _ _ => rfl
  have HC0 := Aside0.mk (areNines_calls A0 c0 t 81 (w.alloc (.cells #[.slice A0 t.length c0] 23)) (BoxT.alloc (c0 := c0) hr).read)
  have HX := Aside0.mk (BoxT.alloc (c0 := c0) hr)
  have hB0 := Aside0.mk ((Below.refl w.heap.size w).alloc (Nat.le_refl _) (.cells #[.slice A0 t.length c0] 23))
  by_cases hn : ninesB t 81 = true
  case neg =>
    have hn := Bool.eq_false_iff.2 hn
    have e : sysB t = false := by unfold sysB; rw [hn]; rfl
    rw [e]
    have e2 : (decide ((t.length : Int) = 81) && t.all isN) = false := by
      unfold ninesB at hn
      rw [← hn, show decide ((t.length : Int) = 81) = decide (t.length = 81) from decide_eq_decide.2 (by omega)]
    rw [e2] at HC0
    clear hn e e2 hr HX
    go_enter Try.func66, Try.ntmps66
    go_wp2_with (go_at_call 104; refine HC0.out.mono ?_; rintro e w' ⟨rfl, hb⟩)
    go_ret
    exact ⟨rfl, hB0.out.trans (hb.mono (by simp))⟩
  case pos =>
    have e2 : (decide ((t.length : Int) = 81) && t.all isN) = true := by
      have := hn
      unfold ninesB at this
      rw [← this, show decide ((t.length : Int) = 81) = decide (t.length = 81) from decide_eq_decide.2 (by omega)]
    rw [e2] at HC0
    rw [sysB_of hn]
    have HN := Aside0.mk hn
    obtain ⟨hl, _⟩ := ninesB_iff.1 hn
    have hlen : 81 ≤ t.length := by omega
    clear e2 hr hl hn
    go_enter Try.func66, Try.ntmps66
    go_wp2_with (go_at_call 104; refine HC0.out.mono ?_; rintro e w1 ⟨rfl, hb⟩)
    have HX1 := Aside0.mk (HX.out.below hb)
    have HB1 := Aside0.mk (hB0.out.trans (hb.mono (by simp)))
    clear hb HX hB0 HC0
    go_loopg [9] 9 (fun kq v9 w' => ∃ i : Int, v9 = .int .i64 i ∧ Aside0 (0 ≤ i ∧ i ≤ 9) ∧ Aside0 ((9 : Int) - i ≤ kq) ∧ Aside0 (∀ x : Int, 0 ≤ x → x < i → unitB t x = true) ∧ Aside0 (BoxT w' w.heap.size A0 c0 t) ∧ Aside0 (Below w.heap.size w w'))
    case atStart => exact ⟨0, rfl, ⟨by omega⟩, ⟨by omega⟩, ⟨fun x h0 h1 => by omega⟩, HX1, HB1⟩
    case round =>
      clear HX1 HB1
      obtain ⟨i, rfl, HI, HK, HA, HX, HB⟩ := hrel
      have h0 : 0 ≤ i := HI.out.1
      by_cases c6 : i < 9
      · obtain ⟨ad, e1⟩ := HX.out.some (by omega)
        cases e1
        have hc := HX.out.cell
        have g1 := HX.out.at i h0 (by omega)
        have g2 := HX.out.at (9 * i) (by omega) (by omega)
        have g3 := HX.out.at (9 + i) (by omega) (by omega)
        have g4 := HX.out.at (9 * i + 1) (by omega) (by omega)
        have hu : unitB t i = (decide (rd t i = 0) && decide (rd t (9 * i) = 0) && decide (rd t (9 + i) = i) && decide (rd t (9 * i + 1) = i)) := rfl
        have HU := Aside0.mk hu
        clear hu
        obtain ⟨v1, hv1⟩ : ∃ v, rd t i = v := ⟨_, rfl⟩
        obtain ⟨v2, hv2⟩ : ∃ v, rd t (9 * i) = v := ⟨_, rfl⟩
        obtain ⟨v3, hv3⟩ : ∃ v, rd t (9 + i) = v := ⟨_, rfl⟩
        obtain ⟨v4, hv4⟩ : ∃ v, rd t (9 * i + 1) = v := ⟨_, rfl⟩
        rw [hv1] at g1 HU
        rw [hv2] at g2 HU
        rw [hv3] at g3 HU
        rw [hv4] at g4 HU
        clear hv1 hv2 hv3 hv4
        have fin : ∀ (b : Bool), unitB t i = b → b = false → (unitsB t && (sharesB t && solvesB t)) = false := fun b hb hf => by
          rw [unitsB_hit h0 c6 (hb.trans hf)]; rfl
        have FIN := Aside0.mk fin
        clear fin
        by_cases t1 : v1 = 0
        · have t1a : (v1 == 0) = true := beq_iff_eq.2 t1
          have t1b : (v1 != 0) = false := by rw [bne, t1a]; rfl
          by_cases t2 : v2 = 0
          · have t2a : (v2 == 0) = true := beq_iff_eq.2 t2
            have t2b : (v2 != 0) = false := by rw [bne, t2a]; rfl
            by_cases t3 : v3 = i
            · have t3a : (v3 == i) = true := beq_iff_eq.2 t3
              have t3b : (v3 != i) = false := by rw [bne, t3a]; rfl
              by_cases t4 : v4 = i
              · have t4a : (v4 == i) = true := beq_iff_eq.2 t4
                have t4b : (v4 != i) = false := by rw [bne, t4a]; rfl
                have HP := Aside0.mk (show unitB t i = true by rw [HU.out, decide_eq_true t1, decide_eq_true t2, decide_eq_true t3, decide_eq_true t4]; rfl)
                clear t1 t2 t3 t4
                go_wp2
                go_roundg (9 - (i.toNat + 1))
                case measure => have := HK.out; omega
                case rel =>
                  refine ⟨i + 1, rfl, ⟨by omega⟩, ⟨by omega⟩, ⟨fun x hx0 hx1 => ?_⟩, HX, HB⟩
                  by_cases e : x = i
                  · rw [e]; exact HP.out
                  · exact HA.out x hx0 (by omega)
              · have t4a : (v4 == i) = false := beq_eq_false_iff_ne.2 t4
                have t4b : (v4 != i) = true := by rw [bne, t4a]; rfl
                have HP := Aside0.mk (FIN.out _ HU.out (by rw [decide_eq_false t4, Bool.and_false]))
                clear t1 t2 t3 t4
                go_wp2
                go_ret
                exact ⟨by rw [HP.out]; rfl, HB.out⟩
            · have t3a : (v3 == i) = false := beq_eq_false_iff_ne.2 t3
              have t3b : (v3 != i) = true := by rw [bne, t3a]; rfl
              have HP := Aside0.mk (FIN.out _ HU.out (by rw [decide_eq_false t3, Bool.and_false, Bool.false_and]))
              clear t1 t2 t3
              go_wp2
              go_ret
              exact ⟨by rw [HP.out]; rfl, HB.out⟩
          · have t2a : (v2 == 0) = false := beq_eq_false_iff_ne.2 t2
            have t2b : (v2 != 0) = true := by rw [bne, t2a]; rfl
            have HP := Aside0.mk (FIN.out _ HU.out (by rw [decide_eq_false t2, Bool.and_false, Bool.false_and, Bool.false_and]))
            clear t1 t2
            go_wp2
            go_ret
            exact ⟨by rw [HP.out]; rfl, HB.out⟩
        · have t1a : (v1 == 0) = false := beq_eq_false_iff_ne.2 t1
          have t1b : (v1 != 0) = true := by rw [bne, t1a]; rfl
          have HP := Aside0.mk (FIN.out _ HU.out (by rw [decide_eq_false t1, Bool.false_and, Bool.false_and, Bool.false_and]))
          clear t1
          go_wp2
          go_ret
          exact ⟨by rw [HP.out]; rfl, HB.out⟩
      · have HU := Aside0.mk (unitsB_iff.2 fun x x0 x1 => HA.out x x0 (by have := HI.out; omega))
        clear HA HK HI
        have hp : Fn3 106 #[.pointer (some ⟨w.heap.size, 0, none⟩)] wr (fun a b c => In9 a ∧ In9 b ∧ In9 c) (fun x y z => .bool (decide (rd t (9 * addN x y + z) = addN (rd t (9 * x + z)) (rd t (9 * y + z))))) :=
          fun W x y z hW hd => isSystem1_calls w.heap.size A0 c0 t W (HX.out.below hW) HN.out x y z hd.1 hd.2.1 hd.2.2
        have hcall := forAll_calls 106 #[.pointer (some ⟨w.heap.size, 0, none⟩)] enters2 _ wr hp
        clear hp
        have es : all3 (fun x y z => decide (rd t (9 * addN x y + z) = addN (rd t (9 * x + z)) (rd t (9 * y + z)))) = sharesB t := rfl
        rw [es] at hcall
        clear es
        by_cases hs : sharesB t = true
        case neg =>
          have hs := Bool.eq_false_iff.2 hs
          rw [hs] at hcall
          have HS := Aside0.mk hs
          have HC := Aside0.mk hcall
          clear hs hcall
          go_wp2_with (go_at_call 105; refine HC.out.mono ?_; rintro e w2 ⟨rfl, hb2⟩)
          go_ret
          exact ⟨by rw [HU.out, HS.out]; rfl, bstep HB.out hb2⟩
        case pos =>
          rw [hs] at hcall
          have HS := Aside0.mk hs
          have HC := Aside0.mk hcall
          clear hs hcall
          go_wp2_with (go_at_call 105; refine HC.out.mono ?_; rintro e w2 ⟨rfl, hb2⟩)
          have HX2 := Aside0.mk (HX.out.below hb2)
          have HB2 := Aside0.mk (bstep HB.out hb2)
          clear HX HB hb2 HC
          go_loopg [48] 9 (fun kq v9 w' => ∃ c : Int, v9 = .int .i64 c ∧ Aside0 (0 ≤ c ∧ c ≤ 9) ∧ Aside0 ((9 : Int) - c ≤ kq) ∧ Aside0 (∀ x y : Int, 0 ≤ y → y < x → x < c → gapsB t x y = true) ∧ Aside0 (BoxT w' w.heap.size A0 c0 t) ∧ Aside0 (Below w.heap.size w w'))
          case atStart => exact ⟨0, rfl, ⟨by omega⟩, ⟨by omega⟩, ⟨fun x y h0 h1 => by omega⟩, HX2, HB2⟩
          case round =>
            clear HX2 HB2
            obtain ⟨c, rfl, HI, HK, HA, HX, HB⟩ := hrel
            have h0 : 0 ≤ c := HI.out.1
            by_cases c7 : c < 9
            · obtain ⟨wo, hwo⟩ : ∃ wo : World, wr = wo := ⟨_, rfl⟩
              subst hwo
              have HXc := Aside0.mk (HX.out.below ((Below.refl _ _).alloc (Nat.le_refl _) (.cells #[.int .i64 c] 3)))
              have HBc := Aside0.mk (HB.out.alloc HB.out.size (.cells #[.int .i64 c] 3))
              have HCc := Aside0.mk (show (wr.alloc (.cells #[.int .i64 c] 3)).cell? ⟨wr.heap.size, 0, none⟩ = some (.int .i64 c) from World.cell?_alloc_at _ _ _ _ rfl)
              go_wp2
              obtain ⟨cb, hcb⟩ : ∃ cb, wr.heap.size = cb := ⟨_, rfl⟩
              rw [hcb] at HCc ⊢
              clear hcb
              go_loopg [52] 9 (fun kq v9 w' => ∃ d : Int, v9 = .int .i64 d ∧ Aside0 (0 ≤ d ∧ d ≤ c) ∧ Aside0 (c - d ≤ kq) ∧ Aside0 (∀ y : Int, 0 ≤ y → y < d → gapsB t c y = true) ∧ Aside0 (w'.cell? ⟨cb, 0, none⟩ = some (.int .i64 c)) ∧ Aside0 (BoxT w' w.heap.size A0 c0 t) ∧ Aside0 (Below w.heap.size w w'))
              case atStart => exact ⟨0, rfl, ⟨by omega⟩, ⟨by omega⟩, ⟨fun y h0 h1 => by omega⟩, HCc, HXc, HBc⟩
              case round =>
                clear HXc HBc HCc HX HB
                obtain ⟨d, rfl, HI2, HK2, HA2, HC, HX, HB⟩ := hrel
                have h02 : 0 ≤ d := HI2.out.1
                by_cases c8 : d < c
                · have hbel := (Below.refl wr.heap.size wr).alloc (Nat.le_refl _) (.cells #[.int .i64 d] 3)
                  have HXd := Aside0.mk (HX.out.below hbel)
                  have HBd := Aside0.mk (HB.out.alloc HB.out.size (.cells #[.int .i64 d] 3))
                  have hcd : (wr.alloc (.cells #[.int .i64 d] 3)).cell? ⟨cb, 0, none⟩ = some (.int .i64 c) := (hbel.cell (World.block_lt_of_cell? wr _ HC.out)).trans HC.out
                  have hdd : (wr.alloc (.cells #[.int .i64 d] 3)).cell? ⟨wr.heap.size, 0, none⟩ = some (.int .i64 d) := World.cell?_alloc_at _ _ _ _ rfl
                  have hp : Fn1 108 #[.pointer (some ⟨w.heap.size, 0, none⟩), .pointer (some ⟨cb, 0, none⟩), .pointer (some ⟨wr.heap.size, 0, none⟩)] (wr.alloc (.cells #[.int .i64 d] 3)) In9 (fun x => .int .i64 (addN (rd t (9 * x + c)) (minusN (rd t (9 * x + d))))) :=
                    fun W x hW hd => isSystem2_calls w.heap.size cb wr.heap.size A0 c0 t W (HXd.out.below hW) HN.out c d ⟨h0, c7⟩ ⟨h02, by omega⟩ ((hW.cell (World.block_lt_of_cell? _ _ hcd)).trans hcd) ((hW.cell (World.block_lt_of_cell? _ _ hdd)).trans hdd) x hd
                  have hcall := isOnce_calls 108 #[.pointer (some ⟨w.heap.size, 0, none⟩), .pointer (some ⟨cb, 0, none⟩), .pointer (some ⟨wr.heap.size, 0, none⟩)] enters3 _ _ hp (fun x _ => addN_range _ _)
                  have eg : onceB (fun x => addN (rd t (9 * x + c)) (minusN (rd t (9 * x + d)))) = gapsB t c d := rfl
                  rw [eg] at hcall
                  have HCD := Aside0.mk hcd
                  clear hp eg hbel hcd hdd
                  by_cases hg : gapsB t c d = true
                  · rw [hg] at hcall
                    have HG := Aside0.mk hg
                    have HCA := Aside0.mk hcall
                    clear hg hcall
                    go_wp2_with (go_at_call 107; refine HCA.out.mono ?_; rintro e w2 ⟨rfl, hb2⟩)
                    go_roundg ((c - (d + 1)).toNat)
                    case measure => have := HK2.out; omega
                    case rel =>
                      refine ⟨d + 1, rfl, ⟨by omega⟩, ⟨by omega⟩, ⟨fun y y0 y1 => ?_⟩, ⟨(hb2.cell (World.block_lt_of_cell? _ _ HCD.out)).trans HCD.out⟩, ⟨HXd.out.below hb2⟩, ⟨bstep HBd.out hb2⟩⟩
                      by_cases e : y = d
                      · rw [e]; exact HG.out
                      · exact HA2.out y y0 (by omega)
                  · have hg := Bool.eq_false_iff.2 hg
                    rw [hg] at hcall
                    have HG := Aside0.mk hg
                    have HCA := Aside0.mk hcall
                    clear hg hcall
                    go_wp2_with (go_at_call 107; refine HCA.out.mono ?_; rintro e w2 ⟨rfl, hb2⟩)
                    go_ret
                    exact ⟨by rw [HU.out, HS.out, solvesB_hit h02 c8 c7 HG.out]; rfl, bstep HBd.out hb2⟩
                · go_wp2
                  go_roundg (9 - (c.toNat + 1))
                  case measure => have := HK.out; omega
                  case rel =>
                    refine ⟨c + 1, rfl, ⟨by omega⟩, ⟨by omega⟩, ⟨fun x y y0 yx x1 => ?_⟩, HX, HB⟩
                    by_cases e : x = c
                    · subst e; exact HA2.out y y0 (by omega)
                    · exact HA.out x y y0 yx (by omega)
            · go_wp2
              go_ret
              have hsol : solvesB t = true := solvesB_all fun x y y0 yx x9 => HA.out x y y0 yx (by have := HI.out; omega)
              exact ⟨by rw [HU.out, HS.out, hsol]; rfl, HB.out⟩
end Go.Proofs.Ytbfafjejmljcpaa.X
namespace Go.Proofs.Ytbfafjejmljcpaa.P
open Go.RowKit Go.Proofs.YtbfafjejmljcpaaW.PrintWords Go.Proofs.YtbfafjejmljcpaaW.PrintLast
def impl_isSystem.f (l0 : List Int) : Option Bool := some (X.sysB l0)
theorem impl_isSystem.calls (A0 : Option Addr) (c0 : Nat) (l0 : List Int) (r : Bool) (w : World) (hr0 : Kd.C (Kd.int .i64) w A0 l0.length l0) (hc0 : l0.length ≤ c0) (h : impl_isSystem.f l0 = some r) :
    Calls Try.prog 66 #[.slice A0 l0.length c0] w fun e w' => e = .returned (.bool r) ∧ Below w.heap.size w w' := by
  obtain rfl := Option.some.inj h
  exact X.isSystem_calls A0 c0 l0 w hr0
end Go.Proofs.Ytbfafjejmljcpaa.P

set_option linter.unusedVariables false
set_option linter.unusedSimpArgs false
namespace Go.Proofs.Ytbfafjejmljcpaa.X
open Go.RowKit Go.Proofs.YtbfafjejmljcpaaW.PrintWords Go.Proofs.YtbfafjejmljcpaaW.PrintLast Go.Proofs.Ytbfafjejmljcpaa.P

theorem l6In_eq (a b c : Int) : spec_l6In.f a b c = some (decide (b ≤ a) && decide (a ≤ c)) := by
  unfold spec_l6In.f
  by_cases h : a ≥ b
  · rw [if_pos h, decide_eq_true h]; simp
  · rw [if_neg h, decide_eq_false h]; simp
theorem l1In_eq (a : Int) : spec_l1In.f a = some (isN a) := by
  unfold spec_l1In.f isN
  rw [l6In_eq]
  show some _ = _
  rw [show decide (a ≤ 8) = decide (a < 9) from decide_eq_decide.2 (by omega)]
theorem l2Table_loop (l : List Int) (hl : l.length ≤ 1048576) (d : Nat) : ∀ (i : Int), 0 ≤ i → i + d = l.length → (∀ j : Nat, (j : Int) < i → isN (rd l j) = true) → Ev (fun k => spec_l2Table.l0 k l i) (ninesB l 81) := by
  induction d with
  | zero =>
    intro i h0 h1 h
    refine Ev.step (fun k => by rw [spec_l2Table.l0]) ?_
    refine Ev.neg (by omega) (Ev.done ?_)
    have ha : l.all isN = true := by
      rw [List.all_eq_true]
      intro x hx
      obtain ⟨j, hj, rfl⟩ := List.mem_iff_getElem.1 hx
      rw [← rd_cast l j hj]
      exact h j (by omega)
    unfold ninesB
    rw [ha, Bool.and_true]
    congr 1
    rw [Bool.eq_iff_iff]; simp; omega
  | succ d ih =>
    intro i h0 h1 h
    refine Ev.step (fun k => by rw [spec_l2Table.l0]) ?_
    simp (disch := omega) only [w64, l1In_eq, Option.bind_some]
    refine Ev.pos (by omega) (Ev.pos (by omega) ?_)
    by_cases e : isN (rd l i) = true
    · refine Ev.pos e (ih (i + 1) (by omega) (by omega) fun j hj => ?_)
      by_cases ej : (j : Int) = i
      · rw [ej]; exact e
      · exact h j (by omega)
    · refine Ev.neg e (Ev.done ?_)
      have : l.all isN = false := by
        rw [List.all_eq_false]
        exact ⟨rd l i, rd_mem (by omega) h0, e⟩
      unfold ninesB
      rw [this, Bool.and_false]
theorem l2Table_ev (l : List Int) (hl : l.length ≤ 1048576) : Ev (fun k => spec_l2Table.f k l) (ninesB l 81) :=
  l2Table_loop l hl l.length 0 (by omega) (by omega) (fun j h => by omega)
theorem l2Units_loop (t : List Int) (hl : t.length = 81) (d : Nat) : ∀ (i : Int), 0 ≤ i → i + d = 9 → (∀ x : Int, 0 ≤ x → x < i → unitB t x = true) → Ev (fun k => spec_l2Units.l0 k t i) (unitsB t) := by
  induction d with
  | zero =>
    intro i h0 h1 h
    refine Ev.step (fun k => by rw [spec_l2Units.l0]) ?_
    refine Ev.neg (by omega) (Ev.done ?_)
    rw [unitsB_iff.2 fun x x0 x1 => h x x0 (by omega)]
  | succ d ih =>
    intro i h0 h1 h
    have hu : unitB t i = (decide (rd t i = 0) && decide (rd t (9 * i) = 0) && decide (rd t (9 + i) = i) && decide (rd t (9 * i + 1) = i)) := rfl
    refine Ev.step (fun k => by rw [spec_l2Units.l0]) ?_
    have z1 : wrap64 (9 * i) = 9 * i := w64 (by omega) (by omega)
    have z2 : wrap64 (9 + i) = 9 + i := w64 (by omega) (by omega)
    have z3 : wrap64 (9 * i + 1) = 9 * i + 1 := w64 (by omega) (by omega)
    have z4 : wrap64 (i + 1) = i + 1 := w64 (by omega) (by omega)
    simp only [z1, z2, z3, z4]
    refine Ev.pos (by omega) (Ev.pos (by omega) (Ev.pos (by omega) ?_))
    by_cases e1 : rd t i = 0
    case neg => exact Ev.neg e1 (Ev.done (by rw [unitsB_hit h0 (by omega) (by rw [hu, decide_eq_false e1]; rfl)]))
    refine Ev.pos e1 (Ev.pos (by omega) (Ev.pos (by omega) ?_))
    by_cases e2 : rd t (9 * i) = 0
    case neg => exact Ev.neg e2 (Ev.done (by rw [unitsB_hit h0 (by omega) (by rw [hu, decide_eq_false e2, Bool.and_false]; rfl)]))
    refine Ev.pos e2 (Ev.pos (by omega) (Ev.pos (by omega) ?_))
    by_cases e3 : rd t (9 + i) = i
    case neg => exact Ev.neg e3 (Ev.done (by rw [unitsB_hit h0 (by omega) (by rw [hu, decide_eq_false e3, Bool.and_false]; rfl)]))
    refine Ev.pos e3 (Ev.pos (by omega) (Ev.pos (by omega) ?_))
    by_cases e4 : rd t (9 * i + 1) = i
    case neg => exact Ev.neg e4 (Ev.done (by rw [unitsB_hit h0 (by omega) (by rw [hu, decide_eq_false e4, Bool.and_false])]))
    refine Ev.pos e4 (ih (i + 1) (by omega) (by omega) fun x x0 x1 => ?_)
    by_cases e : x = i
    · rw [e, hu, decide_eq_true e1, decide_eq_true e2, decide_eq_true e3, decide_eq_true e4]; rfl
    · exact h x x0 (by omega)
theorem l2Units_ev (t : List Int) (hl : t.length = 81) : Ev (fun k => spec_l2Units.f k t) (unitsB t) :=
  l2Units_loop t hl 9 0 (by omega) (by omega) (fun x h0 h1 => by omega)
theorem SystemIn_l1 (t : List Int) (hn : ninesB t 81 = true) (c : Int) (hc : In9 c) (hr : (∀ d : Int, 0 ≤ d → d < c → gapsB t c d = true) → Ev (fun k => spec_SystemIn.l0 k t (c + 1)) (solvesB t)) (n : Nat) :
    ∀ (d : Int), 0 ≤ d → d + n = c → (∀ x : Int, 0 ≤ x → x < d → gapsB t c x = true) → Ev (fun k => spec_SystemIn.l1 k t c d) (solvesB t) := by
  obtain ⟨c0, c1⟩ := hc
  induction n with
  | zero =>
    intro d h0 h1 h
    refine Ev.step (fun k => by rw [spec_SystemIn.l1]) ?_
    simp (disch := omega) only [w64]
    exact Ev.neg (by omega) (hr fun x x0 x1 => h x x0 (by omega))
  | succ n ih =>
    intro d h0 h1 h
    refine Ev.step (fun k => by rw [spec_SystemIn.l1]) ?_
    have hs : spec_l2Solves.f t c d = some (gapsB t c d) := by unfold spec_l2Solves.f; exact if_pos ⟨hn, ⟨c0, c1⟩, ⟨h0, by omega⟩⟩
    simp (disch := omega) only [w64, hs, Option.bind_some]
    refine Ev.pos (by omega) ?_
    by_cases e : gapsB t c d = true
    · refine Ev.pos e (ih (d + 1) (by omega) (by omega) fun x x0 x1 => ?_)
      by_cases ex : x = d
      · rw [ex]; exact e
      · exact h x x0 (by omega)
    · refine Ev.neg e (Ev.done ?_)
      rw [solvesB_hit h0 (by omega) c1 (Bool.eq_false_iff.2 e)]
theorem SystemIn_l0 (t : List Int) (hn : ninesB t 81 = true) (n : Nat) : ∀ (c : Int), 0 ≤ c → c + n = 9 → (∀ x y : Int, 0 ≤ y → y < x → x < c → gapsB t x y = true) → Ev (fun k => spec_SystemIn.l0 k t c) (solvesB t) := by
  induction n with
  | zero =>
    intro c h0 h1 h
    refine Ev.step (fun k => by rw [spec_SystemIn.l0]) ?_
    refine Ev.neg (by omega) (Ev.done ?_)
    rw [solvesB_all fun x y y0 yx x9 => h x y y0 yx (by omega)]
  | succ n ih =>
    intro c h0 h1 h
    refine Ev.step (fun k => by rw [spec_SystemIn.l0]) ?_
    refine Ev.pos (by omega) ?_
    refine SystemIn_l1 t hn c ⟨h0, by omega⟩ (fun hg => ih (c + 1) (by omega) (by omega) fun x y y0 yx x1 => ?_) c.toNat 0 (by omega) (by omega) (fun x x0 x1 => by omega)
    by_cases e : x = c
    · subst e; exact hg y y0 yx
    · exact h x y y0 yx (by omega)
theorem SystemIn_ev (t : List Int) (hl : t.length ≤ 1048576) : Ev (fun k => spec_SystemIn.f k t) (sysB t) := by
  unfold spec_SystemIn.f
  refine Ev.bind (l2Table_ev t hl) ?_
  by_cases hn : ninesB t 81 = true
  case neg =>
    refine Ev.neg hn (Ev.step (fun k => by rw [spec_SystemIn.j0]) (Ev.pos rfl (Ev.done ?_)))
    unfold sysB; rw [Bool.eq_false_iff.2 hn]; rfl
  refine Ev.pos hn (Ev.bind (l2Units_ev t (ninesB_iff.1 hn).1) ?_)
  by_cases hu : unitsB t = true
  case neg =>
    refine Ev.neg hu (Ev.step (fun k => by rw [spec_SystemIn.j0]) (Ev.pos rfl (Ev.done ?_)))
    rw [sysB_of hn, Bool.eq_false_iff.2 hu]; rfl
  have hs : spec_l2Shares.f t = some (sharesB t) := by unfold spec_l2Shares.f; exact if_pos hn
  refine Ev.pos hu (Ev.fix hs ?_)
  rw [sysB_of hn, hu]
  by_cases h : sharesB t = true
  · rw [h]
    refine Ev.step (fun k => by rw [spec_SystemIn.j0]) ?_
    refine Ev.neg (by simp) ?_
    exact SystemIn_l0 t hn 9 0 (by omega) (by omega) (fun x y h0 h1 h2 => by omega)
  · rw [Bool.eq_false_iff.2 h]
    refine Ev.step (fun k => by rw [spec_SystemIn.j0]) ?_
    exact Ev.pos rfl (Ev.done rfl)
end Go.Proofs.Ytbfafjejmljcpaa.X

set_option linter.unusedVariables false
set_option linter.unusedSimpArgs false
namespace Go.Proofs.Ytbfafjejmljcpaa.X
open Go.RowKit Go.Proofs.YtbfafjejmljcpaaW.PrintWords Go.Proofs.YtbfafjejmljcpaaW.PrintLast Go.Proofs.Ytbfafjejmljcpaa.P

def bL (n : Nat) (s : Nat → Bool) : List Bool := (List.range n).map s
theorem bL_length (n : Nat) (s : Nat → Bool) : (bL n s).length = n := by simp [bL]
theorem bL_replicate (n : Nat) : List.replicate n false = bL n (fun _ => false) := by
  unfold bL; rw [List.map_const']; simp
theorem bL_rd {n : Nat} {s : Nat → Bool} (v : Int) (h0 : 0 ≤ v) (h1 : v < n) : rdOf false (bL n s) v = s v.toNat := by
  unfold rdOf bL
  rw [List.getD_eq_getElem?_getD, List.getElem?_map, List.getElem?_range (by omega)]
  rfl
theorem bL_set {n : Nat} {s : Nat → Bool} (v : Int) (b : Bool) : (bL n s).set v.toNat b = bL n (fun x => if x = v.toNat then b else s x) := by
  apply List.ext_getElem?
  intro i
  rw [List.getElem?_set]
  by_cases hi : i < n
  · by_cases hj : v.toNat = i
    · subst hj; simp [bL, hi]
    · simp [bL, hi, hj, Ne.symm hj]
  · by_cases hj : v.toNat = i
    · subst hj; simp [bL, hi]
    · simp [bL, hi, hj]
theorem bL_congr {n : Nat} {s s' : Nat → Bool} (h : ∀ j, j < n → s j = s' j) : bL n s = bL n s' := by
  unfold bL
  exact List.map_congr_left fun j hj => h j (List.mem_range.1 hj)
end Go.Proofs.Ytbfafjejmljcpaa.X

set_option linter.unusedVariables false
set_option linter.unusedSimpArgs false
namespace Go.Proofs.Ytbfafjejmljcpaa.X
open Go.RowKit Go.Proofs.YtbfafjejmljcpaaW.PrintWords Go.Proofs.YtbfafjejmljcpaaW.PrintLast Go.Proofs.Ytbfafjejmljcpaa.P

theorem rdL_cast (l : List (List Int)) (i : Nat) (h : i < l.length) : rd_LI l (i : Int) = l[i] := by
  unfold rd_LI
  rw [List.getD_eq_getElem?_getD]
  simp [h]
theorem rdL_int {l : List (List Int)} {i : Int} (h0 : 0 ≤ i) (h1 : i < l.length) : rd_LI l i = l[i.toNat]'(by omega) := by
  rw [← rdL_cast l i.toNat (by omega), Int.toNat_of_nonneg h0]
theorem rdL_mem {l : List (List Int)} {i : Int} (h0 : 0 ≤ i) (h1 : i < l.length) : rd_LI l i ∈ l := by
  rw [rdL_int h0 h1]; exact List.getElem_mem _
theorem ext_rdL {a b : List (List Int)} (hl : a.length = b.length) (h : ∀ i : Nat, i < a.length → rd_LI a (i : Int) = rd_LI b (i : Int)) : a = b := by
  apply List.ext_getElem hl
  intro i h1 h2
  rw [← rdL_cast a i h1, ← rdL_cast b i h2]
  exact h i h1
end Go.Proofs.Ytbfafjejmljcpaa.X

set_option linter.unusedVariables false
set_option linter.unusedSimpArgs false
namespace Go.Proofs.Ytbfafjejmljcpaa.X
open Go.RowKit Go.Proofs.YtbfafjejmljcpaaW.PrintWords Go.Proofs.YtbfafjejmljcpaaW.PrintLast Go.Proofs.Ytbfafjejmljcpaa.P

theorem l6lLess_loop (a b : List Int) (ha : a.length = 9) (hb : b.length = 9) (d : Nat) : ∀ i : Int, 0 ≤ i → i + d = 9 → (∀ j : Int, 0 ≤ j → j < i → rd a j = rd b j) → Ev (fun k => spec_l6lLess.l0 k a b i) (lessB a b) := by
  induction d with
  | zero =>
    intro i h0 h1 h
    refine Ev.step (fun k => by rw [spec_l6lLess.l0]) ?_
    refine Ev.neg (by omega) (Ev.done ?_)
    have : gapI a b = -1 := firstI_none fun j j0 j1 => by rw [h j j0 (by omega)]; simp
    unfold lessB; rw [this]; rfl
  | succ d ih =>
    intro i h0 h1 h
    refine Ev.step (fun k => by rw [spec_l6lLess.l0]) ?_
    rw [w64 (x := i + 1) (by omega) (by omega)]
    refine Ev.pos (by omega) (Ev.pos h0 (Ev.pos (by omega) (Ev.pos (by omega) ?_)))
    by_cases e : rd a i = rd b i
    · refine Ev.pos e (ih (i + 1) (by omega) (by omega) fun j j0 j1 => ?_)
      by_cases ej : j = i
      · rw [ej]; exact e
      · exact h j j0 (by omega)
    · refine Ev.neg e (Ev.done ?_)
      have : gapI a b = i := firstI_some i h0 (by omega) (by simpa using e) fun j j0 j1 => by rw [h j j0 j1]; simp
      unfold lessB; rw [this, decide_eq_true h0, Bool.true_and]
theorem l6lLess_ev (a b : List Int) (ha : a.length = 9) (hb : b.length = 9) : Ev (fun k => spec_l6lLess.f k a b) (lessB a b) :=
  l6lLess_loop a b ha hb 9 0 (by omega) (by omega) (fun j j0 j1 => by omega)
theorem seenS_iff {l : List (List Int)} {i p : Int} : seenS l i p = true ↔ ∃ j : Nat, (j : Int) < i ∧ p ∈ rd_LI l (j : Int) := by
  unfold seenS
  simp only [List.any_eq_true, List.mem_range, decide_eq_true_eq]
  constructor
  · rintro ⟨j, hj, h⟩; exact ⟨j, by omega, h⟩
  · rintro ⟨j, hj, h⟩; exact ⟨j, by omega, h⟩
theorem fresh_rd {l : List (List Int)} {i : Int} (h : freshB l i = true) {p : Int} (hp : p ∈ rd_LI l i) (h0 : 0 < p) : seenS l i p = false := by
  unfold freshB at h
  have := List.all_eq_true.1 h p hp
  rw [decide_eq_false (by omega), Bool.false_or, Bool.not_eq_true'] at this
  exact this
theorem spread_apart {l : List (List Int)} (h : spreadB l = true) {i j p : Int} (i0 : 0 ≤ i) (ij : i < j) (j1 : j < 10) (h0 : 0 < p) (hi : p ∈ rd_LI l i) (hj : p ∈ rd_LI l j) : False := by
  have := fresh_rd (leafOk_parts ((spreadB_parts h).2 j (by omega) j1)).2.2 hj h0
  have h2 := seenS_iff.2 ⟨i.toNat, (by omega : (i.toNat : Int) < j), (by rw [Int.toNat_of_nonneg i0]; exact hi : p ∈ rd_LI l (i.toNat : Int))⟩
  rw [this] at h2; exact absurd h2 (by decide)
theorem spread_leaf {l : List (List Int)} (h : spreadB l = true) {i : Int} (i0 : 0 ≤ i) (i1 : i < 10) : leafB (rd_LI l i) = true := (leafOk_parts ((spreadB_parts h).2 i i0 i1)).1
def bitR (l : List (List Int)) (i k : Int) (p : Nat) : Bool := decide (0 < (p : Int)) && (seenS l i (p : Int) || decide ((p : Int) ∈ (rd_LI l i).take k.toNat))
theorem specSpread_l1 (l : List (List Int)) (hl : l.length = 10) (i : Int) (i0 : 0 ≤ i) (i1 : i < 10) (hlf : leafB (rd_LI l i) = true) (hor : ordB l i = true)
    (hr : leafOk l i = true → Ev (fun k => spec_SpreadIn.l0 k l (bL 81 fun p => decide (0 < (p : Int)) && seenS l (i + 1) (p : Int)) (i + 1)) (spreadB l)) (d : Nat) :
    ∀ k : Int, 1 ≤ k → k + d = 9 → (∀ j : Int, 0 ≤ j → j < k → (decide (rd (rd_LI l i) j ≤ 0) || !seenS l i (rd (rd_LI l i) j)) = true) → Ev (fun n => spec_SpreadIn.l1 n l (bL 81 (bitR l i k)) i k) (spreadB l) := by
  have hl9 := (leafB_parts hlf).1
  induction d with
  | zero =>
    intro k k0 k1 h
    have e9 : k = 9 := by omega
    subst e9
    refine Ev.step (fun n => by rw [spec_SpreadIn.l1]) ?_
    rw [w64 (x := i + 1) (by omega) (by omega)]
    have hfr : freshB l i = true := by
      unfold freshB
      rw [List.all_eq_true]
      intro p hp
      obtain ⟨j, j0, j1, rfl⟩ := mem_rd hp
      exact h j j0 (by omega)
    have hb : bL 81 (bitR l i 9) = bL 81 fun p => decide (0 < (p : Int)) && seenS l (i + 1) (p : Int) := bL_congr fun j hj => by
      unfold bitR
      rw [seenS_succ l i0, List.take_of_length_le (by omega)]
    rw [hb]
    exact Ev.neg (by omega) (hr (by unfold leafOk; rw [hlf, hor, hfr]; rfl))
  | succ d ih =>
    intro k k0 k1 h
    obtain ⟨p0, p1⟩ := leaf_near hlf (i := k) (by omega) (by omega)
    have pp := leaf_pos hlf (i := k) (by omega) (by omega)
    have hnt := leaf_take hlf (i := k) (by omega) (by omega)
    have hbit : rdOf false (bL 81 (bitR l i k)) (rd (rd_LI l i) k) = seenS l i (rd (rd_LI l i) k) := by
      rw [bL_rd _ p0 p1]
      unfold bitR
      rw [Int.toNat_of_nonneg p0, decide_eq_true pp, decide_eq_false hnt, Bool.or_false, Bool.true_and]
    have hset : (bL 81 (bitR l i k)).set (rd (rd_LI l i) k).toNat true = bL 81 (bitR l i (k + 1)) := by
      rw [bL_set]
      refine bL_congr fun j hj => ?_
      unfold bitR
      rw [show (k + 1).toNat = k.toNat + 1 by omega, List.take_add_one, List.getElem?_eq_getElem (by omega), Option.toList_some]
      have e2 : (rd_LI l i)[k.toNat]'(by omega) = rd (rd_LI l i) k := (rd_getElem (by omega) (by omega)).symm
      rw [e2]
      by_cases e : j = (rd (rd_LI l i) k).toNat
      · rw [if_pos e, decide_eq_true (by omega : (0 : Int) < j)]
        have : (j : Int) ∈ (rd_LI l i).take k.toNat ++ [rd (rd_LI l i) k] := by rw [List.mem_append]; right; rw [List.mem_singleton]; omega
        rw [decide_eq_true this, Bool.or_true]; rfl
      · rw [if_neg e]
        congr 2
        refine decide_eq_decide.2 ?_
        rw [List.mem_append, List.mem_singleton]
        exact ⟨fun h => .inl h, fun h => h.elim id fun h => absurd h (by omega)⟩
    refine Ev.step (fun n => by rw [spec_SpreadIn.l1]) ?_
    rw [hbit, hset, bL_length, w64 (x := k + 1) (by omega) (by omega)]
    refine Ev.pos (by omega) (Ev.pos i0 (Ev.pos (by omega) (Ev.pos (by omega) (Ev.pos (by omega) (Ev.pos p0 (Ev.pos p1 ?_))))))
    by_cases hs : seenS l i (rd (rd_LI l i) k) = true
    · refine Ev.pos hs (Ev.done ?_)
      have hfr : freshB l i = false := by
        cases e : freshB l i with
        | false => rfl
        | true =>
          have := fresh_rd e (rd_mem (i := k) (by omega) (by omega)) pp
          rw [hs] at this; exact absurd this (by decide)
      rw [spreadB_hit i0 i1 (by unfold leafOk; rw [hfr, Bool.and_false, Bool.and_false])]
    · refine Ev.neg hs (ih (k + 1) (by omega) (by omega) fun j j0 j1 => ?_)
      by_cases e : j = k
      · rw [e, Bool.eq_false_iff.2 hs, Bool.not_false, Bool.or_true]
      · exact h j j0 (by omega)
theorem specSpread_l0 (l : List (List Int)) (hl : l.length = 10) (d : Nat) : ∀ i : Int, 0 ≤ i → i + d = 10 → (∀ j : Int, 0 ≤ j → j < i → leafOk l j = true) → Ev (fun k => spec_SpreadIn.l0 k l (bL 81 fun p => decide (0 < (p : Int)) && seenS l i (p : Int)) i) (spreadB l) := by
  induction d with
  | zero =>
    intro i h0 h1 h
    refine Ev.step (fun k => by rw [spec_SpreadIn.l0]) ?_
    refine Ev.neg (by omega) (Ev.done ?_)
    rw [spreadB_all hl fun j j0 j1 => h j j0 (by omega)]
  | succ d ih =>
    intro i h0 h1 h
    refine Ev.step (fun k => by rw [spec_SpreadIn.l0]) ?_
    refine Ev.pos (by omega) (Ev.pos h0 (Ev.pos (by omega) (Ev.bind (specLeaf_ev _) ?_)))
    by_cases hlf : leafB (rd_LI l i) = true
    case neg =>
      refine Ev.neg hlf (Ev.step (fun k => by rw [spec_SpreadIn.j1]) (Ev.pos rfl (Ev.done ?_)))
      rw [spreadB_hit h0 (by omega) (by unfold leafOk; rw [Bool.eq_false_iff.2 hlf]; rfl)]
    refine Ev.pos hlf ?_
    have hz : (bL 81 fun p => decide (0 < (p : Int)) && seenS l i (p : Int)) = bL 81 (bitR l i 1) := bL_congr fun j hj => by
      unfold bitR
      have hl9 := (leafB_parts hlf).1
      have ht : (rd_LI l i).take (1 : Int).toNat = [0] := by
        rw [show (1 : Int).toNat = 0 + 1 by rfl, List.take_add_one, List.getElem?_eq_getElem (by omega), Option.toList_some]
        have := leaf_zero hlf
        rw [rd_getElem (by omega) (by omega)] at this
        have e3 : (rd_LI l i)[0]'(by omega) = 0 := this
        rw [e3]; rfl
      rw [ht]
      by_cases e : 0 < (j : Int)
      · rw [decide_eq_true e, decide_eq_false (by rw [List.mem_singleton]; omega), Bool.or_false]
      · rw [decide_eq_false e]; rfl
    have tail : ordB l i = true → Ev (fun k => spec_SpreadIn.j1 k l (bL 81 fun p => decide (0 < (p : Int)) && seenS l i (p : Int)) i false) (spreadB l) := fun hor => by
      refine Ev.step (fun k => by rw [spec_SpreadIn.j1]) (Ev.neg (by decide) ?_)
      rw [hz]
      refine specSpread_l1 l hl i h0 (by omega) hlf hor (fun hok => ih (i + 1) (by omega) (by omega) fun j j0 j1 => ?_) 8 1 (by omega) (by omega) fun j j0 j1 => ?_
      · by_cases e : j = i
        · rw [e]; exact hok
        · exact h j j0 (by omega)
      · rw [show j = 0 by omega, leaf_zero hlf]; rfl
    by_cases hi : i > 0
    · have hlp := (leafOk_parts (h (i - 1) (by omega) (by omega))).1
      have hor : ordB l i = lessB (rd_LI l (i - 1)) (rd_LI l i) := by unfold ordB; rw [decide_eq_false (by omega), Bool.false_or]
      rw [w64 (x := i - 1) (by omega) (by omega)]
      refine Ev.pos hi (Ev.pos (by omega) (Ev.pos (by omega) (Ev.bind (l6lLess_ev _ _ (leafB_parts hlp).1 (leafB_parts hlf).1) ?_)))
      rw [← hor]
      by_cases ho : ordB l i = true
      · rw [ho]; exact tail ho
      · have ho := Bool.eq_false_iff.2 ho
        rw [ho]
        refine Ev.step (fun k => by rw [spec_SpreadIn.j1]) ?_
        refine Ev.pos rfl (Ev.done ?_)
        rw [spreadB_hit h0 (by omega) (by unfold leafOk; rw [ho, Bool.false_and, Bool.and_false])]
    · exact Ev.neg hi (tail (by unfold ordB; rw [decide_eq_true (by omega)]; rfl))
theorem specSpread_ev (l : List (List Int)) : Ev (fun k => spec_SpreadIn.f k l) (spreadB l) := by
  unfold spec_SpreadIn.f
  by_cases hl : l.length = 10
  · refine Ev.pos (by omega) (Ev.pos (by omega) ?_)
    rw [bL_replicate]
    have := specSpread_l0 l hl 10 0 (by omega) (by omega) (fun j j0 j1 => by omega)
    have e : (bL 81 fun p => decide (0 < (p : Int)) && seenS l 0 (p : Int)) = bL 81 fun _ => false := bL_congr fun j hj => by rw [seenS_zero, Bool.and_false]
    rwa [e] at this
  · refine Ev.neg (by omega) (Ev.done ?_)
    unfold spreadB; rw [decide_eq_false hl]; rfl
end Go.Proofs.Ytbfafjejmljcpaa.X

set_option linter.unusedVariables false
set_option linter.unusedSimpArgs false
namespace Go.Proofs.Ytbfafjejmljcpaa.X
open Go.RowKit Go.Proofs.YtbfafjejmljcpaaW.PrintWords Go.Proofs.YtbfafjejmljcpaaW.PrintLast Go.Proofs.Ytbfafjejmljcpaa.P

theorem gap_cm (a b : List Int) : gapI b a = gapI a b := by
  unfold gapI
  exact congrArg (firstI 9) (funext fun i => by rw [bne_comm])
theorem lessB_asym {a b : List Int} (h : lessB a b = true) (h2 : lessB b a = true) : False := by
  unfold lessB at h h2
  rw [gap_cm a b] at h2
  simp only [Bool.and_eq_true, decide_eq_true_eq] at h h2
  omega
theorem lessB_iff {a b : List Int} : lessB a b = true ↔ ∃ i : Int, 0 ≤ i ∧ i < 9 ∧ rd a i < rd b i ∧ ∀ j : Int, 0 ≤ j → j < i → rd a j = rd b j := by
  constructor
  · intro h
    unfold lessB at h
    simp only [Bool.and_eq_true, decide_eq_true_eq] at h
    obtain ⟨h0, h1⟩ := h
    by_cases hx : ∃ i : Int, 0 ≤ i ∧ i < 9 ∧ (rd a i != rd b i) = true
    · obtain ⟨i, i0, i1, i2⟩ := hx
      have s := firstI_spec (n := 9) (p := fun i => rd a i != rd b i) i i0 i1 i2
      refine ⟨gapI a b, h0, s.2.1, h1, fun j j0 j1 => ?_⟩
      apply Classical.byContradiction
      intro hne
      have s2 := firstI_spec (n := 9) (p := fun i => rd a i != rd b i) j j0 (by have := s.2.1; unfold gapI at j1; omega) (by simpa using hne)
      have : gapI a b ≤ j := s2.2.2.2
      omega
    · have : gapI a b = -1 := firstI_none fun i i0 i1 => Bool.eq_false_iff.2 fun h => hx ⟨i, i0, i1, h⟩
      omega
  · rintro ⟨i, i0, i1, hlt, heq⟩
    have : gapI a b = i := firstI_some i i0 i1 (by simp; omega) fun j j0 j1 => by rw [heq j j0 j1]; simp
    unfold lessB
    rw [this, decide_eq_true i0, decide_eq_true hlt]; rfl
theorem lessB_trans {a b c : List Int} (h : lessB a b = true) (h2 : lessB b c = true) : lessB a c = true := by
  obtain ⟨i, i0, i1, hi, ei⟩ := lessB_iff.1 h
  obtain ⟨j, j0, j1, hj, ej⟩ := lessB_iff.1 h2
  refine lessB_iff.2 ?_
  rcases Int.lt_trichotomy i j with hlt | rfl | hgt
  · exact ⟨i, i0, i1, by rw [← ej i i0 hlt]; exact hi, fun k k0 k1 => (ei k k0 k1).trans (ej k k0 (by omega))⟩
  · exact ⟨i, i0, i1, by omega, fun k k0 k1 => (ei k k0 k1).trans (ej k k0 k1)⟩
  · exact ⟨j, j0, j1, by rw [ei j j0 hgt]; exact hj, fun k k0 k1 => (ei k k0 (by omega)).trans (ej k k0 k1)⟩
theorem lessB_total {a b : List Int} (ha : a.length = 9) (hb : b.length = 9) (hne : a ≠ b) : lessB a b = true ∨ lessB b a = true := by
  by_cases hx : ∃ i : Int, 0 ≤ i ∧ i < 9 ∧ (rd a i != rd b i) = true
  · obtain ⟨i, i0, i1, i2⟩ := hx
    have s := firstI_spec (n := 9) (p := fun i => rd a i != rd b i) i i0 i1 i2
    have hg : 0 ≤ gapI a b := s.1
    have hd : rd a (gapI a b) ≠ rd b (gapI a b) := by have := s.2.2.1; simpa [gapI] using this
    unfold lessB
    rw [gap_cm a b, decide_eq_true hg]
    rcases Int.lt_or_gt_of_ne hd with h | h
    · left; rw [decide_eq_true h]; rfl
    · right; rw [decide_eq_true h]; rfl
  · exfalso
    apply hne
    refine ext_rd (by omega) fun i hi => ?_
    apply Classical.byContradiction
    intro h
    exact hx ⟨(i : Int), by omega, by omega, by simpa using h⟩
def Asc (l : List (List Int)) : Prop := l.Pairwise fun a b => lessB a b = true
theorem asc_ext : ∀ a b : List (List Int), Asc a → Asc b → (∀ x, x ∈ a ↔ x ∈ b) → a = b := by
  intro a
  induction a with
  | nil =>
    intro b _ _ h
    cases b with
    | nil => rfl
    | cons y b => exact absurd ((h y).2 List.mem_cons_self) (by simp)
  | cons x a ih =>
    intro b ha hb h
    cases b with
    | nil => exact absurd ((h x).1 List.mem_cons_self) (by simp)
    | cons y b =>
      have ha := List.pairwise_cons.1 ha
      have hb := List.pairwise_cons.1 hb
      have e : x = y := by
        rcases List.mem_cons.1 ((h x).1 List.mem_cons_self) with e | e
        · exact e
        · rcases List.mem_cons.1 ((h y).2 List.mem_cons_self) with e2 | e2
          · exact e2.symm
          · exact absurd (lessB_asym (hb.1 x e) (ha.1 y e2)) id
      subst e
      rw [ih b ha.2 hb.2 fun z => ⟨fun hz => ?_, fun hz => ?_⟩]
      · rcases List.mem_cons.1 ((h z).1 (List.mem_cons_of_mem _ hz)) with e | e
        · exact absurd (lessB_asym (ha.1 z hz) (by rw [e] at hz ⊢; exact ha.1 _ hz)) id
        · exact e
      · rcases List.mem_cons.1 ((h z).2 (List.mem_cons_of_mem _ hz)) with e | e
        · exact absurd (lessB_asym (hb.1 z hz) (by rw [e] at hz ⊢; exact hb.1 _ hz)) id
        · exact e
theorem spread_lt {l : List (List Int)} (h : spreadB l = true) (d : Nat) : ∀ i : Int, 0 ≤ i → i + 1 + d < 10 → lessB (rd_LI l i) (rd_LI l (i + 1 + d)) = true := by
  have step : ∀ i : Int, 0 < i → i < 10 → lessB (rd_LI l (i - 1)) (rd_LI l i) = true := fun i i0 i1 => by
    have := (leafOk_parts ((spreadB_parts h).2 i (by omega) i1)).2.1
    unfold ordB at this
    rw [decide_eq_false (by omega : ¬ i ≤ 0)] at this
    simpa using this
  induction d with
  | zero =>
    intro i i0 i1
    have := step (i + 1) (by omega) (by omega)
    rw [show i + 1 - 1 = i by omega] at this
    simpa using this
  | succ d ih =>
    intro i i0 i1
    have h1 := ih i i0 (by omega)
    have h2 := step (i + 1 + ((d + 1 : Nat) : Int)) (by omega) (by omega)
    rw [show i + 1 + ((d + 1 : Nat) : Int) - 1 = i + 1 + (d : Int) by omega] at h2
    exact lessB_trans h1 h2
end Go.Proofs.Ytbfafjejmljcpaa.X

set_option linter.unusedVariables false
set_option linter.unusedSimpArgs false
namespace Go.Proofs.Ytbfafjejmljcpaa.X
open Go.RowKit Go.Proofs.YtbfafjejmljcpaaW.PrintWords Go.Proofs.YtbfafjejmljcpaaW.PrintLast Go.Proofs.Ytbfafjejmljcpaa.P

def swH (j a : Int) : Int := if a = j then j - 1 else if a = j - 1 then j else a
def swapH (l : List HH) (j : Int) : List HH := (l.set j.toNat (rdH l (j - 1))).set (j - 1).toNat (rdH l j)
theorem rdH_set {l : List HH} {i j : Int} {v : HH} (i0 : 0 ≤ i) (i1 : i < l.length) (j0 : 0 ≤ j) : rdH (l.set i.toNat v) j = if j = i then v else rdH l j := by
  unfold rdH rdOf
  rw [List.getD_eq_getElem?_getD, List.getD_eq_getElem?_getD, List.getElem?_set]
  by_cases e : j = i
  · rw [if_pos e, if_pos (by omega), if_pos (by omega)]; rfl
  · rw [if_neg e, if_neg (by omega)]
theorem swapH_rd {l : List HH} {j : Int} (j0 : 0 < j) (j1 : j < l.length) {a : Int} (a0 : 0 ≤ a) : rdH (swapH l j) a = rdH l (swH j a) := by
  unfold swapH swH
  rw [rdH_set (by omega) (by rw [List.length_set]; omega) a0, rdH_set (by omega) j1 a0]
  by_cases e1 : a = j - 1
  · rw [if_pos e1, if_neg (by omega), if_pos e1]
  · by_cases e2 : a = j
    · rw [if_neg e1, if_pos e2, if_pos e2]
    · rw [if_neg e1, if_neg e2, if_neg e2, if_neg e1]
theorem swapH_length (l : List HH) (j : Int) : (swapH l j).length = l.length := by unfold swapH; rw [List.length_set, List.length_set]
theorem mem_rdH {l : List HH} {v : HH} : v ∈ l ↔ ∃ i : Int, 0 ≤ i ∧ i < l.length ∧ rdH l i = v := by
  constructor
  · intro h
    obtain ⟨i, hi, e⟩ := List.mem_iff_getElem.1 h
    exact ⟨i, by omega, by omega, by unfold rdH rdOf; rw [List.getD_eq_getElem?_getD, List.getElem?_eq_getElem (by omega)]; exact e⟩
  · rintro ⟨i, i0, i1, e⟩
    rw [← e]; exact rdH_mem i0 i1
theorem swapH_mem {l : List HH} {j : Int} (j0 : 0 < j) (j1 : j < l.length) {v : HH} : v ∈ swapH l j ↔ v ∈ l := by
  rw [mem_rdH, mem_rdH]
  have rng : ∀ a : Int, 0 ≤ a → a < l.length → 0 ≤ swH j a ∧ swH j a < l.length := fun a a0 a1 => by unfold swH; split <;> (try split) <;> omega
  have inv : ∀ a : Int, swH j (swH j a) = a := fun a => by unfold swH; split <;> (try split) <;> (try split) <;> omega
  constructor
  · rintro ⟨a, a0, a1, e⟩
    rw [swapH_length] at a1
    rw [swapH_rd j0 j1 a0] at e
    exact ⟨swH j a, (rng a a0 a1).1, (rng a a0 a1).2, e⟩
  · rintro ⟨a, a0, a1, e⟩
    refine ⟨swH j a, (rng a a0 a1).1, by rw [swapH_length]; exact (rng a a0 a1).2, ?_⟩
    rw [swapH_rd j0 j1 (rng a a0 a1).1, inv]; exact e
def DifH (val : HH → List Int) (l : List HH) : Prop := ∀ a b : Int, 0 ≤ a → a < l.length → 0 ≤ b → b < l.length → a ≠ b → val (rdH l a) ≠ val (rdH l b)
theorem swapH_dif {val : HH → List Int} {l : List HH} (h : DifH val l) {j : Int} (j0 : 0 < j) (j1 : j < l.length) : DifH val (swapH l j) := by
  intro a b a0 a1 b0 b1 hne
  rw [swapH_length] at a1 b1
  rw [swapH_rd j0 j1 a0, swapH_rd j0 j1 b0]
  refine h _ _ ?_ ?_ ?_ ?_ ?_ <;> (unfold swH; split <;> (try split) <;> (try split) <;> (try split) <;> omega)
def ltV (val : HH → List Int) (a b : HH) : Bool := lessB (val a) (val b)
def NearH (val : HH → List Int) (l : List HH) (i j : Int) : Prop := (∀ a b : Int, 0 ≤ a → a < b → b ≤ i → a ≠ j → b ≠ j → ltV val (rdH l a) (rdH l b) = true) ∧ ∀ b : Int, j < b → b ≤ i → ltV val (rdH l j) (rdH l b) = true
def SortH (val : HH → List Int) (l r : List HH) : Prop := r.length = l.length ∧ (∀ v, v ∈ r ↔ v ∈ l) ∧ r.Pairwise (fun a b => ltV val a b = true)
theorem hd_l1 {val : HH → List Int} {l0 : List HH} (h9 : ∀ a ∈ l0, (val a).length = 9) {n : Int} (hn : n ≤ 1000) {i : Int} (i0 : 0 ≤ i) (i1 : i < n) (hr : ∀ l : List HH, (l.length : Int) = n → (∀ v, v ∈ l ↔ v ∈ l0) → DifH val l → (∀ a b : Int, 0 ≤ a → a < b → b ≤ i → ltV val (rdH l a) (rdH l b) = true) → ∃ r, SortH val l0 r ∧ Ev (fun k => hsL0 (ltV val) k l 0 n (i + 1)) r) (d : Nat) :
    ∀ (j : Int) (l : List HH), j = d → j ≤ i → (l.length : Int) = n → (∀ v, v ∈ l ↔ v ∈ l0) → DifH val l → NearH val l i j → ∃ r, SortH val l0 r ∧ Ev (fun k => hsL1 (ltV val) k l 0 n i j) r := by
  induction d with
  | zero =>
    intro j l hj ji hl hm hd hN
    have hj : j = 0 := hj
    subst hj
    obtain ⟨r, h1, h2⟩ := hr l hl hm hd fun a b a0 ab b1 => by
      by_cases e : a = 0
      · subst e; exact hN.2 b (by omega) b1
      · exact hN.1 a b a0 ab b1 e (by omega)
    refine ⟨r, h1, ?_⟩
    refine Ev.step (fun k => by rw [hsL1]) ?_
    rw [w64 (x := i + 1) (by omega) (by omega)]
    exact Ev.neg (by omega) h2
  | succ d ih =>
    intro j l hj ji hl hm hd hN
    have e1 : wrap64 (j - 1) = j - 1 := w64 (by omega) (by omega)
    have e2 : wrap64 (i + 1) = i + 1 := w64 (by omega) (by omega)
    by_cases hc : ltV val (rdH l j) (rdH l (j - 1)) = true
    · have hlen := swapH_length l j
      have R := fun (a : Int) (a0 : 0 ≤ a) => swapH_rd (l := l) (j := j) (by omega) (by omega) a0
      obtain ⟨r, h1, h2⟩ := ih (j - 1) (swapH l j) (by omega) (by omega) (by rw [hlen]; exact hl) (fun v => (swapH_mem (by omega) (by omega)).trans (hm v)) (swapH_dif hd (by omega) (by omega)) ⟨fun a b a0 ab b1 na nb => by
          rw [R a a0, R b (by omega)]
          unfold swH
          by_cases ea : a = j
          · rw [if_pos ea, if_neg (by omega), if_neg nb]
            exact hN.1 (j - 1) b (by omega) (by omega) b1 (by omega) (by omega)
          · rw [if_neg ea, if_neg na]
            by_cases eb : b = j
            · rw [if_pos eb]
              exact hN.1 a (j - 1) a0 (by omega) (by omega) ea (by omega)
            · rw [if_neg eb, if_neg nb]
              exact hN.1 a b a0 ab b1 ea eb, fun b jb b1 => by
          rw [R (j - 1) (by omega), R b (by omega)]
          unfold swH
          rw [if_neg (by omega), if_pos rfl]
          by_cases eb : b = j
          · rw [if_pos eb]; exact hc
          · rw [if_neg eb, if_neg (by omega)]
            exact hN.2 b (by omega) b1⟩
      refine ⟨r, h1, ?_⟩
      refine Ev.step (fun k => by rw [hsL1]) ?_
      rw [e1, e2]
      exact Ev.pos (by omega) (Ev.pos (by omega) (Ev.pos (by omega) (Ev.pos (by omega) (Ev.pos (by omega) (Ev.fix (congrArg some hc) (Ev.pos rfl h2))))))
    · have hlt : ltV val (rdH l (j - 1)) (rdH l j) = true := by
        have hne := hd (j - 1) j (by omega) (by omega) (by omega) (by omega) (by omega)
        have m1 : rdH l (j - 1) ∈ l0 := (hm _).1 (rdH_mem (by omega) (by omega))
        have m2 : rdH l j ∈ l0 := (hm _).1 (rdH_mem (by omega) (by omega))
        rcases lessB_total (h9 _ m1) (h9 _ m2) hne with h | h
        · exact h
        · exact absurd h hc
      obtain ⟨r, h1, h2⟩ := hr l hl hm hd fun a b a0 ab b1 => by
        by_cases ea : a = j
        · subst ea; exact hN.2 b ab b1
        · by_cases eb : b = j
          · subst eb
            by_cases e : a = b - 1
            · rw [e]; exact hlt
            · exact lessB_trans (hN.1 a (b - 1) a0 (by omega) (by omega) ea (by omega)) hlt
          · exact hN.1 a b a0 ab b1 ea eb
      refine ⟨r, h1, ?_⟩
      refine Ev.step (fun k => by rw [hsL1]) ?_
      rw [e1, e2]
      exact Ev.pos (by omega) (Ev.pos (by omega) (Ev.pos (by omega) (Ev.pos (by omega) (Ev.pos (by omega) (Ev.fix (congrArg some (Bool.eq_false_iff.2 hc)) (Ev.neg (by decide) h2))))))
theorem hd_l0 {val : HH → List Int} {l0 : List HH} (h9 : ∀ a ∈ l0, (val a).length = 9) {n : Int} (hn : n ≤ 1000) (d : Nat) : ∀ (i : Int) (l : List HH), 1 ≤ i → i + d = n → (l.length : Int) = n → (∀ v, v ∈ l ↔ v ∈ l0) → DifH val l → (∀ a b : Int, 0 ≤ a → a < b → b < i → ltV val (rdH l a) (rdH l b) = true) → (l0.length : Int) = n → ∃ r, SortH val l0 r ∧ Ev (fun k => hsL0 (ltV val) k l 0 n i) r := by
  induction d with
  | zero =>
    intro i l i0 hi hl hm hd ha h0
    refine ⟨l, ⟨by omega, hm, List.pairwise_iff_getElem.2 fun a b h1 h2 hab => ?_⟩, ?_⟩
    · have := ha (a : Int) (b : Int) (by omega) (by omega) (by omega)
      have e : ∀ c : Nat, (hc : c < l.length) → rdH l (c : Int) = l[c] := fun c hc => by
        unfold rdH rdOf
        rw [Int.toNat_natCast, List.getD_eq_getElem?_getD, List.getElem?_eq_getElem hc]; rfl
      rwa [e a h1, e b h2] at this
    · refine Ev.step (fun k => by rw [hsL0]) ?_
      exact Ev.neg (by omega) (Ev.done rfl)
  | succ d ih =>
    intro i l i0 hi hl hm hd ha h0
    obtain ⟨r, h1, h2⟩ := hd_l1 (val := val) (l0 := l0) h9 hn (i := i) (by omega) (by omega) (fun l hl hm hd ha => ih (i + 1) l (by omega) (by omega) hl hm hd (fun a b a0 ab b1 => ha a b a0 ab (by omega)) h0) i.toNat i l (by omega) (by omega) hl hm hd
      ⟨fun a b a0 ab b1 na nb => ha a b a0 ab (by omega), fun b ib b1 => by omega⟩
    refine ⟨r, h1, ?_⟩
    refine Ev.step (fun k => by rw [hsL0]) ?_
    exact Ev.pos (by omega) h2
theorem heads_ev {val : HH → List Int} {l : List HH} (h9 : ∀ a ∈ l, (val a).length = 9) (hn : (l.map val).Nodup) (h0 : 0 < l.length) (h1 : l.length ≤ 12) : ∃ r, SortH val l r ∧ Ev (fun k => hsL0 (ltV val) k l 0 (l.length : Int) (wrap64 (0 + 1))) r := by
  have hD : DifH val l := fun a b a0 a1 b0 b1 hne e => by
    have g : ∀ c : Int, (c0 : 0 ≤ c) → (hc : c < l.length) → val (rdH l c) = (l.map val)[c.toNat]'(by rw [List.length_map]; omega) := fun c c0 hc => by
      unfold rdH rdOf
      rw [List.getD_eq_getElem?_getD, List.getElem?_eq_getElem (by omega), List.getElem_map]; rfl
    rw [g a a0 a1, g b b0 b1] at e
    have := (List.getElem_inj hn).1 e
    omega
  rw [show wrap64 (0 + 1) = 1 from w64 (by omega) (by omega)]
  exact hd_l0 h9 (by omega) (l.length - 1) 1 l (by omega) (by omega) rfl (fun v => Iff.rfl) hD (fun a b a0 ab b1 => by omega) rfl
end Go.Proofs.Ytbfafjejmljcpaa.X

set_option linter.unusedVariables false
set_option linter.unusedSimpArgs false
namespace Go.Proofs.Ytbfafjejmljcpaa.X
open Go.RowKit Go.Proofs.YtbfafjejmljcpaaW.PrintWords Go.Proofs.YtbfafjejmljcpaaW.PrintLast Go.Proofs.Ytbfafjejmljcpaa.P

set_option maxHeartbeats 4000000 in
set_option maxRecDepth 100000 in
theorem len64_ten (w : World) : Calls Try.prog 138 #[.int .u64 10] w fun e w' => e = .returned (.int .i64 4) ∧ Drawn0 w w' := by
  go_enter Try.func138, Try.ntmps138
  go_wp2
  go_ret
  exact ⟨by kernel_rfl, Drawn0.refl _⟩
set_option maxHeartbeats 4000000 in
set_option maxRecDepth 100000 in
theorem len_ten (w : World) : Calls Try.prog 99 #[.int .u64 10] w fun e w' => e = .returned (.int .i64 4) ∧ Drawn0 w w' := by
  go_enter Try.func99, Try.ntmps99
  go_wp2_with (go_at_call 138; refine (len64_ten _).mono ?_; rintro e w' ⟨rfl, ⟨nd, rfl⟩⟩)
  go_ret
  exact ⟨rfl, by repeat (first | exact Drawn0.refl _ | apply Drawn0.step)⟩
set_option maxHeartbeats 4000000 in
set_option maxRecDepth 100000 in
theorem sortFunc_calls (lt : HH → HH → Bool) (k : Nat) (P0_ : Nat → Prop) (A0 : Option Addr) (c0 : Nat) (l0 : List HH) (r : List HH) (w0 w : World) (hB : Below w0.heap.size w0 w) (ho0 : Kd.R hdK 23 w w0.heap.size P0_ (.slice A0 10 c0) l0) (HC_ : HCmp lt P0_ l0 w0 w)
    (h : hsL0 lt k l0 0 10 (wrap64 (0 + 1)) = some r) :
    Calls Try.prog 83 #[.slice A0 10 c0, .func (.func 84) #[] #[]] w fun e w' => e = .returned (.tuple #[]) ∧ Kd.R hdK 23 w' w0.heap.size (fun k_ => (P0_ k_ ∨ w.heap.size ≤ k_)) (.slice A0 10 c0) r ∧ Below w0.heap.size w0 w' ∧ Kept w w' (fun k_ => P0_ k_) := by
  have HS := Aside0.mk (fun (a3 : Int) (w1 : World) (hB : Below w0.heap.size w0 w1) (ho0 : Kd.R hdK 23 w1 w0.heap.size P0_ (.slice A0 10 c0) l0) (HC_ : HCmp lt P0_ l0 w0 w1) => pdqCmp_calls lt k P0_ (.slice A0 10 c0) l0 0 10 a3 r w0 w1 hB ho0 HC_ (by omega) (by omega) (by omega) (by omega) h)
  have HO := Aside0.mk ho0
  have HB := Aside0.mk hB
  have HC := Aside0.mk HC_
  clear hB ho0 h HC_
  go_enter Try.func83, Try.ntmps83
  go_wp2_with (first | (go_at_call 99; refine (len_ten _).mono ?_; rintro e w' ⟨rfl, ⟨nd, rfl⟩⟩) | (go_at_call 118; refine (HS.out 4 _ ?s1 ?s2 ?s3).mono ?_; (case s1 => exact pw_below_drewN HB.out _); (case s2 => exact Kd.R_drewN HO.out _); (case s3 => exact HC.out); rintro e w' ⟨rfl, hr', hb', hk'⟩))
  first | go_end0 | ((try simp only [Exit.inBlock, Exit.then]); refine bodyPost_ret (results_none rfl _ _ _) rfl ?_)
  exact ⟨rfl, hr', hb', hk'⟩
end Go.Proofs.Ytbfafjejmljcpaa.X

set_option linter.unusedVariables false
set_option linter.unusedSimpArgs false
namespace Go.Proofs.Ytbfafjejmljcpaa.X
open Go.RowKit Go.Proofs.YtbfafjejmljcpaaW.PrintWords Go.Proofs.YtbfafjejmljcpaaW.PrintLast Go.Proofs.Ytbfafjejmljcpaa.P

abbrev LK : Kd (List Int) := Kd.slice 3 (Kd.int .i64)
def toH : List Value → HH
  | [.slice A _ c] => (A, c)
  | _ => (none, 0)
theorem C_same {w : World} {A : Option Addr} {x y : List Int} (hx : (Kd.int .i64).C w A x.length x) (hy : (Kd.int .i64).C w A y.length y) (h : x.length = y.length) : x = y := by
  refine ext_rd h fun i hi => ?_
  obtain ⟨ad, e1, h1⟩ := ReadsOf.at_ (Kd.reads_of_C (enc := Value.int .i64) (d := (0 : Int)) (h1 := fun _ => rfl) hx) (i : Int) (by omega) (by omega)
  obtain ⟨ad', e2, h2⟩ := ReadsOf.at_ (Kd.reads_of_C (enc := Value.int .i64) (d := (0 : Int)) (h1 := fun _ => rfl) hy) (i : Int) (by omega) (by omega)
  rw [e1] at e2
  injection e2 with e2
  subst e2
  rw [h1] at h2
  injection h2 with h2
  injection h2 with _ h2
theorem fk_open {w : World} {ok : Nat → Prop} {x : List Int} {a : HH} (h : Kd.FK LK w ok x [hEnc a]) (h9 : x.length = 9) : x.length ≤ a.2 ∧ (Kd.int .i64).C w a.1 x.length x := by
  obtain ⟨A, c', e, h1, h2⟩ := Kd.FK_now h
  injection e with e
  injection e with e1 e2 e3
  subst e1; subst e3
  exact ⟨h1, h2⟩
open Classical in
noncomputable def valH (xs : List (List Int)) (hs : List HH) (h : HH) : List Int := if hh : ∃ x, ∃ j : Nat, xs[j]? = some x ∧ hs[j]? = some h then Classical.choose hh else []
set_option maxHeartbeats 2000000 in
theorem sort_core (xs : List (List Int)) (hs : List HH) (h10 : xs.length = 10) (hlh : hs.length = 10) (h9 : ∀ x ∈ xs, x.length = 9) (hn : xs.Nodup) (A0 : Option Addr) (c0 : Nat) (w0 w : World) (ok : Nat → Prop) (hB : Below w0.heap.size w0 w) (hH : Kd.R hdK 23 w w0.heap.size (fun k => some k = (Value.slice A0 10 c0).ownBlock) (.slice A0 10 c0) hs)
    (hfk0 : ∀ (j : Nat) (x : List Int) (a : HH), xs[j]? = some x → hs[j]? = some a → Kd.FK LK w (fun k => ok k ∧ some k ≠ (Value.slice A0 10 c0).ownBlock) x [hEnc a]) :
    Calls Try.prog 83 #[.slice A0 10 c0, .func (.func 84) #[] #[]] w fun e w' => e = .returned (.tuple #[]) ∧ ∃ (val : HH → List Int) (rh : List HH), (∀ (j : Nat) (x : List Int) (a : HH), xs[j]? = some x → hs[j]? = some a → val a = x) ∧ SortH val hs rh ∧ Kd.R hdK 23 w' w0.heap.size (fun k => some k = (Value.slice A0 10 c0).ownBlock ∨ w.heap.size ≤ k) (.slice A0 10 c0) rh ∧ Below w0.heap.size w0 w' ∧ Kept w w' (fun k => some k = (Value.slice A0 10 c0).ownBlock) := by
  have hval : ∀ (j : Nat) (x : List Int) (a : HH), xs[j]? = some x → hs[j]? = some a → valH xs hs a = x := fun j x a hx ha => by
    have hh : ∃ x, ∃ j : Nat, xs[j]? = some x ∧ hs[j]? = some a := ⟨x, j, hx, ha⟩
    unfold valH
    rw [dif_pos hh]
    obtain ⟨j', h1, h2⟩ := Classical.choose_spec hh
    have a1 := fk_open (hfk0 j' _ a h1 h2) (h9 _ (List.mem_of_getElem? h1))
    have a2 := fk_open (hfk0 j _ a hx ha) (h9 _ (List.mem_of_getElem? hx))
    exact C_same a1.2 a2.2 ((h9 _ (List.mem_of_getElem? h1)).trans (h9 _ (List.mem_of_getElem? hx)).symm)
  have hfk : ∀ a ∈ hs, (valH xs hs a).length = 9 ∧ Kd.FK LK w (fun k => ok k ∧ some k ≠ (Value.slice A0 10 c0).ownBlock) (valH xs hs a) [hEnc a] := fun a ha => by
    obtain ⟨j, hj, e⟩ := List.mem_iff_getElem.1 ha
    have hx : j < xs.length := by omega
    have e1 : xs[j]? = some xs[j] := List.getElem?_eq_getElem hx
    have e2 : hs[j]? = some a := by rw [List.getElem?_eq_getElem hj, e]
    rw [hval j _ a e1 e2]
    exact ⟨h9 _ (List.getElem_mem hx), hfk0 j _ a e1 e2⟩
  have hmap : hs.map (valH xs hs) = xs := by
    refine List.ext_getElem (by rw [List.length_map]; omega) fun j h1 h2 => ?_
    rw [List.length_map] at h1
    rw [List.getElem_map]
    exact hval j _ _ (List.getElem?_eq_getElem h2) (List.getElem?_eq_getElem h1)
  obtain ⟨rh, hrh, hev⟩ := heads_ev (val := valH xs hs) (l := hs) (fun a ha => (hfk a ha).1) (by rw [hmap]; exact hn) (by omega) (by omega)
  obtain ⟨k, hk⟩ := hev.rounds
  rw [hlh] at hk
  refine (sortFunc_calls (ltV (valH xs hs)) k (fun k => some k = (Value.slice A0 10 c0).ownBlock) A0 c0 hs rh w0 w hB hH ?_ hk).mono ?_
  · intro W hkp hb a b ha hb'
    have move := fun (a : HH) (ha : a ∈ hs) => Kd.FK_step (W1 := W) (hfk a ha).2 (fun k hk hlt => hkp.2 k hlt hk.2)
    have la := (hfk a ha).1
    have lb := (hfk b hb').1
    have ga := fk_open (move a ha) la
    have gb := fk_open (move b hb') lb
    have hc := compare_calls a.1 a.2 (valH xs hs a) b.1 b.2 (valH xs hs b) la lb W ga.2 ga.1 gb.2 gb.1
    rw [la, lb] at hc
    refine hc.mono ?_
    rintro e w' ⟨rfl, hd⟩
    refine ⟨⟨_, rfl, ?_⟩, hd⟩
    have e := cmpI_less (a := valH xs hs a) (b := valH xs hs b)
    unfold ltV
    cases hl : lessB (valH xs hs a) (valH xs hs b) with
    | true => rw [hl] at e; have := of_decide_eq_false e; exact decide_eq_true (by omega)
    | false => rw [hl] at e; have := of_decide_eq_true e; exact decide_eq_false (by omega)
  · rintro e w' ⟨rfl, hr', hb', hk'⟩
    exact ⟨rfl, valH xs hs, rh, hval, hrh, hr', hb', hk'⟩
open Classical in
noncomputable def ownH (rh : List HH) (k : Nat) : Nat := if h : ∃ j : Nat, ∃ a, rh[j]? = some a ∧ (hEnc a).ownBlock = some k then Classical.choose h else 0
set_option maxHeartbeats 2000000 in
theorem sortRows_calls (xs : List (List Int)) (h10 : xs.length = 10) (h9 : ∀ x ∈ xs, x.length = 9) (hn : xs.Nodup) (A0 : Option Addr) (c0 : Nat) (w0 w : World) (ok : Nat → Prop) (hB : Below w0.heap.size w0 w) (hS : Kd.S LK 23 w w0.heap.size ok (.slice A0 10 c0) xs) :
    Calls Try.prog 83 #[.slice A0 10 c0, .func (.func 84) #[] #[]] w fun e w' => e = .returned (.tuple #[]) ∧ ∃ r, (r.length = 10 ∧ (∀ x, x ∈ r ↔ x ∈ xs) ∧ Asc r) ∧ Kd.S LK 23 w' w0.heap.size ok (.slice A0 10 c0) r ∧ Below w0.heap.size w0 w' := by
  obtain ⟨f, h0, inner, ho, hr⟩ := hS
  have ho : w.ownsRow w0.heap.size 23 1 (.slice A0 10 c0) xs.zipIdx.length inner := ho
  rw [List.length_zipIdx, h10] at ho
  have hlen : inner.length = 10 := by have := hr.1; rw [List.length_zipIdx, h10] at this; exact this
  have hrow : ∀ (j : Nat) (x : List Int), xs[j]? = some x → ∃ v, (inner.drop (j * 1)).take 1 = [v] ∧ Kd.R (Kd.int .i64) 3 w w0.heap.size (fun k => (ok k ∧ some k ≠ (Value.slice A0 10 c0).ownBlock) ∧ f k = j) v x := fun j x hx => hr.2 j (x, j) (Kd.zip_at hx)
  obtain ⟨hs, ehs⟩ : ∃ hs, ((List.range 10).map fun j => toH ((inner.drop (j * 1)).take 1)) = hs := ⟨_, rfl⟩
  have hlh : hs.length = 10 := by rw [← ehs]; simp
  have hat : ∀ (j : Nat) (x : List Int) (a : HH), xs[j]? = some x → hs[j]? = some a → (inner.drop (j * 1)).take 1 = [hEnc a] ∧ Kd.R (Kd.int .i64) 3 w w0.heap.size (fun k => (ok k ∧ some k ≠ (Value.slice A0 10 c0).ownBlock) ∧ f k = j) (hEnc a) x := fun j x a hx ha => by
    obtain ⟨v, e, hR⟩ := hrow j x hx
    obtain ⟨A, c, ev⟩ := Kd.R_slice hR
    rw [h9 x (List.mem_of_getElem? hx)] at ev
    subst ev
    have hj : j < 10 := by have := (List.getElem?_eq_some_iff.1 hx).1; omega
    rw [← ehs, List.getElem?_map, List.getElem?_range hj, Option.map_some, e] at ha
    obtain rfl := Option.some.inj ha
    exact ⟨e, hR⟩
  have hxs : ∀ (j : Nat) (a : HH), hs[j]? = some a → ∃ x, xs[j]? = some x := fun j a ha => by
    have hj := (List.getElem?_eq_some_iff.1 ha).1
    exact ⟨_, List.getElem?_eq_getElem (by omega)⟩
  have hH : Kd.R hdK 23 w w0.heap.size (fun k => some k = (Value.slice A0 10 c0).ownBlock) (.slice A0 10 c0) hs := by
    refine ⟨fun k hk => hk.symm, inner, by rw [hlh]; exact ho, ⟨by rw [hlh]; exact hlen, fun j a ha => ?_⟩⟩
    obtain ⟨x, hx⟩ := hxs j a ha
    exact (hat j x a hx ha).1
  have hfk0 : ∀ (j : Nat) (x : List Int) (a : HH), xs[j]? = some x → hs[j]? = some a → Kd.FK LK w (fun k => ok k ∧ some k ≠ (Value.slice A0 10 c0).ownBlock) x [hEnc a] := fun j x a hx ha => by
    have hR := Kd.R_mono (ok' := fun k => ok k ∧ some k ≠ (Value.slice A0 10 c0).ownBlock) (hat j x a hx ha).2 (fun k hk => hk.1)
    have l9 := h9 x (List.mem_of_getElem? hx)
    exact Kd.FK_of_M (base := w0.heap.size) (show LK.M w w0.heap.size _ x [hEnc a] from ⟨_, rfl, hR⟩)
  refine (sort_core xs hs h10 hlh h9 hn A0 c0 w0 w ok hB hH hfk0).mono ?_
  rintro e w' ⟨rfl, val, rh, hval, hrh, hr', hb', hk'⟩
  have hmem : ∀ a, a ∈ rh ↔ a ∈ hs := hrh.2.1
  have hmap : hs.map val = xs := by
    refine List.ext_getElem (by rw [List.length_map]; omega) fun j h1 h2 => ?_
    rw [List.length_map] at h1
    rw [List.getElem_map]
    exact hval j _ _ (List.getElem?_eq_getElem h2) (List.getElem?_eq_getElem h1)
  have hnd : rh.Nodup := hrh.2.2.imp fun {a b} h e => by rw [e] at h; exact lessB_asym h h
  -- each head: its place before, and its row
  have hhd : ∀ a ∈ rh, ∃ j : Nat, hs[j]? = some a ∧ xs[j]? = some (val a) := fun a ha => by
    obtain ⟨j, hj, e⟩ := List.mem_iff_getElem.1 ((hmem a).1 ha)
    have e2 : hs[j]? = some a := by rw [List.getElem?_eq_getElem hj, e]
    obtain ⟨x, hx⟩ := hxs j a e2
    exact ⟨j, e2, by rw [hval j x a hx e2]; exact hx⟩
  have hown : ∀ (j : Nat) (a : HH) (k : Nat), rh[j]? = some a → (hEnc a).ownBlock = some k → ownH rh k = j := fun j a k ha hk => by
    have hh : ∃ j : Nat, ∃ a, rh[j]? = some a ∧ (hEnc a).ownBlock = some k := ⟨j, a, ha, hk⟩
    unfold ownH
    rw [dif_pos hh]
    obtain ⟨b, hb, hkb⟩ := Classical.choose_spec hh
    obtain ⟨j1, s1, x1⟩ := hhd a (List.mem_of_getElem? ha)
    obtain ⟨j2, s2, x2⟩ := hhd b (List.mem_of_getElem? hb)
    have f1 : f k = j1 := ((hat j1 _ a x1 s1).2.1 k hk).2
    have f2 : f k = j2 := ((hat j2 _ b x2 s2).2.1 k hkb).2
    have e : j1 = j2 := f1.symm.trans f2
    subst e
    rw [s1] at s2
    obtain rfl := Option.some.inj s2
    obtain ⟨g1, e1⟩ := List.getElem?_eq_some_iff.1 ha
    obtain ⟨g2, e2⟩ := List.getElem?_eq_some_iff.1 hb
    exact (List.getElem_inj hnd).1 (e2.trans e1.symm)
  obtain ⟨_, inner', ho', hri⟩ := hr'
  refine ⟨rfl, rh.map val, ⟨by rw [List.length_map, hrh.1, hlh], fun x => ?_, ?_⟩, ⟨ownH rh, h0, inner', by rw [List.length_zipIdx, List.length_map]; exact ho', ⟨by rw [List.length_zipIdx, List.length_map]; exact hri.1, fun j p hp => ?_⟩⟩, hb'⟩
  · rw [List.mem_map]
    constructor
    · rintro ⟨a, ha, rfl⟩
      have : val a ∈ hs.map val := List.mem_map.2 ⟨a, (hmem a).1 ha, rfl⟩
      rwa [hmap] at this
    · intro hx
      have hx : x ∈ hs.map val := by rw [hmap]; exact hx
      rw [List.mem_map] at hx
      obtain ⟨a, ha, e⟩ := hx
      exact ⟨a, (hmem a).2 ha, e⟩
  · unfold Asc
    rw [List.pairwise_map]
    exact hrh.2.2
  · rw [List.getElem?_zipIdx, Nat.zero_add, List.getElem?_map] at hp
    obtain ⟨x, hx, rfl⟩ := Option.map_eq_some_iff.1 hp
    obtain ⟨a, ha, rfl⟩ := Option.map_eq_some_iff.1 hx
    obtain ⟨j1, s1, x1⟩ := hhd a (List.mem_of_getElem? ha)
    have hR := (hat j1 _ a x1 s1).2
    have hR2 := Kd.R_step (w1 := w') hR (fun k hk hlt => hk'.2 k hlt hk.1.2)
    refine ⟨hEnc a, hri.2 j a ha, Kd.R_reok rfl hR2 (fun k hk => ⟨(hR.1 k hk).1, hown j a k ha hk⟩)⟩
end Go.Proofs.Ytbfafjejmljcpaa.X

set_option linter.unusedVariables false
set_option linter.unusedSimpArgs false
namespace Go.Proofs.Ytbfafjejmljcpaa.X
open Go.RowKit Go.Proofs.YtbfafjejmljcpaaW.PrintWords Go.Proofs.YtbfafjejmljcpaaW.PrintLast Go.Proofs.Ytbfafjejmljcpaa.P

def insL : List (List Int) → List Int → List (List Int)
  | [], x => [x]
  | a :: r, x => if lessB a x = true then a :: insL r x else x :: a :: r
theorem insL_length (l : List (List Int)) (x : List Int) : (insL l x).length = l.length + 1 := by
  induction l with
  | nil => rfl
  | cons a r ih =>
    unfold insL
    by_cases h : lessB a x = true
    · rw [if_pos h, List.length_cons, ih, List.length_cons]
    · rw [if_neg h]; rfl
theorem mem_insL {l : List (List Int)} {x y : List Int} : y ∈ insL l x ↔ y = x ∨ y ∈ l := by
  induction l with
  | nil => unfold insL; simp
  | cons a r ih =>
    unfold insL
    by_cases h : lessB a x = true
    · rw [if_pos h, List.mem_cons, ih, List.mem_cons]
      exact ⟨fun h => h.elim (fun h => .inr (.inl h)) fun h => h.elim .inl fun h => .inr (.inr h), fun h => h.elim (fun h => .inr (.inl h)) fun h => h.elim .inl fun h => .inr (.inr h)⟩
    · rw [if_neg h]; simp
theorem insL_at (x : List Int) : ∀ (n : Nat) (l : List (List Int)), n ≤ l.length → (∀ j : Nat, j < n → lessB (rd_LI l (j : Int)) x = true) → insL l x = l.take n ++ insL (l.drop n) x := by
  intro n
  induction n with
  | zero => intro l _ _; simp
  | succ n ih =>
    intro l hl h
    match l with
    | [] => simp at hl
    | a :: r =>
      have h0 := h 0 (by omega)
      have ea : rd_LI (a :: r) ((0 : Nat) : Int) = a := by rw [rdL_cast _ 0 (by simp)]; rfl
      rw [ea] at h0
      have := ih r (by simp at hl; omega) fun j hj => by
        have := h (j + 1) (by omega)
        rw [rdL_cast _ (j + 1) (by simp at hl ⊢; omega)] at this
        rw [rdL_cast _ j (by simp at hl; omega)]
        exact this
      show (if lessB a x = true then a :: insL r x else x :: a :: r) = _
      rw [if_pos h0, this]
      rfl
theorem insL_stop {l : List (List Int)} {x : List Int} {n : Nat} (hn : n < l.length) (h : ¬ lessB (rd_LI l (n : Int)) x = true) : insL (l.drop n) x = x :: l.drop n := by
  rw [List.drop_eq_getElem_cons hn]
  show (if lessB l[n] x = true then _ else _) = _
  rw [rdL_cast l n hn] at h
  rw [if_neg h]
theorem put_l0 {l : List (List Int)} {x : List Int} (h9 : ∀ a ∈ l, a.length = 9) (hx : x.length = 9) (hl : l.length ≤ 1000) (d : Nat) : ∀ i : Int, 0 ≤ i → i + d = l.length → (∀ j : Nat, (j : Int) < i → lessB (rd_LI l (j : Int)) x = true) → Ev (fun k => spec_l6lPut.l0 k l x i) (insL l x) := by
  induction d with
  | zero =>
    intro i i0 i1 h
    have e := insL_at x i.toNat l (by omega) fun j hj => h j (by omega)
    rw [e, show l.drop i.toNat = [] from List.drop_eq_nil_of_le (by omega)]
    have hlt : (l.take i.toNat).length ≤ 1000 := by rw [List.length_take]; omega
    refine Ev.step (fun k => by rw [spec_l6lPut.l0]) ?_
    refine Ev.neg (by omega) (Ev.fix rfl (Ev.pos i0 (Ev.pos (by omega) (Ev.fix rfl (Ev.pos (by rw [List.length_nil]; omega) ?_)))))
    refine Ev.fix rfl (Ev.fix rfl (Ev.pos (by rw [List.nil_append, List.length_singleton]; omega) (Ev.fix rfl (Ev.fix rfl (Ev.pos ?_ (Ev.done ?_))))))
    · rw [List.nil_append, List.length_append, List.length_singleton, List.length_drop]; omega
    · rw [show l.drop i.toNat = [] from List.drop_eq_nil_of_le (by omega)]; simp [insL]
  | succ d ih =>
    intro i i0 i1 h
    have hm : rd_LI l i ∈ l := rdL_mem i0 (by omega)
    have hlt : (l.take i.toNat).length ≤ 1000 := by rw [List.length_take]; omega
    refine Ev.step (fun k => by rw [spec_l6lPut.l0]) ?_
    rw [w64 (x := i + 1) (by omega) (by omega)]
    refine Ev.pos (by omega) (Ev.pos i0 (Ev.bind (l6lLess_ev _ _ (h9 _ hm) hx) ?_))
    by_cases hc : lessB (rd_LI l i) x = true
    · refine Ev.pos hc (ih (i + 1) (by omega) (by omega) fun j hj => ?_)
      by_cases ej : (j : Int) = i
      · rw [ej]; exact hc
      · exact h j (by omega)
    · have e := insL_at x i.toNat l (by omega) fun j hj => h j (by omega)
      rw [e, insL_stop (by omega) (by rw [Int.toNat_of_nonneg i0]; exact hc)]
      refine Ev.neg hc (Ev.fix rfl (Ev.pos (by omega) (Ev.fix rfl (Ev.pos (by rw [List.length_nil]; omega) ?_))))
      refine Ev.fix rfl (Ev.fix rfl (Ev.pos (by rw [List.nil_append, List.length_singleton]; omega) (Ev.fix rfl (Ev.fix rfl (Ev.pos ?_ (Ev.done ?_))))))
      · rw [List.nil_append, List.length_append, List.length_singleton, List.length_drop]; omega
      · simp
theorem put_ev {l : List (List Int)} {x : List Int} (h9 : ∀ a ∈ l, a.length = 9) (hx : x.length = 9) (hl : l.length ≤ 1000) : Ev (fun k => spec_l6lPut.f k l x) (insL l x) := put_l0 h9 hx hl l.length 0 (by omega) (by omega) fun j hj => by omega
theorem insL_nines {l : List (List Int)} {x : List Int} (h9 : ∀ a ∈ l, a.length = 9) (hx : x.length = 9) : ∀ a ∈ insL l x, a.length = 9 := fun a ha => (mem_insL.1 ha).elim (fun e => by rw [e]; exact hx) (h9 a)
end Go.Proofs.Ytbfafjejmljcpaa.X

set_option linter.unusedVariables false
set_option linter.unusedSimpArgs false
namespace Go.Proofs.Ytbfafjejmljcpaa.X
open Go.RowKit Go.Proofs.YtbfafjejmljcpaaW.PrintWords Go.Proofs.YtbfafjejmljcpaaW.PrintLast Go.Proofs.Ytbfafjejmljcpaa.P

def leaf0 : List Int := [0, 1, 2, 3, 4, 5, 6, 7, 8]
def leafF (t : List Int) (m x : Int) : Int := 9 * x + rd t (9 * x + m)
def leafM (t : List Int) (m : Int) : List Int := mapI 9 (leafF t m)
def spreadN (t : List Int) : Nat → List (List Int)
  | 0 => [leaf0]
  | n + 1 => insL (spreadN t n) (leafM t (n : Int))
def spreadR (t : List Int) : List (List Int) × Bool := if sysB t = true then (spreadN t 9, true) else ([], false)
theorem leafM_length (t : List Int) (m : Int) : (leafM t m).length = 9 := mapI_length _ _
theorem spreadN_length (t : List Int) (n : Nat) : (spreadN t n).length = n + 1 := by
  induction n with
  | zero => rfl
  | succ n ih => show (insL _ _).length = _; rw [insL_length, ih]
theorem spreadN_nines (t : List Int) (n : Nat) : ∀ a ∈ spreadN t n, a.length = 9 := by
  induction n with
  | zero => intro a ha; rw [List.mem_singleton.1 ha]; rfl
  | succ n ih => exact insL_nines ih (leafM_length t n)
theorem spreadOf_l1 {t : List Int} (hn : ninesB t 81 = true) (L : List (List Int)) (h9 : ∀ a ∈ L, a.length = 9) (hL : L.length ≤ 100) {m : Nat} (hm : m < 9) {r : List (List Int) × Bool} (hr : Ev (fun k => spec_SpreadOf.l0 k t (insL L (leafM t (m : Int))) ((m : Int) + 1)) r) (d : Nat) :
    ∀ x : Nat, x + d = 9 → Ev (fun k => spec_SpreadOf.l1 k t L (m : Int) (mapI x (leafF t (m : Int))) (x : Int)) r := by
  have ht := (ninesB_iff.1 hn).1
  induction d with
  | zero =>
    intro x hx
    obtain rfl : x = 9 := by omega
    refine Ev.step (fun k => by rw [spec_SpreadOf.l1]) ?_
    refine Ev.neg (by omega) (Ev.bind (put_ev h9 (leafM_length t m) (by omega)) ?_)
    rw [w64 (x := (m : Int) + 1) (by omega) (by omega)]
    exact hr
  | succ d ih =>
    intro x hx
    have nx := ih (x + 1) (by omega)
    rw [mapI_succ] at nx
    have hv := nines_rd hn (i := 9 * (x : Int) + m) (by omega) (by omega)
    have hml : (mapI x (leafF t (m : Int))).length = x := mapI_length _ _
    refine Ev.step (fun k => by rw [spec_SpreadOf.l1]) ?_
    rw [w64 (x := 9 * (x : Int)) (by omega) (by omega), w64 (x := 9 * (x : Int) + m) (by omega) (by omega), w64 (x := 9 * (x : Int) + rd t (9 * (x : Int) + m)) (by omega) (by omega), w64 (x := (x : Int) + 1) (by omega) (by omega)]
    exact Ev.pos (by omega) (Ev.pos (by omega) (Ev.pos (by omega) (Ev.pos (by omega) nx)))
theorem spreadOf_l0 {t : List Int} (hn : ninesB t 81 = true) (d : Nat) : ∀ m : Nat, m + d = 9 → Ev (fun k => spec_SpreadOf.l0 k t (spreadN t m) (m : Int)) (spreadN t 9, true) := by
  induction d with
  | zero =>
    intro m hm
    obtain rfl : m = 9 := by omega
    refine Ev.step (fun k => by rw [spec_SpreadOf.l0]) ?_
    exact Ev.neg (by omega) (Ev.done rfl)
  | succ d ih =>
    intro m hm
    refine Ev.step (fun k => by rw [spec_SpreadOf.l0]) ?_
    exact Ev.pos (by omega) (spreadOf_l1 hn _ (spreadN_nines t m) (by rw [spreadN_length]; omega) (by omega) (ih (m + 1) (by omega)) 9 0 (by omega))
theorem specSpreadOf_ev {t : List Int} (ht : t.length ≤ 1048576) : Ev (fun k => spec_SpreadOf.f k t) (spreadR t) := by
  unfold spec_SpreadOf.f spreadR
  refine Ev.bind (SystemIn_ev t ht) ?_
  by_cases hs : sysB t = true
  · rw [if_pos hs]
    exact Ev.pos hs (spreadOf_l0 (sysB_parts hs).1 9 0 (by omega))
  · rw [if_neg hs]
    exact Ev.neg hs (Ev.done rfl)
end Go.Proofs.Ytbfafjejmljcpaa.X

set_option linter.unusedVariables false
set_option linter.unusedSimpArgs false
namespace Go.Proofs.Ytbfafjejmljcpaa.X
open Go.RowKit Go.Proofs.YtbfafjejmljcpaaW.PrintWords Go.Proofs.YtbfafjejmljcpaaW.PrintLast Go.Proofs.Ytbfafjejmljcpaa.P

theorem insL_asc : ∀ (l : List (List Int)) (x : List Int), Asc l → (∀ a ∈ l, a.length = 9) → x.length = 9 → x ∉ l → Asc (insL l x) := by
  intro l
  induction l with
  | nil => intro x _ _ _ _; exact List.pairwise_singleton _ _
  | cons y l ih =>
    intro x ha h9 hx hn
    have ha2 := List.pairwise_cons.1 ha
    have hxy : x ≠ y := fun e => hn (e ▸ List.mem_cons_self)
    have h9y := h9 y List.mem_cons_self
    by_cases h : lessB y x = true
    · have e : insL (y :: l) x = y :: insL l x := by simp [insL, h]
      rw [e]
      refine List.pairwise_cons.2 ⟨fun z hz => ?_, ih x ha2.2 (fun a h => h9 a (List.mem_cons_of_mem _ h)) hx (fun h => hn (List.mem_cons_of_mem _ h))⟩
      rcases mem_insL.1 hz with rfl | hz
      · exact h
      · exact ha2.1 z hz
    · have e : insL (y :: l) x = x :: y :: l := by simp [insL, h]
      rw [e]
      have hlt : lessB x y = true := (lessB_total hx h9y hxy).elim id fun h2 => absurd h2 h
      refine List.pairwise_cons.2 ⟨fun z hz => ?_, ha⟩
      rcases List.mem_cons.1 hz with rfl | hz
      · exact hlt
      · exact lessB_trans hlt (ha2.1 z hz)
end Go.Proofs.Ytbfafjejmljcpaa.X

set_option linter.unusedVariables false
set_option linter.unusedSimpArgs false
namespace Go.Proofs.Ytbfafjejmljcpaa.X
open Go.RowKit Go.Proofs.YtbfafjejmljcpaaW.PrintWords Go.Proofs.YtbfafjejmljcpaaW.PrintLast Go.Proofs.Ytbfafjejmljcpaa.P

def RdS (s : List Int) : Prop := s.length ≤ 2000 ∧ ∀ x ∈ s, 0 ≤ x ∧ x ≤ 255
theorem u8_range {x : Int} (h : (Lit.int .u8 x).wf = true) : 0 ≤ x ∧ x ≤ 255 := by
  simp [Lit.wf, IntKind.min, IntKind.max, IntKind.signed, IntKind.bits] at h
  omega
theorem open_ev (l : List Int) (h : ∀ x ∈ l, (Lit.int .u8 x).wf = true) : ∃ s, RdS s ∧ spec_l6Open.f l = some (s, 0) := by
  unfold spec_l6Open.f
  by_cases hl : (l.length : Int) > 2000
  · rw [if_pos hl, if_pos (by omega)]
    exact ⟨_, ⟨by rw [List.length_take]; omega, fun x hx => u8_range (h x (List.mem_of_mem_take hx))⟩, rfl⟩
  · rw [if_neg hl]
    exact ⟨_, ⟨by omega, fun x hx => u8_range (h x hx)⟩, rfl⟩
theorem xor_nn {a b : Int} (h0 : 0 ≤ a) (h1 : a < 9223372036854775808) (h2 : 0 ≤ b) (h3 : b < 9223372036854775808) : 0 ≤ Go.bits .xor .i64 a b := by
  obtain ⟨x, rfl⟩ := Int.eq_ofNat_of_zero_le h0
  obtain ⟨y, rfl⟩ := Int.eq_ofNat_of_zero_le h2
  have hx : x ^^^ y < 2 ^ 63 := Nat.xor_lt_two_pow (by omega) (by omega)
  have e1 : (BitVec.ofInt 64 (x : Int)).toNat = x := by
    rw [BitVec.ofInt_natCast, BitVec.toNat_ofNat]; exact Nat.mod_eq_of_lt (by omega)
  have e2 : (BitVec.ofInt 64 (y : Int)).toNat = y := by
    rw [BitVec.ofInt_natCast, BitVec.toNat_ofNat]; exact Nat.mod_eq_of_lt (by omega)
  have e : Go.bits .xor .i64 (x : Int) (y : Int) = IntKind.i64.wrap ((BitVec.ofInt 64 (x : Int) ^^^ BitVec.ofInt 64 (y : Int)).toNat : Int) := rfl
  rw [e, BitVec.toNat_xor, e1, e2]
  generalize x ^^^ y = z at hx
  simp [IntKind.wrap, IntKind.bits, IntKind.signed]
  omega
theorem tmod_range {a n : Int} (h : 0 ≤ a) (hn : 1 ≤ n) : 0 ≤ Int.tmod a n ∧ Int.tmod a n < n := by
  rw [tmod_nn h]
  exact ⟨Int.emod_nonneg _ (by omega), Int.emod_lt_of_pos _ (by omega)⟩
theorem rd_byte {s : List Int} (hs : RdS s) {i : Int} (h0 : 0 ≤ i) (h1 : i < s.length) : 0 ≤ rd s i ∧ rd s i ≤ 255 := hs.2 _ (rd_mem h1 h0)
theorem pick_j0 (s : List Int) (hs : RdS s) (p : Int) (h0 : 0 ≤ p) (h1 : p ≤ 1099511627776) (n : Int) (n0 : 1 ≤ n) (n1 : n ≤ 1000000) :
    ∃ v, (0 ≤ v ∧ v < n) ∧ Ev (fun k => spec_l6Rd_pick.j0 k n ((s.length : Int) == 0) s (p + 1)) (v, p + 1) := by
  have hl := hs.1
  by_cases e : s.length = 0
  · refine ⟨0, by omega, ?_⟩
    refine Ev.step (fun k => by rw [spec_l6Rd_pick.j0]) ?_
    refine Ev.pos (by rw [e]; rfl) (Ev.done rfl)
  have ez : wrap64 (p + 1 - 1) = p := by rw [w64 (by omega) (by omega)]; omega
  have er : ∀ i : Int, 0 ≤ i → i < s.length → wrap64 (rd s i) = rd s i := fun i i0 i1 => by
    have := rd_byte hs i0 i1; exact w64 (by omega) (by omega)
  by_cases hp : p < s.length
  · obtain ⟨b0, b1⟩ := rd_byte hs h0 hp
    refine ⟨Int.tmod (rd s p) n, tmod_range b0 n0, ?_⟩
    refine Ev.step (fun k => by rw [spec_l6Rd_pick.j0]) ?_
    rw [ez]
    refine Ev.neg (by simp; intro hh; apply e; simp [hh]) (Ev.pos hp (Ev.pos h0 (Ev.neg (by omega) ?_)))
    rw [er p h0 hp]
    exact Ev.done rfl
  · have hL : (1 : Int) ≤ s.length := by omega
    have ha : 0 ≤ p % (s.length : Int) ∧ p % (s.length : Int) < s.length := ⟨Int.emod_nonneg _ (by omega), Int.emod_lt_of_pos _ (by omega)⟩
    have hb : 0 ≤ (p * 7 + 3) % (s.length : Int) ∧ (p * 7 + 3) % (s.length : Int) < s.length := ⟨Int.emod_nonneg _ (by omega), Int.emod_lt_of_pos _ (by omega)⟩
    have hd : 0 ≤ p / (s.length : Int) ∧ p / (s.length : Int) ≤ p := ⟨Int.ediv_nonneg h0 (by omega), Int.ediv_le_self _ h0⟩
    obtain ⟨a0, a1⟩ := rd_byte hs ha.1 ha.2
    obtain ⟨b0, b1⟩ := rd_byte hs hb.1 hb.2
    have ea := er _ ha.1 ha.2
    have eb := er _ hb.1 hb.2
    have e7 : wrap64 (wrap64 (p * 7) + 3) = p * 7 + 3 := by rw [w64 (x := p * 7) (by omega) (by omega), w64 (by omega) (by omega)]
    have em : Int.tmod p (s.length : Int) = p % (s.length : Int) := tmod_nn h0
    have en : Int.tmod (p * 7 + 3) (s.length : Int) = (p * 7 + 3) % (s.length : Int) := tmod_nn (by omega)
    have ed : Int.tdiv p (s.length : Int) = p / (s.length : Int) := tdiv_nn h0
    generalize hA : rd s (p % (s.length : Int)) = A at *
    generalize hB : rd s ((p * 7 + 3) % (s.length : Int)) = B at *
    generalize hD : p / (s.length : Int) = D at *
    have eX : wrap64 (wrap64 (wrap64 (wrap64 (A * 131) + wrap64 (B * 1117)) + wrap64 (p * 29)) + wrap64 (wrap64 D * 53)) = A * 131 + B * 1117 + p * 29 + D * 53 := by
      rw [w64 (x := A * 131) (by omega) (by omega), w64 (x := B * 1117) (by omega) (by omega), w64 (x := A * 131 + B * 1117) (by omega) (by omega), w64 (x := p * 29) (by omega) (by omega), w64 (x := D) (by omega) (by omega), w64 (x := D * 53) (by omega) (by omega), w64 (x := A * 131 + B * 1117 + p * 29) (by omega) (by omega), w64 (by omega) (by omega)]
    have hX0 : 0 ≤ A * 131 + B * 1117 + p * 29 + D * 53 := by omega
    have hX1 : A * 131 + B * 1117 + p * 29 + D * 53 ≤ 9223372036854775807 := by omega
    generalize A * 131 + B * 1117 + p * 29 + D * 53 = X at *
    have eY : wrap64 (Int.tdiv X 64) = X / 64 := by rw [tdiv_nn hX0]; exact w64 (by omega) (by omega)
    refine ⟨Int.tmod (Go.bits .xor .i64 X (X / 64)) n, tmod_range (xor_nn hX0 (by omega) (by omega) (by omega)) n0, ?_⟩
    refine Ev.step (fun k => by rw [spec_l6Rd_pick.j0]) ?_
    rw [ez]
    refine Ev.neg (by simp; intro hh; apply e; simp [hh]) (Ev.neg hp (Ev.neg (by omega) ?_))
    rw [e7, em, en, ed, hA, hB, ea, eb, eX, eY]
    exact Ev.pos ha.1 (Ev.pos ha.2 (Ev.pos hb.1 (Ev.pos hb.2 (Ev.neg (by omega) (Ev.done rfl)))))
theorem pick_ev {s : List Int} (hs : RdS s) {p : Int} (h0 : 0 ≤ p) (h1 : p ≤ 1099511627776) {n : Int} (n0 : 1 ≤ n) (n1 : n ≤ 1000000) :
    ∃ v, (0 ≤ v ∧ v < n) ∧ Ev (fun k => spec_l6Rd_pick.f k s p n) (v, p + 1) := by
  obtain ⟨v, hv, he⟩ := pick_j0 s hs p h0 h1 n n0 n1
  refine ⟨v, hv, ?_⟩
  unfold spec_l6Rd_pick.f
  rw [w64 (by omega) (by omega)]
  exact Ev.neg (by omega) he
def kindL (c : Int) : List Int := (spec_l2Of.f 300 c).getD []
theorem five {P : Int → Prop} (h : ∀ i : Fin 5, P (i.val : Int)) (a : Int) (h0 : 0 ≤ a) (h1 : a < 5) : P a := by
  have := h ⟨a.toNat, by omega⟩
  simpa [Int.toNat_of_nonneg h0] using this
theorem kindL_some : ∀ i : Fin 5, spec_l2Of.f 300 (i.val : Int) = some (kindL (i.val : Int)) := by decide +kernel
theorem kindL_nines : ∀ i : Fin 5, ninesB (kindL (i.val : Int)) 81 = true := by decide +kernel
theorem kind_ev (c : Int) (h0 : 0 ≤ c) (h1 : c < 5) : Ev (fun k => spec_l2Of.f k c) (kindL c) :=
  Ev.of (fun k => spec_l2Of.mono c k) (five (P := fun c => spec_l2Of.f 300 c = some (kindL c)) kindL_some c h0 h1)
theorem kind_nines (c : Int) (h0 : 0 ≤ c) (h1 : c < 5) : ninesB (kindL c) 81 = true := five (P := fun c => ninesB (kindL c) 81 = true) kindL_nines c h0 h1
def DrawnT (t : List Int) : Prop := ∃ c : Int, 0 ≤ c ∧ c < 5 ∧ (t = kindL c ∨ (∃ i v : Int, 0 ≤ i ∧ i < 81 ∧ 0 ≤ v ∧ v < 9 ∧ t = (kindL c).set i.toNat v) ∨ t = (kindL c).take 80)
theorem DrawnT.len {t : List Int} (h : DrawnT t) : t.length ≤ 81 := by
  obtain ⟨c, c0, c1, h⟩ := h
  have hl := (ninesB_iff.1 (kind_nines c c0 c1)).1
  rcases h with rfl | ⟨i, v, _, _, _, _, rfl⟩ | rfl
  · omega
  · rw [List.length_set]; omega
  · rw [List.length_take]; omega
theorem system_ev {s : List Int} (hs : RdS s) {p : Int} (h0 : 0 ≤ p) (h1 : p ≤ 1099511000000) : ∃ t q, DrawnT t ∧ (p ≤ q ∧ q ≤ p + 5) ∧ Ev (fun k => spec_l91System.f k s p) (t, q) := by
  obtain ⟨c, hc, ec⟩ := pick_ev hs h0 (by omega) (n := 5) (by omega) (by omega)
  obtain ⟨a, ha, ea⟩ := pick_ev hs (p := p + 1) (by omega) (by omega) (n := 30) (by omega) (by omega)
  obtain ⟨i, hi, ei⟩ := pick_ev hs (p := p + 1 + 1) (by omega) (by omega) (n := 9) (by omega) (by omega)
  obtain ⟨j, hj, ej⟩ := pick_ev hs (p := p + 1 + 1 + 1) (by omega) (by omega) (n := 9) (by omega) (by omega)
  obtain ⟨v, hv, ev⟩ := pick_ev hs (p := p + 1 + 1 + 1 + 1) (by omega) (by omega) (n := 9) (by omega) (by omega)
  have hl := (ninesB_iff.1 (kind_nines c hc.1 hc.2)).1
  have ew : wrap64 (wrap64 (9 * i) + j) = 9 * i + j := by rw [w64 (x := 9 * i) (by omega) (by omega), w64 (by omega) (by omega)]
  by_cases e : a = 0
  · refine ⟨(kindL c).set (9 * i + j).toNat v, p + 1 + 1 + 1 + 1 + 1, ⟨c, hc.1, hc.2, .inr (.inl ⟨9 * i + j, v, by omega, by omega, hv.1, hv.2, rfl⟩)⟩, by omega, ?_⟩
    unfold spec_l91System.f
    refine Ev.bind ec (Ev.bind (kind_ev c hc.1 hc.2) (Ev.bind ea (Ev.pos e (Ev.bind ei (Ev.bind ej (Ev.bind ev ?_))))))
    dsimp only
    rw [ew]
    exact Ev.pos (by omega) (Ev.pos (by omega) (Ev.done rfl))
  by_cases e1 : a = 1
  · refine ⟨(kindL c).take 80, p + 1 + 1, ⟨c, hc.1, hc.2, .inr (.inr rfl)⟩, by omega, ?_⟩
    unfold spec_l91System.f
    refine Ev.bind ec (Ev.bind (kind_ev c hc.1 hc.2) (Ev.bind ea (Ev.neg e (Ev.pos e1 (Ev.pos ?_ (Ev.done rfl))))))
    omega
  · refine ⟨kindL c, p + 1 + 1, ⟨c, hc.1, hc.2, .inl rfl⟩, by omega, ?_⟩
    unfold spec_l91System.f
    exact Ev.bind ec (Ev.bind (kind_ev c hc.1 hc.2) (Ev.bind ea (Ev.neg e (Ev.neg e1 (Ev.done rfl)))))
end Go.Proofs.Ytbfafjejmljcpaa.X

set_option linter.unusedVariables false
set_option linter.unusedSimpArgs false
namespace Go.Proofs.Ytbfafjejmljcpaa.X
open Go.RowKit Go.Proofs.YtbfafjejmljcpaaW.PrintWords Go.Proofs.YtbfafjejmljcpaaW.PrintLast Go.Proofs.Ytbfafjejmljcpaa.P

def regL : List (List Int) := (spec_l6lRegulus.f 300).getD []
def otherL (x : Int) : List Int := (spec_l6lOther.f 300 x).getD []
theorem regL_some : spec_l6lRegulus.f 300 = some regL := by decide +kernel
theorem regL_ok : regL.length = 4 ∧ ∀ i : Fin 4, (rd_LI regL (i.val : Int)).length = 9 := by decide +kernel
theorem otherL_some : ∀ i : Fin 9, spec_l6lOther.f 300 (i.val : Int) = some (otherL (i.val : Int)) := by decide +kernel
theorem otherL_len : ∀ i : Fin 9, i ≠ 0 → (otherL (i.val : Int)).length = 9 := by decide +kernel
theorem regulus_ev : Ev (fun k => spec_l6lRegulus.f k) regL := Ev.of (fun k => spec_l6lRegulus.mono k) regL_some
theorem other_ev (x : Int) (h0 : 0 ≤ x) (h1 : x < 9) : Ev (fun k => spec_l6lOther.f k x) (otherL x) :=
  Ev.of (fun k => spec_l6lOther.mono x k) (nine1 (P := fun x => spec_l6lOther.f 300 x = some (otherL x)) otherL_some x h0 h1)
theorem other_len (x : Int) (h0 : 0 < x) (h1 : x < 9) : (otherL x).length = 9 := by
  have := otherL_len ⟨x.toNat, by omega⟩ (fun h => by have := Fin.ext_iff.1 h; have h2 : x.toNat = 0 := this; omega)
  have e : ((⟨x.toNat, by omega⟩ : Fin 9).val : Int) = x := by show ((x.toNat : Nat) : Int) = x; omega
  rwa [e] at this
end Go.Proofs.Ytbfafjejmljcpaa.X

namespace Go.Proofs.Ytbfafjejmljcpaa.P
open Go.RowKit Go.Proofs.YtbfafjejmljcpaaW.PrintWords Go.Proofs.YtbfafjejmljcpaaW.PrintLast
set_option linter.unusedVariables false
set_option linter.unusedSimpArgs false

mutual
def spec_SpreadSame.j0 : Nat → List (List Int) → List (List Int) → Bool → Option (Int × Bool)
 | 0, _, _, _ => none
 | k + 1, x0, x1, x16 => if x16 = true then (some (0, false)) else (spec_SpreadSame.l0 k x0 x1 0 0)
def spec_SpreadSame.l0 : Nat → List (List Int) → List (List Int) → Int → Int → Option (Int × Bool)
 | 0, _, _, _, _ => none
 | k + 1, x0, x1, x6, x7 => if x7 < 10 then (spec_SpreadSame.l1 k x0 x1 x6 x7 0) else (some (x6, true))
def spec_SpreadSame.l1 : Nat → List (List Int) → List (List Int) → Int → Int → Int → Option (Int × Bool)
 | 0, _, _, _, _, _ => none
 | k + 1, x0, x1, x6, x7, x8 => if x8 < 10 then (if 0 ≤ x7 then (if x7 < (x0.length : Int) then (if 0 ≤ x8 then (if x8 < (x1.length : Int) then ((spec_l6lSame.f k (rd_LI x0 x7) (rd_LI x1 x8)).bind fun t664 => (if t664 = true then (spec_SpreadSame.l1 k x0 x1 (wrap64 (x6 + 1)) x7 (wrap64 (x8 + 1))) else (spec_SpreadSame.l1 k x0 x1 x6 x7 (wrap64 (x8 + 1))))) else (none)) else (none)) else (none)) else (none)) else (spec_SpreadSame.l0 k x0 x1 x6 (wrap64 (x7 + 1)))
end
def spec_SpreadSame.f (k : Nat) (l0 : List (List Int)) (l1 : List (List Int)) : Option (Int × Bool) := (spec_SpreadIn.f k l0).bind fun t660 => (if t660 = true then ((spec_SpreadIn.f k l1).bind fun t661 => (spec_SpreadSame.j0 k l0 l1 (!t661))) else (spec_SpreadSame.j0 k l0 l1 true))
set_option maxHeartbeats 8000000 in
set_option maxRecDepth 100000 in
theorem spec_SpreadSame.calls (k : Nat) (A0 : Option Addr) (c0 : Nat) (l0 : List (List Int)) (A1 : Option Addr) (c1 : Nat) (l1 : List (List Int)) (r1 : Int) (r2 : Bool) (w : World) (hr0 : Kd.C (Kd.slice 3 (Kd.int .i64)) w A0 l0.length l0) (hc0 : l0.length ≤ c0) (hr1 : Kd.C (Kd.slice 3 (Kd.int .i64)) w A1 l1.length l1) (hc1 : l1.length ≤ c1) (h : spec_SpreadSame.f k l0 l1 = some (r1, r2)) :
  Calls Try.prog 20 #[.slice A0 l0.length c0, .slice A1 l1.length c1] w fun e w' => e = .returned (.tuple #[.int .i64 r1, .bool r2]) ∧ Below w.heap.size w w' := by
 have HR0 := Aside0.mk hr0
 have HC0 := Aside0.mk hc0
 clear hr0 hc0
 have HR1 := Aside0.mk hr1
 have HC1 := Aside0.mk hc1
 clear hr1 hc1
 have HB := Aside0.mk (Below.refl w.heap.size w)
 have H : ((spec_SpreadIn.f k l0).bind fun t660 => (if t660 = true then ((spec_SpreadIn.f k l1).bind fun t661 => (spec_SpreadSame.j0 k l0 l1 (!t661))) else (spec_SpreadSame.j0 k l0 l1 true))) = some (r1, r2) := h
 clear h
 have HC3 := Aside0.mk H
 clear H
 go_enter Try.func20, Try.ntmps20
 go_upto_region 1 with (fail)
 repeat (go_quiet (fail); go_upto_region 1 with (fail))
 go_cut [16] (fun v16 wc => ∃ (kq : Nat) (x16_2 : Bool), v16 = .bool x16_2 ∧ Aside0 (spec_SpreadSame.j0 kq l0 l1 x16_2 = some (r1, r2)) ∧ Aside0 (kq ≤ k) ∧ Aside0 (Below w.heap.size w wc))
 case first =>
  have H := HC3.out
  clear HC3
  replace H := Option.bind_eq_some_iff.mp H
  obtain ⟨t660, A40, H⟩ := H
  replace H : (if t660 = true then ((spec_SpreadIn.f k l1).bind fun t661 => (spec_SpreadSame.j0 k l0 l1 (!t661))) else (spec_SpreadSame.j0 k l0 l1 true)) = some (r1, r2) := H
  have A4 := Aside0.mk A40
  clear A40
  by_cases c5 : t660 = true
  ·subst c5
   have H1 : ((spec_SpreadIn.f k l1).bind fun t661 => (spec_SpreadSame.j0 k l0 l1 (!t661))) = some (r1, r2) := by rw [if_pos rfl] at H; exact H
   clear H
   have H := H1
   clear H1
   replace H := Option.bind_eq_some_iff.mp H
   obtain ⟨t661, A60, H⟩ := H
   replace H : (spec_SpreadSame.j0 k l0 l1 (!t661)) = some (r1, r2) := H
   have A6 := Aside0.mk A60
   clear A60
   have H' := Aside0.mk H
   clear H
   go_wp2_with (first | (go_at_call 53; (with_reducible refine (spec_SpreadIn.calls k _ _ l0 true _ ?side1 ?side2 A4.out).mono ?_); (case side1 => exact sb_ HR0 HB); (case side2 => exact HC0.out); rintro e w7 ⟨rfl, hb⟩; have n0_ := Aside0.mk (below_step (bb_ HB) hb); clear HB; have HB := n0_; clear n0_; (try clear hb); (try clear hb2); (try clear hk); (try clear hi)) | (go_at_call 53; (with_reducible refine (spec_SpreadIn.calls k _ _ l1 t661 _ ?side1 ?side2 A6.out).mono ?_); (case side1 => exact sb_ HR1 HB); (case side2 => exact HC1.out); rintro e w8 ⟨rfl, hb⟩; have n0_ := Aside0.mk (below_step (bb_ HB) hb); clear HB; have HB := n0_; clear n0_; (try clear hb); (try clear hb2); (try clear hk); (try clear hi)))
   repeat (go_quiet (first | (go_at_call 53; (with_reducible refine (spec_SpreadIn.calls k _ _ l0 true _ ?side1 ?side2 A4.out).mono ?_); (case side1 => exact sb_ HR0 HB); (case side2 => exact HC0.out); rintro e w7 ⟨rfl, hb⟩; have n0_ := Aside0.mk (below_step (bb_ HB) hb); clear HB; have HB := n0_; clear n0_; (try clear hb); (try clear hb2); (try clear hk); (try clear hi)) | (go_at_call 53; (with_reducible refine (spec_SpreadIn.calls k _ _ l1 t661 _ ?side1 ?side2 A6.out).mono ?_); (case side1 => exact sb_ HR1 HB); (case side2 => exact HC1.out); rintro e w8 ⟨rfl, hb⟩; have n0_ := Aside0.mk (below_step (bb_ HB) hb); clear HB; have HB := n0_; clear n0_; (try clear hb); (try clear hb2); (try clear hk); (try clear hi))); try go_wp2_with (first | (go_at_call 53; (with_reducible refine (spec_SpreadIn.calls k _ _ l0 true _ ?side1 ?side2 A4.out).mono ?_); (case side1 => exact sb_ HR0 HB); (case side2 => exact HC0.out); rintro e w7 ⟨rfl, hb⟩; have n0_ := Aside0.mk (below_step (bb_ HB) hb); clear HB; have HB := n0_; clear n0_; (try clear hb); (try clear hb2); (try clear hk); (try clear hi)) | (go_at_call 53; (with_reducible refine (spec_SpreadIn.calls k _ _ l1 t661 _ ?side1 ?side2 A6.out).mono ?_); (case side1 => exact sb_ HR1 HB); (case side2 => exact HC1.out); rintro e w8 ⟨rfl, hb⟩; have n0_ := Aside0.mk (below_step (bb_ HB) hb); clear HB; have HB := n0_; clear n0_; (try clear hb); (try clear hb2); (try clear hk); (try clear hi))))
   go_meet
   case rel => exact ⟨_, (!t661), (by first | rfl | (simp; done) | (simp [*]; done)), H', ⟨by first | omega | exact Nat.le_refl _⟩, ⟨by repeat (first | (with_reducible first | exact HB.out | apply below_alloc | apply pw_below_drewN | apply below_drew1) | exact HB.out)⟩⟩
  ·replace c5 := Bool.eq_false_iff.mpr c5
   subst c5
   have H1 : (spec_SpreadSame.j0 k l0 l1 true) = some (r1, r2) := by rw [if_neg (show ¬ (false = true) by decide)] at H; exact H
   clear H
   have H := H1
   clear H1
   have H' := Aside0.mk H
   clear H
   go_wp2_with (first | (go_at_call 53; (with_reducible refine (spec_SpreadIn.calls k _ _ l0 false _ ?side1 ?side2 A4.out).mono ?_); (case side1 => exact sb_ HR0 HB); (case side2 => exact HC0.out); rintro e w9 ⟨rfl, hb⟩; have n0_ := Aside0.mk (below_step (bb_ HB) hb); clear HB; have HB := n0_; clear n0_; (try clear hb); (try clear hb2); (try clear hk); (try clear hi)))
   repeat (go_quiet (first | (go_at_call 53; (with_reducible refine (spec_SpreadIn.calls k _ _ l0 false _ ?side1 ?side2 A4.out).mono ?_); (case side1 => exact sb_ HR0 HB); (case side2 => exact HC0.out); rintro e w9 ⟨rfl, hb⟩; have n0_ := Aside0.mk (below_step (bb_ HB) hb); clear HB; have HB := n0_; clear n0_; (try clear hb); (try clear hb2); (try clear hk); (try clear hi))); try go_wp2_with (first | (go_at_call 53; (with_reducible refine (spec_SpreadIn.calls k _ _ l0 false _ ?side1 ?side2 A4.out).mono ?_); (case side1 => exact sb_ HR0 HB); (case side2 => exact HC0.out); rintro e w9 ⟨rfl, hb⟩; have n0_ := Aside0.mk (below_step (bb_ HB) hb); clear HB; have HB := n0_; clear n0_; (try clear hb); (try clear hb2); (try clear hk); (try clear hi))))
   go_meet
   case rel => exact ⟨_, (true), (by first | rfl | (simp; done) | (simp [*]; done)), H', ⟨by first | omega | exact Nat.le_refl _⟩, ⟨by repeat (first | (with_reducible first | exact HB.out | apply below_alloc | apply pw_below_drewN | apply below_drew1) | exact HB.out)⟩⟩
 case rest =>
  clear HC3
  try clear c1
  try clear c2
  try clear p2
  try clear c5
  obtain ⟨kq, x16_2, rfl, HA, HJ2, HB⟩ := hcut
  cases kq with
  | zero => exact absurd HA.out (by simp [spec_SpreadSame.j0])
  | succ kj2 =>
   have H := HA.out
   clear HA
   simp only [spec_SpreadSame.j0] at H
   by_cases c10 : x16_2 = true
   ·subst c10
    have H1 : (some (0, false)) = some (r1, r2) := by rw [if_pos rfl] at H; exact H
    clear H
    have H := H1
    clear H1
    simp only [Option.some.injEq, Prod.mk.injEq] at H
    obtain ⟨rfl, rfl⟩ := H
    go_wp2
    repeat (go_quiet (fail); try go_wp2)
    go_ret2
    exact ⟨ee_, bb_ HB⟩
   ·replace c10 := Bool.eq_false_iff.mpr c10
    subst c10
    have H1 : (spec_SpreadSame.l0 kj2 l0 l1 0 0) = some (r1, r2) := by rw [if_neg (show ¬ (false = true) by decide)] at H; exact H
    clear H
    have H := H1
    clear H1
    have H' := Aside0.mk H
    clear H
    go_wp2
    repeat (go_quiet (fail); try go_wp2)
    go_loopg [6, 7] kj2 (fun kq v6 v7 w' => ∃ (x6_2 : Int) (x7_2 : Int), v6 = .int .i64 x6_2 ∧ v7 = .int .i64 x7_2 ∧ Aside0 (spec_SpreadSame.l0 kq l0 l1 x6_2 x7_2 = some (r1, r2)) ∧ Aside0 (kq ≤ kj2) ∧ Aside0 (Below w.heap.size w w'))
    case atStart => exact ⟨(0), (0), (by first | rfl | (simp; done) | (simp [*]; done)), (by first | rfl | (simp; done) | (simp [*]; done)), H', ⟨Nat.le_refl _⟩, ⟨by repeat (first | (with_reducible first | exact HB.out | apply below_alloc | apply pw_below_drewN | apply below_drew1) | exact HB.out)⟩⟩
    case round =>
     clear H'
     try clear c1
     try clear c2
     try clear p2
     try clear c5
     try clear c10
     try clear p2
     obtain ⟨x6_2, x7_2, rfl, rfl, HA, HK2, HB⟩ := hrel
     cases gk with
     | zero => exact absurd HA.out (by simp [spec_SpreadSame.l0])
     | succ k2 =>
      have H := HA.out
      clear HA
      simp only [spec_SpreadSame.l0] at H
      by_cases c11 : x7_2 < 10
      ·rw [if_pos c11] at H
       have c11b0 : decide (x7_2 < 10) = true := decide_eq_true c11
       clear c11
       have H' := Aside0.mk H
       clear H
       go_wp2
       repeat (go_quiet (fail); try go_wp2)
       go_loopg [6, 8] k2 (fun kq v6 v8 w' => ∃ (x6_3 : Int) (x8_3 : Int), v6 = .int .i64 x6_3 ∧ v8 = .int .i64 x8_3 ∧ Aside0 (spec_SpreadSame.l1 kq l0 l1 x6_3 x7_2 x8_3 = some (r1, r2)) ∧ Aside0 (kq ≤ k2) ∧ Aside0 (Below w.heap.size w w'))
       case atStart => exact ⟨(x6_2), (0), (by first | rfl | (simp; done) | (simp [*]; done)), (by first | rfl | (simp; done) | (simp [*]; done)), H', ⟨Nat.le_refl _⟩, ⟨by repeat (first | (with_reducible first | exact HB.out | apply below_alloc | apply pw_below_drewN | apply below_drew1) | exact HB.out)⟩⟩
       case round =>
        clear H'
        try clear c1
        try clear c2
        try clear p2
        try clear c5
        try clear c10
        try clear c11
        try clear c11b0
        try clear p2
        obtain ⟨x6_3, x8_3, rfl, rfl, HA, HK3, HB⟩ := hrel
        cases gk with
        | zero => exact absurd HA.out (by simp [spec_SpreadSame.l1])
        | succ k3 =>
         have H := HA.out
         clear HA
         simp only [spec_SpreadSame.l1] at H
         by_cases c12 : x8_3 < 10
         ·rw [if_pos c12] at H
          have c12b0 : decide (x8_3 < 10) = true := decide_eq_true c12
          clear c12
          by_cases c13 : 0 ≤ x7_2
          ·rw [if_pos c13] at H
           have c13b0 : decide (0 ≤ x7_2) = true := decide_eq_true c13
           clear c13
           by_cases c14 : x7_2 < (l0.length : Int)
           ·rw [if_pos c14] at H
            have c14b0 : decide (x7_2 < (l0.length : Int)) = true := decide_eq_true c14
            clear c14
            by_cases c15 : 0 ≤ x8_3
            ·rw [if_pos c15] at H
             have c15b0 : decide (0 ≤ x8_3) = true := decide_eq_true c15
             clear c15
             by_cases c16 : x8_3 < (l1.length : Int)
             ·rw [if_pos c16] at H
              have c16b0 : decide (x8_3 < (l1.length : Int)) = true := decide_eq_true c16
              clear c16
              replace H := Option.bind_eq_some_iff.mp H
              obtain ⟨t664, A170, H⟩ := H
              replace H : (if t664 = true then (spec_SpreadSame.l1 k3 l0 l1 (wrap64 (x6_3 + 1)) x7_2 (wrap64 (x8_3 + 1))) else (spec_SpreadSame.l1 k3 l0 l1 x6_3 x7_2 (wrap64 (x8_3 + 1)))) = some (r1, r2) := H
              have A17 := Aside0.mk A170
              clear A170
              by_cases c18 : t664 = true
              ·subst c18
               have H1 : (spec_SpreadSame.l1 k3 l0 l1 (wrap64 (x6_3 + 1)) x7_2 (wrap64 (x8_3 + 1))) = some (r1, r2) := by rw [if_pos rfl] at H; exact H
               clear H
               have H := H1
               clear H1
               have H' := Aside0.mk H
               clear H
               have p662 : 0 ≤ (x7_2 : Int) := dd_
               have q662 : x7_2 < (l0.length : Int) := dd_
               obtain ⟨ad662, A662_0, c662_0, e662, hx662_0, hl662_0, hi662_0⟩ := at_LI HR0.out x7_2 p662 q662
               cases e662
               replace hx662_0 := hc_ HB hx662_0
               have HR662_0 := Aside0.mk hi662_0
               have HC662_0 := Aside0.mk hl662_0
               clear hi662_0 hl662_0
               replace p662 := eq_true p662
               replace q662 := eq_true q662
               have p663 : 0 ≤ (x8_3 : Int) := dd_
               have q663 : x8_3 < (l1.length : Int) := dd_
               obtain ⟨ad663, A663_0, c663_0, e663, hx663_0, hl663_0, hi663_0⟩ := at_LI HR1.out x8_3 p663 q663
               cases e663
               replace hx663_0 := hc_ HB hx663_0
               have HR663_0 := Aside0.mk hi663_0
               have HC663_0 := Aside0.mk hl663_0
               clear hi663_0 hl663_0
               replace p663 := eq_true p663
               replace q663 := eq_true q663
               go_wp2_with (first | (go_at_call 54; (with_reducible refine (spec_l6lSame.calls k3 _ _ (rd_LI l0 x7_2) _ _ (rd_LI l1 x8_3) true _ ?side1 ?side2 ?side3 ?side4 A17.out).mono ?_); (case side1 => exact sb_ HR662_0 HB); (case side2 => exact HC662_0.out); (case side3 => exact sb_ HR663_0 HB); (case side4 => exact HC663_0.out); rintro e w' ⟨rfl, ⟨nd, rfl⟩⟩; (try first | exact ⟨rfl, _, World.drewN_drewN _ _ _⟩ | exact ⟨rfl, _, Eq.trans (World.drewN_drewN _ _ _) (congrArg (World.drewN _) (Nat.add_assoc _ _ _))⟩)))
               repeat (go_quiet (first | (go_at_call 54; (with_reducible refine (spec_l6lSame.calls k3 _ _ (rd_LI l0 x7_2) _ _ (rd_LI l1 x8_3) true _ ?side1 ?side2 ?side3 ?side4 A17.out).mono ?_); (case side1 => exact sb_ HR662_0 HB); (case side2 => exact HC662_0.out); (case side3 => exact sb_ HR663_0 HB); (case side4 => exact HC663_0.out); rintro e w' ⟨rfl, ⟨nd, rfl⟩⟩; (try first | exact ⟨rfl, _, World.drewN_drewN _ _ _⟩ | exact ⟨rfl, _, Eq.trans (World.drewN_drewN _ _ _) (congrArg (World.drewN _) (Nat.add_assoc _ _ _))⟩))); try go_wp2_with (first | (go_at_call 54; (with_reducible refine (spec_l6lSame.calls k3 _ _ (rd_LI l0 x7_2) _ _ (rd_LI l1 x8_3) true _ ?side1 ?side2 ?side3 ?side4 A17.out).mono ?_); (case side1 => exact sb_ HR662_0 HB); (case side2 => exact HC662_0.out); (case side3 => exact sb_ HR663_0 HB); (case side4 => exact HC663_0.out); rintro e w' ⟨rfl, ⟨nd, rfl⟩⟩; (try first | exact ⟨rfl, _, World.drewN_drewN _ _ _⟩ | exact ⟨rfl, _, Eq.trans (World.drewN_drewN _ _ _) (congrArg (World.drewN _) (Nat.add_assoc _ _ _))⟩))))
               go_roundg k3
               case measure => have := HJ2.out; have := HK2.out; have := HK3.out; omega
               case rel => exact ⟨(wrap64 (x6_3 + 1)), (wrap64 (x8_3 + 1)), (by first | rfl | (simp; done) | (simp [*]; done)), (by first | rfl | (simp; done) | (simp [*]; done)), H', ⟨by have := HJ2.out; have := HK2.out; have := HK3.out; omega⟩, ⟨by repeat (first | (with_reducible first | exact HB.out | apply below_alloc | apply pw_below_drewN | apply below_drew1) | exact HB.out)⟩⟩
              ·replace c18 := Bool.eq_false_iff.mpr c18
               subst c18
               have H1 : (spec_SpreadSame.l1 k3 l0 l1 x6_3 x7_2 (wrap64 (x8_3 + 1))) = some (r1, r2) := by rw [if_neg (show ¬ (false = true) by decide)] at H; exact H
               clear H
               have H := H1
               clear H1
               have H' := Aside0.mk H
               clear H
               have p662 : 0 ≤ (x7_2 : Int) := dd_
               have q662 : x7_2 < (l0.length : Int) := dd_
               obtain ⟨ad662, A662_0, c662_0, e662, hx662_0, hl662_0, hi662_0⟩ := at_LI HR0.out x7_2 p662 q662
               cases e662
               replace hx662_0 := hc_ HB hx662_0
               have HR662_0 := Aside0.mk hi662_0
               have HC662_0 := Aside0.mk hl662_0
               clear hi662_0 hl662_0
               replace p662 := eq_true p662
               replace q662 := eq_true q662
               have p663 : 0 ≤ (x8_3 : Int) := dd_
               have q663 : x8_3 < (l1.length : Int) := dd_
               obtain ⟨ad663, A663_0, c663_0, e663, hx663_0, hl663_0, hi663_0⟩ := at_LI HR1.out x8_3 p663 q663
               cases e663
               replace hx663_0 := hc_ HB hx663_0
               have HR663_0 := Aside0.mk hi663_0
               have HC663_0 := Aside0.mk hl663_0
               clear hi663_0 hl663_0
               replace p663 := eq_true p663
               replace q663 := eq_true q663
               go_wp2_with (first | (go_at_call 54; (with_reducible refine (spec_l6lSame.calls k3 _ _ (rd_LI l0 x7_2) _ _ (rd_LI l1 x8_3) false _ ?side1 ?side2 ?side3 ?side4 A17.out).mono ?_); (case side1 => exact sb_ HR662_0 HB); (case side2 => exact HC662_0.out); (case side3 => exact sb_ HR663_0 HB); (case side4 => exact HC663_0.out); rintro e w' ⟨rfl, ⟨nd, rfl⟩⟩; (try first | exact ⟨rfl, _, World.drewN_drewN _ _ _⟩ | exact ⟨rfl, _, Eq.trans (World.drewN_drewN _ _ _) (congrArg (World.drewN _) (Nat.add_assoc _ _ _))⟩)))
               repeat (go_quiet (first | (go_at_call 54; (with_reducible refine (spec_l6lSame.calls k3 _ _ (rd_LI l0 x7_2) _ _ (rd_LI l1 x8_3) false _ ?side1 ?side2 ?side3 ?side4 A17.out).mono ?_); (case side1 => exact sb_ HR662_0 HB); (case side2 => exact HC662_0.out); (case side3 => exact sb_ HR663_0 HB); (case side4 => exact HC663_0.out); rintro e w' ⟨rfl, ⟨nd, rfl⟩⟩; (try first | exact ⟨rfl, _, World.drewN_drewN _ _ _⟩ | exact ⟨rfl, _, Eq.trans (World.drewN_drewN _ _ _) (congrArg (World.drewN _) (Nat.add_assoc _ _ _))⟩))); try go_wp2_with (first | (go_at_call 54; (with_reducible refine (spec_l6lSame.calls k3 _ _ (rd_LI l0 x7_2) _ _ (rd_LI l1 x8_3) false _ ?side1 ?side2 ?side3 ?side4 A17.out).mono ?_); (case side1 => exact sb_ HR662_0 HB); (case side2 => exact HC662_0.out); (case side3 => exact sb_ HR663_0 HB); (case side4 => exact HC663_0.out); rintro e w' ⟨rfl, ⟨nd, rfl⟩⟩; (try first | exact ⟨rfl, _, World.drewN_drewN _ _ _⟩ | exact ⟨rfl, _, Eq.trans (World.drewN_drewN _ _ _) (congrArg (World.drewN _) (Nat.add_assoc _ _ _))⟩))))
               go_roundg k3
               case measure => have := HJ2.out; have := HK2.out; have := HK3.out; omega
               case rel => exact ⟨(x6_3), (wrap64 (x8_3 + 1)), (by first | rfl | (simp; done) | (simp [*]; done)), (by first | rfl | (simp; done) | (simp [*]; done)), H', ⟨by have := HJ2.out; have := HK2.out; have := HK3.out; omega⟩, ⟨by repeat (first | (with_reducible first | exact HB.out | apply below_alloc | apply pw_below_drewN | apply below_drew1) | exact HB.out)⟩⟩
             ·rw [if_neg c16] at H
              exact absurd H (by simp)
            ·rw [if_neg c15] at H
             exact absurd H (by simp)
           ·rw [if_neg c14] at H
            exact absurd H (by simp)
          ·rw [if_neg c13] at H
           exact absurd H (by simp)
         ·rw [if_neg c12] at H
          have c12b0 : decide (x8_3 < 10) = false := decide_eq_false c12
          clear c12
          have H' := Aside0.mk H
          clear H
          go_wp2
          repeat (go_quiet (fail); try go_wp2)
          go_roundg k3
          case measure => have := HJ2.out; have := HK2.out; have := HK3.out; omega
          case rel => exact ⟨(x6_3), (wrap64 (x7_2 + 1)), (by first | rfl | (simp; done) | (simp [*]; done)), (by first | rfl | (simp; done) | (simp [*]; done)), H', ⟨by have := HJ2.out; have := HK2.out; have := HK3.out; omega⟩, ⟨by repeat (first | (with_reducible first | exact HB.out | apply below_alloc | apply pw_below_drewN | apply below_drew1) | exact HB.out)⟩⟩
      ·rw [if_neg c11] at H
       have c11b0 : decide (x7_2 < 10) = false := decide_eq_false c11
       clear c11
       simp only [Option.some.injEq, Prod.mk.injEq] at H
       obtain ⟨rfl, rfl⟩ := H
       go_wp2
       repeat (go_quiet (fail); try go_wp2)
       go_ret2
       exact ⟨ee_, bb_ HB⟩
end Go.Proofs.Ytbfafjejmljcpaa.P

set_option linter.unusedVariables false
set_option linter.unusedSimpArgs false
namespace Go.Proofs.Ytbfafjejmljcpaa.X
open Go.RowKit Go.Proofs.YtbfafjejmljcpaaW.PrintWords Go.Proofs.YtbfafjejmljcpaaW.PrintLast Go.Proofs.Ytbfafjejmljcpaa.P

theorem leaf_ext {a b : List Int} (ha : a.length = 9) (hb : b.length = 9) (h : ∀ i : Int, 0 ≤ i → i < 9 → rd a i = rd b i) : a = b := ext_rd (by omega) fun i hi => h i (by omega) (by omega)
theorem gapI_cases {a b : List Int} (ha : a.length = 9) (hb : b.length = 9) : (a = b ∧ gapI a b = -1) ∨ (a ≠ b ∧ 0 ≤ gapI a b ∧ rd a (gapI a b) ≠ rd b (gapI a b)) := by
  by_cases h : ∃ i : Int, 0 ≤ i ∧ i < 9 ∧ (rd a i != rd b i) = true
  · obtain ⟨i, h0, h1, h2⟩ := h
    obtain ⟨g0, g1, g2, _⟩ := firstI_spec (n := 9) (p := fun i => rd a i != rd b i) i h0 h1 h2
    have g2 : rd a (gapI a b) ≠ rd b (gapI a b) := bne_iff_ne.1 g2
    exact .inr ⟨fun e => by rw [e] at g2; exact g2 rfl, g0, g2⟩
  · have hall : ∀ i : Int, 0 ≤ i → i < 9 → (rd a i != rd b i) = false := fun i h0 h1 => Bool.eq_false_iff.2 fun h2 => h ⟨i, h0, h1, h2⟩
    exact .inl ⟨leaf_ext ha hb fun i h0 h1 => by simpa using hall i h0 h1, firstI_none hall⟩
theorem gapI_comm (a b : List Int) : gapI b a = gapI a b := by
  unfold gapI
  congr 1
  funext i
  rw [bne_comm]
theorem l6lSame_ev (a b : List Int) (ha : a.length = 9) (hb : b.length = 9) : Ev (fun k => spec_l6lSame.f k a b) (decide (a = b)) := by
  unfold spec_l6lSame.f
  refine Ev.bind (l6lLess_ev a b ha hb) ?_
  have hc := gapI_comm a b
  rcases gapI_cases ha hb with ⟨e, hg⟩ | ⟨e, g0, g1⟩
  · have h1 : lessB a b = false := by unfold lessB; rw [hg]; rfl
    have h2 : lessB b a = false := by unfold lessB; rw [hc, hg]; rfl
    rw [h1, decide_eq_true e]
    refine Ev.neg (by decide) (Ev.bind (l6lLess_ev b a hb ha) ?_)
    rw [h2]; exact Ev.done rfl
  · rw [decide_eq_false e]
    by_cases h : rd a (gapI a b) < rd b (gapI a b)
    · have h1 : lessB a b = true := by unfold lessB; rw [decide_eq_true g0, decide_eq_true h]; rfl
      rw [h1]
      exact Ev.pos rfl (Ev.done rfl)
    · have h1 : lessB a b = false := by unfold lessB; rw [decide_eq_false h, Bool.and_false]
      have h2 : lessB b a = true := by unfold lessB; rw [hc, decide_eq_true g0, decide_eq_true (by omega : rd b (gapI a b) < rd a (gapI a b))]; rfl
      rw [h1]
      refine Ev.neg (by decide) (Ev.bind (l6lLess_ev b a hb ha) ?_)
      rw [h2]; exact Ev.done rfl
def sameN (a b : List (List Int)) : Nat → Int
  | 0 => 0
  | n + 1 => sameN a b n + (if rd_LI a (n : Int) ∈ b then 1 else 0)
theorem sameN_range (a b : List (List Int)) (n : Nat) : 0 ≤ sameN a b n ∧ sameN a b n ≤ n := by
  induction n with
  | zero => exact ⟨Int.le_refl _, Int.le_refl _⟩
  | succ n ih => unfold sameN; split <;> omega
def sameR (a b : List (List Int)) : Int × Bool := if (spreadB a && spreadB b) = true then (sameN a b 10, true) else (0, false)
theorem spread_short {l : List (List Int)} (h : spreadB l = true) : (l.all fun x => decide (x.length ≤ 1099511627776)) = true := by
  rw [List.all_eq_true]
  intro x hx
  obtain ⟨j, hj, rfl⟩ := List.mem_iff_getElem.1 hx
  have hl := (spreadB_parts h).1
  have := (leafB_parts (spread_leaf h (i := (j : Int)) (by omega) (by omega))).1
  rw [rdL_cast l j hj] at this
  exact decide_eq_true (by omega)
theorem sameLeaves_loop {a b : List (List Int)} (hb : spreadB b = true) (ha : a.length = 10) (d : Nat) : ∀ i : Nat, i + d = 10 → Ev (fun k => impl_sameLeaves.l0 k b (sameN a b i) a (10 : Int) (i : Int)) (sameN a b 10) := by
  induction d with
  | zero =>
    intro i h1
    have e : i = 10 := by omega
    subst e
    refine Ev.step (fun k => by rw [impl_sameLeaves.l0]) ?_
    exact Ev.neg (by omega) (Ev.done rfl)
  | succ d ih =>
    intro i h1
    have hs := sameN_range a b i
    have nx := ih (i + 1) (by omega)
    refine Ev.step (fun k => by rw [impl_sameLeaves.l0]) ?_
    rw [w64 (x := (i : Int) + 1) (by omega) (by omega), w64 (x := sameN a b i + 1) (by omega) (by omega)]
    refine Ev.pos (by omega) (Ev.pos (by omega) (Ev.pos (by omega) (Ev.fix (show impl_hasLeaf.f b (rd_LI a (i : Int)) = some (decide (rd_LI a (i : Int) ∈ b)) from if_pos (spread_short hb)) ?_)))
    have hu : sameN a b (i + 1) = sameN a b i + (if rd_LI a (i : Int) ∈ b then 1 else 0) := rfl
    by_cases e : rd_LI a (i : Int) ∈ b
    · rw [hu, if_pos e] at nx
      exact Ev.pos (decide_eq_true e) nx
    · rw [hu, if_neg e, Int.add_zero] at nx
      exact Ev.neg (by rw [decide_eq_false e]; decide) nx
theorem sameLeaves_ev {a b : List (List Int)} (hb : spreadB b = true) (ha : a.length = 10) : Ev (fun k => impl_sameLeaves.f k a b) (sameN a b 10) := by
  unfold impl_sameLeaves.f
  rw [show (a.length : Int) = 10 by omega]
  exact sameLeaves_loop hb ha 10 0 (by omega)
theorem implSame_ev (a b : List (List Int)) : Ev (fun k => impl_SpreadSame.f k a b) (sameR a b) := by
  unfold impl_SpreadSame.f sameR
  refine Ev.fix (show impl_isSpread.f a = some (spreadB a) from rfl) ?_
  by_cases ha : spreadB a = true
  case neg => rw [Bool.eq_false_iff.2 ha]; exact Ev.neg (by decide) (Ev.done rfl)
  rw [ha]
  refine Ev.pos rfl (Ev.fix (show impl_isSpread.f b = some (spreadB b) from rfl) ?_)
  by_cases hb : spreadB b = true
  case neg => rw [Bool.eq_false_iff.2 hb]; exact Ev.neg (by decide) (Ev.done rfl)
  rw [hb]
  exact Ev.pos rfl (Ev.bind (sameLeaves_ev hb (spreadB_parts ha).1) (Ev.done rfl))
end Go.Proofs.Ytbfafjejmljcpaa.X

set_option linter.unusedVariables false
set_option linter.unusedSimpArgs false
namespace Go.Proofs.Ytbfafjejmljcpaa.X
open Go.RowKit Go.Proofs.YtbfafjejmljcpaaW.PrintWords Go.Proofs.YtbfafjejmljcpaaW.PrintLast Go.Proofs.Ytbfafjejmljcpaa.P

def restN (l : List (List Int)) : Nat → List (List Int)
  | 0 => []
  | n + 1 => if rd_LI l (n : Int) ∈ regL then restN l n else insL (restN l n) (rd_LI l (n : Int))
def insAll (l : List (List Int)) : List Int → List (List Int)
  | [] => l
  | x :: r => insAll (insL l (otherL x)) r
def deriveL (l : List (List Int)) : List (List Int) := insAll (restN l 10) [1, 3, 4, 5]
def deriveR (l : List (List Int)) : List (List Int) × Bool := if spreadB l = true ∧ (restN l 10).length = 6 then (deriveL l, true) else ([], false)
theorem restN_nines {l : List (List Int)} (h : spreadB l = true) (n : Nat) (hn : n ≤ 10) : (restN l n).length ≤ n ∧ ∀ a ∈ restN l n, a.length = 9 := by
  induction n with
  | zero => exact ⟨Nat.le_refl _, fun a ha => by cases ha⟩
  | succ n ih =>
    obtain ⟨h1, h2⟩ := ih (by omega)
    unfold restN
    by_cases e : rd_LI l (n : Int) ∈ regL
    · rw [if_pos e]; exact ⟨by omega, h2⟩
    · rw [if_neg e]
      refine ⟨by rw [insL_length]; omega, insL_nines h2 ?_⟩
      exact (leafB_parts (spread_leaf h (i := (n : Int)) (by omega) (by omega))).1
theorem derive_l1 {l : List (List Int)} (h : spreadB l = true) (o : List (List Int)) {i : Nat} (hi : i < 10) (ho : o.length ≤ 20) (h9 : ∀ a ∈ o, a.length = 9) {r : List (List Int) × Bool}
    (hr : Ev (fun k => spec_SpreadDerive.l0 k l regL (if rd_LI l (i : Int) ∈ regL then o else insL o (rd_LI l (i : Int))) ((i : Int) + 1)) r) (d : Nat) :
    ∀ (c : Int) (b : Bool), 0 ≤ c → c + d = 4 → (b = true ↔ ∃ j : Int, 0 ≤ j ∧ j < c ∧ rd_LI l (i : Int) = rd_LI regL j) → Ev (fun k => spec_SpreadDerive.l1 k l regL o (i : Int) b c) r := by
  have hl := (spreadB_parts h).1
  have h9i := (leafB_parts (spread_leaf h (i := (i : Int)) (by omega) (by omega))).1
  obtain ⟨r4, r9⟩ := regL_ok
  induction d with
  | zero =>
    intro c b c0 c1 hb
    have hin : b = true ↔ rd_LI l (i : Int) ∈ regL := by
      rw [hb]
      constructor
      · rintro ⟨j, j0, j1, e⟩
        rw [e]; exact rdL_mem j0 (by omega)
      · intro hm
        obtain ⟨j, hj, e⟩ := List.mem_iff_getElem.1 hm
        exact ⟨(j : Int), by omega, by omega, by rw [rdL_cast _ j hj, e]⟩
    refine Ev.step (fun k => by rw [spec_SpreadDerive.l1]) ?_
    rw [w64 (x := (i : Int) + 1) (by omega) (by omega)]
    refine Ev.neg (by omega) ?_
    by_cases e : b = true
    · rw [if_pos (hin.1 e)] at hr
      exact Ev.pos e hr
    · rw [if_neg (fun h => e (hin.2 h))] at hr
      refine Ev.neg e (Ev.fix rfl (Ev.pos (by omega) (Ev.pos (by omega) (Ev.pos (by rw [List.length_nil]; omega) (Ev.bind (put_ev h9 ?_ (by omega)) ?_)))))
      · rw [List.nil_append]; exact h9i
      · rw [List.nil_append]; exact hr
  | succ d ih =>
    intro c b c0 c1 hb
    refine Ev.step (fun k => by rw [spec_SpreadDerive.l1]) ?_
    rw [w64 (x := c + 1) (by omega) (by omega)]
    refine Ev.pos (by omega) ?_
    by_cases e : b = true
    · refine Ev.pos e (ih (c + 1) true (by omega) (by omega) ⟨fun _ => ?_, fun _ => rfl⟩)
      obtain ⟨j, j0, j1, h⟩ := hb.1 e
      exact ⟨j, j0, by omega, h⟩
    · have hc9 := r9 ⟨c.toNat, by omega⟩
      have ec : (((⟨c.toNat, by omega⟩ : Fin 4).val : Nat) : Int) = c := by show ((c.toNat : Nat) : Int) = c; omega
      rw [ec] at hc9
      refine Ev.neg e (Ev.pos (by omega) (Ev.pos (by omega) (Ev.pos c0 (Ev.pos (by omega) (Ev.bind (l6lSame_ev _ _ h9i hc9) (ih (c + 1) _ (by omega) (by omega) ?_))))))
      rw [decide_eq_true_iff]
      constructor
      · intro h; exact ⟨c, c0, by omega, h⟩
      · rintro ⟨j, j0, j1, h⟩
        by_cases ej : j = c
        · rw [← ej]; exact h
        · exact absurd (hb.2 ⟨j, j0, by omega, h⟩) e
theorem derive_l2 (L : List Int) (hL : L.length ≤ 10) (hx : ∀ x ∈ L, 0 < x ∧ x < 9) (d : Nat) : ∀ (i : Int) (o : List (List Int)), 0 ≤ i → i + d = L.length → o.length ≤ 20 + i → (∀ a ∈ o, a.length = 9) → Ev (fun k => spec_SpreadDerive.l2 k o L (L.length : Int) i) (insAll o (L.drop i.toNat), true) := by
  induction d with
  | zero =>
    intro i o i0 i1 ho h9
    refine Ev.step (fun k => by rw [spec_SpreadDerive.l2]) ?_
    rw [show L.drop i.toNat = [] from List.drop_eq_nil_of_le (by omega)]
    exact Ev.neg (by omega) (Ev.done rfl)
  | succ d ih =>
    intro i o i0 i1 ho h9
    have hm := hx _ (rd_mem (t := L) (i := i) (by omega) i0)
    have nx := ih (i + 1) (insL o (otherL (rd L i))) (by omega) (by omega) (by rw [insL_length]; omega) (insL_nines h9 (other_len _ hm.1 hm.2))
    have ed : L.drop i.toNat = rd L i :: L.drop (i + 1).toNat := by
      rw [List.drop_eq_getElem_cons (show i.toNat < L.length by omega), rd_getElem i0 (by omega), show i.toNat + 1 = (i + 1).toNat by omega]
    rw [ed]
    refine Ev.step (fun k => by rw [spec_SpreadDerive.l2]) ?_
    rw [w64 (x := i + 1) (by omega) (by omega)]
    exact Ev.pos (by omega) (Ev.pos i0 (Ev.pos (by omega) (Ev.bind (other_ev _ (by omega) hm.2) (Ev.bind (put_ev h9 (other_len _ hm.1 hm.2) (by omega)) nx))))
theorem derive_l0 {l : List (List Int)} (h : spreadB l = true) (d : Nat) : ∀ i : Nat, i + d = 10 → Ev (fun k => spec_SpreadDerive.l0 k l regL (restN l i) (i : Int)) (deriveR l) := by
  induction d with
  | zero =>
    intro i hi
    obtain rfl : i = 10 := by omega
    obtain ⟨h1, h2⟩ := restN_nines h 10 (by omega)
    refine Ev.step (fun k => by rw [spec_SpreadDerive.l0]) ?_
    refine Ev.neg (by omega) ?_
    unfold deriveR
    by_cases e : (restN l 10).length = 6
    · rw [if_pos ⟨h, e⟩]
      refine Ev.pos (by omega) (Ev.fix rfl ?_)
      exact derive_l2 [1, 3, 4, 5] (by decide) (by decide) 4 0 _ (by omega) (by decide) (by omega) h2
    · rw [if_neg (fun h => e h.2)]
      exact Ev.neg (by omega) (Ev.done rfl)
  | succ d ih =>
    intro i hi
    obtain ⟨h1, h2⟩ := restN_nines h i (by omega)
    refine Ev.step (fun k => by rw [spec_SpreadDerive.l0]) ?_
    refine Ev.pos (by omega) (derive_l1 h (restN l i) (by omega) (by omega) h2 (ih (i + 1) (by omega)) 4 0 false (by omega) (by omega) ⟨fun h => absurd h (by decide), fun ⟨j, j0, j1, _⟩ => absurd j1 (by omega)⟩)
theorem specDerive_ev (l : List (List Int)) : Ev (fun k => spec_SpreadDerive.f k l) (deriveR l) := by
  unfold spec_SpreadDerive.f
  refine Ev.bind (specSpread_ev l) ?_
  by_cases h : spreadB l = true
  · exact Ev.pos h (Ev.bind regulus_ev (derive_l0 h 10 0 (by omega)))
  · unfold deriveR
    rw [if_neg (fun h2 => h h2.1)]
    exact Ev.neg h (Ev.done rfl)
theorem insAll_nines (L : List Int) : ∀ o : List (List Int), (∀ x ∈ L, 0 < x ∧ x < 9) → (∀ a ∈ o, a.length = 9) → ∀ a ∈ insAll o L, a.length = 9 := by
  induction L with
  | nil => intro o _ h; exact h
  | cons x L ih => intro o hx h; exact ih _ (fun y hy => hx y (List.mem_cons_of_mem _ hy)) (insL_nines h (other_len _ (hx x List.mem_cons_self).1 (hx x List.mem_cons_self).2))
theorem insAll_length (L : List Int) : ∀ o : List (List Int), (insAll o L).length = o.length + L.length := by
  induction L with
  | nil => intro o; rfl
  | cons x L ih => intro o; show (insAll _ L).length = _; rw [ih, insL_length, List.length_cons]; omega
theorem deriveL_nines {l : List (List Int)} (h : spreadB l = true) : ∀ a ∈ deriveL l, a.length = 9 := insAll_nines _ _ (by decide) (restN_nines h 10 (by omega)).2
theorem deriveL_length (l : List (List Int)) : (deriveL l).length = (restN l 10).length + 4 := insAll_length _ _
end Go.Proofs.Ytbfafjejmljcpaa.X

namespace Go.Proofs.Ytbfafjejmljcpaa.P
open Go.RowKit Go.Proofs.YtbfafjejmljcpaaW.PrintWords Go.Proofs.YtbfafjejmljcpaaW.PrintLast
set_option linter.unusedVariables false
set_option linter.unusedSimpArgs false

def cmp_Less_int.f (a0 : Int) (a1 : Int) : Option (Bool) := (cmp_isNaN_int.f a0).bind fun t303 => (if t303 = true then ((cmp_isNaN_int.f a1).bind fun t304 => (if t304 = true then (some (decide (a0 < a1))) else (some true))) else (some (decide (a0 < a1))))
set_option maxHeartbeats 8000000 in
set_option maxRecDepth 100000 in
theorem cmp_Less_int.calls (a0 : Int) (a1 : Int) (r : Bool) (w : World) (h : cmp_Less_int.f a0 a1 = some r) :
  Calls Try.prog 90 #[.int .i64 a0, .int .i64 a1] w fun e w' => e = .returned (.bool r) ∧ Drawn0 w w' := by
 have H : ((cmp_isNaN_int.f a0).bind fun t303 => (if t303 = true then ((cmp_isNaN_int.f a1).bind fun t304 => (if t304 = true then (some (decide (a0 < a1))) else (some true))) else (some (decide (a0 < a1))))) = some r := h
 clear h
 replace H := Option.bind_eq_some_iff.mp H
 obtain ⟨t303, A30, H⟩ := H
 replace H : (if t303 = true then ((cmp_isNaN_int.f a1).bind fun t304 => (if t304 = true then (some (decide (a0 < a1))) else (some true))) else (some (decide (a0 < a1)))) = some r := H
 have A3 := Aside0.mk A30
 clear A30
 by_cases c4 : t303 = true
 ·subst c4
  have H1 : ((cmp_isNaN_int.f a1).bind fun t304 => (if t304 = true then (some (decide (a0 < a1))) else (some true))) = some r := by rw [if_pos rfl] at H; exact H
  clear H
  have H := H1
  clear H1
  replace H := Option.bind_eq_some_iff.mp H
  obtain ⟨t304, A50, H⟩ := H
  replace H : (if t304 = true then (some (decide (a0 < a1))) else (some true)) = some r := H
  have A5 := Aside0.mk A50
  clear A50
  by_cases c6 : t304 = true
  ·subst c6
   have H1 : (some (decide (a0 < a1))) = some r := by rw [if_pos rfl] at H; exact H
   clear H
   have H := H1
   clear H1
   obtain rfl := Option.some.inj H
   go_enter Try.func90, Try.ntmps90
   go_wp2_with (first | (refine goesL_ (some 6) rfl rfl Try.func126 (by kernel_rfl) rfl #[.int .i64 a0] rfl ll_ ?_; (with_reducible refine (cmp_isNaN_int.calls a0 true _ A3.out).mono ?_); rintro e w' ⟨rfl, ⟨nd, rfl⟩⟩; refine ⟨_, rfl, ?_⟩) | (go_at_call 126; (with_reducible refine (cmp_isNaN_int.calls a1 true _ A5.out).mono ?_); rintro e w' ⟨rfl, ⟨nd, rfl⟩⟩))
   go_ret
   exact ⟨by first | rfl | (simp; done) | (simp [*]; done), by repeat (first | exact Drawn0.refl _ | apply Drawn0.step)⟩
  ·replace c6 := Bool.eq_false_iff.mpr c6
   subst c6
   have H1 : (some true) = some r := by rw [if_neg (show ¬ (false = true) by decide)] at H; exact H
   clear H
   have H := H1
   clear H1
   obtain rfl := Option.some.inj H
   go_enter Try.func90, Try.ntmps90
   go_wp2_with (first | (refine goesL_ (some 6) rfl rfl Try.func126 (by kernel_rfl) rfl #[.int .i64 a0] rfl ll_ ?_; (with_reducible refine (cmp_isNaN_int.calls a0 true _ A3.out).mono ?_); rintro e w' ⟨rfl, ⟨nd, rfl⟩⟩; refine ⟨_, rfl, ?_⟩) | (go_at_call 126; (with_reducible refine (cmp_isNaN_int.calls a1 false _ A5.out).mono ?_); rintro e w' ⟨rfl, ⟨nd, rfl⟩⟩))
   go_ret
   exact ⟨by first | rfl | (simp; done) | (simp [*]; done), by repeat (first | exact Drawn0.refl _ | apply Drawn0.step)⟩
 ·replace c4 := Bool.eq_false_iff.mpr c4
  subst c4
  have H1 : (some (decide (a0 < a1))) = some r := by rw [if_neg (show ¬ (false = true) by decide)] at H; exact H
  clear H
  have H := H1
  clear H1
  obtain rfl := Option.some.inj H
  go_enter Try.func90, Try.ntmps90
  go_wp2_with (first | (refine goesL_ (some 6) rfl rfl Try.func126 (by kernel_rfl) rfl #[.int .i64 a0] rfl ll_ ?_; (with_reducible refine (cmp_isNaN_int.calls a0 false _ A3.out).mono ?_); rintro e w' ⟨rfl, ⟨nd, rfl⟩⟩; refine ⟨_, rfl, ?_⟩))
  go_ret
  exact ⟨by first | rfl | (simp; done) | (simp [*]; done), by repeat (first | exact Drawn0.refl _ | apply Drawn0.step)⟩
end Go.Proofs.Ytbfafjejmljcpaa.P

namespace Go.Proofs.Ytbfafjejmljcpaa.P
open Go.RowKit Go.Proofs.YtbfafjejmljcpaaW.PrintWords Go.Proofs.YtbfafjejmljcpaaW.PrintLast
set_option linter.unusedVariables false
set_option linter.unusedSimpArgs false

mutual
def slices_insertionSortOrdered_int.l0 : Nat → List Int → Int → Int → Int → Option (List Int)
 | 0, _, _, _, _ => none
 | k + 1, x0, x1, x2, x6 => if x6 < x2 then (slices_insertionSortOrdered_int.l1 k x0 x1 x2 x6 x6) else (some x0)
def slices_insertionSortOrdered_int.l1 : Nat → List Int → Int → Int → Int → Int → Option (List Int)
 | 0, _, _, _, _, _ => none
 | k + 1, x0, x1, x2, x6, x7 => if x7 > x1 then (if 0 ≤ x7 then (if x7 < (x0.length : Int) then (if 0 ≤ (wrap64 (x7 - 1)) then (if (wrap64 (x7 - 1)) < (x0.length : Int) then ((cmp_Less_int.f (rd x0 x7) (rd x0 (wrap64 (x7 - 1)))).bind fun t691 => (if t691 = true then (slices_insertionSortOrdered_int.l1 k ((x0.set (x7 : Int).toNat (rd x0 (wrap64 (x7 - 1)))).set ((wrap64 (x7 - 1)) : Int).toNat (rd x0 x7)) x1 x2 x6 (wrap64 (x7 - 1))) else (slices_insertionSortOrdered_int.l0 k x0 x1 x2 (wrap64 (x6 + 1))))) else (none)) else (none)) else (none)) else (none)) else (slices_insertionSortOrdered_int.l0 k x0 x1 x2 (wrap64 (x6 + 1)))
end
def slices_insertionSortOrdered_int.f (k : Nat) (l0 : List Int) (a1 : Int) (a2 : Int) : Option (List Int) := slices_insertionSortOrdered_int.l0 k l0 a1 a2 (wrap64 (a1 + 1))
def slices_insertionSortOrdered_int.T4 : Bool × List (List Nat × List Nat) := (true, [([], []), ([], []), ([0, 1], [0, 1]), ([2], [2]), ([3], [3]), ([3], [3]), ([4, 5, 3], [3, 4, 5]), ([6, 3], [3, 6]), ([3], [3]), ([3], [3]), ([9, 3], [3, 9]), ([8, 10, 3], [3, 8, 10]), ([11, 3], [3, 11]), ([7, 12, 3, 3], [3, 7, 12]), ([3, 13], [3, 13])])
def slices_insertionSortOrdered_int.B4 : List Nat := [0, 0, 3, 7, 15, 15, 63, 127, 15, 15, 527, 1807, 3855, 8191, 16383]
theorem slices_insertionSortOrdered_int.tab4 : rtab .any (opsOf Try.f129 4) = slices_insertionSortOrdered_int.T4 := by kernel_rfl
theorem slices_insertionSortOrdered_int.bits4 : waitsOk slices_insertionSortOrdered_int.T4.2 slices_insertionSortOrdered_int.B4 = true := by kernel_rfl
def slices_insertionSortOrdered_int.T6 : Bool × List (List Nat × List Nat) := (true, [([], []), ([], []), ([], []), ([], []), ([3], [3]), ([], []), ([], []), ([6], [6]), ([5, 7], [5, 7]), ([8], [8]), ([], []), ([], []), ([10, 11], [10, 11]), ([12], [12]), ([0, 1, 0, 1, 5, 6, 7, 8, 9, 13], [0, 1]), ([14, 9, 0, 1, 5, 6, 7, 8, 9, 13], [9, 14]), ([2, 4, 0, 1, 2, 3, 4, 5, 6, 7, 8, 9, 10, 11, 12, 13, 14, 15], [2, 4]), ([16, 13, 15, 0, 1, 2, 3, 4, 5, 6, 7, 8, 9, 10, 11, 12, 13, 14, 15], [13, 16])])
def slices_insertionSortOrdered_int.B6 : List Nat := [0, 0, 0, 0, 8, 0, 0, 64, 224, 480, 0, 0, 3072, 7168, 16355, 32739, 65535, 131071]
theorem slices_insertionSortOrdered_int.tab6 : rtab .any (opsOf Try.f129 6) = slices_insertionSortOrdered_int.T6 := by kernel_rfl
theorem slices_insertionSortOrdered_int.bits6 : waitsOk slices_insertionSortOrdered_int.T6.2 slices_insertionSortOrdered_int.B6 = true := by kernel_rfl
set_option maxHeartbeats 8000000 in
set_option maxRecDepth 100000 in
theorem slices_insertionSortOrdered_int.calls (k : Nat) (P0_ : Nat → Prop) (u9000_ : Value) (l0 : List Int) (a1 : Int) (a2 : Int) (r : List Int) (w0 w : World) (hB : Below w0.heap.size w0 w) (ho0 : Kd.R (Kd.int .i64) 3 w w0.heap.size P0_ u9000_ l0) (h : slices_insertionSortOrdered_int.f k l0 a1 a2 = some r) :
  Calls Try.prog 129 #[u9000_, .int .i64 a1, .int .i64 a2] w fun e w' => e = .returned (.tuple #[]) ∧ Kd.R (Kd.int .i64) 3 w' w0.heap.size (fun k_ => (P0_ k_ ∨ w.heap.size ≤ k_)) u9000_ r ∧ Below w0.heap.size w0 w' ∧ Kept w w' (fun k_ => P0_ k_) := by
 have HO0 := Aside0.mk (show Kd.R (Kd.int .i64) 3 w w0.heap.size (fun k_ => (P0_ k_ ∨ w.heap.size ≤ k_)) u9000_ l0 from Kd.R_mono ho0 (fun k_ hk => (.inl hk)))
 have HK := Aside0.mk (Kept.refl w (fun k_ => P0_ k_))
 have HW0 := Aside0.mk hB.size
 have HB := Aside0.mk hB
 clear hB
 have H : (slices_insertionSortOrdered_int.l0 k l0 a1 a2 (wrap64 (a1 + 1))) = some r := h
 clear h
 have H' := Aside0.mk H
 clear H
 go_enter Try.func129, Try.ntmps129
 go_wp2
 go_loopg [6] k (fun kq v6 w' => ∃ (x0_1 : List Int) (x6_1 : Int), v6 = .int .i64 x6_1 ∧ Aside0 (slices_insertionSortOrdered_int.l0 kq x0_1 a1 a2 x6_1 = some r) ∧ Aside0 (kq ≤ k) ∧ Aside0 (Kd.R (Kd.int .i64) 3 w' w0.heap.size (fun k_ => (P0_ k_ ∨ w.heap.size ≤ k_)) u9000_ x0_1) ∧ Aside0 (Kept w w' (fun k_ => P0_ k_)) ∧ Aside0 (Below w0.heap.size w0 w'))
 case atStart => exact ⟨(l0), (wrap64 (a1 + 1)), (by first | rfl | (simp; done) | (simp [*]; done)), H', ⟨Nat.le_refl _⟩, ⟨rr_ HO0⟩, ⟨by repeat (first | (with_reducible first | exact HK.out | apply Kept.alloc | apply Kept.drewN | apply Kept.drew) | exact HK.out)⟩, ⟨by repeat (first | (with_reducible first | exact HB.out | apply below_alloc | apply pw_below_drewN | apply below_drew1) | exact HB.out)⟩⟩
 case round =>
  clear H'
  try clear c1
  try clear p2
  obtain ⟨x0_1, x6_1, rfl, HA, HK1, HO_0, HK, HB⟩ := hrel
  cases gk with
  | zero => exact absurd HA.out (by simp [slices_insertionSortOrdered_int.l0])
  | succ k1 =>
   have H := HA.out
   clear HA
   simp only [slices_insertionSortOrdered_int.l0] at H
   by_cases c4 : x6_1 < a2
   ·rw [if_pos c4] at H
    have c4b0 : decide (x6_1 < a2) = true := decide_eq_true c4
    clear c4
    have H' := Aside0.mk H
    clear H
    go_wp2
    go_loopg [7] k1 (fun kq v7 w' => ∃ (x0_2 : List Int) (x7_2 : Int), v7 = .int .i64 x7_2 ∧ Aside0 (slices_insertionSortOrdered_int.l1 kq x0_2 a1 a2 x6_1 x7_2 = some r) ∧ Aside0 (kq ≤ k1) ∧ Aside0 (Kd.R (Kd.int .i64) 3 w' w0.heap.size (fun k_ => (P0_ k_ ∨ w.heap.size ≤ k_)) u9000_ x0_2) ∧ Aside0 (Kept w w' (fun k_ => P0_ k_)) ∧ Aside0 (Below w0.heap.size w0 w'))
    case atStart => exact ⟨(x0_1), (x6_1), (by first | rfl | (simp; done) | (simp [*]; done)), H', ⟨Nat.le_refl _⟩, ⟨rr_ HO_0⟩, ⟨by repeat (first | (with_reducible first | exact HK.out | apply Kept.alloc | apply Kept.drewN | apply Kept.drew) | exact HK.out)⟩, ⟨by repeat (first | (with_reducible first | exact HB.out | apply below_alloc | apply pw_below_drewN | apply below_drew1) | exact HB.out)⟩⟩
    case round =>
     clear H'
     try clear c1
     try clear p2
     try clear c4
     try clear c4b0
     try clear p2
     obtain ⟨x0_2, x7_2, rfl, HA, HK2, HO_0, HK, HB⟩ := hrel
     cases gk with
     | zero => exact absurd HA.out (by simp [slices_insertionSortOrdered_int.l1])
     | succ k2 =>
      have H := HA.out
      clear HA
      simp only [slices_insertionSortOrdered_int.l1] at H
      by_cases c5 : x7_2 > a1
      ·rw [if_pos c5] at H
       have c5b0 : decide (a1 < x7_2) = true := decide_eq_true c5
       clear c5
       by_cases c6 : 0 ≤ x7_2
       ·rw [if_pos c6] at H
        have c6b0 : decide (0 ≤ x7_2) = true := decide_eq_true c6
        clear c6
        by_cases c7 : x7_2 < (x0_2.length : Int)
        ·rw [if_pos c7] at H
         have c7b0 : decide (x7_2 < (x0_2.length : Int)) = true := decide_eq_true c7
         clear c7
         obtain ⟨ji8, hji8⟩ : ∃ j_ : Int, (wrap64 (x7_2 - 1)) = j_ := ⟨_, rfl⟩
         replace H : (if 0 ≤ (ji8) then (if (ji8) < (x0_2.length : Int) then ((cmp_Less_int.f (rd x0_2 x7_2) (rd x0_2 (ji8))).bind fun t691 => (if t691 = true then (slices_insertionSortOrdered_int.l1 k2 ((x0_2.set (x7_2 : Int).toNat (rd x0_2 (ji8))).set ((ji8) : Int).toNat (rd x0_2 x7_2)) a1 a2 x6_1 ji8) else (slices_insertionSortOrdered_int.l0 k2 x0_2 a1 a2 (wrap64 (x6_1 + 1))))) else (none)) else (none)) = some r := by first | (rw [hji8] at H; exact H) | (simp only [hji8] at H ⊢; exact H)
         have hji8w : (IntKind.i64.wrap (x7_2 - 1)) = ji8 := (i64_w _).trans hji8
         by_cases c9 : 0 ≤ (ji8)
         ·rw [if_pos c9] at H
          have c9b0 : decide (0 ≤ (ji8)) = true := decide_eq_true c9
          clear c9
          by_cases c10 : (ji8) < (x0_2.length : Int)
          ·rw [if_pos c10] at H
           have c10b0 : decide ((ji8) < (x0_2.length : Int)) = true := decide_eq_true c10
           clear c10
           replace H := Option.bind_eq_some_iff.mp H
           obtain ⟨t691, A110, H⟩ := H
           replace H : (if t691 = true then (slices_insertionSortOrdered_int.l1 k2 ((x0_2.set (x7_2 : Int).toNat (rd x0_2 (ji8))).set ((ji8) : Int).toNat (rd x0_2 x7_2)) a1 a2 x6_1 ji8) else (slices_insertionSortOrdered_int.l0 k2 x0_2 a1 a2 (wrap64 (x6_1 + 1)))) = some r := H
           have A11 := Aside0.mk A110
           clear A110
           by_cases c12 : t691 = true
           ·subst c12
            have H1 : (slices_insertionSortOrdered_int.l1 k2 ((x0_2.set (x7_2 : Int).toNat (rd x0_2 (ji8))).set ((ji8) : Int).toNat (rd x0_2 x7_2)) a1 a2 x6_1 ji8) = some r := by rw [if_pos rfl] at H; exact H
            clear H
            have H := H1
            clear H1
            obtain ⟨y694, hy694⟩ : ∃ y_ : List Int, y_ = (x0_2.set (x7_2 : Int).toNat (rd x0_2 (ji8))) := ⟨_, rfl⟩
            replace H : (slices_insertionSortOrdered_int.l1 k2 (y694.set ((ji8) : Int).toNat (rd x0_2 x7_2)) a1 a2 x6_1 ji8) = some r := by first | (rw [hy694]; with_reducible exact H) | (have H2_ := (Option.bind_some _ _).symm.trans H; rw [hy694]; with_reducible exact H2_) | (have H2_ := (Option.bind_some _ _).symm.trans H; with_reducible exact H2_) | with_reducible exact H | (rw [hy694]; exact H) | exact H
            have Ny694 := Aside0.mk hy694
            clear hy694
            obtain ⟨y695, hy695⟩ : ∃ y_ : List Int, y_ = (y694.set ((ji8) : Int).toNat (rd x0_2 x7_2)) := ⟨_, rfl⟩
            replace H : (slices_insertionSortOrdered_int.l1 k2 y695 a1 a2 x6_1 ji8) = some r := by first | (rw [hy695]; with_reducible exact H) | (have H2_ := (Option.bind_some _ _).symm.trans H; rw [hy695]; with_reducible exact H2_) | (have H2_ := (Option.bind_some _ _).symm.trans H; with_reducible exact H2_) | with_reducible exact H | (rw [hy695]; exact H) | exact H
            have Ny695 := Aside0.mk hy695
            clear hy695
            have H' := Aside0.mk H
            clear H
            try go_wp2
            have n0_ := Aside0.mk (Kd.R_drew HO_0.out)
            have n1_ := Aside0.mk (Kept.drew HK.out)
            have n2_ := Aside0.mk (below_drew1 HB.out)
            clear HO_0
            clear HK
            clear HB
            have HO_0 := n0_
            have HK := n1_
            have HB := n2_
            clear n0_ n1_ n2_
            obtain ⟨Ao16, co16, eo16⟩ := Kd.R_slice HO_0.out
            (first | subst eo16 | (injection eo16 with f1_ f2_ f3_; have f4_ := f1_.symm; have f5_ := f3_.symm; clear f1_ f2_ f3_; subst f4_; subst f5_))
            have p689 : 0 ≤ (x7_2 : Int) := dd_
            have q689 : x7_2 < (x0_2.length : Int) := dd_
            obtain ⟨ad689, e689, hx689_0⟩ := Kd.at_int (Kd.R_reads' HO_0.out).2.2 x7_2 p689 q689
            cases e689
            replace p689 := eq_true p689
            replace q689 := eq_true q689
            have p690 : 0 ≤ ((ji8) : Int) := dd_
            have q690 : (ji8) < (x0_2.length : Int) := dd_
            obtain ⟨ad690, e690, hx690_0⟩ := Kd.at_int (Kd.R_reads' HO_0.out).2.2 (ji8) p690 q690
            obtain rfl : ad689 = ad690 := (by injection e690)
            replace p690 := eq_true p690
            replace q690 := eq_true q690
            refine start_ (n := 15) (S := fun w' => w'.cell? (ad689.add (x7_2).toNat) = some (.int .i64 (rd x0_2 x7_2)) ∧ w'.cell? (ad689.add ((ji8)).toNat) = some (.int .i64 (rd x0_2 (ji8)))) (ds := []) #[F_,F_,F_,F_,F_,F_,F_,F_,F_,F_,F_,F_,F_,F_,F_] (by kernel_rfl) rfl rfl ⟨hx689_0, hx690_0⟩ (fun hHeld => ?_); refine with_tabW slices_insertionSortOrdered_int.tab4 slices_insertionSortOrdered_int.bits4 (fun HT_ HW_ => ?_)
            generalize wr.drew = w15 at HO_0 HK HB hx689_0 hx690_0 hHeld ⊢
            refine p_ 0 16 (m_ 15 1) HT_.out ?_
            refine p_ 1 17 (m_ 15 3) HT_.out ?_
            refine p_ 2 18 (m_ 15 7) HT_.out ?_
            refine p_ 3 19 (m_ 15 15) HT_.out ?_
            refine p_ 4 20 (m_ 15 31) HT_.out ?_
            refine p_ 5 21 (m_ 15 63) HT_.out ?_
            refine p_ 6 22 (m_ 15 127) HT_.out ?_
            refine p_ 8 24 (m_ 15 383) HT_.out ?_
            refine p_ 9 25 (m_ 15 895) HT_.out ?_
            refine p_ 10 26 (m_ 15 1919) HT_.out ?_
            refine p_ 11 27 (m_ 15 3967) HT_.out ?_
            refine t2_ 7 23 (m_ 15 4095) HT_.out HW_.out hHeld ?_
            refine t2_ 12 28 (m_ 15 8191) HT_.out HW_.out hHeld ?_
            refine one_ (i := 13) (N := some 29) (m_ 15 16383) rfl rfl (one_of HT_.out (by kernel_rfl)) (by decide) (fun K hK => ?_)
            refine goes_ Try.func90 (by kernel_rfl) rfl #[.int .i64 (rd x0_2 x7_2), .int .i64 (rd x0_2 (ji8))] (by rfl) rfl rfl (by (try simp only [List.map_toArray, List.map_cons, List.map_nil]); first | done | (simp only [hji8]; rfl) | rfl | (simp only [List.length_drop, List.length_take]; rfl)) ?_
            with_reducible refine (cmp_Less_int.calls (rd x0_2 x7_2) (rd x0_2 (ji8)) true _ A11.out).mono ?_
            rintro e w' ⟨rfl, ⟨nd, rfl⟩⟩
            refine ⟨_, rfl, ?_⟩
            refine hK.out _ _ ⟨hHeld.1, hHeld.2⟩ (fun hHeld => ?_)
            clear hK K
            refine norm_ (a' := ?_) ?_ ?_; rotate_left; (show Act.put _ (some 29) _ = _; simp only [Act.put, List.setIfInBounds_toArray, List.set_cons_zero, List.set_cons_succ, i64_w, i32_w]; rfl)
            refine p_ 14 30 (m_ 15 32767) HT_.out ?_
            refine done_ (done_of HT_.out (by kernel_rfl)) ?_
            try go_wp2
            (try (rw [dself_ w15]; generalize hq_ : World.drewN w15 _ = w15; have n0_ : Aside0 (Kd.R (Kd.int .i64) 3 w15 w0.heap.size (fun k_ => (P0_ k_ ∨ w.heap.size ≤ k_)) (.slice (some ad689) x0_2.length co16) x0_2) := ⟨by rw [← hq_]; exact (rr_ HO_0)⟩; have n1_ : Aside0 (Kept w w15 (fun k_ => P0_ k_)) := ⟨by rw [← hq_]; exact (by repeat (first | (with_reducible first | exact HK.out | apply Kept.alloc | apply Kept.drewN | apply Kept.drew) | exact HK.out))⟩; have n2_ : Aside0 (Below w0.heap.size w0 w15) := ⟨by rw [← hq_]; exact (bb_ HB)⟩; clear HO_0 HK HB hq_; have HO_0 := n0_; have HK := n1_; have HB := n2_; clear n0_ n1_ n2_))
            have n0_ := Aside0.mk (Kd.R_drew HO_0.out)
            have n1_ := Aside0.mk (Kept.drew HK.out)
            have n2_ := Aside0.mk (below_drew1 HB.out)
            clear HO_0
            clear HK
            clear HB
            have HO_0 := n0_
            have HK := n1_
            have HB := n2_
            clear n0_ n1_ n2_
            have p692 : 0 ≤ ((ji8) : Int) := dd_
            have q692 : (ji8) < (x0_2.length : Int) := dd_
            obtain ⟨ad692, e692, hx692_0⟩ := Kd.at_int (Kd.R_reads' HO_0.out).2.2 (ji8) p692 q692
            obtain rfl : ad689 = ad692 := (by injection e692)
            replace p692 := eq_true p692
            replace q692 := eq_true q692
            have p693 : 0 ≤ (x7_2 : Int) := dd_
            have q693 : x7_2 < (x0_2.length : Int) := dd_
            obtain ⟨ad693, e693, hx693_0⟩ := Kd.at_int (Kd.R_reads' HO_0.out).2.2 x7_2 p693 q693
            obtain rfl : ad689 = ad693 := (by injection e693)
            replace p693 := eq_true p693
            replace q693 := eq_true q693
            have p13 : 0 ≤ (x7_2 : Int) := dd_
            have q13 : (x7_2 : Int) < ((x0_2.length : Int) : Int) := dd_
            obtain ⟨go13, co13, eo13, gb13, gl13, cl13, HG13⟩ := Kd.R_form HO_0.out (by omega)
            (first | cases eo13 | (injection eo13 with ea_ en_ ec_; (first | subst ea_ | (injection ea_ with ea_; subst ea_)); subst ec_; clear en_))
            have GB13 := Aside0.mk gb13
            have GG13 := Aside0.mk HG13
            clear gb13 gl13 HG13
            have HMgo13 := Aside0.mk (show (P0_ go13 ∨ w.heap.size ≤ go13) from (HO_0.out.1 _ rfl))
            (first | simp only [add_plain] at hx689_0 | skip)
            (first | simp only [add_plain] at hx690_0 | skip)
            (first | simp only [add_plain] at hx692_0 | skip)
            (first | simp only [add_plain] at hx693_0 | skip)
            obtain ⟨hx13_0, hf13_0⟩ := Kd.R_celln 0 HO_0.out (x7_2 : Int) p13 q13
            replace p13 := eq_true p13
            replace q13 := eq_true q13
            have HP18 := Kd.R_putn HO_0.out (x7_2 : Int) (rd x0_2 (ji8))
            rw [← Ny694.out] at HP18
            have HQ18 := Aside0.mk HP18
            clear HP18
            have p14 : 0 ≤ ((ji8) : Int) := dd_
            have q14 : ((ji8) : Int) < ((x0_2.length : Int) : Int) := dd_
            obtain ⟨hx14_0, hf14_0⟩ := Kd.R_celln 0 HQ18.out ((ji8) : Int) p14 q14
            replace p14 := eq_true p14
            replace q14 := eq_true q14
            have HP19 := Kd.R_putn HQ18.out ((ji8) : Int) (rd x0_2 x7_2)
            rw [← Ny695.out] at HP19
            have HQ19 := Aside0.mk HP19
            clear HP19
            refine start_ (n := 18) (S := fun w' => w'.cell? ⟨go13, ((ji8)).toNat, none⟩ = some (.int .i64 (rd x0_2 (ji8))) ∧ w'.cell? ⟨go13, (x7_2).toNat, none⟩ = some (.int .i64 (rd x0_2 x7_2))) (ds := [15, 17]) #[F_,F_,F_,F_,F_,F_,F_,F_,F_,F_,F_,F_,F_,F_,F_,F_,F_,F_] (by kernel_rfl) rfl rfl ⟨hx692_0, hx693_0⟩ (fun hHeld => ?_); refine with_tabW slices_insertionSortOrdered_int.tab6 slices_insertionSortOrdered_int.bits6 (fun HT_ HW_ => ?_)
            generalize w15.drew = w17 at HO_0 HK HB GG13 HQ18 HQ19 hf13_0 hf14_0 hx13_0 hx14_0 hx689_0 hx690_0 hx692_0 hx693_0 hHeld ⊢
            refine p_ 0 33 (m_ 18 1) HT_.out ?_
            refine p_ 1 34 (m_ 18 3) HT_.out ?_
            refine p_ 2 35 (m_ 18 7) HT_.out ?_
            refine p_ 3 36 (m_ 18 15) HT_.out ?_
            refine p_ 4 37 (m_ 18 31) HT_.out ?_
            refine p_ 5 38 (m_ 18 63) HT_.out ?_
            refine p_ 6 39 (m_ 18 127) HT_.out ?_
            refine p_ 7 40 (m_ 18 255) HT_.out ?_
            refine p_ 8 41 (m_ 18 511) HT_.out ?_
            refine p_ 10 43 (m_ 18 1535) HT_.out ?_
            refine p_ 11 44 (m_ 18 3583) HT_.out ?_
            refine p_ 12 45 (m_ 18 7679) HT_.out ?_
            refine t2_ 9 42 (m_ 18 8191) HT_.out HW_.out hHeld ?_
            refine t2_ 13 46 (m_ 18 16383) HT_.out HW_.out hHeld ?_
            refine p_ 14 47 (m_ 18 32767) HT_.out ?_
            refine last_ (i := 15) (N := none) (m_ 18 65535) rfl rfl (one_of HT_.out (by kernel_rfl)) (by decide) (fun K hK => ?_)
            refine skip_ (w1 := ?_) (by rfl) rfl ?_ ?_; rotate_left; (go_simp; rfl)
            refine hK.out _ _ ?_
            clear hK K
            refine p_ 16 48 (m_ 18 131071) HT_.out ?_
            refine last_ (i := 17) (N := none) (m_ 18 262143) rfl rfl (one_of HT_.out (by kernel_rfl)) (by decide) (fun K hK => ?_)
            refine skip_ (w1 := ?_) (by rfl) rfl ?_ ?_; rotate_left; (go_simp; rfl)
            refine hK.out _ _ ?_
            clear hK K
            refine done_ (done_of HT_.out (by kernel_rfl)) ?_
            try go_wp2
            go_roundg k2
            case measure => have := HK1.out; have := HK2.out; omega
            case rel => exact ⟨(y695), (ji8), (by first | rfl | (simp; done) | (simp only [← hji8] <;> (first | rfl | simp)) | (simp [*]; done)), H', ⟨by have := HK1.out; have := HK2.out; omega⟩, ⟨rr_ HQ19⟩, ⟨by repeat (first | (with_reducible first | exact HK.out | apply Kept.alloc | apply Kept.drewN | apply Kept.drew | refine Kept.setCell ?_ HMgo13.out _ | refine Kept.setCell ?_ HMgo13.out _) | exact HK.out)⟩, ⟨by repeat (first | (with_reducible first | exact HB.out | apply below_alloc | apply pw_below_drewN | apply below_drew1 | refine below_set ?_ GB13.out | refine below_set ?_ GB13.out) | exact HB.out)⟩⟩
           ·replace c12 := Bool.eq_false_iff.mpr c12
            subst c12
            have H1 : (slices_insertionSortOrdered_int.l0 k2 x0_2 a1 a2 (wrap64 (x6_1 + 1))) = some r := by rw [if_neg (show ¬ (false = true) by decide)] at H; exact H
            clear H
            have H := H1
            clear H1
            have H' := Aside0.mk H
            clear H
            try go_wp2
            have n0_ := Aside0.mk (Kd.R_drew HO_0.out)
            have n1_ := Aside0.mk (Kept.drew HK.out)
            have n2_ := Aside0.mk (below_drew1 HB.out)
            clear HO_0
            clear HK
            clear HB
            have HO_0 := n0_
            have HK := n1_
            have HB := n2_
            clear n0_ n1_ n2_
            obtain ⟨Ao21, co21, eo21⟩ := Kd.R_slice HO_0.out
            (first | subst eo21 | (injection eo21 with f1_ f2_ f3_; have f4_ := f1_.symm; have f5_ := f3_.symm; clear f1_ f2_ f3_; subst f4_; subst f5_))
            have p689 : 0 ≤ (x7_2 : Int) := dd_
            have q689 : x7_2 < (x0_2.length : Int) := dd_
            obtain ⟨ad689, e689, hx689_0⟩ := Kd.at_int (Kd.R_reads' HO_0.out).2.2 x7_2 p689 q689
            cases e689
            replace p689 := eq_true p689
            replace q689 := eq_true q689
            have p690 : 0 ≤ ((ji8) : Int) := dd_
            have q690 : (ji8) < (x0_2.length : Int) := dd_
            obtain ⟨ad690, e690, hx690_0⟩ := Kd.at_int (Kd.R_reads' HO_0.out).2.2 (ji8) p690 q690
            obtain rfl : ad689 = ad690 := (by injection e690)
            replace p690 := eq_true p690
            replace q690 := eq_true q690
            refine start_ (n := 15) (S := fun w' => w'.cell? (ad689.add (x7_2).toNat) = some (.int .i64 (rd x0_2 x7_2)) ∧ w'.cell? (ad689.add ((ji8)).toNat) = some (.int .i64 (rd x0_2 (ji8)))) (ds := []) #[F_,F_,F_,F_,F_,F_,F_,F_,F_,F_,F_,F_,F_,F_,F_] (by kernel_rfl) rfl rfl ⟨hx689_0, hx690_0⟩ (fun hHeld => ?_); refine with_tabW slices_insertionSortOrdered_int.tab4 slices_insertionSortOrdered_int.bits4 (fun HT_ HW_ => ?_)
            generalize wr.drew = w20 at HO_0 HK HB hx689_0 hx690_0 hHeld ⊢
            refine p_ 0 16 (m_ 15 1) HT_.out ?_
            refine p_ 1 17 (m_ 15 3) HT_.out ?_
            refine p_ 2 18 (m_ 15 7) HT_.out ?_
            refine p_ 3 19 (m_ 15 15) HT_.out ?_
            refine p_ 4 20 (m_ 15 31) HT_.out ?_
            refine p_ 5 21 (m_ 15 63) HT_.out ?_
            refine p_ 6 22 (m_ 15 127) HT_.out ?_
            refine p_ 8 24 (m_ 15 383) HT_.out ?_
            refine p_ 9 25 (m_ 15 895) HT_.out ?_
            refine p_ 10 26 (m_ 15 1919) HT_.out ?_
            refine p_ 11 27 (m_ 15 3967) HT_.out ?_
            refine t2_ 7 23 (m_ 15 4095) HT_.out HW_.out hHeld ?_
            refine t2_ 12 28 (m_ 15 8191) HT_.out HW_.out hHeld ?_
            refine one_ (i := 13) (N := some 29) (m_ 15 16383) rfl rfl (one_of HT_.out (by kernel_rfl)) (by decide) (fun K hK => ?_)
            refine goes_ Try.func90 (by kernel_rfl) rfl #[.int .i64 (rd x0_2 x7_2), .int .i64 (rd x0_2 (ji8))] (by rfl) rfl rfl (by (try simp only [List.map_toArray, List.map_cons, List.map_nil]); first | done | (simp only [hji8]; rfl) | rfl | (simp only [List.length_drop, List.length_take]; rfl)) ?_
            with_reducible refine (cmp_Less_int.calls (rd x0_2 x7_2) (rd x0_2 (ji8)) false _ A11.out).mono ?_
            rintro e w' ⟨rfl, ⟨nd, rfl⟩⟩
            refine ⟨_, rfl, ?_⟩
            refine hK.out _ _ ⟨hHeld.1, hHeld.2⟩ (fun hHeld => ?_)
            clear hK K
            refine norm_ (a' := ?_) ?_ ?_; rotate_left; (show Act.put _ (some 29) _ = _; simp only [Act.put, List.setIfInBounds_toArray, List.set_cons_zero, List.set_cons_succ, i64_w, i32_w]; rfl)
            refine p_ 14 30 (m_ 15 32767) HT_.out ?_
            refine done_ (done_of HT_.out (by kernel_rfl)) ?_
            try go_wp2
            go_roundg k2
            case measure => have := HK1.out; have := HK2.out; omega
            case rel => exact ⟨(x0_2), (wrap64 (x6_1 + 1)), (by first | rfl | (simp; done) | (simp [*]; done)), H', ⟨by have := HK1.out; have := HK2.out; omega⟩, ⟨rr_ HO_0⟩, ⟨by repeat (first | (with_reducible first | exact HK.out | apply Kept.alloc | apply Kept.drewN | apply Kept.drew) | exact HK.out)⟩, ⟨by repeat (first | (with_reducible first | exact HB.out | apply below_alloc | apply pw_below_drewN | apply below_drew1) | exact HB.out)⟩⟩
          ·rw [if_neg c10] at H
           exact absurd H (by simp)
         ·rw [if_neg c9] at H
          exact absurd H (by simp)
        ·rw [if_neg c7] at H
         exact absurd H (by simp)
       ·rw [if_neg c6] at H
        exact absurd H (by simp)
      ·rw [if_neg c5] at H
       have c5b0 : decide (a1 < x7_2) = false := decide_eq_false c5
       clear c5
       have H' := Aside0.mk H
       clear H
       try go_wp2
       have n0_ := Aside0.mk (Kd.R_drew HO_0.out)
       have n1_ := Aside0.mk (Kept.drew HK.out)
       have n2_ := Aside0.mk (below_drew1 HB.out)
       clear HO_0
       clear HK
       clear HB
       have HO_0 := n0_
       have HK := n1_
       have HB := n2_
       clear n0_ n1_ n2_
       refine start_ (n := 15) (S := fun w' => True) (ds := []) #[F_,F_,F_,F_,F_,F_,F_,F_,F_,F_,F_,F_,F_,F_,F_] (by kernel_rfl) rfl rfl trivial (fun hHeld => ?_); refine with_tabW slices_insertionSortOrdered_int.tab4 slices_insertionSortOrdered_int.bits4 (fun HT_ HW_ => ?_)
       generalize wr.drew = w22 at HO_0 HK HB hHeld ⊢
       refine p_ 0 16 (m_ 15 1) HT_.out ?_
       refine p_ 1 17 (m_ 15 3) HT_.out ?_
       refine p_ 2 18 (m_ 15 7) HT_.out ?_
       refine p_ 3 19 (m_ 15 15) HT_.out ?_
       refine u_ 4 20 (m_ 15 31) HT_.out ?_
       refine u_ 5 21 (m_ 15 63) HT_.out ?_
       refine u_ 6 22 (m_ 15 127) HT_.out ?_
       refine u_ 7 23 (m_ 15 255) HT_.out ?_
       refine u_ 8 24 (m_ 15 511) HT_.out ?_
       refine u_ 9 25 (m_ 15 1023) HT_.out ?_
       refine u_ 10 26 (m_ 15 2047) HT_.out ?_
       refine u_ 11 27 (m_ 15 4095) HT_.out ?_
       refine u_ 12 28 (m_ 15 8191) HT_.out ?_
       refine u_ 13 29 (m_ 15 16383) HT_.out ?_
       refine p_ 14 30 (m_ 15 32767) HT_.out ?_
       refine done_ (done_of HT_.out (by kernel_rfl)) ?_
       try go_wp2
       go_roundg k2
       case measure => have := HK1.out; have := HK2.out; omega
       case rel => exact ⟨(x0_2), (wrap64 (x6_1 + 1)), (by first | rfl | (simp; done) | (simp [*]; done)), H', ⟨by have := HK1.out; have := HK2.out; omega⟩, ⟨rr_ HO_0⟩, ⟨by repeat (first | (with_reducible first | exact HK.out | apply Kept.alloc | apply Kept.drewN | apply Kept.drew) | exact HK.out)⟩, ⟨by repeat (first | (with_reducible first | exact HB.out | apply below_alloc | apply pw_below_drewN | apply below_drew1) | exact HB.out)⟩⟩
   ·rw [if_neg c4] at H
    have c4b0 : decide (x6_1 < a2) = false := decide_eq_false c4
    clear c4
    obtain rfl := Option.some.inj H
    go_wp2
    first | go_end0 | ((try simp only [Exit.inBlock, Exit.then]); refine bodyPost_ret (results_none rfl _ _ _) rfl ?_)
    exact ⟨ee_, by (with_reducible repeat (first | apply Kd.R_alloc | apply Kd.R_drewN | apply Kd.R_drew)); exact HO_0.out, bb_ HB, by repeat (first | (with_reducible first | exact HK.out | apply Kept.alloc | apply Kept.drewN | apply Kept.drew) | exact HK.out)⟩
end Go.Proofs.Ytbfafjejmljcpaa.P

set_option linter.unusedVariables false
set_option linter.unusedSimpArgs false
namespace Go.Proofs.Ytbfafjejmljcpaa.P
open Go.RowKit Go.Proofs.YtbfafjejmljcpaaW.PrintWords Go.Proofs.YtbfafjejmljcpaaW.PrintLast

def slices_pdqsortOrdered_int.f (k : Nat) (l0 : List Int) (a1 a2 a3 : Int) : Option (List Int) := if 0 ≤ a1 ∧ a1 ≤ a2 ∧ a2 ≤ 4611686018427387904 ∧ a2 - a1 ≤ 12 then slices_insertionSortOrdered_int.f k l0 a1 a2 else none
set_option maxHeartbeats 4000000 in
set_option maxRecDepth 100000 in
theorem slices_pdqsortOrdered_int.calls (k : Nat) (P0_ : Nat → Prop) (u9000_ : Value) (l0 : List Int) (a1 a2 a3 : Int) (r : List Int) (w0 w : World) (hB : Below w0.heap.size w0 w) (ho0 : Kd.R (Kd.int .i64) 3 w w0.heap.size P0_ u9000_ l0) (h : slices_pdqsortOrdered_int.f k l0 a1 a2 a3 = some r) :
    Calls Try.prog 98 #[u9000_, .int .i64 a1, .int .i64 a2, .int .i64 a3] w fun e w' => e = .returned (.tuple #[]) ∧ Kd.R (Kd.int .i64) 3 w' w0.heap.size (fun k_ => (P0_ k_ ∨ w.heap.size ≤ k_)) u9000_ r ∧ Below w0.heap.size w0 w' ∧ Kept w w' (fun k_ => P0_ k_) := by
  unfold slices_pdqsortOrdered_int.f at h
  by_cases hc : 0 ≤ a1 ∧ a1 ≤ a2 ∧ a2 ≤ 4611686018427387904 ∧ a2 - a1 ≤ 12
  case neg => rw [if_neg hc] at h; exact absurd h (by simp)
  rw [if_pos hc] at h
  obtain ⟨h0, h1, h2, h3⟩ := hc
  have HS := Aside0.mk (slices_insertionSortOrdered_int.calls k P0_ u9000_ l0 a1 a2 r w0 w hB ho0 h)
  clear hB ho0 h
  go_enter Try.func98, Try.ntmps98
  go_wp2
  go_loopg [1, 2, 3] 1 (fun kq v1 v2 v3 w' => v1 = .int .i64 a1 ∧ v2 = .int .i64 a2 ∧ v3 = .int .i64 a3 ∧ Aside0 (w' = w))
  case atStart => exact ⟨rfl, rfl, rfl, ⟨rfl⟩⟩
  case round =>
    obtain ⟨rfl, rfl, rfl, HW⟩ := hrel
    have hw := HW.out
    subst hw
    have e12 : wrap64 (a2 - a1) = a2 - a1 := by unfold wrap64; omega
    have c12 : decide (a2 - a1 ≤ 12) = true := decide_eq_true h3
    go_wp2_with (go_at_call 129; refine HS.out.mono ?_; rintro e w' ⟨rfl, hr', hb', hk'⟩)
    first | go_end0 | ((try simp only [Exit.inBlock, Exit.then]); refine bodyPost_ret (results_none rfl _ _ _) rfl ?_)
    exact ⟨rfl, hr', hb', hk'⟩
end Go.Proofs.Ytbfafjejmljcpaa.P

namespace Go.Proofs.Ytbfafjejmljcpaa.P
open Go.RowKit Go.Proofs.YtbfafjejmljcpaaW.PrintWords Go.Proofs.YtbfafjejmljcpaaW.PrintLast Go.Proofs.YtbfafjejmljcpaaW.PrintMore
set_option linter.unusedVariables false
set_option linter.unusedSimpArgs false

def slices_Sort_int_int.f (k : Nat) (l0 : List Int) : Option (List Int) := (bits_Len.f (IntKind.u64.wrap ((l0.length : Int)))).bind fun t804 => ((slices_pdqsortOrdered_int.f k l0 0 (l0.length : Int) t804).bind fun t805 => (some t805))
set_option maxHeartbeats 8000000 in
set_option maxRecDepth 100000 in
theorem slices_Sort_int_int.calls (k : Nat) (P0_ : Nat → Prop) (u9000_ : Value) (l0 : List Int) (r : List Int) (w0 w : World) (hB : Below w0.heap.size w0 w) (ho0 : Kd.R (Kd.int .i64) 3 w w0.heap.size P0_ u9000_ l0) (h : slices_Sort_int_int.f k l0 = some r) :
  Calls Try.prog 63 #[u9000_] w fun e w' => e = .returned (.tuple #[]) ∧ Kd.R (Kd.int .i64) 3 w' w0.heap.size (fun k_ => (P0_ k_ ∨ w.heap.size ≤ k_)) u9000_ r ∧ Below w0.heap.size w0 w' ∧ Kept w w' (fun k_ => P0_ k_) := by
 have HO0 := Aside0.mk (show Kd.R (Kd.int .i64) 3 w w0.heap.size (fun k_ => (P0_ k_ ∨ w.heap.size ≤ k_)) u9000_ l0 from Kd.R_mono ho0 (fun k_ hk => (.inl hk)))
 have HK := Aside0.mk (Kept.refl w (fun k_ => P0_ k_))
 have HW0 := Aside0.mk hB.size
 have HB := Aside0.mk hB
 clear hB
 have H : ((bits_Len.f (IntKind.u64.wrap ((l0.length : Int)))).bind fun t804 => ((slices_pdqsortOrdered_int.f k l0 0 (l0.length : Int) t804).bind fun t805 => (some t805))) = some r := h
 clear h
 replace H := Option.bind_eq_some_iff.mp H
 obtain ⟨t804, A20, H⟩ := H
 replace H : ((slices_pdqsortOrdered_int.f k l0 0 (l0.length : Int) t804).bind fun t805 => (some t805)) = some r := H
 have A2 := Aside0.mk A20
 clear A20
 replace H := Option.bind_eq_some_iff.mp H
 obtain ⟨t805, A30, H⟩ := H
 replace H : (some t805) = some r := H
 have A3 := Aside0.mk A30
 clear A30
 obtain rfl := Option.some.inj H
 obtain ⟨Ao4, co4, eo4⟩ := Kd.R_slice HO0.out
 subst eo4
 go_enter Try.func63, Try.ntmps63
 go_wp2_with (first | (refine goesL_ (some 9) rfl rfl Try.func99 (by kernel_rfl) rfl #[.int .u64 (IntKind.u64.wrap ((l0.length : Int)))] rfl ll_ ?_; (with_reducible refine (bits_Len.calls (IntKind.u64.wrap ((l0.length : Int))) t804 _ A2.out).mono ?_); rintro e w' ⟨rfl, ⟨nd, rfl⟩⟩; refine ⟨_, rfl, ?_⟩) | (refine goesL_ (some 10) rfl rfl Try.func98 (by kernel_rfl) rfl #[.slice Ao4 l0.length co4, .int .i64 0, .int .i64 (l0.length : Int), .int .i64 t804] rfl ll_ ?_; (with_reducible refine (slices_pdqsortOrdered_int.calls k (fun k_ => some k_ = (.slice Ao4 l0.length co4 : Value).ownBlock) (.slice Ao4 l0.length co4) l0 0 (l0.length : Int) t804 t805 w0 _ ?side1 ?side2 A3.out).mono ?_); (case side1 => repeat (first | (with_reducible first | exact HB.out | apply below_alloc | apply pw_below_drewN | apply below_drew1) | exact HB.out)); (case side2 => exact Kd.R_tight rfl HO0.out); rintro e w5 ⟨rfl, hy0, hb, hkp⟩; refine ⟨_, rfl, ?_⟩; have n0_ := Aside0.mk (Kd.R_reok rfl hy0 (fun k_ e_ => HO0.out.1 k_ e_)); have n1_ := Aside0.mk (Kept.then_ (S := (fun k_ => P0_ k_)) (by repeat (first | (with_reducible first | exact HK.out | apply Kept.alloc | apply Kept.drewN | apply Kept.drew) | exact HK.out)) hkp (fun k_ hs_ => (fun e_ => (HO0.out.1 k_ e_.symm)) hs_)); have n2_ := Aside0.mk (hb); clear HO0; clear HK; clear HB; have HO0 := n0_; have HK := n1_; have HB := n2_; clear n0_ n1_ n2_; (try clear hb); (try clear hkp); (try clear hy0)))
 first | go_end0 | ((try simp only [Exit.inBlock, Exit.then]); refine bodyPost_ret (results_none rfl _ _ _) rfl ?_)
 exact ⟨ee_, by (with_reducible repeat (first | apply Kd.R_alloc | apply Kd.R_drewN | apply Kd.R_drew)); exact HO0.out, bb_ HB, by repeat (first | (with_reducible first | exact HK.out | apply Kept.alloc | apply Kept.drewN | apply Kept.drew) | exact HK.out)⟩
end Go.Proofs.Ytbfafjejmljcpaa.P

set_option linter.unusedVariables false
set_option linter.unusedSimpArgs false
namespace Go.Proofs.Ytbfafjejmljcpaa.X
open Go.RowKit Go.Proofs.YtbfafjejmljcpaaW.PrintWords Go.Proofs.YtbfafjejmljcpaaW.PrintLast Go.Proofs.Ytbfafjejmljcpaa.P

theorem lessInt_eq (x y : Int) : cmp_Less_int.f x y = some (decide (x < y)) := by
  unfold cmp_Less_int.f cmp_isNaN_int.f
  simp
theorem asc_extI : ∀ a b : List Int, a.Pairwise (· < ·) → b.Pairwise (· < ·) → (∀ x, x ∈ a ↔ x ∈ b) → a = b := by
  intro a
  induction a with
  | nil =>
    intro b _ _ h
    cases b with
    | nil => rfl
    | cons y b => exact absurd ((h y).2 List.mem_cons_self) (by simp)
  | cons x a ih =>
    intro b ha hb h
    cases b with
    | nil => exact absurd ((h x).1 List.mem_cons_self) (by simp)
    | cons y b =>
      have ha := List.pairwise_cons.1 ha
      have hb := List.pairwise_cons.1 hb
      have e : x = y := by
        rcases List.mem_cons.1 ((h x).1 List.mem_cons_self) with e | e
        · exact e
        · rcases List.mem_cons.1 ((h y).2 List.mem_cons_self) with e2 | e2
          · exact e2.symm
          · have := hb.1 x e; have := ha.1 y e2; omega
      subst e
      rw [ih b ha.2 hb.2 fun z => ⟨fun hz => ?_, fun hz => ?_⟩]
      · rcases List.mem_cons.1 ((h z).1 (List.mem_cons_of_mem _ hz)) with e | e
        · have := ha.1 z hz; omega
        · exact e
      · rcases List.mem_cons.1 ((h z).2 (List.mem_cons_of_mem _ hz)) with e | e
        · have := hb.1 z hz; omega
        · exact e
def swI (j a : Int) : Int := if a = j then j - 1 else if a = j - 1 then j else a
def swapL (l : List Int) (j : Int) : List Int := (l.set j.toNat (rd l (j - 1))).set (j - 1).toNat (rd l j)
theorem rd_setS {l : List Int} {i j v : Int} (i0 : 0 ≤ i) (i1 : i < l.length) (j0 : 0 ≤ j) : rd (l.set i.toNat v) j = if j = i then v else rd l j := by
  unfold rd
  rw [List.getD_eq_getElem?_getD, List.getD_eq_getElem?_getD, List.getElem?_set]
  by_cases e : j = i
  · rw [if_pos e, if_pos (by omega), if_pos (by omega)]; rfl
  · rw [if_neg e, if_neg (by omega)]
theorem swapL_rd {l : List Int} {j : Int} (j0 : 0 < j) (j1 : j < l.length) {a : Int} (a0 : 0 ≤ a) : rd (swapL l j) a = rd l (swI j a) := by
  unfold swapL swI
  rw [rd_setS (by omega) (by rw [List.length_set]; omega) a0, rd_setS (by omega) j1 a0]
  by_cases e1 : a = j - 1
  · rw [if_pos e1, if_neg (by omega), if_pos e1]
  · by_cases e2 : a = j
    · rw [if_neg e1, if_pos e2, if_pos e2]
    · rw [if_neg e1, if_neg e2, if_neg e2, if_neg e1]
theorem swapL_length (l : List Int) (j : Int) : (swapL l j).length = l.length := by unfold swapL; rw [List.length_set, List.length_set]
theorem mem_rdI {l : List Int} {v : Int} : v ∈ l ↔ ∃ i : Int, 0 ≤ i ∧ i < l.length ∧ rd l i = v := by
  constructor
  · intro h
    obtain ⟨i, hi, e⟩ := List.mem_iff_getElem.1 h
    exact ⟨i, by omega, by omega, by rw [rd_cast l i hi, e]⟩
  · rintro ⟨i, i0, i1, e⟩
    rw [← e]; exact rd_mem i1 i0
theorem swapL_mem {l : List Int} {j : Int} (j0 : 0 < j) (j1 : j < l.length) {v : Int} : v ∈ swapL l j ↔ v ∈ l := by
  rw [mem_rdI, mem_rdI]
  have rng : ∀ a : Int, 0 ≤ a → a < l.length → 0 ≤ swI j a ∧ swI j a < l.length := fun a a0 a1 => by unfold swI; split <;> (try split) <;> omega
  have inv : ∀ a : Int, swI j (swI j a) = a := fun a => by unfold swI; split <;> (try split) <;> (try split) <;> omega
  constructor
  · rintro ⟨a, a0, a1, e⟩
    rw [swapL_length] at a1
    rw [swapL_rd j0 j1 a0] at e
    exact ⟨swI j a, (rng a a0 a1).1, (rng a a0 a1).2, e⟩
  · rintro ⟨a, a0, a1, e⟩
    refine ⟨swI j a, (rng a a0 a1).1, by rw [swapL_length]; exact (rng a a0 a1).2, ?_⟩
    rw [swapL_rd j0 j1 (rng a a0 a1).1, inv]; exact e
def Dif (l : List Int) : Prop := ∀ a b : Int, 0 ≤ a → a < l.length → 0 ≤ b → b < l.length → a ≠ b → rd l a ≠ rd l b
theorem swapL_dif {l : List Int} (h : Dif l) {j : Int} (j0 : 0 < j) (j1 : j < l.length) : Dif (swapL l j) := by
  intro a b a0 a1 b0 b1 hne
  rw [swapL_length] at a1 b1
  rw [swapL_rd j0 j1 a0, swapL_rd j0 j1 b0]
  refine h _ _ ?_ ?_ ?_ ?_ ?_ <;> (unfold swI; split <;> (try split) <;> (try split) <;> (try split) <;> omega)
def Near1 (l : List Int) (i j : Int) : Prop := (∀ a b : Int, 0 ≤ a → a < b → b ≤ i → a ≠ j → b ≠ j → rd l a < rd l b) ∧ ∀ b : Int, j < b → b ≤ i → rd l j < rd l b
def SortR (l r : List Int) : Prop := r.length = l.length ∧ (∀ v, v ∈ r ↔ v ∈ l) ∧ r.Pairwise (· < ·)
theorem ins_l1 {l0 : List Int} {n : Int} (hn : n ≤ 1000) {i : Int} (i0 : 0 ≤ i) (i1 : i < n) (hr : ∀ l : List Int, (l.length : Int) = n → (∀ v, v ∈ l ↔ v ∈ l0) → Dif l → (∀ a b : Int, 0 ≤ a → a < b → b ≤ i → rd l a < rd l b) → ∃ r, SortR l0 r ∧ Ev (fun k => slices_insertionSortOrdered_int.l0 k l 0 n (i + 1)) r) (d : Nat) :
    ∀ (j : Int) (l : List Int), j = d → j ≤ i → (l.length : Int) = n → (∀ v, v ∈ l ↔ v ∈ l0) → Dif l → Near1 l i j → ∃ r, SortR l0 r ∧ Ev (fun k => slices_insertionSortOrdered_int.l1 k l 0 n i j) r := by
  induction d with
  | zero =>
    intro j l hj ji hl hm hd hN
    have hj : j = 0 := hj
    subst hj
    obtain ⟨r, h1, h2⟩ := hr l hl hm hd fun a b a0 ab b1 => by
      by_cases e : a = 0
      · subst e; exact hN.2 b (by omega) b1
      · exact hN.1 a b a0 ab b1 e (by omega)
    refine ⟨r, h1, ?_⟩
    refine Ev.step (fun k => by rw [slices_insertionSortOrdered_int.l1]) ?_
    rw [w64 (x := i + 1) (by omega) (by omega)]
    exact Ev.neg (by omega) h2
  | succ d ih =>
    intro j l hj ji hl hm hd hN
    have e1 : wrap64 (j - 1) = j - 1 := w64 (by omega) (by omega)
    have e2 : wrap64 (i + 1) = i + 1 := w64 (by omega) (by omega)
    by_cases hc : rd l j < rd l (j - 1)
    · have hlen := swapL_length l j
      have R := fun (a : Int) (a0 : 0 ≤ a) => swapL_rd (l := l) (j := j) (by omega) (by omega) a0
      obtain ⟨r, h1, h2⟩ := ih (j - 1) (swapL l j) (by omega) (by omega) (by rw [hlen]; exact hl) (fun v => (swapL_mem (by omega) (by omega)).trans (hm v)) (swapL_dif hd (by omega) (by omega)) ⟨fun a b a0 ab b1 na nb => by
          rw [R a a0, R b (by omega)]
          unfold swI
          by_cases ea : a = j
          · rw [if_pos ea, if_neg (by omega), if_neg nb]
            exact hN.1 (j - 1) b (by omega) (by omega) b1 (by omega) (by omega)
          · rw [if_neg ea, if_neg na]
            by_cases eb : b = j
            · rw [if_pos eb]
              exact hN.1 a (j - 1) a0 (by omega) (by omega) ea (by omega)
            · rw [if_neg eb, if_neg nb]
              exact hN.1 a b a0 ab b1 ea eb, fun b jb b1 => by
          rw [R (j - 1) (by omega), R b (by omega)]
          unfold swI
          rw [if_neg (by omega), if_pos rfl]
          by_cases eb : b = j
          · rw [if_pos eb]; exact hc
          · rw [if_neg eb, if_neg (by omega)]
            exact hN.2 b (by omega) b1⟩
      refine ⟨r, h1, ?_⟩
      refine Ev.step (fun k => by rw [slices_insertionSortOrdered_int.l1]) ?_
      rw [e1, e2, lessInt_eq]
      exact Ev.pos (by omega) (Ev.pos (by omega) (Ev.pos (by omega) (Ev.pos (by omega) (Ev.pos (by omega) (Ev.fix rfl (Ev.pos (decide_eq_true hc) h2))))))
    · have hlt : rd l (j - 1) < rd l j := by
        have := hd (j - 1) j (by omega) (by omega) (by omega) (by omega) (by omega)
        omega
      obtain ⟨r, h1, h2⟩ := hr l hl hm hd fun a b a0 ab b1 => by
        by_cases ea : a = j
        · subst ea; exact hN.2 b ab b1
        · by_cases eb : b = j
          · subst eb
            by_cases e : a = b - 1
            · rw [e]; exact hlt
            · have := hN.1 a (b - 1) a0 (by omega) (by omega) ea (by omega)
              omega
          · exact hN.1 a b a0 ab b1 ea eb
      refine ⟨r, h1, ?_⟩
      refine Ev.step (fun k => by rw [slices_insertionSortOrdered_int.l1]) ?_
      rw [e1, e2, lessInt_eq]
      exact Ev.pos (by omega) (Ev.pos (by omega) (Ev.pos (by omega) (Ev.pos (by omega) (Ev.pos (by omega) (Ev.fix rfl (Ev.neg (by simpa using hc) h2))))))
theorem ins_l0 {l0 : List Int} {n : Int} (hn : n ≤ 1000) (d : Nat) : ∀ (i : Int) (l : List Int), 1 ≤ i → i + d = n → (l.length : Int) = n → (∀ v, v ∈ l ↔ v ∈ l0) → Dif l → (∀ a b : Int, 0 ≤ a → a < b → b < i → rd l a < rd l b) → (l0.length : Int) = n → ∃ r, SortR l0 r ∧ Ev (fun k => slices_insertionSortOrdered_int.l0 k l 0 n i) r := by
  induction d with
  | zero =>
    intro i l i0 hi hl hm hd ha h0
    refine ⟨l, ⟨by omega, hm, List.pairwise_iff_getElem.2 fun a b h1 h2 hab => ?_⟩, ?_⟩
    · have := ha (a : Int) (b : Int) (by omega) (by omega) (by omega)
      rwa [rd_cast l a h1, rd_cast l b h2] at this
    · refine Ev.step (fun k => by rw [slices_insertionSortOrdered_int.l0]) ?_
      exact Ev.neg (by omega) (Ev.done rfl)
  | succ d ih =>
    intro i l i0 hi hl hm hd ha h0
    obtain ⟨r, h1, h2⟩ := ins_l1 (l0 := l0) hn (i := i) (by omega) (by omega) (fun l hl hm hd ha => ih (i + 1) l (by omega) (by omega) hl hm hd (fun a b a0 ab b1 => ha a b a0 ab (by omega)) h0) i.toNat i l (by omega) (by omega) hl hm hd
      ⟨fun a b a0 ab b1 na nb => ha a b a0 ab (by omega), fun b ib b1 => by omega⟩
    refine ⟨r, h1, ?_⟩
    refine Ev.step (fun k => by rw [slices_insertionSortOrdered_int.l0]) ?_
    exact Ev.pos (by omega) h2
theorem sort_ev {l : List Int} (h9 : l.length = 9) (hd : l.Nodup) : ∃ r, SortR l r ∧ Ev (fun k => slices_Sort_int_int.f k l) r := by
  have hD : Dif l := fun a b a0 a1 b0 b1 hne e => by
    rw [rd_getElem a0 a1, rd_getElem b0 b1] at e
    have := (List.getElem_inj hd).1 e
    omega
  obtain ⟨r, h1, h2⟩ := ins_l0 (l0 := l) (n := 9) (by omega) 8 1 l (by omega) (by omega) (by omega) (fun v => Iff.rfl) hD (fun a b a0 ab b1 => by omega) (by omega)
  refine ⟨r, h1, ?_⟩
  unfold slices_Sort_int_int.f
  rw [show (l.length : Int) = 9 by omega]
  refine Ev.fix (a := 4) (by unfold bits_Len.f; rw [show IntKind.u64.wrap 9 = 9 by decide]; rfl) ?_
  refine Ev.bind (a := r) ?_ (Ev.done rfl)
  unfold slices_pdqsortOrdered_int.f
  refine Ev.pos (by omega) ?_
  unfold slices_insertionSortOrdered_int.f
  rw [show wrap64 (0 + 1) = 1 from w64 (by omega) (by omega)]
  exact h2
end Go.Proofs.Ytbfafjejmljcpaa.X

namespace Go.Proofs.Ytbfafjejmljcpaa.P
open Go.RowKit Go.Proofs.YtbfafjejmljcpaaW.PrintWords Go.Proofs.YtbfafjejmljcpaaW.PrintLast
set_option linter.unusedVariables false
set_option linter.unusedSimpArgs false

def impl_times.f (a0 : Int) (a1 : Int) : Option (Int) := (impl_element.f (wrap64 ((wrap64 ((Int.tmod a0 3) * (Int.tmod a1 3))) - (wrap64 ((wrap64 (Int.tdiv a0 3)) * (wrap64 (Int.tdiv a1 3)))))) (wrap64 ((wrap64 ((Int.tmod a0 3) * (wrap64 (Int.tdiv a1 3)))) + (wrap64 ((wrap64 (Int.tdiv a0 3)) * (Int.tmod a1 3)))))).bind fun t935 => (some t935)
set_option maxHeartbeats 8000000 in
set_option maxRecDepth 100000 in
theorem impl_times.calls (a0 : Int) (a1 : Int) (r : Int) (w : World) (h : impl_times.f a0 a1 = some r) :
  Calls Try.prog 80 #[.int .i64 a0, .int .i64 a1] w fun e w' => e = .returned (.int .i64 r) ∧ Drawn0 w w' := by
 have H : ((impl_element.f (wrap64 ((wrap64 ((Int.tmod a0 3) * (Int.tmod a1 3))) - (wrap64 ((wrap64 (Int.tdiv a0 3)) * (wrap64 (Int.tdiv a1 3)))))) (wrap64 ((wrap64 ((Int.tmod a0 3) * (wrap64 (Int.tdiv a1 3)))) + (wrap64 ((wrap64 (Int.tdiv a0 3)) * (Int.tmod a1 3)))))).bind fun t935 => (some t935)) = some r := h
 clear h
 replace H := Option.bind_eq_some_iff.mp H
 obtain ⟨t935, A30, H⟩ := H
 replace H : (some t935) = some r := H
 have A3 := Aside0.mk A30
 clear A30
 obtain rfl := Option.some.inj H
 go_enter Try.func80, Try.ntmps80
 go_wp2_with (first | (refine goesL_ (some 31) rfl rfl Try.func114 (by kernel_rfl) rfl #[.int .i64 (wrap64 ((wrap64 ((Int.tmod a0 3) * (Int.tmod a1 3))) - (wrap64 ((wrap64 (Int.tdiv a0 3)) * (wrap64 (Int.tdiv a1 3)))))), .int .i64 (wrap64 ((wrap64 ((Int.tmod a0 3) * (wrap64 (Int.tdiv a1 3)))) + (wrap64 ((wrap64 (Int.tdiv a0 3)) * (Int.tmod a1 3)))))] rfl ll_ ?_; (with_reducible refine (impl_element.calls (wrap64 ((wrap64 ((Int.tmod a0 3) * (Int.tmod a1 3))) - (wrap64 ((wrap64 (Int.tdiv a0 3)) * (wrap64 (Int.tdiv a1 3)))))) (wrap64 ((wrap64 ((Int.tmod a0 3) * (wrap64 (Int.tdiv a1 3)))) + (wrap64 ((wrap64 (Int.tdiv a0 3)) * (Int.tmod a1 3))))) t935 _ A3.out).mono ?_); rintro e w' ⟨rfl, ⟨nd, rfl⟩⟩; refine ⟨_, rfl, ?_⟩))
 go_ret
 exact ⟨by first | rfl | (simp; done) | (simp [*]; done), by repeat (first | exact Drawn0.refl _ | apply Drawn0.step)⟩
end Go.Proofs.Ytbfafjejmljcpaa.P

set_option linter.unusedVariables false
set_option linter.unusedSimpArgs false
namespace Go.Proofs.Ytbfafjejmljcpaa.X
open Go.RowKit Go.Proofs.YtbfafjejmljcpaaW.PrintWords Go.Proofs.YtbfafjejmljcpaaW.PrintLast Go.Proofs.Ytbfafjejmljcpaa.P

def regQ1 (i : Int) : Bool := i % 9 == 0
def regQ2 (i : Int) : Bool := i % 9 == i / 9
def regQ3 (i : Int) : Bool := i % 9 == timesN (i / 9) 2
def regQ4 (i : Int) : Bool := i / 9 == 0
def reg1 : List Int := [0, 9, 18, 27, 36, 45, 54, 63, 72]
def reg2 : List Int := [0, 10, 20, 30, 40, 50, 60, 70, 80]
def reg3 : List Int := [0, 11, 19, 33, 44, 52, 57, 68, 76]
theorem reg1_fil : filI 81 regQ1 = reg1 := by decide +kernel
theorem reg2_fil : filI 81 regQ2 = reg2 := by decide +kernel
theorem reg3_fil : filI 81 regQ3 = reg3 := by decide +kernel
theorem reg4_fil : filI 81 regQ4 = leaf0 := by decide +kernel
def regI : List (List Int) := [reg1, reg2, reg3, leaf0]
theorem regI_mem (x : List Int) : x ∈ regI ↔ x ∈ regL := by
  have h1 : ∀ y ∈ regI, y ∈ regL := by decide +kernel
  have h2 : ∀ y ∈ regL, y ∈ regI := by decide +kernel
  exact ⟨h1 x, h2 x⟩
def restI (l : List (List Int)) : Nat → List (List Int)
  | 0 => []
  | n + 1 => if rd_LI l (n : Int) ∈ regI then restI l n else restI l n ++ [rd_LI l (n : Int)]
theorem restI_mem (l : List (List Int)) (n : Nat) (x : List Int) : x ∈ restI l n ↔ x ∈ restN l n := by
  induction n with
  | zero => exact Iff.rfl
  | succ n ih =>
    unfold restI restN
    by_cases h : rd_LI l (n : Int) ∈ regI
    · rw [if_pos h, if_pos ((regI_mem _).1 h)]; exact ih
    · rw [if_neg h, if_neg fun h2 => h ((regI_mem _).2 h2), List.mem_append, List.mem_singleton, mem_insL, ih, or_comm]
theorem restI_length (l : List (List Int)) (n : Nat) : (restI l n).length = (restN l n).length := by
  induction n with
  | zero => rfl
  | succ n ih =>
    unfold restI restN
    by_cases h : rd_LI l (n : Int) ∈ regI
    · rw [if_pos h, if_pos ((regI_mem _).1 h)]; exact ih
    · rw [if_neg h, if_neg fun h2 => h ((regI_mem _).2 h2), List.length_append, insL_length, ih]; rfl
theorem restI_from (l : List (List Int)) (n : Nat) (x : List Int) (h : x ∈ restI l n) : ∃ j : Nat, j < n ∧ x = rd_LI l (j : Int) ∧ x ∉ regI := by
  induction n with
  | zero => cases h
  | succ n ih =>
    unfold restI at h
    by_cases hr : rd_LI l (n : Int) ∈ regI
    · rw [if_pos hr] at h
      obtain ⟨j, hj, e⟩ := ih h
      exact ⟨j, by omega, e⟩
    · rw [if_neg hr] at h
      rcases List.mem_append.1 h with h | h
      · obtain ⟨j, hj, e⟩ := ih h
        exact ⟨j, by omega, e⟩
      · have := List.mem_singleton.1 h
        exact ⟨n, by omega, this, by rw [this]; exact hr⟩
def uvL (c : Int) (n : Nat) : List Int := (List.range n).map fun (i : Nat) => 9 * timesN c ((i : Int) / 3) + timesN c ((i : Int) % 3)
theorem uvL_succ (c : Int) (n : Nat) : uvL c (n + 1) = uvL c n ++ [9 * timesN c ((n : Int) / 3) + timesN c ((n : Int) % 3)] := by unfold uvL; rw [List.range_succ, List.map_append]; rfl
theorem uvL_length (c : Int) (n : Nat) : (uvL c n).length = n := by unfold uvL; simp
def CC (c : Int) : Prop := c = 1 ∨ c = 3 ∨ c = 4 ∨ c = 5
theorem uvL_nodup {c : Int} (h : CC c) : (uvL c 9).Nodup := by
  rcases h with rfl | rfl | rfl | rfl <;> decide +kernel
theorem uvL_mem {c : Int} (h : CC c) : ∀ x, x ∈ uvL c 9 ↔ x ∈ otherL c := by
  have key : ∀ c : Int, CC c → (∀ y ∈ uvL c 9, y ∈ otherL c) ∧ ∀ y ∈ otherL c, y ∈ uvL c 9 := by
    intro c h
    rcases h with rfl | rfl | rfl | rfl <;> exact ⟨by decide +kernel, by decide +kernel⟩
  exact fun x => ⟨(key c h).1 x, (key c h).2 x⟩
theorem otherL_asc {c : Int} (h : CC c) : (otherL c).Pairwise (· < ·) := by
  rcases h with rfl | rfl | rfl | rfl <;> decide +kernel
theorem other_sort {c : Int} (h : CC c) : ∃ k, slices_Sort_int_int.f k (uvL c 9) = some (otherL c) := by
  obtain ⟨r, hr, ev⟩ := sort_ev (uvL_length c 9) (uvL_nodup h)
  have e : r = otherL c := asc_extI _ _ hr.2.2 (otherL_asc h) fun x => (hr.2.1 x).trans (uvL_mem h x)
  rw [e] at ev
  exact ev.rounds
theorem times_eq {a b : Int} (a0 : 0 ≤ a) (a1 : a < 9) (b0 : 0 ≤ b) (b1 : b < 9) : impl_times.f a b = some (timesN a b) := nine2 (P := fun a b => impl_times.f a b = some (timesN a b)) (by decide +kernel) a b a0 a1 b0 b1
def newI (n : Nat) : List (List Int) := ([1, 3, 4, 5].take n).map otherL
def cAt (i : Int) : Int := rd [1, 3, 4, 5] i
theorem cAt_cc {i : Int} (i0 : 0 ≤ i) (i1 : i < 4) : CC (cAt i) := by
  rcases (show i = 0 ∨ i = 1 ∨ i = 2 ∨ i = 3 by omega) with rfl | rfl | rfl | rfl
  · exact .inl rfl
  · exact .inr (.inl rfl)
  · exact .inr (.inr (.inl rfl))
  · exact .inr (.inr (.inr rfl))
theorem newI_succ {i : Int} (i0 : 0 ≤ i) (i1 : i < 4) : newI (i + 1).toNat = newI i.toNat ++ [otherL (cAt i)] := by
  rcases (show i = 0 ∨ i = 1 ∨ i = 2 ∨ i = 3 by omega) with rfl | rfl | rfl | rfl <;> rfl
theorem newI_length {i : Int} (i0 : 0 ≤ i) (i1 : i ≤ 4) : (newI i.toNat).length = i.toNat := by
  unfold newI
  rw [List.length_map, List.length_take]
  show min i.toNat 4 = _
  omega
theorem other_nine {c : Int} (h : CC c) : (otherL c).length = 9 := other_len c (by rcases h with rfl | rfl | rfl | rfl <;> omega) (by rcases h with rfl | rfl | rfl | rfl <;> omega)
def outI (l : List (List Int)) : List (List Int) := restI l 10 ++ newI 4
end Go.Proofs.Ytbfafjejmljcpaa.X

set_option linter.unusedVariables false
set_option linter.unusedSimpArgs false
namespace Go.Proofs.Ytbfafjejmljcpaa.X
open Go.RowKit Go.Proofs.YtbfafjejmljcpaaW.PrintWords Go.Proofs.YtbfafjejmljcpaaW.PrintLast Go.Proofs.Ytbfafjejmljcpaa.P

theorem rows_ne {l : List (List Int)} (h : spreadB l = true) {i j : Nat} (hi : i < j) (hj : j < 10) : rd_LI l (i : Int) ≠ rd_LI l (j : Int) := fun e => by
  have hl := spread_lt h (j - i - 1) (i : Int) (by omega) (by omega)
  rw [show (i : Int) + 1 + ((j - i - 1 : Nat) : Int) = (j : Int) by omega, e] at hl
  exact lessB_asym hl hl
theorem restI_new {l : List (List Int)} (h : spreadB l = true) {n : Nat} (hn : n < 10) : rd_LI l (n : Int) ∉ restI l n := fun hm => by
  obtain ⟨j, hj, e, _⟩ := restI_from l n _ hm
  exact rows_ne h hj hn e.symm
theorem restI_nodup {l : List (List Int)} (h : spreadB l = true) (n : Nat) (hn : n ≤ 10) : (restI l n).Nodup := by
  induction n with
  | zero => exact List.nodup_nil
  | succ n ih =>
    unfold restI
    by_cases hr : rd_LI l (n : Int) ∈ regI
    · rw [if_pos hr]; exact ih (by omega)
    · rw [if_neg hr]
      refine List.nodup_append.2 ⟨ih (by omega), List.nodup_cons.2 ⟨by simp, List.nodup_nil⟩, fun a ha b hb e => ?_⟩
      rw [List.mem_singleton.1 hb] at e
      rw [e] at ha
      exact restI_new h (by omega) ha
theorem restN_asc {l : List (List Int)} (h : spreadB l = true) (n : Nat) (hn : n ≤ 10) : Asc (restN l n) := by
  induction n with
  | zero => exact List.Pairwise.nil
  | succ n ih =>
    unfold restN
    by_cases hr : rd_LI l (n : Int) ∈ regL
    · rw [if_pos hr]; exact ih (by omega)
    · rw [if_neg hr]
      exact insL_asc _ _ (ih (by omega)) (restN_nines h n (by omega)).2 (leafB_parts (spread_leaf h (i := (n : Int)) (by omega) (by omega))).1 fun hm => restI_new h (by omega) ((restI_mem l n _).2 hm)
theorem restI_all {l : List (List Int)} (n : Nat) (hno : ∀ j : Nat, j < n → rd_LI l (j : Int) ∉ regI) : (restI l n).length = n := by
  induction n with
  | zero => rfl
  | succ n ih =>
    unfold restI
    rw [if_neg (hno n (by omega)), List.length_append, ih fun j hj => hno j (by omega)]; rfl
theorem some_reg {l : List (List Int)} (h6 : (restI l 10).length = 6) : ∃ j : Nat, j < 10 ∧ rd_LI l (j : Int) ∈ regI := by
  apply Classical.byContradiction
  intro hno
  have := restI_all (l := l) 10 fun j hj hm => hno ⟨j, hj, hm⟩
  omega
theorem meets : ∀ ρ ∈ regI, ∀ c ∈ ([1, 3, 4, 5] : List Int), (ρ.any fun p => decide (0 < p) && decide (p ∈ otherL c)) = true := by decide +kernel
theorem other_out {l : List (List Int)} (h : spreadB l = true) (h6 : (restI l 10).length = 6) {c : Int} (hc : c ∈ ([1, 3, 4, 5] : List Int)) : otherL c ∉ restI l 10 := fun hm => by
  obtain ⟨j, hj, e, hn⟩ := restI_from l 10 _ hm
  obtain ⟨i, hi, hr⟩ := some_reg h6
  obtain ⟨p, hp, hq⟩ := List.any_eq_true.1 (meets _ hr c hc)
  rw [Bool.and_eq_true, decide_eq_true_eq, decide_eq_true_eq] at hq
  obtain ⟨p0, hq⟩ := hq
  rw [e] at hq hn
  rcases Nat.lt_trichotomy i j with hlt | heq | hgt
  · exact spread_apart h (i := (i : Int)) (j := (j : Int)) (by omega) (by omega) (by omega) p0 hp hq
  · subst heq; exact hn hr
  · exact spread_apart h (i := (j : Int)) (j := (i : Int)) (by omega) (by omega) (by omega) p0 hq hp
theorem new_nodup : (newI 4).Nodup := by decide +kernel
theorem outI_nodup {l : List (List Int)} (h : spreadB l = true) (h6 : (restI l 10).length = 6) : (outI l).Nodup := by
  unfold outI
  refine List.nodup_append.2 ⟨restI_nodup h 10 (by omega), new_nodup, fun a ha b hb e => ?_⟩
  rw [e] at ha
  obtain ⟨c, hc, rfl⟩ := List.mem_map.1 hb
  exact other_out h h6 hc ha
theorem mem_insAll {y : List Int} : ∀ (L : List Int) (o : List (List Int)), y ∈ insAll o L ↔ y ∈ o ∨ ∃ x ∈ L, y = otherL x := by
  intro L
  induction L with
  | nil => intro o; simp [insAll]
  | cons x L ih =>
    intro o
    unfold insAll
    rw [ih, mem_insL]
    constructor
    · rintro ((h | h) | ⟨z, hz, h⟩)
      · exact .inr ⟨x, List.mem_cons_self, h⟩
      · exact .inl h
      · exact .inr ⟨z, List.mem_cons_of_mem _ hz, h⟩
    · rintro (h | ⟨z, hz, h⟩)
      · exact .inl (.inr h)
      · rcases List.mem_cons.1 hz with rfl | hz
        · exact .inl (.inl h)
        · exact .inr ⟨z, hz, h⟩
theorem insAll_asc : ∀ (L : List Int) (o : List (List Int)), Asc o → (∀ a ∈ o, a.length = 9) → (∀ x ∈ L, (otherL x).length = 9) → (∀ x ∈ L, otherL x ∉ o) → (L.map otherL).Nodup → Asc (insAll o L) := by
  intro L
  induction L with
  | nil => intro o ha _ _ _ _; exact ha
  | cons x L ih =>
    intro o ha h9 hx hn hd
    unfold insAll
    rw [List.map_cons, List.nodup_cons] at hd
    refine ih _ (insL_asc _ _ ha h9 (hx x List.mem_cons_self) (hn x List.mem_cons_self)) (insL_nines h9 (hx x List.mem_cons_self)) (fun y hy => hx y (List.mem_cons_of_mem _ hy)) (fun y hy hm => ?_) hd.2
    rcases mem_insL.1 hm with e | hm
    · exact hd.1 (List.mem_map.2 ⟨y, hy, e⟩)
    · exact hn y (List.mem_cons_of_mem _ hy) hm
theorem cc_of {c : Int} (hc : c ∈ ([1, 3, 4, 5] : List Int)) : CC c := by simpa [CC] using hc
theorem deriveL_asc {l : List (List Int)} (h : spreadB l = true) (h6 : (restI l 10).length = 6) : Asc (deriveL l) :=
  insAll_asc _ _ (restN_asc h 10 (by omega)) (restN_nines h 10 (by omega)).2 (fun x hx => other_nine (cc_of hx)) (fun x hx hm => other_out h h6 hx ((restI_mem l 10 _).2 hm)) new_nodup
theorem derive_eq {l r : List (List Int)} (h : spreadB l = true) (h6 : (restI l 10).length = 6) (hm : ∀ x, x ∈ r ↔ x ∈ outI l) (ha : Asc r) : r = deriveL l := by
  refine asc_ext _ _ ha (deriveL_asc h h6) fun x => (hm x).trans ?_
  unfold outI deriveL
  rw [List.mem_append, mem_insAll, restI_mem]
  refine or_congr Iff.rfl ?_
  unfold newI
  rw [List.mem_map]
  exact ⟨fun ⟨c, hc, e⟩ => ⟨c, hc, e.symm⟩, fun ⟨c, hc, e⟩ => ⟨c, hc, e.symm⟩⟩
end Go.Proofs.Ytbfafjejmljcpaa.X

set_option linter.unusedVariables false
set_option linter.unusedSimpArgs false
namespace Go.Proofs.Ytbfafjejmljcpaa.X
open Go.RowKit Go.Proofs.YtbfafjejmljcpaaW.PrintWords Go.Proofs.YtbfafjejmljcpaaW.PrintLast Go.Proofs.Ytbfafjejmljcpaa.P

set_option maxRecDepth 100000 in
set_option maxHeartbeats 4000000 in
theorem leafThat_calls (g : Nat) (lb : Array Value) (eg : Eg g) (p : Int → Int → Bool) (q : Int → Bool) (hq : ∀ i : Int, 0 ≤ i → i < 81 → q i = p (i / 9) (i % 9)) (w : World) (hp : Fn2 g lb w (fun x y => (0 ≤ x ∧ x < 9) ∧ 0 ≤ y ∧ y < 9) (fun x y => .bool (p x y))) :
    Calls Try.prog 76 #[.func (.func g) #[] lb] w fun e w' => ∃ v : Value, e = .returned v ∧ Kd.R (Kd.int .i64) 3 w' w.heap.size (fun _ => True) v (filI 81 q) ∧ Below w.heap.size w w' := by
  have HP := Aside0.mk hp
  clear hp
  unfold Eg at eg
  go_enter Try.func76, Try.ntmps76
  go_wp2_with ((with_reducible refine gate_dst (N := 5) rfl ?_); refine Kd.R_lit (Kd.int .i64) _ 3 ?hg (N := 5) ?hd (xs := ([] : List Int)) (inner := []) (ok := fun _ => True) (okp := fun _ => True) ?hr ?hp (fun _ hk => hk) trivial (Below.refl _ _) (Nat.le_refl _) (by simp) ?_; (case hd => rfl); (case hg => rfl); (case hr => first | (go_simp; done) | (go_simp; rfl)); (case hp => exact (Reps.none _ _)); intro v0 w0 ho0 hb0 hg0 hnew0; have HO0 := Aside0.mk ho0; have HB0 := Aside0.mk hb0; clear ho0 hb0 hg0 hnew0)
  go_loopg [3, 6] 81 (fun kq v3 v6 w' => ∃ i : Int, v6 = .int .i64 i ∧ Aside0 (0 ≤ i ∧ i ≤ 81) ∧ Aside0 ((81 : Int) - i ≤ kq) ∧ Aside0 (Kd.R (Kd.int .i64) 3 w' w.heap.size (fun _ => True) v3 (filI i.toNat q)) ∧ Aside0 (Below w.heap.size w w'))
  case atStart => exact ⟨0, rfl, ⟨by omega⟩, ⟨by omega⟩, HO0, HB0⟩
  case round =>
    clear HO0 HB0
    obtain ⟨i, rfl, HI, HK, HO, HB⟩ := hrel
    have h0 : 0 ≤ i := HI.out.1
    by_cases c6 : i < 81
    · have hlen : (filI i.toNat q).length ≤ i.toNat := filI_length_le _ _
      have hcall := HP.out wr (i / 9) (i % 9) HB.out ⟨⟨by omega, by omega⟩, by omega, by omega⟩
      dsimp only at hcall
      rw [← hq i h0 c6] at hcall
      have e1 : wrap64 (Int.tdiv i 9) = i / 9 := by rw [Int.tdiv_eq_ediv_of_nonneg h0]; unfold wrap64; omega
      have e2 : wrap64 (Int.tmod i 9) = i % 9 := by rw [Int.tmod_eq_emod_of_nonneg h0]; unfold wrap64; omega
      have hsucc : filI (i + 1).toNat q = filI i.toNat q ++ (if q i = true then [i] else []) := by
        rw [show (i + 1).toNat = i.toNat + 1 by omega, filI_succ, Int.toNat_of_nonneg h0]
      have HSU := Aside0.mk hsucc
      have HL := Aside0.mk hlen
      clear hlen hsucc
      obtain ⟨xs, hxs⟩ : ∃ xs, filI i.toNat q = xs := ⟨_, rfl⟩
      rw [hxs] at HO HSU HL
      clear hxs
      by_cases hv : q i = true
      · rw [hv] at hcall
        have hz : filI (i + 1).toNat q = xs ++ [i] := by rw [HSU.out, if_pos hv]
        have HZ := Aside0.mk hz
        have HC := Aside0.mk hcall
        clear hcall hz hv
        go_wp2_with fail
        refine HC.out.mono ?_
        rintro e w1 ⟨rfl, hb1⟩
        have HB1 := Aside0.mk (bstep HB.out hb1)
        have HO1 := Aside0.mk (Kd.R_below HO.out hb1)
        clear hb1 HO HB
        go_wp2_with (at_builtin; refine Kd.R_append (Kd.int .i64) (w0 := w) w.heap.size rfl (.tmp 15) (.tmp 17) 23 3 (.int .i64 0) 8 rfl Try.underlying23 info3 rfl (by decide) (by omega) u3 xs i [.int .i64 i] (fun _ => True) (fun _ => False) rfl rfl ?aP (fun _ hk => hk.elim) ?aF ?aO ?aB ?aS ?aL ?_; (case aP => exact rfl); (case aB => exact HB1.out); (case aF => exact (fun _ _ => trivial)); (case aO => exact HO1.out); (case aS => exact HB1.out.size); (case aL => have := HL.out; omega); intro v1 w2 ho hb hg hat; have HO2 := Aside0.mk ho; have HB2 := Aside0.mk hb; clear ho hb hg hat)
        go_roundg (81 - (i.toNat + 1))
        case measure => have := HK.out; omega
        case rel => exact ⟨i + 1, rfl, ⟨by omega⟩, ⟨by omega⟩, ⟨by rw [HZ.out]; exact HO2.out⟩, HB2⟩
      · have hv := Bool.eq_false_iff.2 hv
        rw [hv] at hcall
        have hz : filI (i + 1).toNat q = xs := by rw [HSU.out, if_neg (by rw [hv]; simp), List.append_nil]
        have HZ := Aside0.mk hz
        have HC := Aside0.mk hcall
        clear hcall hz hv
        go_wp2_with (go_at_fn g; refine HC.out.mono ?_; rintro e w1 ⟨rfl, hb1⟩)
        go_roundg (81 - (i.toNat + 1))
        case measure => have := HK.out; omega
        case rel => exact ⟨i + 1, rfl, ⟨by omega⟩, ⟨by omega⟩, ⟨by rw [HZ.out]; exact Kd.R_below HO.out hb1⟩, ⟨bstep HB.out hb1⟩⟩
    · go_wp2
      go_ret
      have hi : i = 81 := by have := HI.out; omega
      subst hi
      exact ⟨_, rfl, HO.out, HB.out⟩
end Go.Proofs.Ytbfafjejmljcpaa.X

set_option linter.unusedVariables false
set_option linter.unusedSimpArgs false
namespace Go.Proofs.Ytbfafjejmljcpaa.X
open Go.RowKit Go.Proofs.YtbfafjejmljcpaaW.PrintWords Go.Proofs.YtbfafjejmljcpaaW.PrintLast Go.Proofs.Ytbfafjejmljcpaa.P

set_option maxHeartbeats 2000000 in
theorem sd1_calls (w : World) (x y : Int) :
    Calls Try.prog 77 #[.int .i64 x, .int .i64 y] w fun e w' => e = .returned (.bool (y == 0)) ∧ Below w.heap.size w w' := by
  go_enter Try.func77, Try.ntmps77
  go_wp2
  go_ret
  exact ⟨rfl, Below.refl _ _⟩
set_option maxHeartbeats 2000000 in
theorem sd2_calls (w : World) (x y : Int) :
    Calls Try.prog 78 #[.int .i64 x, .int .i64 y] w fun e w' => e = .returned (.bool (y == x)) ∧ Below w.heap.size w w' := by
  go_enter Try.func78, Try.ntmps78
  go_wp2
  go_ret
  exact ⟨rfl, Below.refl _ _⟩
set_option maxHeartbeats 2000000 in
theorem sd3_calls (w : World) (x y : Int) (hx : In9 x) :
    Calls Try.prog 79 #[.int .i64 x, .int .i64 y] w fun e w' => e = .returned (.bool (y == timesN x 2)) ∧ Below w.heap.size w w' := by
  have HC := Aside0.mk (fun w => impl_times.calls x 2 (timesN x 2) w (times_eq hx.1 hx.2 (by omega) (by omega)))
  obtain ⟨q, hq⟩ : ∃ q, timesN x 2 = q := ⟨_, rfl⟩
  rw [hq] at HC ⊢
  clear hq hx
  go_enter Try.func79, Try.ntmps79
  go_wp2_with (go_at_call 80; refine (HC.out _).mono ?_; rintro e w' ⟨rfl, ⟨nd, rfl⟩⟩)
  go_ret
  exact ⟨rfl, pw_below_drewN (Below.refl _ _) _⟩
set_option maxHeartbeats 2000000 in
theorem sd4_calls (w : World) (x y : Int) :
    Calls Try.prog 81 #[.int .i64 x, .int .i64 y] w fun e w' => e = .returned (.bool (x == 0)) ∧ Below w.heap.size w w' := by
  go_enter Try.func81, Try.ntmps81
  go_wp2
  go_ret
  exact ⟨rfl, Below.refl _ _⟩
theorem entersSD1 : Eg 77 := enters_of Try.func77 (by kernel_rfl) rfl
theorem entersSD2 : Eg 78 := enters_of Try.func78 (by kernel_rfl) rfl
theorem entersSD3 : Eg 79 := enters_of Try.func79 (by kernel_rfl) rfl
theorem entersSD4 : Eg 81 := enters_of Try.func81 (by kernel_rfl) rfl
abbrev LeafAt (g : Nat) (x : List Int) : Prop := ∀ w : World, Calls Try.prog 76 #[.func (.func g) #[] #[]] w fun e w' => ∃ (A : Option Addr) (c : Nat), e = .returned (.slice A x.length c) ∧ Kd.R (Kd.int .i64) 3 w' w.heap.size (fun k => w.heap.size ≤ k ∧ k < w'.heap.size) (.slice A x.length c) x ∧ Below w.heap.size w w'
theorem leafAt_of {g : Nat} (eg : Eg g) (p : Int → Int → Bool) (q : Int → Bool) (hq : ∀ i : Int, 0 ≤ i → i < 81 → q i = p (i / 9) (i % 9)) (hp : ∀ (W : World) (x y : Int), In9 x → Calls Try.prog g #[.int .i64 x, .int .i64 y] W fun e w' => e = .returned (.bool (p x y)) ∧ Below W.heap.size W w') {x : List Int} (hx : filI 81 q = x) : LeafAt g x := fun w => by
  refine (leafThat_calls g #[] eg p q hq w (fun W x y _ h => hp W x y h.1)).mono ?_
  rintro e w' ⟨v, rfl, ho, hb⟩
  rw [hx] at ho
  obtain ⟨A, c, rfl⟩ := Kd.R_slice ho
  exact ⟨A, c, rfl, Kd.R_mono (Kd.R_bound ho) (fun k hk => ⟨hk.2.1, hk.2.2.1⟩), hb⟩
theorem leaf1_at : LeafAt 77 reg1 := leafAt_of entersSD1 (fun _ y => y == 0) regQ1 (fun _ _ _ => rfl) (fun W x y _ => sd1_calls W x y) reg1_fil
theorem leaf2_at : LeafAt 78 reg2 := leafAt_of entersSD2 (fun x y => y == x) regQ2 (fun _ _ _ => rfl) (fun W x y _ => sd2_calls W x y) reg2_fil
theorem leaf3_at : LeafAt 79 reg3 := leafAt_of entersSD3 (fun x y => y == timesN x 2) regQ3 (fun _ _ _ => rfl) (fun W x y hx => sd3_calls W x y hx) reg3_fil
theorem leaf4_at : LeafAt 81 leaf0 := leafAt_of entersSD4 (fun x _ => x == 0) regQ4 (fun _ _ _ => rfl) (fun W x y _ => sd4_calls W x y) reg4_fil
set_option maxRecDepth 100000 in
set_option maxHeartbeats 4000000 in
theorem derive_no (A0 : Option Addr) (c0 : Nat) (l : List (List Int)) (w : World) (hr : Kd.C LK w A0 l.length l) (hs : spreadB l = false) :
    Calls Try.prog 41 #[.slice A0 l.length c0] w fun e w' => e = .returned (.tuple #[.slice none 0 0, .bool false]) ∧ Below w.heap.size w w' := by
  have hc := isSpread_calls A0 c0 l w hr
  rw [hs] at hc
  have HC := Aside0.mk hc
  clear hc hr hs
  go_enter Try.func41, Try.ntmps41
  go_wp2_with (go_at_call 51; refine HC.out.mono ?_; rintro e w' ⟨rfl, hb⟩)
  go_ret2
  exact ⟨rfl, hb⟩
theorem leaf_fk {w : World} {base : Nat} {A : Option Addr} {c : Nat} {x : List Int} {ok : Nat → Prop} (h : Kd.R (Kd.int .i64) 3 w base ok (.slice A x.length c) x) : Kd.FK LK w (fun _ => True) x [.slice A x.length c] :=
  have h2 := Kd.R_mono (ok' := fun _ => True) h (fun _ _ => trivial)
  Kd.FK_slice_mk (Kd.R_reads' h2).2.1 (Kd.R_F h2)
structure DerPost (l : List (List Int)) (w w' : World) (e : Ending) : Prop where
  out : ∃ (v0_ : Value) (r : List (List Int)), e = .returned (.tuple #[v0_, .bool (decide ((restI l 10).length = 6))]) ∧ Kd.S LK 23 w' w.heap.size (fun _ => True) v0_ r ∧ Below w.heap.size w w' ∧ (if (restI l 10).length = 6 then r.length = 10 ∧ (∀ x, x ∈ r ↔ x ∈ outI l) ∧ Asc r else r = [])
set_option maxRecDepth 100000 in
set_option maxHeartbeats 8000000 in
theorem derive_yes (A0 : Option Addr) (c0 : Nat) (l : List (List Int)) (w : World) (hr : Kd.C LK w A0 l.length l) (hs : spreadB l = true) (hnd : (restI l 10).length = 6 → (outI l).Nodup) :
    Calls Try.prog 41 #[.slice A0 l.length c0] w fun e w' => DerPost l w w' e := by
  have HND := Aside0.mk hnd
  clear hnd
  have hc := isSpread_calls A0 c0 l w hr
  rw [hs] at hc
  have HC := Aside0.mk hc
  have HR := Aside0.mk hr
  have HS := Aside0.mk hs
  clear hc hr hs
  go_enter Try.func41, Try.ntmps41
  go_wp2_with fail
  refine HC.out.mono ?_
  rintro e w0 ⟨rfl, hb0⟩
  have HB0 := Aside0.mk hb0
  clear hb0 HC
  go_wp2_with fail
  refine (leaf1_at _).mono ?_
  rintro e w1 ⟨A1, c1, rfl, ho1, hb1⟩
  have HO1 := Aside0.mk ho1
  have HB1 := Aside0.mk hb1
  clear ho1 hb1
  go_wp2_with fail
  refine (leaf2_at _).mono ?_
  rintro e w2 ⟨A2, c2, rfl, ho2, hb2⟩
  have HO2 := Aside0.mk ho2
  have HB2 := Aside0.mk hb2
  clear ho2 hb2
  go_wp2_with fail
  refine (leaf3_at _).mono ?_
  rintro e w3 ⟨A3, c3, rfl, ho3, hb3⟩
  have HO3 := Aside0.mk ho3
  have HB3 := Aside0.mk hb3
  clear ho3 hb3
  go_wp2_with fail
  refine (leaf4_at _).mono ?_
  rintro e w4 ⟨A4, c4, rfl, ho4, hb4⟩
  have HO4 := Aside0.mk ho4
  have HB4 := Aside0.mk hb4
  clear ho4 hb4
  have HO13 := Aside0.mk (Kd.R_below (Kd.R_below (Kd.R_below HO1.out HB2.out) HB3.out) HB4.out)
  have HO23 := Aside0.mk (Kd.R_below (Kd.R_below HO2.out HB3.out) HB4.out)
  have HO33 := Aside0.mk (Kd.R_below HO3.out HB4.out)
  have HBw := Aside0.mk (bstep (bstep (bstep (bstep HB0.out HB1.out) HB2.out) HB3.out) HB4.out)
  clear HO1 HO2 HO3 HB0 HB1 HB2 HB3 HB4
  go_wp2_with (first | ((with_reducible refine gate_dst (N := 20) rfl ?_); refine Kd.N_lit LK (w0 := w4) w4.heap.size 23 ?hg (N' := 20) ?hd (xs := regI) (inner := [.slice A1 reg1.length c1, .slice A2 reg2.length c2, .slice A3 reg3.length c3, .slice A4 leaf0.length c4]) (ok := (fun _ => True)) (okp := (fun _ => True)) ?hr ?hp (fun _ hk => hk) trivial (Below.refl _ _) (Nat.le_refl _) (by decide) ?_; (case hd => rfl); (case hg => rfl); (case hr => first | (go_simp; done) | (go_simp; rfl)); (case hp => exact (Reps.one (leaf_fk HO13.out) (Reps.one (leaf_fk HO23.out) (Reps.one (leaf_fk HO33.out) (Reps.one (leaf_fk HO4.out) (Reps.none _ _)))))); intro v5 w5 ho5 hb hg_ hnew_; obtain ⟨AR, cR, eR⟩ := Kd.N_slice ho5; subst eR; have HRG := Aside0.mk (Kd.N_reads' ho5).2.2; have HB5 := Aside0.mk (bstep HBw.out hb); clear hg_ hnew_ ho5 hb) | ((with_reducible refine gate_dst (N := 21) rfl ?_); refine Kd.S_lits LK (w0 := w5) w5.heap.size 23 ?hg (N := 21) ?hd (xs := []) (inner := []) (ok := (fun k => w5.heap.size ≤ k)) (fun _ _ => False) ?hr rfl ?hp (fun _ _ _ h _ => h.elim) (fun _ _ h => h.elim) (Nat.le_refl _) (Below.refl _ _) (Nat.le_refl _) (by simp) ?_; (case hd => rfl); (case hg => rfl); (case hr => first | (go_simp; done) | (go_simp; rfl)); (case hp => exact (fun j x hx => by simp at hx)); intro v6 w6 ho6 hb hg_ hnew_; have HO6 := Aside0.mk ho6; have HB6 := Aside0.mk hb; clear hg_ hnew_ ho6 hb))
  clear HO13 HO23 HO33 HO4 HBw
  have HL10 := Aside0.mk (spreadB_parts HS.out).1
  go_loopg [5, 24] 10 (fun kq v5 v24 w' => ∃ i : Int, v24 = .int .i64 i ∧ Aside0 (0 ≤ i ∧ i ≤ 10) ∧ Aside0 ((10 : Int) - i ≤ kq) ∧ Aside0 (Kd.S LK 23 w' w5.heap.size (fun k_ => w5.heap.size ≤ k_) v5 (restI l i.toNat)) ∧ Aside0 (Below w5.heap.size w5 w'))
  case atStart => exact ⟨0, rfl, ⟨by omega⟩, ⟨by omega⟩, HO6, HB6⟩
  case round =>
    clear HO6 HB6
    obtain ⟨i, rfl, HI, HK, HO, HB⟩ := hrel
    have h0 : 0 ≤ i := HI.out.1
    have hBw := bstep HB5.out HB.out
    by_cases c6l : i < (l.length : Int)
    · have c6 : i < 10 := by have := HL10.out; omega
      obtain ⟨ad, A', c', e, hx, hcap, hin⟩ := at_LI (Kd.C_below HR.out hBw) i h0 c6l
      cases e
      have l9 : (rd_LI l i).length = 9 := (leafB_parts (spread_leaf HS.out h0 c6)).1
      have hrest : restI l (i + 1).toNat = if rd_LI l i ∈ regI then restI l i.toNat else restI l i.toNat ++ [rd_LI l i] := by
        rw [show (i + 1).toNat = i.toNat + 1 by omega]
        show (if rd_LI l (i.toNat : Int) ∈ regI then _ else _) = _
        rw [Int.toNat_of_nonneg h0]
      have hrl : (restI l i.toNat).length ≤ i.toNat := by rw [restI_length]; exact (restN_nines HS.out i.toNat (by omega)).1
      have HC := Aside0.mk (hasLeaf_calls AR cR regI A' c' (rd_LI l i) wr (Kd.C_below HRG.out HB.out) hin hcap (by decide))
      obtain ⟨L, hL⟩ : ∃ L, rd_LI l i = L := ⟨_, rfl⟩
      rw [hL] at hx hcap hin l9 hrest HC
      have HRL := Aside0.mk hrl
      have HIN := Aside0.mk hin
      have HCAP := Aside0.mk hcap
      have L9 := Aside0.mk l9
      clear hrl hin hcap l9 hL
      by_cases hm : L ∈ regI
      · rw [if_pos hm] at hrest
        rw [decide_eq_true hm] at HC
        have HE := Aside0.mk hrest
        clear hrest hm
        go_wp2_with (go_at_call 82; refine HC.out.mono ?_; rintro e w' ⟨rfl, hb'⟩)
        go_roundg (10 - (i.toNat + 1))
        case measure => have := HK.out; omega
        case rel => exact ⟨i + 1, rfl, ⟨by omega⟩, ⟨by omega⟩, ⟨by rw [HE.out]; exact Kd.S_below HO.out hb'⟩, ⟨bstep HB.out hb'⟩⟩
      · rw [if_neg hm] at hrest
        rw [decide_eq_false hm] at HC
        have HE := Aside0.mk hrest
        clear hrest hm
        obtain ⟨R, hR⟩ : ∃ R, restI l i.toNat = R := ⟨_, rfl⟩
        rw [hR] at HE HO HRL
        clear hR
        go_wp2_with fail
        refine HC.out.mono ?_
        rintro e w7 ⟨rfl, hb7⟩
        have HOd := Aside0.mk (Kd.S_below (Kd.S_mono (ok' := fun k_ => w5.heap.size ≤ k_ ∧ ¬ wr.heap.size ≤ k_) (Kd.S_bound HO.out) (fun k hk => ⟨hk.1, by have := hk.2.2.1; omega⟩)) hb7)
        have HU := Aside0.mk (Kd.S_lt HO.out)
        have HS7 := Aside0.mk hb7.size
        have HB7 := Aside0.mk (bstep HB.out hb7)
        have HIN7 := Aside0.mk (Kd.C_below HIN.out hb7)
        clear hb7 HO HC hBw
        go_wp2_with (first
          | ((with_reducible refine gate_dst (N := 33) rfl ?_); refine Kd.R_lit (Kd.int .i64) (w0 := w7) w7.heap.size 3 ?hg (N := 33) ?hd (xs := ([] : List Int)) (inner := []) (ok := fun _ => True) (okp := fun _ => True) ?hr ?hp (fun _ hk => hk) trivial (Below.refl _ _) (Nat.le_refl _) (by simp) ?_; (case hd => rfl); (case hg => rfl); (case hr => first | (go_simp; done) | (go_simp; rfl)); (case hp => exact (Reps.none _ _)); intro v8 w8 ho hb hg_ hnew_; have HO8 := Aside0.mk ho; have HB8 := Aside0.mk hb; clear ho hb hg_ hnew_)
          | (at_builtin; refine Kd.R_append_rows (Kd.int .i64) (w0 := w7) w7.heap.size rfl (.tmp 33) (.tmp 34) 23 3 (.int .i64 0) 8 rfl Try.underlying23 info3 rfl (by decide) (by omega) v8 [] L A' L.length c' (fun _ => True) (fun _ => False) rfl rfl ?aO ?aR (fun _ _ h => h) (fun _ hk => hk.elim) (fun _ _ => trivial) ?aB ?aS ?aL ?_; (case aO => exact HO8.out); (case aR => exact Kd.C_below HIN7.out HB8.out); (case aB => exact HB8.out); (case aS => exact HB8.out.size); (case aL => have := L9.out; simp; omega); intro v9 w9 ho hb hg hat; rw [List.nil_append] at ho; obtain ⟨A9, c9, e9⟩ := Kd.R_slice ho; subst e9; have HO9 := Aside0.mk ho; have HB9 := Aside0.mk hb; clear ho hb hg hat)
          | (at_builtin; refine Kd.S_append LK (w0 := w5) w5.heap.size rfl (.tmp 32) (.tmp 36) 32 23 (.slice none 0 0) 24 rfl Try.underlying32 info23 rfl (by decide) (by omega) u5 R L [.slice A9 L.length c9] (fun k_ => w5.heap.size ≤ k_) (fun k_ => wr.heap.size ≤ k_) rfl rfl ?aP ?aK ?aF ?aO ?aB ?aS ?aL ?_; (case aP => exact ⟨_, rfl, Kd.R_lower (Kd.R_mono (Kd.R_bound HO9.out) (fun k hk => Nat.le_trans HS7.out hk.2.1)) HB7.out.size⟩); (case aK => exact (fun k_ hk => ⟨Nat.le_trans HB.out.size hk, fun e => Nat.lt_irrefl _ (Nat.lt_of_lt_of_le (HU.out k_ e.symm) hk)⟩)); (case aB => exact bstep HB7.out HB9.out); (case aF => exact (fun k_ hk => Nat.le_trans (bstep HB7.out HB9.out).size hk)); (case aO => exact Kd.S_below HOd.out HB9.out); (case aS => exact (bstep HB7.out HB9.out).size); (case aL => have := HRL.out; omega); intro v10 w10 ho hb hg hat; have HO10 := Aside0.mk ho; have HB10 := Aside0.mk hb; clear ho hb hg hat))
        go_roundg (10 - (i.toNat + 1))
        case measure => have := HK.out; omega
        case rel => exact ⟨i + 1, rfl, ⟨by omega⟩, ⟨by omega⟩, ⟨by rw [HE.out]; exact HO10.out⟩, HB10⟩
    · have hi : i = 10 := by have := HL10.out; have := HI.out; omega
      subst hi
      have HNI := Aside0.mk (restN_nines HS.out 10 (by omega)).2
      have HMM := Aside0.mk (restI_mem l 10)
      have HO := Aside0.mk (show Kd.S LK 23 wr w5.heap.size (fun k_ => w5.heap.size ≤ k_) u5 (restI l 10) from HO.out)
      have hout : outI l = restI l 10 ++ newI 4 := rfl
      have HOUT := Aside0.mk hout
      clear hout hBw
      by_cases hn6 : (restI l 10).length = 6
      case neg =>
        obtain ⟨Aq, cq, eq⟩ := Kd.S_slice HO.out
        subst eq
        have hne : ¬ (((restI l 10).length : Int) = 6) := by omega
        have HBB := Aside0.mk (bstep HB5.out HB.out)
        have HIF := Aside0.mk hn6
        clear hn6
        go_wp2
        go_ret2
        exact ⟨⟨.slice none 0 0, [], by rw [decide_eq_false HIF.out]; rfl, Kd.S_nil _ _ _ _ _, HBB.out, by rw [if_neg HIF.out]⟩⟩
      case pos =>
      have HND := Aside0.mk (HND.out hn6)
      obtain ⟨Aq, cq, eq⟩ := Kd.S_slice HO.out
      rw [hn6] at eq
      subst eq
      have HN6 := Aside0.mk hn6
      clear hn6
      go_wp2_with ((with_reducible refine gate_dst (N := 42) rfl ?_); refine Kd.R_lit (Kd.int .i64) (w0 := w5) w5.heap.size 3 ?hg (N := 42) ?hd (xs := ([1, 3, 4, 5] : List Int)) (inner := [.int .i64 1, .int .i64 3, .int .i64 4, .int .i64 5]) (ok := fun _ => True) (okp := fun _ => True) ?hr ?hp (fun _ hk => hk) trivial HB.out HB.out.size (by simp) ?_; (case hd => rfl); (case hg => rfl); (case hr => first | (go_simp; done) | (go_simp; rfl)); (case hp => exact (Reps.one (show Kd.M (Kd.int .i64) _ _ _ 1 [.int .i64 1] from rfl) (Reps.one (show Kd.M (Kd.int .i64) _ _ _ 3 [.int .i64 3] from rfl) (Reps.one (show Kd.M (Kd.int .i64) _ _ _ 4 [.int .i64 4] from rfl) (Reps.one (show Kd.M (Kd.int .i64) _ _ _ 5 [.int .i64 5] from rfl) (Reps.none _ _)))))); intro v12 w12 ho hb hg_ hnew_; obtain ⟨AL, cL, eL⟩ := Kd.R_slice ho; subst eL; have HLI := Aside0.mk ho; have HB12 := Aside0.mk hb; have HO12 := Aside0.mk (Kd.S_grown HO.out hg_ (fun k _ => by simp)); clear ho hb hg_ hnew_)
      go_loopg [5, 44] 4 (fun kq v5 v44 w' => ∃ j : Int, v44 = .int .i64 j ∧ Aside0 (0 ≤ j ∧ j ≤ 4) ∧ Aside0 ((4 : Int) - j ≤ kq) ∧ Aside0 (Kd.S LK 23 w' w5.heap.size (fun k_ => w5.heap.size ≤ k_) v5 (restI l 10 ++ newI j.toNat)) ∧ Aside0 (Kd.R (Kd.int .i64) 3 w' w5.heap.size (fun _ => True) (.slice AL ([1, 3, 4, 5] : List Int).length cL) [1, 3, 4, 5]) ∧ Aside0 (Below w5.heap.size w5 w'))
      case atStart => exact ⟨0, rfl, ⟨by omega⟩, ⟨by omega⟩, ⟨by rw [show newI (0 : Int).toNat = [] from rfl, List.append_nil]; exact HO12.out⟩, HLI, HB12⟩
      case round =>
        clear HO12 HLI HB12 HO HB
        rename World => wB
        obtain ⟨j, rfl, HI, HK, HO, HLI, HB⟩ := hrel
        have h0 : 0 ≤ j := HI.out.1
        by_cases c7 : j < 4
        · obtain ⟨ad, eL, hx0⟩ := ReadsOf.at_ (Kd.reads_of_C (enc := Value.int .i64) (d := (0 : Int)) (h1 := fun _ => rfl) (Kd.R_reads' HLI.out).2.2) j h0 (by simpa using c7)
          cases eL
          have hx : wB.cell? (ad.add j.toNat) = some (.int .i64 (cAt j)) := hx0
          have HCC := Aside0.mk (cAt_cc h0 c7)
          have hnew := newI_succ h0 c7
          have hnl : (restI l 10 ++ newI j.toNat).length = 6 + j.toNat := by rw [List.length_append, HN6.out, newI_length h0 (by omega)]
          have HNL := Aside0.mk hnl
          have hc0 : 0 ≤ cAt j ∧ cAt j < 9 := by have := HCC.out; unfold CC at this; omega
          obtain ⟨c, hc⟩ : ∃ c, cAt j = c := ⟨_, rfl⟩
          rw [hc] at hx HCC hnew hc0
          obtain ⟨cc0, cc1⟩ := hc0
          have HNW := Aside0.mk (show restI l 10 ++ newI (j + 1).toNat = (restI l 10 ++ newI j.toNat) ++ [otherL c] by rw [hnew, List.append_assoc])
          obtain ⟨R, hR⟩ : ∃ R, restI l 10 ++ newI j.toNat = R := ⟨_, rfl⟩
          rw [hR] at HO HNL HNW
          clear hx0 hnew hnl hc hR
          go_wp2_with ((with_reducible refine gate_dst (N := 48) rfl ?_); refine Kd.R_lit (Kd.int .i64) (w0 := wB) wB.heap.size 3 ?hg (N := 48) ?hd (xs := ([] : List Int)) (inner := []) (ok := fun _ => True) (okp := fun _ => True) ?hr ?hp (fun _ hk => hk) trivial (Below.refl _ _) (Nat.le_refl _) (by simp) ?_; (case hd => rfl); (case hg => rfl); (case hr => first | (go_simp; done) | (go_simp; rfl)); (case hp => exact (Reps.none _ _)); intro v16 w16 ho hb hg_ hnew_; have HO16 := Aside0.mk ho; have HB16 := Aside0.mk hb; clear ho hb hg_ hnew_)
          have HWR := Aside0.mk HB.out.size
          go_loopg [10, 49] 3 (fun kq v10 v49 w' => ∃ u : Int, v49 = .int .i64 u ∧ Aside0 (0 ≤ u ∧ u ≤ 3) ∧ Aside0 ((3 : Int) - u ≤ kq) ∧ Aside0 (Kd.R (Kd.int .i64) 3 w' wB.heap.size (fun _ => True) v10 (uvL c (3 * u.toNat))) ∧ Aside0 (Below wB.heap.size wB w'))
          case atStart => exact ⟨0, rfl, ⟨by omega⟩, ⟨by omega⟩, HO16, HB16⟩
          case round =>
            clear HO16 HB16
            obtain ⟨u, rfl, HI2, HK2, HO2, HB2⟩ := hrel
            have u0 : 0 ≤ u := HI2.out.1
            by_cases c8 : u < 3
            · have HT1 := Aside0.mk (fun w => impl_times.calls c u (timesN c u) w (times_eq cc0 cc1 u0 (by omega)))
              have hq1 := timesN_range c u
              obtain ⟨q1, e1⟩ : ∃ q, timesN c u = q := ⟨_, rfl⟩
              rw [e1] at HT1 hq1
              have HE1 := Aside0.mk e1
              obtain ⟨q10, q11⟩ := hq1
              clear e1
              go_wp2
              go_loopg [10, 52] 3 (fun kq v10 v52 w' => ∃ v : Int, v52 = .int .i64 v ∧ Aside0 (0 ≤ v ∧ v ≤ 3) ∧ Aside0 ((3 : Int) - v ≤ kq) ∧ Aside0 (Kd.R (Kd.int .i64) 3 w' wB.heap.size (fun _ => True) v10 (uvL c (3 * u.toNat + v.toNat))) ∧ Aside0 (Below wB.heap.size wB w'))
              case atStart => exact ⟨0, rfl, ⟨by omega⟩, ⟨by omega⟩, HO2, HB2⟩
              case round =>
                clear HO2 HB2
                obtain ⟨v, rfl, HI3, HK3, HO2, HB2⟩ := hrel
                have v0 : 0 ≤ v := HI3.out.1
                by_cases c9 : v < 3
                · have HT2 := Aside0.mk (fun w => impl_times.calls c v (timesN c v) w (times_eq cc0 cc1 v0 (by omega)))
                  have hq2 := timesN_range c v
                  obtain ⟨q2, e2⟩ : ∃ q, timesN c v = q := ⟨_, rfl⟩
                  rw [e2] at HT2 hq2
                  obtain ⟨q20, q21⟩ := hq2
                  have huv : uvL c (3 * u.toNat + (v + 1).toNat) = uvL c (3 * u.toNat + v.toNat) ++ [9 * q1 + q2] := by
                    rw [show 3 * u.toNat + (v + 1).toNat = (3 * u.toNat + v.toNat) + 1 by omega, uvL_succ, show (((3 * u.toNat + v.toNat : Nat) : Int)) / 3 = u by omega, show (((3 * u.toNat + v.toNat : Nat) : Int)) % 3 = v by omega, HE1.out, e2]
                  have hul : (uvL c (3 * u.toNat + v.toNat)).length = 3 * u.toNat + v.toNat := uvL_length _ _
                  obtain ⟨X, hX⟩ : ∃ X, uvL c (3 * u.toNat + v.toNat) = X := ⟨_, rfl⟩
                  rw [hX] at HO2 huv hul
                  have HUV := Aside0.mk huv
                  have HUL := Aside0.mk hul
                  clear huv hul hX e2
                  go_wp2_with (first
                    | (refine goesL_ (some 58) rfl rfl Try.func80 (by kernel_rfl) rfl #[.int .i64 c, .int .i64 u] rfl ll_ ?_; (with_reducible refine (HT1.out _).mono ?_); rintro e w' ⟨rfl, ⟨nd, rfl⟩⟩; refine ⟨_, rfl, ?_⟩)
                    | (refine goesL_ (some 62) rfl rfl Try.func80 (by kernel_rfl) rfl #[.int .i64 c, .int .i64 v] rfl ll_ ?_; (with_reducible refine (HT2.out _).mono ?_); rintro e w' ⟨rfl, ⟨nd, rfl⟩⟩; refine ⟨_, rfl, ?_⟩)
                    | (at_builtin; refine Kd.R_append (Kd.int .i64) (w0 := wB) wB.heap.size rfl (.tmp 55) (.tmp 64) 23 3 (.int .i64 0) 8 rfl Try.underlying23 info3 rfl (by decide) (by omega) u10 X (9 * q1 + q2) [.int .i64 (9 * q1 + q2)] (fun _ => True) (fun _ => False) rfl rfl ?aP (fun _ hk => hk.elim) ?aF ?aO ?aB ?aS ?aL ?_; (case aP => exact rfl); (case aB => exact (bb_ HB2)); (case aF => exact (fun _ _ => trivial)); (case aO => exact (rr_ HO2)); (case aS => exact (below_size (bb_ HB2))); (case aL => have := HUL.out; omega); intro v17 w17 ho hb hg hat; have HO17 := Aside0.mk ho; have HB17 := Aside0.mk hb; clear ho hb hg hat))
                  go_roundg (3 - (v.toNat + 1))
                  case measure => have := HK3.out; omega
                  case rel => exact ⟨v + 1, rfl, ⟨by omega⟩, ⟨by omega⟩, ⟨by rw [HUV.out]; exact HO17.out⟩, HB17⟩
                · have hv : v = 3 := by have := HI3.out; omega
                  subst hv
                  go_wp2
                  go_roundg (3 - (u.toNat + 1))
                  case measure => have := HK2.out; omega
                  case rel => exact ⟨u + 1, rfl, ⟨by omega⟩, ⟨by omega⟩, ⟨by rw [show 3 * (u + 1).toNat = 3 * u.toNat + (3 : Int).toNat by omega]; exact HO2.out⟩, HB2⟩
            · have hu : u = 3 := by have := HI2.out; omega
              subst hu
              obtain ⟨A10, c10, e10⟩ := Kd.R_slice HO2.out
              have e10 : u10 = .slice A10 9 c10 := e10
              subst e10
              obtain ⟨ks, hks⟩ := other_sort HCC.out
              have HSO := Aside0.mk (fun w1 hB ho => slices_Sort_int_int.calls ks (fun _ => True) (.slice A10 9 c10) (uvL c 9) (otherL c) wB w1 hB ho hks)
              have HO2 := Aside0.mk (show Kd.R (Kd.int .i64) 3 wr wB.heap.size (fun _ => True) (.slice A10 9 c10) (uvL c 9) from HO2.out)
              have HOC := Aside0.mk (other_nine HCC.out)
              clear hks
              have HOd := Aside0.mk (Kd.S_mono (ok' := fun k_ => w5.heap.size ≤ k_ ∧ ¬ wB.heap.size ≤ k_) (Kd.S_bound HO.out) (fun k hk => ⟨hk.1, by have := hk.2.2.1; omega⟩))
              have HU := Aside0.mk (Kd.S_lt HO.out)
              clear HO
              obtain ⟨Z, hZ⟩ : ∃ Z, otherL c = Z := ⟨_, rfl⟩
              rw [hZ] at HNW HSO
              clear hZ HOC
              go_wp2_with (first
                | (go_at_call 63; refine (HSO.out _ HB2.out HO2.out).mono ?_; rintro e w18 ⟨rfl, ho18, hb18, hk18⟩; have HO18 := Aside0.mk ho18; have HB18 := Aside0.mk hb18; clear ho18 hb18 hk18)
                | (at_builtin; refine Kd.S_append LK (w0 := w5) w5.heap.size rfl (.tmp 70) (.tmp 72) 32 23 (.slice none 0 0) 24 rfl Try.underlying32 info23 rfl (by decide) (by omega) u5 R Z [.slice A10 9 c10] (fun k_ => w5.heap.size ≤ k_) (fun k_ => wB.heap.size ≤ k_) rfl rfl ?aP ?aK ?aF ?aO ?aB ?aS ?aL ?_; (case aP => exact ⟨_, rfl, Kd.R_lower (Kd.R_mono (Kd.R_bound HO18.out) (fun k hk => hk.2.1)) HB.out.size⟩); (case aK => exact (fun k_ hk => ⟨Nat.le_trans HB.out.size hk, fun e => Nat.lt_irrefl _ (Nat.lt_of_lt_of_le (HU.out k_ e.symm) hk)⟩)); (case aB => exact bstep HB.out HB18.out); (case aF => exact (fun k_ hk => Nat.le_trans (bstep HB.out HB18.out).size hk)); (case aO => exact Kd.S_below HOd.out HB18.out); (case aS => exact (bstep HB.out HB18.out).size); (case aL => have := HNL.out; omega); intro v19 w19 ho hb hg hat; have HO19 := Aside0.mk ho; have HB19 := Aside0.mk hb; have HL19 := Aside0.mk (Kd.R_over' (Kd.R_below HLI.out HB18.out) (Kd.S_typed (Kd.S_below HOd.out HB18.out)) (by decide) hg); clear ho hb hg hat))
              go_roundg (4 - (j.toNat + 1))
              case measure => have := HK.out; omega
              case rel => exact ⟨j + 1, rfl, ⟨by omega⟩, ⟨by omega⟩, ⟨by rw [HNW.out]; exact HO19.out⟩, HL19, HB19⟩
        · have hj : j = 4 := by have := HI.out; omega
          subst hj
          have HO := Aside0.mk (show Kd.S LK 23 wB w5.heap.size (fun k_ => w5.heap.size ≤ k_) u5 (outI l) from HO.out)
          have hol : (outI l).length = 10 := by unfold outI; rw [List.length_append, HN6.out]; rfl
          have hon : ∀ x ∈ outI l, x.length = 9 := fun x hx => by
            rcases List.mem_append.1 hx with h | h
            · exact HNI.out x ((HMM.out x).1 h)
            · obtain ⟨c, hc, rfl⟩ := List.mem_map.1 h
              have hc : c ∈ ([1, 3, 4, 5] : List Int) := hc
              exact other_nine (by simpa [CC] using hc)
          obtain ⟨Ar, cr, er⟩ := Kd.S_slice HO.out
          rw [hol] at er
          subst er
          have HC := Aside0.mk (fun w1 hB hN => sortRows_calls (outI l) hol hon HND.out Ar cr w5 w1 (fun k_ => w5.heap.size ≤ k_) hB hN)
          have HIF := Aside0.mk HN6.out
          clear hol hon
          go_wp2_with (go_at_call 83; refine (HC.out _ HB.out HO.out).mono ?_; rintro e w' ⟨rfl, r, hr, hN, hb⟩)
          go_ret2
          exact ⟨⟨.slice Ar 10 cr, r, by rw [decide_eq_true HIF.out]; rfl, Kd.S_mono (Kd.S_lower hN HB5.out.size) (fun _ _ => trivial), bstep HB5.out hb, by rw [if_pos HIF.out]; exact hr⟩⟩
end Go.Proofs.Ytbfafjejmljcpaa.X
namespace Go.Proofs.Ytbfafjejmljcpaa.P
open Go.RowKit Go.Proofs.YtbfafjejmljcpaaW.PrintWords Go.Proofs.YtbfafjejmljcpaaW.PrintLast
def impl_SpreadDerive.f (l0 : List (List Int)) : Option (List (List Int) × Bool) := some (X.deriveR l0)
theorem impl_SpreadDerive.callsS (A0 : Option Addr) (c0 : Nat) (l0 : List (List Int)) (r1 : List (List Int)) (r2 : Bool) (w : World) (hr0 : Kd.C (Kd.slice 3 (Kd.int .i64)) w A0 l0.length l0) (hc0 : l0.length ≤ c0) (h : impl_SpreadDerive.f l0 = some (r1, r2)) :
    Calls Try.prog 41 #[.slice A0 l0.length c0] w fun e w' => ∃ v0_ : Value, e = .returned (.tuple #[v0_, .bool r2]) ∧ Kd.S (Kd.slice 3 (Kd.int .i64)) 23 w' w.heap.size (fun _ => True) v0_ r1 ∧ Below w.heap.size w w' := by
  unfold impl_SpreadDerive.f X.deriveR at h
  by_cases hs : X.spreadB l0 = true
  case neg =>
    rw [if_neg fun h => hs h.1] at h
    injection h with h
    injection h with h1 h2
    subst h1; subst h2
    exact (X.derive_no A0 c0 l0 w hr0 (Bool.eq_false_iff.2 hs)).mono fun e w' ⟨he, hb⟩ => ⟨_, he, Kd.S_nil _ _ _ _ _, hb⟩
  case pos =>
  refine (X.derive_yes A0 c0 l0 w hr0 hs (X.outI_nodup hs)).mono ?_
  rintro e w' ⟨v, r, he, hS, hb, hr⟩
  have hlen : (X.restI l0 10).length = 6 ↔ (X.restN l0 10).length = 6 := by rw [X.restI_length]
  by_cases h6 : (X.restI l0 10).length = 6
  · rw [if_pos ⟨hs, hlen.1 h6⟩] at h
    injection h with h
    injection h with h1 h2
    subst h1; subst h2
    rw [if_pos h6] at hr
    rw [decide_eq_true h6] at he
    rw [X.derive_eq hs h6 hr.2.1 hr.2.2] at hS
    exact ⟨v, he, hS, hb⟩
  · rw [if_neg fun h => h6 (hlen.2 h.2)] at h
    injection h with h
    injection h with h1 h2
    subst h1; subst h2
    rw [if_neg h6] at hr
    rw [decide_eq_false h6] at he
    subst hr
    exact ⟨v, he, hS, hb⟩
theorem impl_SpreadDerive.calls (A0 : Option Addr) (c0 : Nat) (l0 : List (List Int)) (r1 : List (List Int)) (r2 : Bool) (w : World) (hr0 : Kd.C (Kd.slice 3 (Kd.int .i64)) w A0 l0.length l0) (hc0 : l0.length ≤ c0) (h : impl_SpreadDerive.f l0 = some (r1, r2)) :
    Calls Try.prog 41 #[.slice A0 l0.length c0] w fun e w' => ∃ v0_ : Value, e = .returned (.tuple #[v0_, .bool r2]) ∧ Kd.N (Kd.slice 3 (Kd.int .i64)) 23 w' w.heap.size (fun k_ => (w.heap.size ≤ k_)) v0_ r1 ∧ Below w.heap.size w w' :=
  (impl_SpreadDerive.callsS A0 c0 l0 r1 r2 w hr0 hc0 h).mono fun e w' ⟨v, he, hS, hb⟩ => ⟨v, he, Kd.S_N (Kd.S_mono (Kd.S_bound hS) (fun k hk => hk.2.1)), hb⟩
end Go.Proofs.Ytbfafjejmljcpaa.P
