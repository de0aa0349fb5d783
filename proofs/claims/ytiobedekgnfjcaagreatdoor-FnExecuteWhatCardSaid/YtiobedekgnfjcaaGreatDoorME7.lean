/- What both Executes come to: contracts and plain laws, for the laws on Execute. No conditions. (Part 8 of 28.) -/
import Derived.Test.YtiobedekgnfjcaaGreatDoorME3
import Derived.Test.YtiobedekgnfjcaaGreatDoorME4
import Derived.Test.YtiobedekgnfjcaaGreatDoorME5
set_option linter.unusedVariables false
set_option linter.unusedSimpArgs false
set_option maxHeartbeats 8000000
set_option maxRecDepth 100000
namespace Go.Proofs.YtiobedekgnfjcaaGreatDoor
open Go.Proofs.YtiobedekgnfjcaaGreatDoorW.aq Go.Proofs.YtiobedekgnfjcaaGreatDoorW.ay Go.RowKit
namespace X
open Go.Proofs.YtiobedekgnfjcaaGreatDoor.P
def Cb(b:Int):Bool:=(nW.f 20 b).getD false
def sl(a:Int):Int:=(vJ.f a).getD 0
def elI(a b:Int):Int:=(lY.f a b).getD 0
def abJ(r s b:Int):Int:=(b%3*(b%3) - r*(b%3) - s)*(b / 3)
def sn(r s a b:Int):Int:=elI (a%3*(b%3) - a / 3*abJ r s b) (a%3*(b / 3) - a / 3*(b%3)+a / 3*r)
def oR(c a b:Int):Int:=
 if c=1∧0<b∧Cb b=false then(eP.f (sl a) b).getD 0
 else if c<2∨b / 3=0 then(eP.f a b).getD 0
 else if c=2 then sn 0 2 a b else if c=3 then sn 1 1 a b else sn 2 1 a b
theorem Sc(a b c:Int)(w:World):(Instr.index 73 (.agg #[.int .i64 a,.int .i64 b,.int .i64 c]) (.int .i64 0)).run Tryz.prog w=.ok (.int .i64 a) w:=by kernel_rfl
theorem Sd(a b c:Int)(w:World):(Instr.index 73 (.agg #[.int .i64 a,.int .i64 b,.int .i64 c]) (.int .i64 1)).run Tryz.prog w=.ok (.int .i64 b) w:=by kernel_rfl
theorem Se(a b c:Int)(w:World):(Instr.index 73 (.agg #[.int .i64 a,.int .i64 b,.int .i64 c]) (.int .i64 2)).run Tryz.prog w=.ok (.int .i64 c) w:=by kernel_rfl
theorem abK:∀b:Fin 9,nW.f 20 (b.val:Int)=some (Cb (b.val:Int)):=by decide+kernel
theorem abL:∀b:Fin 9,vJ.f (b.val:Int)=some (sl (b.val:Int)):=by decide+kernel
theorem abM:∀a b:Fin 9,eP.f (sl (a.val:Int)) (b.val:Int)=some ((eP.f (sl (a.val:Int)) (b.val:Int)).getD 0):=by decide+kernel
theorem Cc:∀a b:Fin 9,eP.f (a.val:Int) (b.val:Int)=some ((eP.f (a.val:Int) (b.val:Int)).getD 0):=by decide+kernel
theorem abN(a b:Int)(ha:bP a)(hb:bP b)(w:World):
  Calls Tryz.prog 44 #[.int .i64 1,.int .i64 a,.int .i64 b] w fun e w'=>e=.returned (.int .i64 (oR 1 a b))∧aG w w':=by
 have C1:=af.mk (fun w=>nW.calls 20 b (Cb b) w (nU (P:=fun b=>nW.f 20 b=some (Cb b)) abK b hb.1 hb.2));have C2:=af.mk (fun w=>vJ.calls a (sl a) w (nU (P:=fun b=>vJ.f b=some (sl b)) abL a ha.1 ha.2));have C3:=af.mk (fun w=>eP.calls (sl a) b _ w (kN (P:=fun a b=>eP.f (sl a) b=some ((eP.f (sl a) b).getD 0)) abM a b ha.1 ha.2 hb.1 hb.2));have C4:=af.mk (fun w=>eP.calls a b _ w (kN (P:=fun a b=>eP.f a b=some ((eP.f a b).getD 0)) Cc a b ha.1 ha.2 hb.1 hb.2));unfold oR;obtain⟨q,hq⟩:∃q,Cb b=q:=⟨_,rfl⟩;rw[hq] at C1 ⊢;clear ha hb hq;by_cases hp:0<b
 case neg=>
  have d1:decide (0<b)=false:=aD hp;rw[ag (by simp[hp]),ah bn];clear hp;go_enter Tryz.func44,Tryz.ntmps44;go_wp2_with (go_at_call 71;refine(C4.o _).mono ?_;rintro e w' ⟨rfl,⟨nd,rfl⟩⟩)
  go_ret;exact⟨rfl,⟨_,rfl⟩⟩
 case pos=>
 have d1:decide (0<b)=true:=ap hp;cases q with
 |true=>
  rw[ag bn,ah bn];clear hp;go_enter Tryz.func44,Tryz.ntmps44;go_wp2_with (first|(go_at_call 70;refine(C1.o _).mono ?_;rintro e w' ⟨rfl,⟨nd,rfl⟩⟩)|(go_at_call 71;refine(C4.o _).mono ?_;rintro e w' ⟨rfl,⟨nd,rfl⟩⟩))
  go_ret;exact⟨rfl,⟨_,rfl⟩⟩
 |false=>
  rw[ah (by simp[hp])];clear hp;go_enter Tryz.func44,Tryz.ntmps44;go_wp2_with (first|(go_at_call 70;refine(C1.o _).mono ?_;rintro e w' ⟨rfl,⟨nd,rfl⟩⟩)|(go_at_call 72;refine(C2.o _).mono ?_;rintro e w' ⟨rfl,⟨nd,rfl⟩⟩)|(go_at_call 71;refine(C3.o _).mono ?_;rintro e w' ⟨rfl,⟨nd,rfl⟩⟩))
  go_ret;exact⟨rfl,⟨_,rfl⟩⟩
theorem abO(a b:Int)(ha:bP a)(hb:bP b)(w:World):
  Calls Tryz.prog 44 #[.int .i64 0,.int .i64 a,.int .i64 b] w fun e w'=>e=.returned (.int .i64 (oR 0 a b))∧aG w w':=by
 have C4:=af.mk (fun w=>eP.calls a b _ w (kN (P:=fun a b=>eP.f a b=some ((eP.f a b).getD 0)) Cc a b ha.1 ha.2 hb.1 hb.2));unfold oR;rw[ag bn,ah bn];clear ha hb;go_enter Tryz.func44,Tryz.ntmps44;go_wp2_with (go_at_call 71;refine(C4.o _).mono ?_;rintro e w' ⟨rfl,⟨nd,rfl⟩⟩)
 go_ret;exact⟨rfl,⟨_,rfl⟩⟩
theorem abP(a b:Int)(ha:bP a)(hb:bP b)(w:World):
  Calls Tryz.prog 44 #[.int .i64 2,.int .i64 a,.int .i64 b] w fun e w'=>e=.returned (.int .i64 (oR 2 a b))∧aG w w':=by
 have C4:=af.mk (fun w=>eP.calls a b _ w (kN (P:=fun a b=>eP.f a b=some ((eP.f a b).getD 0)) Cc a b ha.1 ha.2 hb.1 hb.2));unfold oR;rw[ag bn];have zb:IntKind.i64.wrap (Int.tdiv b 3)=b / 3:=nU (P:=fun b=>IntKind.i64.wrap (Int.tdiv b 3)=b / 3) (by decide+kernel) b hb.1 hb.2;have hA:=af.mk ha;have hB:=af.mk hb;clear ha hb;by_cases hd:b / 3=0
 case pos=>
  rw[ah (Or.inr hd)];have hd1:((b / 3:Int)==0)=true:=by rw[hd];rfl
  clear hd;go_enter Tryz.func44,Tryz.ntmps44;go_wp2_with (go_at_call 71;refine(C4.o _).mono ?_;rintro e w' ⟨rfl,⟨nd,rfl⟩⟩)
  go_ret;exact⟨rfl,⟨_,rfl⟩⟩
 case neg=>
 have hd1:((b / 3:Int)==0)=false:=beq_false_of_ne hd;rw[ag ae,ah rfl];clear hd;go_enter Tryz.func44,Tryz.ntmps44;go_wp2_with fail
 have i1:=Sc 0 1 2;have i2:=Sc 2 1 1;go_region
 go_wp2_with fail
 refine(lY.calls _ _ (sn 0 2 a b) _ ?_).mono ?_
 ·exact kN (P:=fun a b=>lY.f (wrap64 (wrap64 (Int.tmod a 3*Int.tmod b 3) - wrap64 (wrap64 (Int.tdiv a 3)*wrap64 (wrap64 (wrap64 (wrap64 (Int.tmod b 3*Int.tmod b 3)) - 2)*(b / 3))))) (wrap64 (wrap64 (wrap64 (Int.tmod a 3*(b / 3)) - wrap64 (wrap64 (Int.tdiv a 3)*Int.tmod b 3))))=some (sn 0 2 a b)) (by decide+kernel) a b hA.o.1 hA.o.2 hB.o.1 hB.o.2
 rintro e w' ⟨rfl,⟨nd,rfl⟩⟩;go_wp2;go_ret;exact⟨rfl,⟨_,rfl⟩⟩
theorem abQ(a b:Int)(ha:bP a)(hb:bP b)(w:World):
  Calls Tryz.prog 44 #[.int .i64 3,.int .i64 a,.int .i64 b] w fun e w'=>e=.returned (.int .i64 (oR 3 a b))∧aG w w':=by
 have C4:=af.mk (fun w=>eP.calls a b _ w (kN (P:=fun a b=>eP.f a b=some ((eP.f a b).getD 0)) Cc a b ha.1 ha.2 hb.1 hb.2));unfold oR;rw[ag bn];have zb:IntKind.i64.wrap (Int.tdiv b 3)=b / 3:=nU (P:=fun b=>IntKind.i64.wrap (Int.tdiv b 3)=b / 3) (by decide+kernel) b hb.1 hb.2;have hA:=af.mk ha;have hB:=af.mk hb;clear ha hb;by_cases hd:b / 3=0
 case pos=>
  rw[ah (Or.inr hd)];have hd1:((b / 3:Int)==0)=true:=by rw[hd];rfl
  clear hd;go_enter Tryz.func44,Tryz.ntmps44;go_wp2_with (go_at_call 71;refine(C4.o _).mono ?_;rintro e w' ⟨rfl,⟨nd,rfl⟩⟩)
  go_ret;exact⟨rfl,⟨_,rfl⟩⟩
 case neg=>
 have hd1:((b / 3:Int)==0)=false:=beq_false_of_ne hd;rw[ag ae,ag ao,ah rfl];clear hd;go_enter Tryz.func44,Tryz.ntmps44;go_wp2_with fail
 have i1:=Sd 0 1 2;have i2:=Sd 2 1 1;go_region
 go_wp2_with fail
 refine(lY.calls _ _ (sn 1 1 a b) _ ?_).mono ?_
 ·exact kN (P:=fun a b=>lY.f (wrap64 (wrap64 (Int.tmod a 3*Int.tmod b 3) - wrap64 (wrap64 (Int.tdiv a 3)*wrap64 (wrap64 (wrap64 (wrap64 (Int.tmod b 3*Int.tmod b 3) - wrap64 (Int.tmod b 3)) - 1)*(b / 3))))) (wrap64 (wrap64 (wrap64 (Int.tmod a 3*(b / 3)) - wrap64 (wrap64 (Int.tdiv a 3)*Int.tmod b 3))+wrap64 (wrap64 (Int.tdiv a 3))))=some (sn 1 1 a b)) (by decide+kernel) a b hA.o.1 hA.o.2 hB.o.1 hB.o.2
 rintro e w' ⟨rfl,⟨nd,rfl⟩⟩;go_wp2;go_ret;exact⟨rfl,⟨_,rfl⟩⟩
theorem abR(a b:Int)(ha:bP a)(hb:bP b)(w:World):
  Calls Tryz.prog 44 #[.int .i64 4,.int .i64 a,.int .i64 b] w fun e w'=>e=.returned (.int .i64 (oR 4 a b))∧aG w w':=by
 have C4:=af.mk (fun w=>eP.calls a b _ w (kN (P:=fun a b=>eP.f a b=some ((eP.f a b).getD 0)) Cc a b ha.1 ha.2 hb.1 hb.2));unfold oR;rw[ag bn];have zb:IntKind.i64.wrap (Int.tdiv b 3)=b / 3:=nU (P:=fun b=>IntKind.i64.wrap (Int.tdiv b 3)=b / 3) (by decide+kernel) b hb.1 hb.2;have hA:=af.mk ha;have hB:=af.mk hb;clear ha hb;by_cases hd:b / 3=0
 case pos=>
  rw[ah (Or.inr hd)];have hd1:((b / 3:Int)==0)=true:=by rw[hd];rfl
  clear hd;go_enter Tryz.func44,Tryz.ntmps44;go_wp2_with (go_at_call 71;refine(C4.o _).mono ?_;rintro e w' ⟨rfl,⟨nd,rfl⟩⟩)
  go_ret;exact⟨rfl,⟨_,rfl⟩⟩
 case neg=>
 have hd1:((b / 3:Int)==0)=false:=beq_false_of_ne hd;rw[ag ae,ag ao,ag ao];clear hd;go_enter Tryz.func44,Tryz.ntmps44;go_wp2_with fail
 have i1:=Se 0 1 2;have i2:=Se 2 1 1;go_region
 go_wp2_with fail
 refine(lY.calls _ _ (sn 2 1 a b) _ ?_).mono ?_
 ·exact kN (P:=fun a b=>lY.f (wrap64 (wrap64 (Int.tmod a 3*Int.tmod b 3) - wrap64 (wrap64 (Int.tdiv a 3)*wrap64 (wrap64 (wrap64 (wrap64 (Int.tmod b 3*Int.tmod b 3) - wrap64 (2*Int.tmod b 3)) - 1)*(b / 3))))) (wrap64 (wrap64 (wrap64 (Int.tmod a 3*(b / 3)) - wrap64 (wrap64 (Int.tdiv a 3)*Int.tmod b 3))+wrap64 (wrap64 (Int.tdiv a 3)*2)))=some (sn 2 1 a b)) (by decide+kernel) a b hA.o.1 hA.o.2 hB.o.1 hB.o.2
 rintro e w' ⟨rfl,⟨nd,rfl⟩⟩;go_wp2;go_ret;exact⟨rfl,⟨_,rfl⟩⟩
theorem abS(c a b:Int)(hc:0≤c∧c<5)(ha:bP a)(hb:bP b)(w:World):
  Calls Tryz.prog 44 #[.int .i64 c,.int .i64 a,.int .i64 b] w fun e w'=>e=.returned (.int .i64 (oR c a b))∧aG w w':=by
 rcases(by omega:c=0∨c=1∨c=2∨c=3∨c=4) with rfl|rfl|rfl|rfl|rfl
 ·exact abO a b ha hb w
 ·exact abN a b ha hb w
 ·exact abP a b ha hb w
 ·exact abQ a b ha hb w
 ·exact abR a b ha hb w
end X
namespace P
def Cd.f(a0 a1 a2:Int):Option Int:=if(0≤a0∧a0<5)∧(0≤a1∧a1<9)∧(0≤a2∧a2<9) then some (X.oR a0 a1 a2) else none
theorem Cd.calls(a0 a1 a2:Int)(r:Int)(w:World)(h:Cd.f a0 a1 a2=some r):
  Calls Tryz.prog 44 #[.int .i64 a0,.int .i64 a1,.int .i64 a2] w fun e w'=>e=.returned (.int .i64 r)∧aG w w':=by
 unfold Cd.f at h;by_cases hc:(0≤a0∧a0<5)∧(0≤a1∧a1<9)∧(0≤a2∧a2<9)
 ·rw[ah hc] at h;obtain rfl:=au h;exact X.abS a0 a1 a2 hc.1 hc.2.1 hc.2.2 w
 ·rw[ag hc] at h;cases h
mutual
def eT.l0:Nat→Int→List Int→Int→Option (List Int)
 |0,_,_,_=>none
 |k+1,x0,x3,x7=>if x7<9 then(eT.l1 k x0 x3 x7 x7 0) else(some x3)
def eT.l1:Nat→Int→List Int→Int→Int→Int→Option (List Int)
 |0,_,_,_,_,_=>none
 |k+1,x0,x3,x4,x7,x10=>if x10<9 then((Cd.f x0 x4 x10).bind fun zm=>(if x3.length<17592186044416 then(eT.l1 k x0 (x3++[zm]) x4 x7 (wrap64 (x10+1))) else none)) else(eT.l0 k x0 x3 (wrap64 (x7+1)))
end
def eT.f(k:Nat)(a0:Int):Option (List Int):=eT.l0 k a0 (([]:List Int)) 0
theorem eT.lx:∀k,(∀y0 y1 y2,a7 (eT.l0 k y0 y1 y2) (eT.l0 (k+1) y0 y1 y2))∧(∀y0 y1 y2 y3 y4,a7 (eT.l1 k y0 y1 y2 y3 y4) (eT.l1 (k+1) y0 y1 y2 y3 y4))
 |0=>⟨fun _ _ _ r h=>by simp[eT.l0] at h,fun _ _ _ _ _ r h=>by simp[eT.l1] at h⟩
 |k+1=>by
  obtain⟨d7,ih1⟩:=eT.lx k;refine⟨?_,?_⟩
  ·intro y0 y1 y2;unfold eT.l0;repeat' first
   |(with_reducible exact d7 _ _ _)
   |(with_reducible exact ih1 _ _ _ _ _)
   |(with_reducible exact a7.refl _)
   |(with_reducible exact a7.none _)
   |(with_reducible refine a7.ite ?_ ?_)
   |(with_reducible refine a7.bind ?_ (fun _=>?_))
   |exact d7 _ _ _
   |exact ih1 _ _ _ _ _
   |exact a7.none _
   |refine a7.ite ?_ ?_
   |refine a7.bind ?_ (fun _=>?_)
  ·intro y0 y1 y2 y3 y4;unfold eT.l1;repeat' first
   |(with_reducible exact d7 _ _ _)
   |(with_reducible exact ih1 _ _ _ _ _)
   |(with_reducible exact a7.refl _)
   |(with_reducible exact a7.none _)
   |(with_reducible refine a7.ite ?_ ?_)
   |(with_reducible refine a7.bind ?_ (fun _=>?_))
   |exact d7 _ _ _
   |exact ih1 _ _ _ _ _
   |exact a7.none _
   |refine a7.ite ?_ ?_
   |refine a7.bind ?_ (fun _=>?_)
theorem eT.mono:∀a0 k,a7 (eT.f k a0) (eT.f (k+1) a0):=by
 intro a0 k;obtain⟨d7,ih1⟩:=eT.lx k;unfold eT.f
 repeat' first
   |(with_reducible exact d7 _ _ _)
   |(with_reducible exact ih1 _ _ _ _ _)
   |(with_reducible exact a7.refl _)
   |(with_reducible exact a7.none _)
   |(with_reducible refine a7.ite ?_ ?_)
   |(with_reducible refine a7.bind ?_ (fun _=>?_))
   |exact d7 _ _ _
   |exact ih1 _ _ _ _ _
   |exact a7.none _
   |refine a7.ite ?_ ?_
   |refine a7.bind ?_ (fun _=>?_)
theorem eT.calls(k:Nat)(a0:Int)(r:List Int)(w:World)(h:eT.f k a0=some r):
  Calls Tryz.prog 27 #[.int .i64 a0] w fun e w'=> ∃bO:Value,e=.returned (bO)∧Kd.R (Kd.int .i64) 3 w' w.heap.size (fun _=>True) bO r∧Below w.heap.size w w':=by
 have HB:=af.mk (Below.refl w.heap.size w);have H:=h;clear h;unfold eT.f at H;generalize Sf:((([]:List Int)):List Int)=abT at H;have Sg:=af.mk Sf.symm;clear Sf;have H':=af.mk H;clear H;go_enter Tryz.func27,Tryz.ntmps27;go_wp2_with (((with_reducible refine db (N:=6) rfl ?_);refine Kd.dV (Kd.int .i64) _ 3 ?hg (N:=6) ?hd (xs:=([]:List Int)) (inner:=[]) (ok:=fun _=>True) (bp:=fun _=>True) ?hr ?hp (fun _ hk=>hk) trivial (Below.refl _ _) (aH _) bn ?_;(case hd=>rfl);(case hg=>rfl);(case hr=>first|(go_simp;done)|(go_simp;rfl));(case hp=>exact(aE.none _ _));intro aqf w2 nr hb bq br;clear bq br;(first|rw[←Sg.o] at nr|(simp only[Int.reduceToNat] at nr;rw[←Sg.o] at nr));have abU:=af.mk (Kd.cv nr (aZ (ai HB)));replace HB:=aM HB hb;clear hb nr))
 go_loopg [3,7] k (fun kq v3 v7 w'=> ∃(aV:List Int) (cB:Int),v7=.int .i64 cB∧af (eT.l0 kq a0 aV cB=some r)∧af (kq≤k)∧af (Kd.R (Kd.int .i64) 3 w' w.heap.size (fun _=>True) v3 aV)∧af (Below w.heap.size w w'))
 case atStart=>exact⟨(abT),(0),ak,H',⟨aH _⟩,⟨aX abU⟩,⟨ai HB⟩⟩
 case round=>
  clear H';obtain⟨aV,cB,rfl,HA,aC,cy,HB⟩:=hrel;cases gk with
  |zero=>exact absurd HA.o (by simp[eT.l0])
  |succ k1=>
   have H:=HA.o;clear HA;simp only[eT.l0] at H;by_cases c4:cB<9
   case neg=>
    rw[ag c4] at H;have dK:=aD c4;clear c4;obtain rfl:=au H;go_wp2;go_ret;exact⟨_,bE,aX cy,ai HB⟩
   rw[ah c4] at H;have dK:=ap c4;clear c4;have H':=af.mk H;clear H;go_wp2;go_loopg [3,10] k1 (fun kq v3 v10 w'=> ∃(dP:List Int) (vK:Int),v10=.int .i64 vK∧af (eT.l1 kq a0 dP cB cB vK=some r)∧af (kq≤k1)∧af (Kd.R (Kd.int .i64) 3 w' w.heap.size (fun _=>True) v3 dP)∧af (Below w.heap.size w w'))
   case atStart=>exact⟨(aV),(0),ak,H',⟨aH _⟩,⟨aX cy⟩,⟨ai HB⟩⟩
   case round=>
    clear H';obtain⟨dP,vK,rfl,HA,bw,cy,HB⟩:=hrel;cases gk with
    |zero=>exact absurd HA.o (by simp[eT.l1])
    |succ k2=>
     have H:=HA.o;clear HA;simp only[eT.l1] at H;by_cases c5:vK<9
     case neg=>
      rw[ag c5] at H;have dC:=aD c5;clear c5;have H':=af.mk H;clear H;go_wp2;go_roundg k2
      case measure=>have:=aC.o;have:=bw.o;omega
      case rel=>exact⟨(dP),(wrap64 (cB+1)),ak,H',⟨by have:=aC.o;have:=bw.o;omega⟩,⟨aX cy⟩,⟨ai HB⟩⟩
     rw[ah c5] at H;have dC:=ap c5;clear c5;replace H:=aA.mp H;obtain⟨zm,dQ,H⟩:=H;have A6:=af.mk dQ;clear dQ;by_cases c7:dP.length<17592186044416
     case neg=>
      rw[ag c7] at H;cases H
     rw[ah c7] at H;have J3:=af.mk c7;clear c7;generalize Sh:((dP++[zm]):List Int)=abV at H;have abW:=af.mk Sh.symm;clear Sh;have H':=af.mk H;clear H;go_wp2_with (first|(refine cx 17 Tryz.func44 #[.int .i64 a0,.int .i64 cB,.int .i64 vK] (Cd.calls a0 cB vK zm _ A6.o) fun nd=>?_)|(at_builtin;refine Kd.jW (Kd.int .i64) (w0:=w) w.heap.size rfl (.tmp 13) (.tmp 18) 31 3 (.int .i64 0) 8 rfl Tryz.underlying31 info3 rfl ao ae u3 dP zm [.int .i64 zm] (fun _=>True) (fun _=>False) rfl rfl ?aP (fun _ hk=>hk.elim) ?aF ?aO ?aB ?aS ?aL ?_;(case aP=>exact rfl);(case aB=>exact(ai HB));(case aF=>exact(fun _ _=>trivial));(case aO=>exact(aX cy));(case aS=>exact(aZ (ai HB)));(case aL=>have:=J3.o;omega);intro v182 w8 ho hb hg hat;rw[←abW.o] at ho;replace HB:=af.mk (hb);have abX:=af.mk (ho);clear cy;clear ho hb hg hat))
     go_roundg k2
     case measure=>have:=aC.o;have:=bw.o;omega
     case rel=>exact⟨(abV),(wrap64 (vK+1)),ak,H',⟨by have:=aC.o;have:=bw.o;omega⟩,⟨aX abX⟩,⟨ai HB⟩⟩
def gY.f(a0:Int):Option (Bool):=some (a0 !=a0)
theorem gY.calls(a0:Int)(r:Bool)(w:World)(h:gY.f a0=some r):
  Calls Tryz.prog 252 #[.int .i64 a0] w fun e w'=>e=.returned (.bool r)∧aG w w':=by
 have H:=h;clear h;unfold gY.f at H;obtain rfl:=au H;go_enter Tryz.func252,Tryz.ntmps252;go_wp2;go_ret;exact⟨ak,aQ⟩
def uC.f(a0:Int)(a1:Int):Option (Int):=(gY.f a0).bind fun Nd=>((gY.f a1).bind fun DC=>(if Nd=true then(if DC=true then(some 0) else(some (-1))) else(if DC=true then(some 1) else(if a0<a1 then(some (-1)) else(if a0>a1 then(some 1) else(some 0))))))
theorem uC.calls(a0:Int)(a1:Int)(r:Int)(w:World)(h:uC.f a0 a1=some r):
  Calls Tryz.prog 209 #[.int .i64 a0,.int .i64 a1] w fun e w'=>e=.returned (.int .i64 r)∧aG w w':=by
 have H:=h;clear h;unfold uC.f at H;replace H:=aA.mp H;obtain⟨Nd,bW,H⟩:=H;have A3:=af.mk bW;clear bW;replace H:=aA.mp H;obtain⟨DC,cX,H⟩:=H;have A4:=af.mk cX;clear cX;by_cases c5:Nd=true
 case neg=>
  replace c5:=bU c5;subst c5;rw[ag bV] at H;by_cases c7:DC=true
  case neg=>
   replace c7:=bU c7;subst c7;rw[ag bV] at H;by_cases c8:a0<a1
   case neg=>
    rw[ag c8] at H;have fF:=aD c8;clear c8;by_cases c9:a0>a1
    case neg=>
     rw[ag c9] at H;have gU:=aD c9;clear c9;obtain rfl:=au H;go_enter Tryz.func209,Tryz.ntmps209;go_wp2_with (first|(refine cx 8 Tryz.func252 #[.int .i64 a0] (gY.calls a0 false _ A3.o) fun nd=>?_)|(refine cx 10 Tryz.func252 #[.int .i64 a1] (gY.calls a1 false _ A4.o) fun nd=>?_))
     go_ret;exact⟨ak,aQ⟩
    rw[ah c9] at H;have gU:=ap c9;clear c9;obtain rfl:=au H;go_enter Tryz.func209,Tryz.ntmps209;go_wp2_with (first|(refine cx 8 Tryz.func252 #[.int .i64 a0] (gY.calls a0 false _ A3.o) fun nd=>?_)|(refine cx 10 Tryz.func252 #[.int .i64 a1] (gY.calls a1 false _ A4.o) fun nd=>?_))
    go_ret;exact⟨ak,aQ⟩
   rw[ah c8] at H;have fF:=ap c8;clear c8;obtain rfl:=au H;go_enter Tryz.func209,Tryz.ntmps209;go_wp2_with (first|(refine cx 8 Tryz.func252 #[.int .i64 a0] (gY.calls a0 false _ A3.o) fun nd=>?_)|(refine cx 10 Tryz.func252 #[.int .i64 a1] (gY.calls a1 false _ A4.o) fun nd=>?_))
   go_ret;exact⟨ak,aQ⟩
  subst c7;rw[ah rfl] at H;obtain rfl:=au H;go_enter Tryz.func209,Tryz.ntmps209;go_wp2_with (first|(refine cx 8 Tryz.func252 #[.int .i64 a0] (gY.calls a0 false _ A3.o) fun nd=>?_)|(refine cx 10 Tryz.func252 #[.int .i64 a1] (gY.calls a1 true _ A4.o) fun nd=>?_))
  go_ret;exact⟨ak,aQ⟩
 subst c5;rw[ah rfl] at H;by_cases c6:DC=true
 case neg=>
  replace c6:=bU c6;subst c6;rw[ag bV] at H;obtain rfl:=au H;go_enter Tryz.func209,Tryz.ntmps209;go_wp2_with (first|(refine cx 8 Tryz.func252 #[.int .i64 a0] (gY.calls a0 true _ A3.o) fun nd=>?_)|(refine cx 10 Tryz.func252 #[.int .i64 a1] (gY.calls a1 false _ A4.o) fun nd=>?_))
  go_ret;exact⟨ak,aQ⟩
 subst c6;rw[ah rfl] at H;obtain rfl:=au H;go_enter Tryz.func209,Tryz.ntmps209;go_wp2_with (first|(refine cx 8 Tryz.func252 #[.int .i64 a0] (gY.calls a0 true _ A3.o) fun nd=>?_)|(refine cx 10 Tryz.func252 #[.int .i64 a1] (gY.calls a1 true _ A4.o) fun nd=>?_))
 go_ret;exact⟨ak,aQ⟩
def mU.l0:Nat→List Int→List Int→List Int→Int→Int→Option (Int)
 |0,_,_,_,_,_=>none
 |k+1,x0,x1,x9,x10,ky=>if ky<x10 then(if 0≤ky then(if ky<(x9.length:Int) then(if ky≥(x1.length:Int) then(some 1) else(if ky<(x1.length:Int) then((uC.f (rd x9 ky) (rd x1 ky)).bind fun Au=>(if Au=0 then(mU.l0 k x0 x1 x9 x10 (wrap64 (ky+1))) else(some Au))) else none)) else none) else none) else(if(x0.length:Int)<(x1.length:Int) then(some (-1)) else(some 0))
def mU.f(k:Nat)(l0:List Int)(l1:List Int):Option (Int):=mU.l0 k l0 l1 l0 (l0.length:Int) 0
theorem mU.calls(k:Nat)(A0:Option Addr)(c0:Nat)(l0:List Int)(A1:Option Addr)(c1:Nat)(l1:List Int)(r:Int)(w:World)(hr0:Kd.C (Kd.int .i64) w A0 l0.length l0)(hc0:l0.length≤c0)(hr1:Kd.C (Kd.int .i64) w A1 l1.length l1)(hc1:l1.length≤c1)(h:mU.f k l0 l1=some r):
  Calls Tryz.prog 145 #[.slice A0 l0.length c0,.slice A1 l1.length c1] w fun e w'=>e=.returned (.int .i64 r)∧aG w w':=by
 have aj:=af.mk hr0;have ax:=af.mk hc0;clear hr0 hc0;have bN:=af.mk hr1;have cA:=af.mk hc1;clear hr1 hc1;have H:=h;clear h;unfold mU.f at H;have H':=af.mk H;clear H;go_enter Tryz.func145,Tryz.ntmps145;go_wp2;go_loopg [11] k (fun kq v11 w'=> ∃(kD:Int),v11=.int .i64 kD∧af (mU.l0 kq l0 l1 l0 (l0.length:Int) kD=some r)∧af (kq≤k)∧aG w w')
 case atStart=>exact⟨(0),ak,H',⟨aH _⟩,aQ⟩
 case round=>
  clear H';obtain⟨kD,rfl,HA,aC,⟨m1,rfl⟩⟩:=hrel;cases gk with
  |zero=>exact absurd HA.o (by simp[mU.l0])
  |succ k1=>
   have H:=HA.o;clear HA;simp only[mU.l0] at H;by_cases c3:kD<(l0.length:Int)
   case neg=>
    rw[ag c3] at H;have eU:=aD c3;clear c3;by_cases c10:(l0.length:Int)<(l1.length:Int)
    case neg=>
     rw[ag c10] at H;have gH:=aD c10;have pS:decide (l0.length<l1.length)=false:=aD (fun h=>c10 (Int.ofNat_lt.mpr h));clear c10;obtain rfl:=au H;go_wp2;go_ret;exact⟨ak,aQ⟩
    rw[ah c10] at H;have gH:=ap c10;have pS:decide (l0.length<l1.length)=true:=ap (Int.ofNat_lt.mp c10);clear c10;obtain rfl:=au H;go_wp2;go_ret;exact⟨ak,aQ⟩
   rw[ah c3] at H;have eU:=ap c3;clear c3;replace H:=bC H;obtain⟨dK,H⟩:=H;replace H:=bC H;obtain⟨dC,H⟩:=H;by_cases c6:kD≥(l1.length:Int)
   case neg=>
    rw[ag c6] at H;have dU:=aD c6;clear c6;replace H:=bC H;obtain⟨eN,H⟩:=H;replace H:=aA.mp H;obtain⟨Au,eG,H⟩:=H;have A8:=af.mk eG;clear eG;by_cases c9:Au=0
    case neg=>
     rw[ag c9] at H;have gU:=cV c9;have wm:=bne_iff_ne.mpr c9;obtain rfl:=au H;obtain⟨Vh,rfl,Vi,Vj,Vk⟩:=eu aj kD;obtain⟨ahB,rfl,ahC,ahD,ahE⟩:=eu bN kD;go_wp2_with ((refine cx 26 Tryz.func209 #[.int .i64 (rd l0 kD),.int .i64 (rd l1 kD)] (uC.calls (rd l0 kD) (rd l1 kD) Au _ A8.o) fun nd=>?_))
     go_ret;exact⟨ak,aQ⟩
    rw[ah c9] at H;have gU:=beq_iff_eq.mpr c9;have wm:=bne_eq_false_iff_eq.mpr c9;clear c9;have H':=af.mk H;clear H;obtain⟨Vh,rfl,Vi,Vj,Vk⟩:=eu aj kD;obtain⟨ahB,rfl,ahC,ahD,ahE⟩:=eu bN kD;go_wp2_with ((refine cx 26 Tryz.func209 #[.int .i64 (rd l0 kD),.int .i64 (rd l1 kD)] (uC.calls (rd l0 kD) (rd l1 kD) Au _ A8.o) fun nd=>?_))
    go_roundg k1
    case measure=>have:=aC.o;omega
    case rel=>exact⟨(wrap64 (kD+1)),ak,H',⟨by have:=aC.o;omega⟩,aQ⟩
   rw[ah c6] at H;have dU:=ap c6;clear c6;obtain rfl:=au H;obtain⟨Vh,rfl,Vi,Vj,Vk⟩:=eu aj kD;go_wp2;go_ret;exact⟨ak,aQ⟩
def iG.l0:Nat→List Int→List Int→Int→Option (Bool)
 |0,_,_,_=>none
 |k+1,x0,x1,x5=>if x5<9 then(if 0≤x5 then(if x5<(x0.length:Int) then(if x5<(x1.length:Int) then(if(rd x0 x5)=(rd x1 x5) then(iG.l0 k x0 x1 (wrap64 (x5+1))) else(some (decide ((rd x0 x5)<(rd x1 x5))))) else none) else none) else none) else(some false)
def iG.f(k:Nat)(l0:List Int)(l1:List Int):Option (Bool):=iG.l0 k l0 l1 0
theorem iG.calls(k:Nat)(A0:Option Addr)(c0:Nat)(l0:List Int)(A1:Option Addr)(c1:Nat)(l1:List Int)(r:Bool)(w:World)(hr0:Kd.C (Kd.int .i64) w A0 l0.length l0)(hc0:l0.length≤c0)(hr1:Kd.C (Kd.int .i64) w A1 l1.length l1)(hc1:l1.length≤c1)(h:iG.f k l0 l1=some r):
  Calls Tryz.prog 236 #[.slice A0 l0.length c0,.slice A1 l1.length c1] w fun e w'=>e=.returned (.bool r)∧aG w w':=by
 have aj:=af.mk hr0;have ax:=af.mk hc0;clear hr0 hc0;have bN:=af.mk hr1;have cA:=af.mk hc1;clear hr1 hc1;have H:=h;clear h;unfold iG.f at H;have H':=af.mk H;clear H;go_enter Tryz.func236,Tryz.ntmps236;go_wp2;repeat(go_quiet (fail);try go_wp2)
 go_loopg [5] k (fun kq v5 w'=> ∃(aw:Int),v5=.int .i64 aw∧af (iG.l0 kq l0 l1 aw=some r)∧af (kq≤k)∧aG w w')
 case atStart=>exact⟨(0),ak,H',⟨aH _⟩,aQ⟩
 case round=>
  clear H';obtain⟨aw,rfl,HA,aC,⟨m1,rfl⟩⟩:=hrel;cases gk with
  |zero=>exact absurd HA.o (by simp[iG.l0])
  |succ k1=>
   have H:=HA.o;clear HA;simp only[iG.l0] at H;by_cases c3:aw<9
   case neg=>
    rw[ag c3] at H;have eU:=aD c3;clear c3;obtain rfl:=au H;go_wp2;repeat(go_quiet (fail);try go_wp2)
    go_ret;exact⟨ak,aQ⟩
   rw[ah c3] at H;have eU:=ap c3;clear c3;replace H:=bC H;obtain⟨dK,H⟩:=H;replace H:=bC H;obtain⟨dC,H⟩:=H;replace H:=bC H;obtain⟨dU,H⟩:=H;by_cases c7:(rd l0 aw)=(rd l1 aw)
   case neg=>
    rw[ag c7] at H;have eN:=cV c7;have pT:=bne_iff_ne.mpr c7;obtain rfl:=au H;obtain⟨ahN,rfl,ahO,ahP,ahQ⟩:=eu aj aw;obtain⟨ahR,rfl,ahS,ahT,ahU⟩:=eu bN aw;obtain⟨aq0,aq1,aq2⟩:=fW aj aw;obtain⟨aq3,aq4,aq5⟩:=fW bN aw;go_wp2;repeat(go_quiet (fail);try go_wp2)
    go_ret;exact⟨ak,aQ⟩
   rw[ah c7] at H;have eN:=beq_iff_eq.mpr c7;have pT:=bne_eq_false_iff_eq.mpr c7;clear c7;have H':=af.mk H;clear H;obtain⟨ahN,rfl,ahO,ahP,ahQ⟩:=eu aj aw;obtain⟨ahR,rfl,ahS,ahT,ahU⟩:=eu bN aw;go_wp2;repeat(go_quiet (fail);try go_wp2)
   go_roundg k1
   case measure=>have:=aC.o;omega
   case rel=>exact⟨(wrap64 (aw+1)),ak,H',⟨by have:=aC.o;omega⟩,aQ⟩
mutual
def dN.l0:Nat→List (List Int)→List Bool→Int→Option (Bool)
 |0,_,_,_=>none
 |k+1,x0,x3,x4=>if x4<10 then(if 0≤x4 then(if x4<(x0.length:Int) then((ew.f k (aT x0 x4)).bind fun Nl=>(if Nl=true then(if x4>0 then(if 0≤(wrap64 (x4 - 1)) then(if(wrap64 (x4 - 1))<(x0.length:Int) then((iG.f k (aT x0 (wrap64 (x4 - 1))) (aT x0 x4)).bind fun xa=>(dN.j1 k x0 x3 x4 (!xa))) else none) else none) else(dN.j1 k x0 x3 x4 false)) else(dN.j1 k x0 x3 x4 true))) else none) else none) else(some true)
def dN.j1:Nat→List (List Int)→List Bool→Int→Bool→Option (Bool)
 |0,_,_,_,_=>none
 |k+1,x0,x3,x4,uA=>if uA=true then(some false) else(dN.l1 k x0 x3 x4 1)
def dN.l1:Nat→List (List Int)→List Bool→Int→Int→Option (Bool)
 |0,_,_,_,_=>none
 |k+1,x0,x3,x4,x5=>if x5<9 then(if 0≤x4 then(if x4<(x0.length:Int) then(if 0≤x5 then(if x5<((aT x0 x4).length:Int) then(if 0≤(rd (aT x0 x4) x5) then(if(rd (aT x0 x4) x5)<(x3.length:Int) then(if dM false x3 (rd (aT x0 x4) x5)=true then(some false) else(dN.l1 k x0 (x3.set ((rd (aT x0 x4) x5):Int).toNat true) x4 (wrap64 (x5+1)))) else none) else none) else none) else none) else none) else none) else(dN.l0 k x0 x3 (wrap64 (x4+1)))
end
def dN.f(k:Nat)(l0:List (List Int)):Option (Bool):=if(l0.length:Int)=10 then(if 81≤281474976710656 then(dN.l0 k l0 (List.replicate 81 false) 0) else none) else(some false)
theorem dN.calls(k:Nat)(A0:Option Addr)(c0:Nat)(l0:List (List Int))(r:Bool)(w:World)(hr0:Kd.C (Kd.slice 3 (Kd.int .i64)) w A0 l0.length l0)(hc0:l0.length≤c0)(h:dN.f k l0=some r):
  Calls Tryz.prog 183 #[.slice A0 l0.length c0] w fun e w'=>e=.returned (.bool r)∧Below w.heap.size w w':=by
 have aj:=af.mk hr0;have ax:=af.mk hc0;clear hr0 hc0;have HB:=af.mk (Below.refl w.heap.size w);have H:=h;clear h;unfold dN.f at H;by_cases c2:(l0.length:Int)=10
 case neg=>
  rw[ag c2] at H;have eM:=cV c2;have mb:=bne_iff_ne.mpr c2;obtain rfl:=au H;go_enter Tryz.func183,Tryz.ntmps183;go_wp2;repeat(go_quiet (fail);try go_wp2)
  go_ret;exact⟨bE,ai HB⟩
 rw[ah c2] at H;have eM:=beq_iff_eq.mpr c2;have mb:=bne_eq_false_iff_eq.mpr c2;clear c2;by_cases c3:81≤281474976710656
 case neg=>
  rw[ag c3] at H;cases H
 rw[ah c3] at H;have eU:=av c3;have um:=ap c3;clear c3;generalize Vv:((List.replicate 81 false):List Bool)=ahV at H;have Hg:=af.mk Vv.symm;clear Vv;have H':=af.mk H;clear H;go_enter Tryz.func183,Tryz.ntmps183;go_wp2_with (((with_reducible refine db (N:=9) rfl ?_);refine Kd.FU Kd.bool _ 4 rfl (N:=9) rfl 160 _ _ rfl 81 rfl rfl Tryz.underlying160 (.bool false) 1 F7 rfl ao ae false (ok:=fun _=>True) (bp:=fun _=>True) rfl (fun _ hk=>hk) trivial ae ae (Below.refl _ _) (aH _) ?_;intro Hh w4 dv hb bq br;clear bq br;(first|rw[←Hg.o] at dv|(simp only[Int.reduceToNat] at dv;rw[←Hg.o] at dv));have Vw:=af.mk (Kd.cv dv (aZ (ai HB)));replace HB:=aM HB hb;clear hb dv))
 repeat(go_quiet (((with_reducible refine db (N:=9) rfl ?_);refine Kd.FU Kd.bool _ 4 rfl (N:=9) rfl 160 _ _ rfl 81 rfl rfl Tryz.underlying160 (.bool false) 1 F7 rfl ao ae false (ok:=fun _=>True) (bp:=fun _=>True) rfl (fun _ hk=>hk) trivial ae ae (Below.refl _ _) (aH _) ?_;intro Hh w4 dv hb bq br;clear bq br;(first|rw[←Hg.o] at dv|(simp only[Int.reduceToNat] at dv;rw[←Hg.o] at dv));have Vw:=af.mk (Kd.cv dv (aZ (ai HB)));replace HB:=aM HB hb;clear hb dv));try go_wp2)
 go_loopg [4] k (fun kq v4 w'=> ∃(aV:List Bool) (bx:Int),v4=.int .i64 bx∧af (dN.l0 kq l0 aV bx=some r)∧af (kq≤k)∧af (Kd.R Kd.bool 4 w' w.heap.size (fun _=>True) Hh aV)∧af (Below w.heap.size w w'))
 case atStart=>exact⟨(ahV),(0),ak,H',⟨aH _⟩,⟨aX Vw⟩,⟨ai HB⟩⟩
 case round=>
  clear H';obtain⟨aV,bx,rfl,HA,aC,cy,HB⟩:=hrel;cases gk with
  |zero=>exact absurd HA.o (by simp[dN.l0])
  |succ k1=>
   have H:=HA.o;clear HA;simp only[dN.l0] at H;by_cases c6:bx<10
   case neg=>
    rw[ag c6] at H;have dU:=aD c6;clear c6;obtain rfl:=au H;go_wp2;repeat(go_quiet (fail);try go_wp2)
    go_ret;exact⟨bE,ai HB⟩
   rw[ah c6] at H;have dU:=ap c6;clear c6;have Nm:=af.mk H;clear H;go_upto_region 7 with(fail)
   repeat(go_quiet (fail);go_upto_region 7 with(fail))
   go_cut [36] (fun v36 wc=> ∃(kq:Nat) (Hj:Bool),v36=.bool Hj∧af (dN.j1 kq l0 aV bx Hj=some r)∧af (kq≤k1)∧af (Kd.R Kd.bool 4 wc w.heap.size (fun _=>True) Hh aV)∧af (Below w.heap.size w wc))
   case first=>
    have H:=Nm.o;clear Nm;replace H:=bC H;obtain⟨fF,H⟩:=H;(first|rw[fF]|(simp only[dh,fb];rw[fF])|skip)
    replace H:=bC H;obtain⟨gU,H⟩:=H;replace H:=aA.mp H;obtain⟨Nl,uE,H⟩:=H;have mc:=af.mk uE;clear uE;by_cases c11:Nl=true
    case neg=>
     replace c11:=bU c11;subst c11;rw[ag bV] at H;have H':=af.mk H;clear H;have qk:0≤(bx:Int):=aJ;have ql:bx<(l0.length:Int):=aJ;obtain⟨Aw,Vx,Vy,DG,rH,uF,uG⟩:=g8 aj.o bx qk ql;cases DG;replace rH:=dw HB rH;have uH:=af.mk uG;have uI:=af.mk uF;clear uG uF;replace qk:=av qk;replace ql:=av ql;go_wp2_with ((go_at_call 237;(with_reducible refine(ew.calls k1 _ _ (aT l0 bx) false _ ?_ ?_ mc.o).mono ?_);exact cG uH HB;exact uI.o;rintro e w' ⟨rfl,⟨nd,rfl⟩⟩;(try exact eA)))
     repeat(go_quiet ((go_at_call 237;(with_reducible refine(ew.calls k1 _ _ (aT l0 bx) false _ ?_ ?_ mc.o).mono ?_);exact cG uH HB;exact uI.o;rintro e w' ⟨rfl,⟨nd,rfl⟩⟩;(try exact eA)));try go_wp2)
     go_meet;case rel=>exact⟨_,(true),ak,H',⟨B_ aC⟩,⟨aX cy⟩,⟨ai HB⟩⟩
    subst c11;rw[ah rfl] at H;by_cases c12:bx>0
    case neg=>
     rw[ag c12] at H;have jC:=aD c12;clear c12;have H':=af.mk H;clear H;have qk:0≤(bx:Int):=aJ;have ql:bx<(l0.length:Int):=aJ;obtain⟨Aw,Vx,Vy,DG,rH,uF,uG⟩:=g8 aj.o bx qk ql;cases DG;replace rH:=dw HB rH;have uH:=af.mk uG;have uI:=af.mk uF;clear uG uF;replace qk:=av qk;replace ql:=av ql;go_wp2_with ((go_at_call 237;(with_reducible refine(ew.calls k1 _ _ (aT l0 bx) true _ ?_ ?_ mc.o).mono ?_);exact cG uH HB;exact uI.o;rintro e w' ⟨rfl,⟨nd,rfl⟩⟩;(try exact eA)))
     repeat(go_quiet ((go_at_call 237;(with_reducible refine(ew.calls k1 _ _ (aT l0 bx) true _ ?_ ?_ mc.o).mono ?_);exact cG uH HB;exact uI.o;rintro e w' ⟨rfl,⟨nd,rfl⟩⟩;(try exact eA)));try go_wp2)
     go_meet;case rel=>exact⟨_,(false),ak,H',⟨B_ aC⟩,⟨aX cy⟩,⟨ai HB⟩⟩
    rw[ah c12] at H;have jC:=ap c12;clear c12;obtain⟨o7,Hk⟩:∃j_:Int,(wrap64 (bx - 1))=j_:=⟨_,rfl⟩;replace H:(if 0≤(o7) then(if(o7)<(l0.length:Int) then((iG.f k1 (aT l0 (o7)) (aT l0 bx)).bind fun xa=>(dN.j1 k1 l0 aV bx (!xa))) else none) else none)=some r:=by first|(rw[Hk] at H;exact H)|(simp only[Hk] at H ⊢;exact H)
    (try rw[Hk] at mc)
    have aq6:(IntKind.i64.wrap (bx - 1))=o7:=(dh _).trans Hk;replace H:=bC H;obtain⟨pV,H⟩:=H;replace H:=bC H;obtain⟨n4,H⟩:=H;replace H:=aA.mp H;obtain⟨xa,pL,H⟩:=H;have nz:=af.mk pL;clear pL;have H':=af.mk H;clear H;have qk:0≤(bx:Int):=aJ;have ql:bx<(l0.length:Int):=aJ;obtain⟨Aw,Vx,Vy,DG,rH,uF,uG⟩:=g8 aj.o bx qk ql;cases DG;replace rH:=dw HB rH;have uH:=af.mk uG;have uI:=af.mk uF;clear uG uF;replace qk:=av qk;replace ql:=av ql;go_wp2_with (first|(go_at_call 237;(with_reducible refine(ew.calls k1 _ _ (aT l0 bx) true _ ?_ ?_ mc.o).mono ?_);exact cG uH HB;exact uI.o;rintro e w' ⟨rfl,⟨nd,rfl⟩⟩;(try exact eA);have xb:0≤((o7):Int):=aJ;have xc:(o7)<(l0.length:Int):=aJ;obtain⟨Nn,ahW,ahX,Np,DH,DI,DK⟩:=g8 aj.o (o7) xb xc;obtain rfl:Aw=Nn:=(by injection Np);replace DH:=dw HB DH;have Nq:=af.mk DK;have Nr:=af.mk DI;clear DK DI;replace xb:=av xb;replace xc:=av xc;have xd:0≤(bx:Int):=aJ;have xe:bx<(l0.length:Int):=aJ;obtain⟨Ns,ahY,ahZ,Nt,xg,DL,DM⟩:=g8 aj.o bx xd xe;obtain rfl:Aw=Ns:=(by injection Nt);replace xg:=dw HB xg;have Nu:=af.mk DM;have Nv:=af.mk DL;clear DM DL;replace xd:=av xd;replace xe:=av xe;have eI:=au (rH.symm.trans xg);injection eI with eI lE lF;subst eI;subst lF;clear lE)|(go_at_call 236;(with_reducible refine(iG.calls k1 _ _ (aT l0 (o7)) _ _ (aT l0 bx) xa _ ?bz ?bB ?cg ?cm nz.o).mono ?_);(case bz=>repeat(first|exact(Kd.aN Nq.o (ai HB))|(with_reducible refine Kd.g7 ?_ _)|(with_reducible refine Kd.e8 ?_ _)|(with_reducible refine Kd.iz ?_)));(case bB=>exact Nr.o);(case cg=>repeat(first|exact(Kd.aN Nu.o (ai HB))|(with_reducible refine Kd.g7 ?_ _)|(with_reducible refine Kd.e8 ?_ _)|(with_reducible refine Kd.iz ?_)));(case cm=>exact Nv.o);rintro e w' ⟨rfl,⟨nd,rfl⟩⟩;(try exact eA)))
    repeat(go_quiet (first|(go_at_call 237;(with_reducible refine(ew.calls k1 _ _ (aT l0 bx) true _ ?_ ?_ mc.o).mono ?_);exact cG uH HB;exact uI.o;rintro e w' ⟨rfl,⟨nd,rfl⟩⟩;(try exact eA);have xb:0≤((o7):Int):=aJ;have xc:(o7)<(l0.length:Int):=aJ;obtain⟨Nn,ahW,ahX,Np,DH,DI,DK⟩:=g8 aj.o (o7) xb xc;obtain rfl:Aw=Nn:=(by injection Np);replace DH:=dw HB DH;have Nq:=af.mk DK;have Nr:=af.mk DI;clear DK DI;replace xb:=av xb;replace xc:=av xc;have xd:0≤(bx:Int):=aJ;have xe:bx<(l0.length:Int):=aJ;obtain⟨Ns,ahY,ahZ,Nt,xg,DL,DM⟩:=g8 aj.o bx xd xe;obtain rfl:Aw=Ns:=(by injection Nt);replace xg:=dw HB xg;have Nu:=af.mk DM;have Nv:=af.mk DL;clear DM DL;replace xd:=av xd;replace xe:=av xe;have eI:=au (rH.symm.trans xg);injection eI with eI lE lF;subst eI;subst lF;clear lE)|(go_at_call 236;(with_reducible refine(iG.calls k1 _ _ (aT l0 (o7)) _ _ (aT l0 bx) xa _ ?bz ?bB ?cg ?cm nz.o).mono ?_);(case bz=>repeat(first|exact(Kd.aN Nq.o (ai HB))|(with_reducible refine Kd.g7 ?_ _)|(with_reducible refine Kd.e8 ?_ _)|(with_reducible refine Kd.iz ?_)));(case bB=>exact Nr.o);(case cg=>repeat(first|exact(Kd.aN Nu.o (ai HB))|(with_reducible refine Kd.g7 ?_ _)|(with_reducible refine Kd.e8 ?_ _)|(with_reducible refine Kd.iz ?_)));(case cm=>exact Nv.o);rintro e w' ⟨rfl,⟨nd,rfl⟩⟩;(try exact eA)));try go_wp2)
    go_meet;case rel=>exact⟨_,(!xa),ak,H',⟨B_ aC⟩,⟨aX cy⟩,⟨ai HB⟩⟩
   case rest=>
    clear Nm;obtain⟨kq,Hj,rfl,HA,Hl,cy,HB⟩:=hcut;cases kq with
    |zero=>exact absurd HA.o (by simp[dN.j1])
    |succ Vz=>
     have H:=HA.o;clear HA;simp only[dN.j1] at H;by_cases c17:Hj=true
     case neg=>
      replace c17:=bU c17;subst c17;rw[ag bV] at H;have H':=af.mk H;clear H;go_wp2;repeat(go_quiet (fail);try go_wp2)
      go_loopg [5] Vz (fun kq v5 w'=> ∃(o8:List Bool) (de:Int),v5=.int .i64 de∧af (dN.l1 kq l0 o8 bx de=some r)∧af (kq≤Vz)∧af (Kd.R Kd.bool 4 w' w.heap.size (fun _=>True) Hh o8)∧af (Below w.heap.size w w'))
      case atStart=>exact⟨(aV),(1),ak,H',⟨aH _⟩,⟨aX cy⟩,⟨ai HB⟩⟩
      case round=>
       clear H';obtain⟨o8,de,rfl,HA,dt,cy,HB⟩:=hrel;cases gk with
       |zero=>exact absurd HA.o (by simp[dN.l1])
       |succ k3=>
        have H:=HA.o;clear HA;simp only[dN.l1] at H;by_cases c18:de<9
        case neg=>
         rw[ag c18] at H;have rv:=aD c18;clear c18;have H':=af.mk H;clear H;go_wp2;repeat(go_quiet (fail);try go_wp2)
         go_roundg k3
         case measure=>have:=aC.o;have:=Hl.o;have:=dt.o;omega
         case rel=>exact⟨(o8),(wrap64 (bx+1)),ak,H',⟨by have:=aC.o;have:=Hl.o;have:=dt.o;omega⟩,⟨aX cy⟩,⟨ai HB⟩⟩
        rw[ah c18] at H;have rv:=ap c18;clear c18;replace H:=bC H;obtain⟨wE,H⟩:=H;replace H:=bC H;obtain⟨Ha,H⟩:=H;replace H:=bC H;obtain⟨UN,H⟩:=H;replace H:=bC H;obtain⟨UO,H⟩:=H;replace H:=bC H;obtain⟨ah0,H⟩:=H;replace H:=bC H;obtain⟨Hb,H⟩:=H;obtain⟨VA,Nw⟩:∃b_:Bool,b_=(dM false o8 (rd (aT l0 bx) de)):=⟨_,rfl⟩;replace H:(if VA=true then(some false) else(dN.l1 k3 l0 (o8.set ((rd (aT l0 bx) de):Int).toNat true) bx (wrap64 (de+1))))=some r:=by rw[←Nw] at H;exact H
        have VB:=af.mk Nw;clear Nw;by_cases kW:VA=true
        case neg=>
         replace kW:=bU kW;subst kW;rw[ag bV] at H;generalize VC:((o8.set ((rd (aT l0 bx) de):Int).toNat true):List Bool)=Nx at H;have VD:=af.mk VC.symm;clear VC;have H':=af.mk H;clear H;have xh:0≤(bx:Int):=aJ;have xi:bx<(l0.length:Int):=aJ;obtain⟨VE,ah1,ah2,Ny,Ax,DN,DP⟩:=g8 aj.o bx xh xi;cases Ny;replace Ax:=dw HB Ax;have Nz:=af.mk DP;have ah3:=af.mk DN;clear DP DN;replace xh:=av xh;replace xi:=av xi;have xj:0≤(de:Int):=aJ;have xk:de<((aT l0 bx).length:Int):=aJ;obtain⟨ah4,NA,DQ⟩:=Kd.ck Nz.o de xj xk;cases NA;replace DQ:=dw HB DQ;replace xj:=av xj;replace xk:=av xk;obtain⟨agj,L8,L_⟩:=Kd.bJ cy.o;subst L_;have xl:0≤((rd (aT l0 bx) de):Int):=aJ;have xm:(rd (aT l0 bx) de)<(o8.length:Int):=aJ;obtain⟨ah5,NB,Hm⟩:=Kd.se (Kd.bm cy.o).2.2 (rd (aT l0 bx) de) xl xm;(try rw[←VB.o] at Hm)
         cases NB;replace xl:=av xl;replace xm:=av xm;have NC:0≤(bx:Int):=aJ;have ND:bx<(l0.length:Int):=aJ;obtain⟨ah6,aq7,aq8,ah7,NF,VF,VG⟩:=g8 aj.o bx NC ND;obtain rfl:VE=ah6:=(by injection ah7);replace NF:=dw HB NF;have ah8:=af.mk VG;have aq9:=af.mk VF;clear VG VF;replace NC:=av NC;replace ND:=av ND;have eI:=au (Ax.symm.trans NF);injection eI with eI lE lF
         subst eI;subst lF;clear lE;have NG:0≤(de:Int):=aJ;have NH:de<((aT l0 bx).length:Int):=aJ;obtain⟨aq_,ah9,VH⟩:=Kd.ck ah8.o de NG NH;cases ah9;replace VH:=dw HB VH;replace NG:=av NG;replace NH:=av NH;have NI:0≤((rd (aT l0 bx) de):Int):=aJ;have NJ:((rd (aT l0 bx) de):Int)<((o8.length:Int):Int):=aJ;obtain⟨Ay,ara,VI,VJ,ah_,arb,VK⟩:=Kd.yX cy.o ae;(first|cases VI|(injection VI with eI lE lF;(first|subst eI|(injection eI with eI;subst eI));subst lF;clear lE))
         have VL:=af.mk VJ;have arc:=af.mk VK;clear VJ ah_ VK;(first|simp only[add_plain] at Hm|skip)
         obtain⟨ard,arf⟩:=Kd.sg false cy.o ((rd (aT l0 bx) de):Int) NI NJ;replace NI:=av NI;replace NJ:=av NJ;have uJ:=Kd.BP cy.o ((rd (aT l0 bx) de):Int) true;go_wp2_with (((with_reducible refine FY (t:=4) (p:=59) rfl ?_);(try(rw[vE wr];generalize fQ:World.drewN wr _=wr;replace cy:=af.mk (Kd.Vu fQ cy.o);replace HB:=af.mk (Vt fQ HB.o);clear fQ;(try(have uJ:=Kd.BP cy.o ((rd (aT l0 bx) de):Int) true))));refine FX (t:=4) (p:=59) (v:=?aia) (w1:=(wr.setCell ⟨Ay,((rd (aT l0 bx) de):Int).toNat,none⟩ (.bool true))) ?hg ?ho ?hn ?hr ?_;(case ho=>rfl);(case hg=>rfl);(case hn=>rfl);(case hr=>first|(go_simp;done)|(go_simp;rfl));intro qm hw;have hg:wr.grownBy qm (some Ay):=(by rw[hw];exact uJ.2);have qc:Kd.R Kd.bool 4 qm w.heap.size (fun _=>True) (.slice (some ⟨Ay,0,none⟩) o8.length L8) Nx:=(by rw[hw,VD.o];exact uJ.1);clear uJ;have dz:=af.mk (qc);have dA:=af.mk ((by rw[hw];exact mu (HB.o) VL.o:Below w.heap.size w qm));clear cy;clear HB;have cy:=dz;have HB:=dA;clear dz dA;clear hg hw qc))
         repeat(go_quiet (((with_reducible refine FY (t:=4) (p:=59) rfl ?_);(try(rw[vE wr];generalize fQ:World.drewN wr _=wr;replace cy:=af.mk (Kd.Vu fQ cy.o);replace HB:=af.mk (Vt fQ HB.o);clear fQ;(try(have uJ:=Kd.BP cy.o ((rd (aT l0 bx) de):Int) true))));refine FX (t:=4) (p:=59) (v:=?aia) (w1:=(wr.setCell ⟨Ay,((rd (aT l0 bx) de):Int).toNat,none⟩ (.bool true))) ?hg ?ho ?hn ?hr ?_;(case ho=>rfl);(case hg=>rfl);(case hn=>rfl);(case hr=>first|(go_simp;done)|(go_simp;rfl));intro qm hw;have hg:wr.grownBy qm (some Ay):=(by rw[hw];exact uJ.2);have qc:Kd.R Kd.bool 4 qm w.heap.size (fun _=>True) (.slice (some ⟨Ay,0,none⟩) o8.length L8) Nx:=(by rw[hw,VD.o];exact uJ.1);clear uJ;have dz:=af.mk (qc);have dA:=af.mk ((by rw[hw];exact mu (HB.o) VL.o:Below w.heap.size w qm));clear cy;clear HB;have cy:=dz;have HB:=dA;clear dz dA;clear hg hw qc));try go_wp2)
         go_roundg k3
         case measure=>have:=aC.o;have:=Hl.o;have:=dt.o;omega
         case rel=>exact⟨(Nx),(wrap64 (de+1)),ak,H',⟨by have:=aC.o;have:=Hl.o;have:=dt.o;omega⟩,⟨aX cy⟩,⟨ai HB⟩⟩
        subst kW;rw[ah rfl] at H;obtain rfl:=au H;have xh:0≤(bx:Int):=aJ;have xi:bx<(l0.length:Int):=aJ;obtain⟨VE,ah1,ah2,Ny,Ax,DN,DP⟩:=g8 aj.o bx xh xi;cases Ny;replace Ax:=dw HB Ax;have Nz:=af.mk DP;have ah3:=af.mk DN;clear DP DN;replace xh:=av xh;replace xi:=av xi;have xj:0≤(de:Int):=aJ;have xk:de<((aT l0 bx).length:Int):=aJ;obtain⟨ah4,NA,DQ⟩:=Kd.ck Nz.o de xj xk;cases NA;replace DQ:=dw HB DQ;replace xj:=av xj;replace xk:=av xk;obtain⟨Az,AA,DR⟩:=Kd.bJ cy.o;subst DR;have xl:0≤((rd (aT l0 bx) de):Int):=aJ;have xm:(rd (aT l0 bx) de)<(o8.length:Int):=aJ;obtain⟨ah5,NB,Hm⟩:=Kd.se (Kd.bm cy.o).2.2 (rd (aT l0 bx) de) xl xm;(try rw[←VB.o] at Hm)
        cases NB;replace xl:=av xl;replace xm:=av xm;go_wp2;repeat(go_quiet (fail);try go_wp2)
        go_ret;exact⟨bE,ai HB⟩
     subst c17;rw[ah rfl] at H;obtain rfl:=au H;go_wp2;repeat(go_quiet (fail);try go_wp2)
     go_ret;exact⟨bE,ai HB⟩
def oB.f(k:Nat)(l0:List Int)(l1:List Int):Option (Bool):=(iG.f k l0 l1).bind fun O5=>(if O5=true then(some false) else((iG.f k l1 l0).bind fun O6=>(some (!O6))))
theorem oB.calls(k:Nat)(A0:Option Addr)(c0:Nat)(l0:List Int)(A1:Option Addr)(c1:Nat)(l1:List Int)(r:Bool)(w:World)(hr0:Kd.C (Kd.int .i64) w A0 l0.length l0)(hc0:l0.length≤c0)(hr1:Kd.C (Kd.int .i64) w A1 l1.length l1)(hc1:l1.length≤c1)(h:oB.f k l0 l1=some r):
  Calls Tryz.prog 185 #[.slice A0 l0.length c0,.slice A1 l1.length c1] w fun e w'=>e=.returned (.bool r)∧aG w w':=by
 have aj:=af.mk hr0;have ax:=af.mk hc0;clear hr0 hc0;have bN:=af.mk hr1;have cA:=af.mk hc1;clear hr1 hc1;have H:=h;clear h;unfold oB.f at H;replace H:=aA.mp H;obtain⟨O5,bW,H⟩:=H;have A3:=af.mk bW;clear bW;by_cases c4:O5=true
 case neg=>
  replace c4:=bU c4;subst c4;rw[ag bV] at H;replace H:=aA.mp H;obtain⟨O6,cY,H⟩:=H;have A5:=af.mk cY;clear cY;obtain rfl:=au H;go_enter Tryz.func185,Tryz.ntmps185;go_wp2_with (first|(refine aY 7 Tryz.func236 #[.slice A0 l0.length c0,.slice A1 l1.length c1] ?_;(with_reducible refine(iG.calls k _ _ l0 _ _ l1 false _ ?bz ?bB ?cg ?cm A3.o).mono ?_);(case bz=>exact bD aj);(case bB=>exact ax.o);(case cg=>exact bD bN);(case cm=>exact cA.o);rintro e w' ⟨rfl,⟨nd,rfl⟩⟩;refine⟨_,rfl,?_⟩)|(go_at_call 236;(with_reducible refine(iG.calls k _ _ l1 _ _ l0 O6 _ ?bz ?bB ?cg ?cm A5.o).mono ?_);(case bz=>exact bD bN);(case bB=>exact cA.o);(case cg=>exact bD aj);(case cm=>exact ax.o);rintro e w' ⟨rfl,⟨nd,rfl⟩⟩))
  go_ret;exact⟨ak,aQ⟩
 subst c4;rw[ah rfl] at H;obtain rfl:=au H;go_enter Tryz.func185,Tryz.ntmps185;go_wp2_with ((refine aY 7 Tryz.func236 #[.slice A0 l0.length c0,.slice A1 l1.length c1] ?_;(with_reducible refine(iG.calls k _ _ l0 _ _ l1 true _ ?bz ?bB ?cg ?cm A3.o).mono ?_);(case bz=>exact bD aj);(case bB=>exact ax.o);(case cg=>exact bD bN);(case cm=>exact cA.o);rintro e w' ⟨rfl,⟨nd,rfl⟩⟩;refine⟨_,rfl,?_⟩))
 go_ret;exact⟨ak,aQ⟩
mutual
def fh.j0:Nat→List (List Int)→List (List Int)→Bool→Option (Int×Bool)
 |0,_,_,_=>none
 |k+1,x0,x1,OE=>if OE=true then(some (0,false)) else(fh.l0 k x0 x1 0 0)
def fh.l0:Nat→List (List Int)→List (List Int)→Int→Int→Option (Int×Bool)
 |0,_,_,_,_=>none
 |k+1,x0,x1,x6,x7=>if x7<10 then(fh.l1 k x0 x1 x6 x7 0) else(some (x6,true))
def fh.l1:Nat→List (List Int)→List (List Int)→Int→Int→Int→Option (Int×Bool)
 |0,_,_,_,_,_=>none
 |k+1,x0,x1,x6,x7,x8=>if x8<10 then(if 0≤x7 then(if x7<(x0.length:Int) then(if 0≤x8 then(if x8<(x1.length:Int) then((oB.f k (aT x0 x7) (aT x1 x8)).bind fun O7=>(if O7=true then(fh.l1 k x0 x1 (wrap64 (x6+1)) x7 (wrap64 (x8+1))) else(fh.l1 k x0 x1 x6 x7 (wrap64 (x8+1))))) else none) else none) else none) else none) else(fh.l0 k x0 x1 x6 (wrap64 (x7+1)))
end
def fh.f(k:Nat)(l0:List (List Int))(l1:List (List Int)):Option (Int×Bool):=(dN.f k l0).bind fun O8=>(if O8=true then((dN.f k l1).bind fun EC=>(fh.j0 k l0 l1 (!EC))) else(fh.j0 k l0 l1 true))
theorem fh.calls(k:Nat)(A0:Option Addr)(c0:Nat)(l0:List (List Int))(A1:Option Addr)(c1:Nat)(l1:List (List Int))(r1:Int)(r2:Bool)(w:World)(hr0:Kd.C (Kd.slice 3 (Kd.int .i64)) w A0 l0.length l0)(hc0:l0.length≤c0)(hr1:Kd.C (Kd.slice 3 (Kd.int .i64)) w A1 l1.length l1)(hc1:l1.length≤c1)(h:fh.f k l0 l1=some (r1,r2)):
  Calls Tryz.prog 114 #[.slice A0 l0.length c0,.slice A1 l1.length c1] w fun e w'=>e=.returned (.tuple #[.int .i64 r1,.bool r2])∧Below w.heap.size w w':=by
 have aj:=af.mk hr0;have ax:=af.mk hc0;clear hr0 hc0;have bN:=af.mk hr1;have cA:=af.mk hc1;clear hr1 hc1;have HB:=af.mk (Below.refl w.heap.size w);have H:=h;clear h;unfold fh.f at H;have ou:=af.mk H;clear H;go_enter Tryz.func114,Tryz.ntmps114;go_upto_region 1 with(fail)
 repeat(go_quiet (fail);go_upto_region 1 with(fail))
 go_cut [16] (fun Iu wc=> ∃(kq:Nat) (Iz:Bool),Iu=.bool Iz∧af (fh.j0 kq l0 l1 Iz=some (r1,r2))∧af (kq≤k)∧af (Below w.heap.size w wc))
 case first=>
  have H:=ou.o;clear ou;replace H:=aA.mp H;obtain⟨O8,cX,H⟩:=H;have A4:=af.mk cX;clear cX;by_cases c5:O8=true
  case neg=>
   replace c5:=bU c5;subst c5;rw[ag bV] at H;have H':=af.mk H;clear H;go_wp2_with ((go_at_call 183;(with_reducible refine(dN.calls k _ _ l0 false _ ?_ ?_ A4.o).mono ?_);exact cG aj HB;exact ax.o;rintro e w9 ⟨rfl,hb⟩;replace HB:=aM HB hb))
   repeat(go_quiet ((go_at_call 183;(with_reducible refine(dN.calls k _ _ l0 false _ ?_ ?_ A4.o).mono ?_);exact cG aj HB;exact ax.o;rintro e w9 ⟨rfl,hb⟩;replace HB:=aM HB hb));try go_wp2)
   go_meet;case rel=>exact⟨_,(true),ak,H',⟨np⟩,⟨ai HB⟩⟩
  subst c5;rw[ah rfl] at H;replace H:=aA.mp H;obtain⟨EC,dQ,H⟩:=H;have A6:=af.mk dQ;clear dQ;have H':=af.mk H;clear H;go_wp2_with (first|(go_at_call 183;(with_reducible refine(dN.calls k _ _ l0 true _ ?_ ?_ A4.o).mono ?_);exact cG aj HB;exact ax.o;rintro e w7 ⟨rfl,hb⟩;replace HB:=aM HB hb)|(go_at_call 183;(with_reducible refine(dN.calls k _ _ l1 EC _ ?_ ?_ A6.o).mono ?_);exact cG bN HB;exact cA.o;rintro e w8 ⟨rfl,hb⟩;replace HB:=aM HB hb))
  repeat(go_quiet (first|(go_at_call 183;(with_reducible refine(dN.calls k _ _ l0 true _ ?_ ?_ A4.o).mono ?_);exact cG aj HB;exact ax.o;rintro e w7 ⟨rfl,hb⟩;replace HB:=aM HB hb)|(go_at_call 183;(with_reducible refine(dN.calls k _ _ l1 EC _ ?_ ?_ A6.o).mono ?_);exact cG bN HB;exact cA.o;rintro e w8 ⟨rfl,hb⟩;replace HB:=aM HB hb));try go_wp2)
  go_meet;case rel=>exact⟨_,(!EC),ak,H',⟨np⟩,⟨ai HB⟩⟩
 case rest=>
  clear ou;obtain⟨kq,Iz,rfl,HA,rP,HB⟩:=hcut;cases kq with
  |zero=>exact absurd HA.o (by simp[fh.j0])
  |succ AO=>
   have H:=HA.o;clear HA;simp only[fh.j0] at H;by_cases c10:Iz=true
   case neg=>
    replace c10:=bU c10;subst c10;rw[ag bV] at H;have H':=af.mk H;clear H;go_wp2;repeat(go_quiet (fail);try go_wp2)
    go_loopg [6,7] AO (fun kq v6 v7 w'=> ∃(cC:Int) (bf:Int),v6=.int .i64 cC∧v7=.int .i64 bf∧af (fh.l0 kq l0 l1 cC bf=some (r1,r2))∧af (kq≤AO)∧af (Below w.heap.size w w'))
    case atStart=>exact⟨(0),(0),ak,ak,H',⟨aH _⟩,⟨ai HB⟩⟩
    case round=>
     clear H';obtain⟨cC,bf,rfl,rfl,HA,bw,HB⟩:=hrel;cases gk with
     |zero=>exact absurd HA.o (by simp[fh.l0])
     |succ k2=>
      have H:=HA.o;clear HA;simp only[fh.l0] at H;by_cases c11:bf<10
      case neg=>
       rw[ag c11] at H;have j5:=aD c11;clear c11;simp only[Option.some.injEq,Prod.mk.injEq] at H;obtain⟨rfl,rfl⟩:=H;go_wp2;repeat(go_quiet (fail);try go_wp2)
       go_ret2
       exact⟨bE,ai HB⟩
      rw[ah c11] at H;have j5:=ap c11;clear c11;have H':=af.mk H;clear H;go_wp2;repeat(go_quiet (fail);try go_wp2)
      go_loopg [6,8] k2 (fun kq v6 v8 w'=> ∃(AU:Int) (mh:Int),v6=.int .i64 AU∧v8=.int .i64 mh∧af (fh.l1 kq l0 l1 AU bf mh=some (r1,r2))∧af (kq≤k2)∧af (Below w.heap.size w w'))
      case atStart=>exact⟨(cC),(0),ak,ak,H',⟨aH _⟩,⟨ai HB⟩⟩
      case round=>
       clear H';obtain⟨AU,mh,rfl,rfl,HA,dt,HB⟩:=hrel;cases gk with
       |zero=>exact absurd HA.o (by simp[fh.l1])
       |succ k3=>
        have H:=HA.o;clear HA;simp only[fh.l1] at H;by_cases c12:mh<10
        case neg=>
         rw[ag c12] at H;have jC:=aD c12;clear c12;have H':=af.mk H;clear H;go_wp2;repeat(go_quiet (fail);try go_wp2)
         go_roundg k3
         case measure=>have:=rP.o;have:=bw.o;have:=dt.o;omega
         case rel=>exact⟨(AU),(wrap64 (bf+1)),ak,ak,H',⟨by have:=rP.o;have:=bw.o;have:=dt.o;omega⟩,⟨ai HB⟩⟩
        rw[ah c12] at H;have jC:=ap c12;clear c12;replace H:=bC H;obtain⟨j6,H⟩:=H;replace H:=bC H;obtain⟨pV,H⟩:=H;replace H:=bC H;obtain⟨n4,H⟩:=H;replace H:=bC H;obtain⟨oh,H⟩:=H;replace H:=aA.mp H;obtain⟨O7,qv,H⟩:=H;have rR:=af.mk qv;clear qv;by_cases c18:O7=true
        case neg=>
         replace c18:=bU c18;subst c18;rw[ag bV] at H;have H':=af.mk H;clear H;have xI:0≤(bf:Int):=aJ;have xJ:bf<(l0.length:Int):=aJ;obtain⟨akF,akG,akH,O9,ED,EF,EG⟩:=g8 aj.o bf xI xJ;cases O9;replace ED:=dw HB ED;have EH:=af.mk EG;have EI:=af.mk EF;clear EG EF;replace xI:=av xI;replace xJ:=av xJ;have xK:0≤(mh:Int):=aJ;have xL:mh<(l1.length:Int):=aJ;obtain⟨akI,akJ,akK,O_,EJ,EL,EM⟩:=g8 bN.o mh xK xL;cases O_;replace EJ:=dw HB EJ;have EN:=af.mk EM;have EO:=af.mk EL;clear EM EL;replace xK:=av xK;replace xL:=av xL;go_wp2_with ((go_at_call 185;(with_reducible refine(oB.calls k3 _ _ (aT l0 bf) _ _ (aT l1 mh) false _ ?bz ?bB ?cg ?cm rR.o).mono ?_);(case bz=>exact cG EH HB);(case bB=>exact EI.o);(case cg=>exact cG EN HB);(case cm=>exact EO.o);rintro e w' ⟨rfl,⟨nd,rfl⟩⟩;(try exact eA)))
         repeat(go_quiet ((go_at_call 185;(with_reducible refine(oB.calls k3 _ _ (aT l0 bf) _ _ (aT l1 mh) false _ ?bz ?bB ?cg ?cm rR.o).mono ?_);(case bz=>exact cG EH HB);(case bB=>exact EI.o);(case cg=>exact cG EN HB);(case cm=>exact EO.o);rintro e w' ⟨rfl,⟨nd,rfl⟩⟩;(try exact eA)));try go_wp2)
         go_roundg k3
         case measure=>have:=rP.o;have:=bw.o;have:=dt.o;omega
         case rel=>exact⟨(AU),(wrap64 (mh+1)),ak,ak,H',⟨by have:=rP.o;have:=bw.o;have:=dt.o;omega⟩,⟨ai HB⟩⟩
        subst c18;rw[ah rfl] at H;have H':=af.mk H;clear H;have xI:0≤(bf:Int):=aJ;have xJ:bf<(l0.length:Int):=aJ;obtain⟨akF,akG,akH,O9,ED,EF,EG⟩:=g8 aj.o bf xI xJ;cases O9;replace ED:=dw HB ED;have EH:=af.mk EG;have EI:=af.mk EF;clear EG EF;replace xI:=av xI;replace xJ:=av xJ;have xK:0≤(mh:Int):=aJ;have xL:mh<(l1.length:Int):=aJ;obtain⟨akI,akJ,akK,O_,EJ,EL,EM⟩:=g8 bN.o mh xK xL;cases O_;replace EJ:=dw HB EJ;have EN:=af.mk EM;have EO:=af.mk EL;clear EM EL;replace xK:=av xK;replace xL:=av xL;go_wp2_with ((go_at_call 185;(with_reducible refine(oB.calls k3 _ _ (aT l0 bf) _ _ (aT l1 mh) true _ ?bz ?bB ?cg ?cm rR.o).mono ?_);(case bz=>exact cG EH HB);(case bB=>exact EI.o);(case cg=>exact cG EN HB);(case cm=>exact EO.o);rintro e w' ⟨rfl,⟨nd,rfl⟩⟩;(try exact eA)))
        repeat(go_quiet ((go_at_call 185;(with_reducible refine(oB.calls k3 _ _ (aT l0 bf) _ _ (aT l1 mh) true _ ?bz ?bB ?cg ?cm rR.o).mono ?_);(case bz=>exact cG EH HB);(case bB=>exact EI.o);(case cg=>exact cG EN HB);(case cm=>exact EO.o);rintro e w' ⟨rfl,⟨nd,rfl⟩⟩;(try exact eA)));try go_wp2)
        go_roundg k3
        case measure=>have:=rP.o;have:=bw.o;have:=dt.o;omega
        case rel=>exact⟨(wrap64 (AU+1)),(wrap64 (mh+1)),ak,ak,H',⟨by have:=rP.o;have:=bw.o;have:=dt.o;omega⟩,⟨ai HB⟩⟩
   subst c10;rw[ah rfl] at H;simp only[Option.some.injEq,Prod.mk.injEq] at H;obtain⟨rfl,rfl⟩:=H;go_wp2;repeat(go_quiet (fail);try go_wp2)
   go_ret2
   exact⟨bE,ai HB⟩
def tp.f(a0:Int)(a1:Int):Option (Bool):=(gY.f a0).bind fun Pw=>(if Pw=true then((gY.f a1).bind fun Px=>(if Px=true then(some (decide (a0<a1))) else(some true))) else(some (decide (a0<a1))))
theorem tp.calls(a0:Int)(a1:Int)(r:Bool)(w:World)(h:tp.f a0 a1=some r):
  Calls Tryz.prog 262 #[.int .i64 a0,.int .i64 a1] w fun e w'=>e=.returned (.bool r)∧aG w w':=by
 have H:=h;clear h;unfold tp.f at H;replace H:=aA.mp H;obtain⟨Pw,bW,H⟩:=H;have A3:=af.mk bW;clear bW;by_cases c4:Pw=true
 case neg=>
  replace c4:=bU c4;subst c4;rw[ag bV] at H;obtain rfl:=au H;go_enter Tryz.func262,Tryz.ntmps262;go_wp2_with ((refine cx 6 Tryz.func252 #[.int .i64 a0] (gY.calls a0 false _ A3.o) fun nd=>?_))
  go_ret;exact⟨ak,aQ⟩
 subst c4;rw[ah rfl] at H;replace H:=aA.mp H;obtain⟨Px,cY,H⟩:=H;have A5:=af.mk cY;clear cY;by_cases c6:Px=true
 case neg=>
  replace c6:=bU c6;subst c6;rw[ag bV] at H;obtain rfl:=au H;go_enter Tryz.func262,Tryz.ntmps262;go_wp2_with (first|(refine cx 6 Tryz.func252 #[.int .i64 a0] (gY.calls a0 true _ A3.o) fun nd=>?_)|(go_at_call 252;(with_reducible refine(gY.calls a1 false _ A5.o).mono ?_);rintro e w' ⟨rfl,⟨nd,rfl⟩⟩))
  go_ret;exact⟨ak,aQ⟩
 subst c6;rw[ah rfl] at H;obtain rfl:=au H;go_enter Tryz.func262,Tryz.ntmps262;go_wp2_with (first|(refine cx 6 Tryz.func252 #[.int .i64 a0] (gY.calls a0 true _ A3.o) fun nd=>?_)|(go_at_call 252;(with_reducible refine(gY.calls a1 true _ A5.o).mono ?_);rintro e w' ⟨rfl,⟨nd,rfl⟩⟩))
 go_ret;exact⟨ak,aQ⟩
mutual
def dL.l0:Nat→List Int→Int→Int→Int→Option (List Int)
 |0,_,_,_,_=>none
 |k+1,x0,x1,x2,x6=>if x6<x2 then(dL.l1 k x0 x1 x2 x6 x6) else(some x0)
def dL.l1:Nat→List Int→Int→Int→Int→Int→Option (List Int)
 |0,_,_,_,_,_=>none
 |k+1,x0,x1,x2,x6,x7=>if x7>x1 then(if 0≤x7 then(if x7<(x0.length:Int) then(if 0≤(wrap64 (x7 - 1)) then(if(wrap64 (x7 - 1))<(x0.length:Int) then((tp.f (rd x0 x7) (rd x0 (wrap64 (x7 - 1)))).bind fun E6=>(if E6=true then(dL.l1 k ((x0.set (x7:Int).toNat (rd x0 (wrap64 (x7 - 1)))).set ((wrap64 (x7 - 1)):Int).toNat (rd x0 x7)) x1 x2 x6 (wrap64 (x7 - 1))) else(dL.l0 k x0 x1 x2 (wrap64 (x6+1))))) else none) else none) else none) else none) else(dL.l0 k x0 x1 x2 (wrap64 (x6+1)))
end
def dL.f(k:Nat)(l0:List Int)(a1:Int)(a2:Int):Option (List Int):=dL.l0 k l0 a1 a2 (wrap64 (a1+1))
def dL.T4:Bool×List (List Nat×List Nat):=(true,[([],[]),([],[]),([0,1],[0,1]),([2],[2]),([3],[3]),([3],[3]),([4,5,3],[3,4,5]),([6,3],[3,6]),([3],[3]),([3],[3]),([9,3],[3,9]),([8,10,3],[3,8,10]),([11,3],[3,11]),([7,12,3,3],[3,7,12]),([3,13],[3,13])])
def dL.B4:List Nat:=[0,0,3,7,15,15,63,127,15,15,527,1807,3855,8191,16383]
theorem dL.rA:fD .any (opsOf Tryz.f256 4)=dL.T4:=by kernel_rfl
theorem dL.rB:nj dL.T4.2 dL.B4=true:=by kernel_rfl
def dL.T6:Bool×List (List Nat×List Nat):=(true,[([],[]),([],[]),([],[]),([],[]),([3],[3]),([],[]),([],[]),([6],[6]),([5,7],[5,7]),([8],[8]),([],[]),([],[]),([10,11],[10,11]),([12],[12]),([0,1,0,1,5,6,7,8,9,13],[0,1]),([14,9,0,1,5,6,7,8,9,13],[9,14]),([2,4,0,1,2,3,4,5,6,7,8,9,10,11,12,13,14,15],[2,4]),([16,13,15,0,1,2,3,4,5,6,7,8,9,10,11,12,13,14,15],[13,16])])
def dL.B6:List Nat:=[0,0,0,0,8,0,0,64,224,480,0,0,3072,7168,16355,32739,65535,131071]
theorem dL.Mz:fD .any (opsOf Tryz.f256 6)=dL.T6:=by kernel_rfl
theorem dL.MA:nj dL.T6.2 dL.B6=true:=by kernel_rfl
theorem dL.calls(k:Nat)(aI:Nat→Prop)(gK:Value)(l0:List Int)(a1:Int)(a2:Int)(r:List Int)(w0 w:World)(hB:Below w0.heap.size w0 w)(ho0:Kd.R (Kd.int .i64) 3 w w0.heap.size aI gK l0)(h:dL.f k l0 a1 a2=some r):
  Calls Tryz.prog 256 #[gK,.int .i64 a1,.int .i64 a2] w fun e w'=>e=.returned (.tuple #[])∧Kd.R (Kd.int .i64) 3 w' w0.heap.size (fun k_=>(aI k_∨w.heap.size≤k_)) gK r∧Below w0.heap.size w0 w'∧Kept w w' (fun k_=>aI k_):=by
 have jD:=af.mk (show Kd.R (Kd.int .i64) 3 w w0.heap.size (fun k_=>(aI k_∨w.heap.size≤k_)) gK l0 from Kd.dq ho0 (fun k_ hk=>(.inl hk)));have HK:=af.mk (Kept.refl w (fun k_=>aI k_));have ut:=af.mk hB.size;have HB:=af.mk hB;clear hB;have H:=h;clear h;unfold dL.f at H;have H':=af.mk H;clear H;go_enter Tryz.func256,Tryz.ntmps256;go_wp2;go_loopg [6] k (fun kq v6 w'=> ∃(gB:List Int) (bH:Int),v6=.int .i64 bH∧af (dL.l0 kq gB a1 a2 bH=some r)∧af (kq≤k)∧af (Kd.R (Kd.int .i64) 3 w' w0.heap.size (fun k_=>(aI k_∨w.heap.size≤k_)) gK gB)∧af (Kept w w' (fun k_=>aI k_))∧af (Below w0.heap.size w0 w'))
 case atStart=>exact⟨l0,(wrap64 (a1+1)),ak,H',⟨aH _⟩,⟨aX jD⟩,⟨Ga HK⟩,⟨ai HB⟩⟩
 case round=>
  clear H';obtain⟨gB,bH,rfl,HA,aC,bj,HK,HB⟩:=hrel;cases gk with
  |zero=>exact absurd HA.o (by simp[dL.l0])
  |succ k1=>
   have H:=HA.o;clear HA;simp only[dL.l0] at H;by_cases c4:bH<a2
   case neg=>
    rw[ag c4] at H;have dK:=aD c4;clear c4;obtain rfl:=au H;go_wp2;first|go_end0|((try simp only[Exit.inBlock,Exit.then]);refine bodyPost_ret (results_none rfl _ _ _) rfl ?_)
    exact⟨bE,aX bj,ai HB,by repeat(first|(with_reducible first|exact HK.o|apply Kept.alloc|apply Kept.drewN|apply Kept.drew)|exact HK.o)⟩
   rw[ah c4] at H;have dK:=ap c4;clear c4;have H':=af.mk H;clear H;go_wp2;go_loopg [7] k1 (fun kq v7 w'=> ∃(bQ:List Int) (bf:Int),v7=.int .i64 bf∧af (dL.l1 kq bQ a1 a2 bH bf=some r)∧af (kq≤k1)∧af (Kd.R (Kd.int .i64) 3 w' w0.heap.size (fun k_=>(aI k_∨w.heap.size≤k_)) gK bQ)∧af (Kept w w' (fun k_=>aI k_))∧af (Below w0.heap.size w0 w'))
   case atStart=>exact⟨(gB),(bH),ak,H',⟨aH _⟩,⟨aX bj⟩,⟨Ga HK⟩,⟨ai HB⟩⟩
   case round=>
    clear H';obtain⟨bQ,bf,rfl,HA,bw,bj,HK,HB⟩:=hrel;cases gk with
    |zero=>exact absurd HA.o (by simp[dL.l1])
    |succ k2=>
     have H:=HA.o;clear HA;simp only[dL.l1] at H;by_cases c5:bf>a1
     case neg=>
      rw[ag c5] at H;have dC:=aD c5;clear c5;have H':=af.mk H;clear H;try go_wp2
      replace bj:=af.mk (Kd.fU bj.o);replace HK:=af.mk (Kept.drew HK.o);replace HB:=af.mk (bR HB.o);refine jA (n:=15) (S:=fun w'=>True) (ds:=[]) #[F_,F_,F_,F_,F_,F_,F_,F_,F_,F_,F_,F_,F_,F_,F_] am rfl rfl trivial (fun hHeld=>?_);refine nk dL.rA dL.rB (fun az gX=>?_);generalize wr.drew=ny at bj HK HB hHeld ⊢;refine p_ 0 16 (m_ 15 1) az.o ?_;refine p_ 1 17 (m_ 15 3) az.o ?_;refine p_ 2 18 (m_ 15 7) az.o ?_;refine p_ 3 19 (m_ 15 15) az.o ?_;refine u_ 4 20 (m_ 15 31) az.o ?_;refine u_ 5 21 (m_ 15 63) az.o ?_;refine u_ 6 22 (m_ 15 127) az.o ?_;refine u_ 7 23 (m_ 15 255) az.o ?_;refine u_ 8 24 (m_ 15 511) az.o ?_;refine u_ 9 25 (m_ 15 1023) az.o ?_;refine u_ 10 26 (m_ 15 2047) az.o ?_;refine u_ 11 27 (m_ 15 4095) az.o ?_;refine u_ 12 28 (m_ 15 8191) az.o ?_;refine u_ 13 29 (m_ 15 16383) az.o ?_;refine p_ 14 30 (m_ 15 32767) az.o ?_;refine jB (ni az.o am) ?_;try go_wp2
      go_roundg k2
      case measure=>have:=aC.o;have:=bw.o;omega
      case rel=>exact⟨(bQ),(wrap64 (bH+1)),ak,H',⟨by have:=aC.o;have:=bw.o;omega⟩,⟨aX bj⟩,⟨Ga HK⟩,⟨ai HB⟩⟩
     rw[ah c5] at H;have dC:=ap c5;clear c5;replace H:=bC H;obtain⟨dU,H⟩:=H;replace H:=bC H;obtain⟨eN,H⟩:=H;obtain⟨cj,ov⟩:∃j_:Int,(wrap64 (bf - 1))=j_:=⟨_,rfl⟩;replace H:(if 0≤(cj) then(if(cj)<(bQ.length:Int) then((tp.f (rd bQ bf) (rd bQ (cj))).bind fun E6=>(if E6=true then(dL.l1 k2 ((bQ.set (bf:Int).toNat (rd bQ (cj))).set ((cj):Int).toNat (rd bQ bf)) a1 a2 bH cj) else(dL.l0 k2 bQ a1 a2 (wrap64 (bH+1))))) else none) else none)=some r:=by first|(rw[ov] at H;exact H)|(simp only[ov] at H ⊢;exact H)
     have agZ:(IntKind.i64.wrap (bf - 1))=cj:=(dh _).trans ov;replace H:=bC H;obtain⟨gU,H⟩:=H;replace H:=bC H;obtain⟨gH,H⟩:=H;replace H:=aA.mp H;obtain⟨E6,ka,H⟩:=H;have jH:=af.mk ka;clear ka;by_cases c12:E6=true
     case neg=>
      replace c12:=bU c12;subst c12;rw[ag bV] at H;have H':=af.mk H;clear H;try go_wp2
      replace bj:=af.mk (Kd.fU bj.o);replace HK:=af.mk (Kept.drew HK.o);replace HB:=af.mk (bR HB.o);obtain⟨Dv,Dw,wU⟩:=Kd.bJ bj.o;(first|subst wU|(injection wU with lH qf lI;have qg:=lH.symm;have qh:=lI.symm;clear lH qf lI;subst qg;subst qh))
      have xT:0≤(bf:Int):=aJ;have xU:bf<(bQ.length:Int):=aJ;obtain⟨rU,Py,xV⟩:=Kd.ck (Kd.bm bj.o).2.2 bf xT xU;cases Py;replace xT:=av xT;replace xU:=av xU;have xW:0≤((cj):Int):=aJ;have xX:(cj)<(bQ.length:Int):=aJ;obtain⟨Pz,PA,xY⟩:=Kd.ck (Kd.bm bj.o).2.2 (cj) xW xX;obtain rfl:rU=Pz:=(by injection PA);replace xW:=av xW;replace xX:=av xX;refine jA (n:=15) (S:=fun w'=>w'.cell? (rU.add (bf).toNat)=some (.int .i64 (rd bQ bf))∧w'.cell? (rU.add ((cj)).toNat)=some (.int .i64 (rd bQ (cj)))) (ds:=[]) #[F_,F_,F_,F_,F_,F_,F_,F_,F_,F_,F_,F_,F_,F_,F_] am rfl rfl ⟨xV,xY⟩ (fun hHeld=>?_);refine nk dL.rA dL.rB (fun az gX=>?_);generalize wr.drew=Co at bj HK HB xV xY hHeld ⊢;refine p_ 0 16 (m_ 15 1) az.o ?_;refine p_ 1 17 (m_ 15 3) az.o ?_;refine p_ 2 18 (m_ 15 7) az.o ?_;refine p_ 3 19 (m_ 15 15) az.o ?_;refine p_ 4 20 (m_ 15 31) az.o ?_;refine p_ 5 21 (m_ 15 63) az.o ?_;refine p_ 6 22 (m_ 15 127) az.o ?_;refine p_ 8 24 (m_ 15 383) az.o ?_;refine p_ 9 25 (m_ 15 895) az.o ?_;refine p_ 10 26 (m_ 15 1919) az.o ?_;refine p_ 11 27 (m_ 15 3967) az.o ?_;refine nn 7 23 (m_ 15 4095) az.o gX.o hHeld ?_;refine nn 12 28 (m_ 15 8191) az.o gX.o hHeld ?_;refine fa (i:=13) (N:=some 29) (m_ 15 16383) rfl rfl (gj az.o am) ao (fun K hK=>?_);refine lV Tryz.func262 am rfl #[.int .i64 (rd bQ bf),.int .i64 (rd bQ (cj))] (by rfl) rfl rfl (by(try simp only[List.map_toArray,List.map_cons,List.map_nil]);first|done|(simp only[ov];rfl)|rfl|(simp only[List.length_drop,List.length_take];rfl)) ?_;with_reducible refine(tp.calls (rd bQ bf) (rd bQ (cj)) false _ jH.o).mono ?_
      rintro e w' ⟨rfl,⟨nd,rfl⟩⟩;refine⟨_,rfl,?_⟩;refine hK.out _ _ ⟨hHeld.1,hHeld.2⟩ (fun hHeld=>?_);clear hK K;refine fl 29 ?_;refine p_ 14 30 (m_ 15 32767) az.o ?_;refine jB (ni az.o am) ?_;try go_wp2
      go_roundg k2
      case measure=>have:=aC.o;have:=bw.o;omega
      case rel=>exact⟨(bQ),(wrap64 (bH+1)),ak,H',⟨by have:=aC.o;have:=bw.o;omega⟩,⟨aX bj⟩,⟨Ga HK⟩,⟨ai HB⟩⟩
     subst c12;rw[ah rfl] at H;generalize X2:((bQ.set (bf:Int).toNat (rd bQ (cj))):List Int)=aln at H;have alo:=af.mk X2.symm;clear X2;generalize X3:((aln.set ((cj):Int).toNat (rd bQ bf)):List Int)=alp at H;have alq:=af.mk X3.symm;clear X3;have H':=af.mk H;clear H;try go_wp2
     replace bj:=af.mk (Kd.fU bj.o);replace HK:=af.mk (Kept.drew HK.o);replace HB:=af.mk (bR HB.o);obtain⟨ag0,MB,Dp⟩:=Kd.bJ bj.o;(first|subst Dp|(injection Dp with lH qf lI;have qg:=lH.symm;have qh:=lI.symm;clear lH qf lI;subst qg;subst qh))
     have xT:0≤(bf:Int):=aJ;have xU:bf<(bQ.length:Int):=aJ;obtain⟨rU,Py,xV⟩:=Kd.ck (Kd.bm bj.o).2.2 bf xT xU;cases Py;replace xT:=av xT;replace xU:=av xU;have xW:0≤((cj):Int):=aJ;have xX:(cj)<(bQ.length:Int):=aJ;obtain⟨Pz,PA,xY⟩:=Kd.ck (Kd.bm bj.o).2.2 (cj) xW xX;obtain rfl:rU=Pz:=(by injection PA);replace xW:=av xW;replace xX:=av xX;refine jA (n:=15) (S:=fun w'=>w'.cell? (rU.add (bf).toNat)=some (.int .i64 (rd bQ bf))∧w'.cell? (rU.add ((cj)).toNat)=some (.int .i64 (rd bQ (cj)))) (ds:=[]) #[F_,F_,F_,F_,F_,F_,F_,F_,F_,F_,F_,F_,F_,F_,F_] am rfl rfl ⟨xV,xY⟩ (fun hHeld=>?_);refine nk dL.rA dL.rB (fun az gX=>?_);generalize wr.drew=hY at bj HK HB xV xY hHeld ⊢;refine p_ 0 16 (m_ 15 1) az.o ?_;refine p_ 1 17 (m_ 15 3) az.o ?_;refine p_ 2 18 (m_ 15 7) az.o ?_;refine p_ 3 19 (m_ 15 15) az.o ?_;refine p_ 4 20 (m_ 15 31) az.o ?_;refine p_ 5 21 (m_ 15 63) az.o ?_;refine p_ 6 22 (m_ 15 127) az.o ?_;refine p_ 8 24 (m_ 15 383) az.o ?_;refine p_ 9 25 (m_ 15 895) az.o ?_;refine p_ 10 26 (m_ 15 1919) az.o ?_;refine p_ 11 27 (m_ 15 3967) az.o ?_;refine nn 7 23 (m_ 15 4095) az.o gX.o hHeld ?_;refine nn 12 28 (m_ 15 8191) az.o gX.o hHeld ?_;refine fa (i:=13) (N:=some 29) (m_ 15 16383) rfl rfl (gj az.o am) ao (fun K hK=>?_);refine lV Tryz.func262 am rfl #[.int .i64 (rd bQ bf),.int .i64 (rd bQ (cj))] (by rfl) rfl rfl (by(try simp only[List.map_toArray,List.map_cons,List.map_nil]);first|done|(simp only[ov];rfl)|rfl|(simp only[List.length_drop,List.length_take];rfl)) ?_;with_reducible refine(tp.calls (rd bQ bf) (rd bQ (cj)) true _ jH.o).mono ?_
     rintro e w' ⟨rfl,⟨nd,rfl⟩⟩;refine⟨_,rfl,?_⟩;refine hK.out _ _ ⟨hHeld.1,hHeld.2⟩ (fun hHeld=>?_);clear hK K;refine fl 29 ?_;refine p_ 14 30 (m_ 15 32767) az.o ?_;refine jB (ni az.o am) ?_;try go_wp2
     (try(rw[vE hY];generalize fQ:World.drewN hY _=hY;have dz:af (Kd.R (Kd.int .i64) 3 hY w0.heap.size (fun k_=>(aI k_∨w.heap.size≤k_)) (.slice (some rU) bQ.length MB) bQ):=⟨by rw[←fQ];exact(aX bj)⟩;have dA:af (Kept w hY (fun k_=>aI k_)):=⟨by rw[←fQ];exact(by repeat(first|(with_reducible first|exact HK.o|apply Kept.alloc|apply Kept.drewN|apply Kept.drew)|exact HK.o))⟩;have fP:af (Below w0.heap.size w0 hY):=⟨by rw[←fQ];exact(ai HB)⟩;clear bj HK HB fQ;have bj:=dz;have HK:=dA;have HB:=fP;clear dz dA fP))
     replace bj:=af.mk (Kd.fU bj.o);replace HK:=af.mk (Kept.drew HK.o);replace HB:=af.mk (bR HB.o);have PB:0≤((cj):Int):=aJ;have PD:(cj)<(bQ.length:Int):=aJ;obtain⟨alr,als,PE⟩:=Kd.ck (Kd.bm bj.o).2.2 (cj) PB PD;obtain rfl:rU=alr:=(by injection als);replace PB:=av PB;replace PD:=av PD;have PF:0≤(bf:Int):=aJ;have PG:bf<(bQ.length:Int):=aJ;obtain⟨alu,alv,PH⟩:=Kd.ck (Kd.bm bj.o).2.2 bf PF PG;obtain rfl:rU=alu:=(by injection alv);replace PF:=av PF;replace PG:=av PG;have uu:0≤(bf:Int):=aJ;have uv:(bf:Int)<((bQ.length:Int):Int):=aJ;obtain⟨sZ,S9,wd,Dq,ML,ag5,Dr⟩:=Kd.yX bj.o ae;(first|cases wd|(injection wd with eI lE lF;(first|subst eI|(injection eI with eI;subst eI));subst lF;clear lE))
     have Ds:=af.mk Dq;have MN:=af.mk Dr;clear Dq ML Dr;have Dt:=af.mk (show(aI sZ∨w.heap.size≤sZ) from(bj.o.1 _ rfl));(first|simp only[add_plain] at xV|skip)
     (first|simp only[add_plain] at xY|skip)
     (first|simp only[add_plain] at PE|skip)
     (first|simp only[add_plain] at PH|skip)
     obtain⟨MO,MP⟩:=Kd.sg 0 bj.o (bf:Int) uu uv;replace uu:=av uu;replace uv:=av uv;have wQ:=Kd.BO bj.o (bf:Int) (rd bQ (cj));rw[←alo.o] at wQ;have wR:=af.mk wQ;clear wQ;have uw:0≤((cj):Int):=aJ;have ux:((cj):Int)<((bQ.length:Int):Int):=aJ;obtain⟨Hd,He⟩:=Kd.sg 0 wR.o ((cj):Int) uw ux;replace uw:=av uw;replace ux:=av ux;have wS:=Kd.BO wR.o ((cj):Int) (rd bQ bf);rw[←alq.o] at wS;have Du:=af.mk wS;clear wS;refine jA (n:=18) (S:=fun w'=>w'.cell? ⟨sZ,((cj)).toNat,none⟩=some (.int .i64 (rd bQ (cj)))∧w'.cell? ⟨sZ,(bf).toNat,none⟩=some (.int .i64 (rd bQ bf))) (ds:=[15,17]) #[F_,F_,F_,F_,F_,F_,F_,F_,F_,F_,F_,F_,F_,F_,F_,F_,F_,F_] am rfl rfl ⟨PE,PH⟩ (fun hHeld=>?_);refine nk dL.Mz dL.MA (fun az gX=>?_);generalize hY.drew=wT at bj HK HB MN wR Du MP He MO Hd xV xY PE PH hHeld ⊢;refine p_ 0 33 (m_ 18 1) az.o ?_;refine p_ 1 34 (m_ 18 3) az.o ?_;refine p_ 2 35 (m_ 18 7) az.o ?_;refine p_ 3 36 (m_ 18 15) az.o ?_;refine p_ 4 37 (m_ 18 31) az.o ?_;refine p_ 5 38 (m_ 18 63) az.o ?_;refine p_ 6 39 (m_ 18 127) az.o ?_;refine p_ 7 40 (m_ 18 255) az.o ?_;refine p_ 8 41 (m_ 18 511) az.o ?_;refine p_ 10 43 (m_ 18 1535) az.o ?_;refine p_ 11 44 (m_ 18 3583) az.o ?_;refine p_ 12 45 (m_ 18 7679) az.o ?_;refine nn 9 42 (m_ 18 8191) az.o gX.o hHeld ?_;refine nn 13 46 (m_ 18 16383) az.o gX.o hHeld ?_;refine p_ 14 47 (m_ 18 32767) az.o ?_;refine oN (i:=15) (N:=none) (m_ 18 65535) rfl rfl (gj az.o am) ao (fun K hK=>?_);refine pD (w1:=?_) (by rfl) rfl ?_ ?_;rotate_left;(go_simp;rfl);refine hK.out _ _ ?_;clear hK K;refine p_ 16 48 (m_ 18 131071) az.o ?_;refine oN (i:=17) (N:=none) (m_ 18 262143) rfl rfl (gj az.o am) ao (fun K hK=>?_);refine pD (w1:=?_) (by rfl) rfl ?_ ?_;rotate_left;(go_simp;rfl);refine hK.out _ _ ?_;clear hK K;refine jB (ni az.o am) ?_;try go_wp2
     go_roundg k2
     case measure=>have:=aC.o;have:=bw.o;omega
     case rel=>exact⟨(alp),(cj),(by first|rfl|(simp;done)|(simp only[←ov]<;>(first|rfl|simp))|(simp[*];done)),H',⟨by have:=aC.o;have:=bw.o;omega⟩,⟨aX Du⟩,⟨by repeat(first|(with_reducible first|exact HK.o|apply Kept.alloc|apply Kept.drewN|apply Kept.drew|refine Kept.setCell ?_ Dt.o _|refine Kept.setCell ?_ Dt.o _)|exact HK.o)⟩,⟨by repeat(first|(with_reducible first|exact HB.o|apply cS|apply bb|apply bR|refine mu ?_ Ds.o|refine mu ?_ Ds.o)|exact HB.o)⟩⟩
def AY.f(k:Nat)(l0:List Int)(a1 a2 a3:Int):Option (List Int):=if 0≤a1∧a1≤a2∧a2≤4611686018427387904∧a2 - a1≤12 then dL.f k l0 a1 a2 else none
theorem AY.calls(k:Nat)(aI:Nat→Prop)(gK:Value)(l0:List Int)(a1 a2 a3:Int)(r:List Int)(w0 w:World)(hB:Below w0.heap.size w0 w)(ho0:Kd.R (Kd.int .i64) 3 w w0.heap.size aI gK l0)(h:AY.f k l0 a1 a2 a3=some r):
  Calls Tryz.prog 214 #[gK,.int .i64 a1,.int .i64 a2,.int .i64 a3] w fun e w'=>e=.returned (.tuple #[])∧Kd.R (Kd.int .i64) 3 w' w0.heap.size (fun k_=>(aI k_∨w.heap.size≤k_)) gK r∧Below w0.heap.size w0 w'∧Kept w w' (fun k_=>aI k_):=by
 unfold AY.f at h;by_cases hc:0≤a1∧a1≤a2∧a2≤4611686018427387904∧a2 - a1≤12
 case neg=>rw[ag hc] at h;exact absurd h bn
 rw[ah hc] at h;obtain⟨h0,h1,h2,h3⟩:=hc;have HS:=af.mk (dL.calls k aI gK l0 a1 a2 r w0 w hB ho0 h);clear hB ho0 h;go_enter Tryz.func214,Tryz.ntmps214;go_wp2;go_loopg [1,2,3] 1 (fun kq v1 v2 v3 w'=>v1=.int .i64 a1∧v2=.int .i64 a2∧v3=.int .i64 a3∧af (w'=w))
 case atStart=>exact⟨rfl,rfl,rfl,⟨rfl⟩⟩
 case round=>
  obtain⟨rfl,rfl,rfl,HW⟩:=hrel;have hw:=HW.o;subst hw;have e12:wrap64 (a2 - a1)=a2 - a1:=by unfold wrap64;omega
  have c12:decide (a2 - a1≤12)=true:=ap h3;go_wp2_with (go_at_call 256;refine HS.o.mono ?_;rintro e w' ⟨rfl,hr',hb',hk'⟩)
  first|go_end0|((try simp only[Exit.inBlock,Exit.then]);refine bodyPost_ret (results_none rfl _ _ _) rfl ?_)
  exact⟨rfl,hr',hb',hk'⟩
end P
end Go.Proofs.YtiobedekgnfjcaaGreatDoor
