/- What both Executes come to: contracts and plain laws, for the laws on Execute. No conditions. (Part 16 of 28.) -/
import Derived.Test.YtiobedekgnfjcaaGreatDoorME11
import Derived.Test.YtiobedekgnfjcaaGreatDoorME12
set_option linter.unusedVariables false
set_option linter.unusedSimpArgs false
set_option maxHeartbeats 1000000
set_option maxRecDepth 100000
namespace Go.Proofs.YtiobedekgnfjcaaGreatDoor
namespace P
end P
open Go.Proofs.YtiobedekgnfjcaaGreatDoor.P Go.Proofs.YtiobedekgnfjcaaGreatDoorW.aq Go.Proofs.YtiobedekgnfjcaaGreatDoorW.ay Go.RowKit
namespace X
theorem aeG{t:List Int}(hs:aW t=true){p q r:Int}(hp:bu p)(hq:bu q)(hr:bu r)(hne:p≠q):Ev (fun k=>zQ.f k t p q r) (fy t p q r):=by
 have hj:=iL hs hp.1 hp.2 hq.1 hq.2 hne;unfold zQ.f;exact Ev.bind (zJ (fq hs).1 hp hq) (Ev.fix (tY (fq hs).1 hr ⟨hj.1,hj.2.1⟩) (Ev.done rfl))
theorem TA{t:List Int}(hs:aW t=true){p q r:Int}(hp:bu p)(hq:bu q)(hr:bu r)(hne:p≠q):Ev (fun k=>mJ.f k t p q r) (fy t p q r):=by
 have hj:=iL hs hp.1 hp.2 hq.1 hq.2 hne;unfold mJ.f;exact Ev.bind (zP hs hp hq hne) (Ev.fix (sJ (fq hs).1 hr ⟨hj.1,hj.2.1⟩) (Ev.done rfl))
theorem CV{A0:Option Addr}{c0:Nat}{t:List Int}{w:World}(hr:Kd.C (Kd.int .i64) w A0 t.length t)(hc:t.length≤c0)(hs:aW t=true){p q r:Int}(hp:bu p)(hq:bu q)(hr':bu r)(hne:p≠q)(n:Nat):
  Calls Tryz.prog 232 #[.slice A0 t.length c0,.int .i64 p,.int .i64 q,.int .i64 r] (w.drewN n) fun e w'=>e=.returned (.bool (fy t p q r))∧∃m,w'=w.drewN m:=by
 obtain⟨k,hk⟩:=(TA hs hp hq hr' hne).rounds;exact iN (mJ.calls k A0 c0 t p q r _ _ (Kd.e8 hr n) hc hk)
theorem GI{A0:Option Addr}{c0:Nat}{t:List Int}{w:World}(hr:Kd.C (Kd.int .i64) w A0 t.length t)(hc:t.length≤c0)(hs:aW t=true){p q:Int}(hp:bu p)(hq:bu q)(hne:p≠q)(n:Nat):
  Calls Tryz.prog 180 #[.slice A0 t.length c0,.int .i64 p,.int .i64 q] (w.drewN n) fun e w'=>e=.returned (.int .i64 (bh t p q))∧∃m,w'=w.drewN m:=by
 obtain⟨k,hk⟩:=(zP hs hp hq hne).rounds;exact iN (iX.calls k A0 c0 t p q _ _ (Kd.e8 hr n) hc hk)
theorem aeH{A0:Option Addr}{c0:Nat}{t:List Int}{w:World}(hr:Kd.C (Kd.int .i64) w A0 t.length t)(hc:t.length≤c0)(hs:aW t=true){p q:Int}(hp:bu p)(hq:bu q)(hne:p≠q)(n:Nat):
  Calls Tryz.prog 187 #[.slice A0 t.length c0,.int .i64 p,.int .i64 q] (w.drewN n) fun e w'=>e=.returned (.int .i64 (dx t p q))∧∃m,w'=w.drewN m:=by
 obtain⟨k,hk⟩:=(GG hs hp hq hne).rounds;exact iN (jI.calls k A0 c0 t p q _ _ (Kd.e8 hr n) hc hk)
theorem wn{t:List Int}(hs:aW t=true){p q r s:Int}(hp:bu p)(hq:bu q)(hr:bu r)(hz:bu s)(h1:p≠q)(h2:r≠s)(h3:bh t p q≠bh t r s):Ev (fun k=>kR.f k t p q r s) (dF t p q r s):=by
 have a:=iL hs hp.1 hp.2 hq.1 hq.2 h1;have b:=iL hs hr.1 hr.2 hz.1 hz.2 h2;unfold kR.f;exact Ev.bind (zP hs hp hq h1) (Ev.bind (zP hs hr hz h2) (Ev.bind (GG hs ⟨a.1,a.2.1⟩ ⟨b.1,b.2.1⟩ h3) (Ev.done rfl)))
theorem Ls{A0:Option Addr}{c0:Nat}{t:List Int}{w:World}(hr:Kd.C (Kd.int .i64) w A0 t.length t)(hc:t.length≤c0)(hs:aW t=true){p q r s:Int}(hp:bu p)(hq:bu q)(hr':bu r)(hz:bu s)(h1:p≠q)(h2:r≠s)(h3:bh t p q≠bh t r s)(n:Nat):
  Calls Tryz.prog 177 #[.slice A0 t.length c0,.int .i64 p,.int .i64 q,.int .i64 r,.int .i64 s] (w.drewN n) fun e w'=>e=.returned (.int .i64 (dF t p q r s))∧∃m,w'=w.drewN m:=by
 obtain⟨k,hk⟩:=(wn hs hp hq hr' hz h1 h2 h3).rounds;exact iN (kR.calls k A0 c0 t p q r s _ _ (Kd.e8 hr n) hc hk)
theorem CW{A0:Option Addr}{c0:Nat}{t:List Int}{w:World}(hr:Kd.C (Kd.int .i64) w A0 t.length t)(hc:t.length≤c0)(hs:aW t=true){p q r:Int}(hp:bu p)(hq:bu q)(hr':bu r)(hne:p≠q)(n:Nat):
  Calls Tryz.prog 201 #[.slice A0 t.length c0,.int .i64 p,.int .i64 q,.int .i64 r] (w.drewN n) fun e w'=>e=.returned (.bool (fy t p q r))∧∃m,w'=w.drewN m:=by
 obtain⟨k,hk⟩:=(aeG hs hp hq hr' hne).rounds;exact iN (zQ.calls k A0 c0 t p q r _ _ (Kd.e8 hr n) hc hk)
theorem GJ{A0:Option Addr}{c0:Nat}{t:List Int}{w:World}(hr:Kd.C (Kd.int .i64) w A0 t.length t)(hc:t.length≤c0)(hn:b9 t 81=true){p q:Int}(hp:bu p)(hq:bu q)(n:Nat):
  Calls Tryz.prog 94 #[.slice A0 t.length c0,.int .i64 p,.int .i64 q] (w.drewN n) fun e w'=>e=.returned (.int .i64 (bh t p q))∧∃m,w'=w.drewN m:=by
 obtain⟨k,hk⟩:=(zJ hn hp hq).rounds;exact iN (iD.calls k A0 c0 t p q _ _ (Kd.e8 hr n) hc hk)
theorem CX(w W:World)(hb:Below w.heap.size w W)(a b c:Int):Kd.R (Kd.int .i64) 3 (W.alloc (.cells #[.int .i64 a,.int .i64 b,.int .i64 c] 3)) w.heap.size (fun _=>True) (.slice (some ⟨W.heap.size,0,none⟩) 3 3) [a,b,c]:=by
 refine Kd.cv (base:=W.heap.size) ?_ (aZ hb);refine Kd.FT ?_ (fun _ _=>trivial);exact World.ownsRow_lit (base:=W.heap.size) (e:=3) (size:=1) W #[.int .i64 a,.int .i64 b,.int .i64 c] 3 (aH _) ao bn
theorem Lt(w W:World)(hb:Below w.heap.size w W):Kd.R (Kd.int .i64) 3 (W.alloc (.cells #[] 3)) w.heap.size (fun _=>True) (.slice (some ⟨W.heap.size,0,none⟩) 0 0) []:=by
 refine Kd.cv (base:=W.heap.size) ?_ (aZ hb);refine Kd.FT ?_ (fun _ _=>trivial);exact World.ownsRow_lit (base:=W.heap.size) (e:=3) (size:=1) W #[] 0 (aH _) ao bn
theorem aeU(A0:Option Addr)(c0:Nat)(t:List Int)(A1:Option Addr)(c1:Nat)(x:List Int)(w:World)(hs:aW t=true)(hr0:Kd.C (Kd.int .i64) w A0 t.length t)(hc0:t.length≤c0)(hr1:Kd.C (Kd.int .i64) w A1 x.length x)(hc1:x.length≤c1)(hx:x.length≤1048576):
  Calls Tryz.prog 176 #[.slice A0 t.length c0,.slice A1 x.length c1] w fun e w'=>e=.returned (.bool (iE t x))∧Below w.heap.size w w':=by
 have hn:=(fq hs).1;have ht:=(hG.1 hn).1;obtain⟨k1,hk1⟩:=(oX t ae).rounds;rw[hs] at hk1;obtain⟨k2,hk2⟩:=(TE hx).rounds;have CS:=af.mk (fun W (hW:Below w.heap.size w W)=>cu.calls k1 A0 c0 t true W (Kd.aN hr0 hW) hc0 hk1);have CD:=af.mk (fun W (hW:Below w.heap.size w W)=>(iF.calls k2 A1 c1 x (gw x) W (Kd.aN hr1 hW) hc1 hk2).mono fun _ _ h=>(⟨h.1,aG.below h.2⟩:_∧Below W.heap.size W _));have HB:=af.mk (Below.refl w.heap.size w);have HT:=af.mk hr0;have HX:=af.mk hr1;have HC:=af.mk hc0;clear hr0 hr1 hc1 hx hk1 hk2 hc0;by_cases h6:x.length=6
 case neg=>
  rw[show iE t x=false by unfold iE;rw[aD h6];simp];have e1:((x.length:Int) !=6)=true:=bne_iff_ne.2 ae;clear h6 hn ht hs;go_enter Tryz.func176,Tryz.ntmps176;go_wp2_with (go_at_call 118;(with_reducible refine(CS.o _ HB.o).mono ?_);rintro e w1 ⟨rfl,hb⟩;have bF:=af.mk hb;clear hb)
  go_ret;exact⟨rfl,bF.o⟩
 obtain⟨d,hd⟩:∃d,gw x=d:=⟨_,rfl⟩;have e1:((x.length:Int) !=6)=false:=bne_eq_false_iff_eq.2 ae;rw[hd] at CD;cases d with
 |false=>
  rw[show iE t x=false by unfold iE;rw[hd];simp];clear h6 hn ht hs hd;go_enter Tryz.func176,Tryz.ntmps176;go_wp2_with (first|(go_at_call 118;(with_reducible refine(CS.o _ HB.o).mono ?_);rintro e w1 ⟨rfl,hb⟩;have bF:=af.mk hb;clear hb)|(go_at_call 233;(with_reducible refine(CD.o _ bF.o).mono ?_);rintro e w2 ⟨rfl,hb⟩;have bK:=af.mk (aU bF.o hb);clear hb))
  go_ret;exact⟨rfl,bK.o⟩
 |true=>
 obtain⟨ad,rfl⟩:=kx HX.o ae;have P:=fun(i:Int) (i0:0≤i) (i1:i<6)=>oT hd (i:=i) i0 ae;have N:=fun(i j:Int) (i0:0≤i) (ij:i<j) (j1:j<6)=>sx hd (i:=i) (j:=j) i0 ij ae;have D1:=af.mk (fun W (h:Kd.C (Kd.int .i64) W A0 t.length t)=>CV h HC.o hs (P 0 ae ae) (P 1 ae ae) (P 2 ae ae) (N 0 1 ae ae ae));have D2:=af.mk (fun W (h:Kd.C (Kd.int .i64) W A0 t.length t)=>CV h HC.o hs (P 3 ae ae) (P 4 ae ae) (P 5 ae ae) (N 3 4 ae ae ae));have D3:=af.mk (fun W (h:Kd.C (Kd.int .i64) W A0 t.length t)=>GI h HC.o hs (P 0 ae ae) (P 1 ae ae) (N 0 1 ae ae ae));have D4:=af.mk (fun W (h:Kd.C (Kd.int .i64) W A0 t.length t)=>GI h HC.o hs (P 3 ae ae) (P 4 ae ae) (N 3 4 ae ae ae));have ja:=iL hs (P 0 ae ae).1 (P 0 ae ae).2 (P 1 ae ae).1 (P 1 ae ae).2 (N 0 1 ae ae ae);have jc:=iL hs (P 3 ae ae).1 (P 3 ae ae).2 (P 4 ae ae).1 (P 4 ae ae).2 (N 3 4 ae ae ae);have D5:=af.mk (fun(hne:bh t (rd x 0) (rd x 1)≠bh t (rd x 3) (rd x 4)) W (h:Kd.C (Kd.int .i64) W A0 t.length t)=>aeH h HC.o hs ⟨ja.1,ja.2.1⟩ ⟨jc.1,jc.2.1⟩ hne);have et:iE t x=(fy t (rd x 0) (rd x 1) (rd x 2)&&(fy t (rd x 3) (rd x 4) (rd x 5)&&(!decide (bh t (rd x 0) (rd x 1)=bh t (rd x 3) (rd x 4))&&!decide (dx t (bh t (rd x 0) (rd x 1)) (bh t (rd x 3) (rd x 4))∈x)))):=by unfold iE Lu zR zS;rw[hs,ap h6,hd];rfl
 rw[et];have hlen:6≤x.length:=ae;have H6:=af.mk h6;clear et P N hd hs ja jc hn ht h6;obtain⟨b1,hb1⟩:∃b,fy t (rd x 0) (rd x 1) (rd x 2)=b:=⟨_,rfl⟩;obtain⟨b2,hb2⟩:∃b,fy t (rd x 3) (rd x 4) (rd x 5)=b:=⟨_,rfl⟩;obtain⟨j1,sM⟩:∃b,bh t (rd x 0) (rd x 1)=b:=⟨_,rfl⟩;obtain⟨j2,hj2⟩:∃b,bh t (rd x 3) (rd x 4)=b:=⟨_,rfl⟩;obtain⟨o,ho⟩:∃b,dx t j1 j2=b:=⟨_,rfl⟩;rw[hb1] at D1 ⊢;rw[hb2] at D2 ⊢;rw[sM] at D3 D5 ⊢;rw[hj2] at D4 D5 ⊢;rw[ho] at D5 ⊢;clear hb1 hb2 sM hj2 ho;go_enter Tryz.func176,Tryz.ntmps176;go_wp2_with (first|(go_at_call 118;(with_reducible refine(CS.o _ HB.o).mono ?_);rintro e w1 ⟨rfl,hb⟩;have bF:=af.mk hb;clear hb)|(go_at_call 233;(with_reducible refine(CD.o _ bF.o).mono ?_);rintro e w2 ⟨rfl,hb⟩;have bK:=af.mk (aU bF.o hb);clear hb))
 have fu:=Kd.aN HT.o bK.o;have oY:=Kd.aN HX.o bK.o;have C1:=af.mk (D1.o _ fu);have C2:=af.mk (D2.o _ fu);obtain⟨g0,g1,g2,g3,g4,g5⟩:=rl oY hlen;have di:=af.mk oY;clear fu oY D1 D2 CS CD HX HC;cases b1 with
 |false=>
  go_quiet ((go_at_call 232;with_reducible exact C1.o _))
  go_wp2;go_ret;exact⟨rfl,bb bK.o _⟩
 |true=>
 cases b2 with
 |false=>
  go_quiet (first|(go_at_call 232;with_reducible exact C1.o _)|(go_at_call 232;with_reducible exact C2.o _))
  go_wp2;go_ret;exact⟨rfl,bb bK.o _⟩
 |true=>
 go_quiet (first|(go_at_call 232;with_reducible exact C1.o _)|(go_at_call 232;with_reducible exact C2.o _))
 go_wp2;obtain⟨w3,hw⟩:∃W,w2.drewN nq=W:=⟨_,rfl⟩;have du:=af.mk (hw▸bb bK.o nq:Below w.heap.size w w3);have di:=af.mk (hw▸Kd.e8 di.o nq:Kd.C (Kd.int .i64) w3 (some ad) x.length x);rw[hw];clear hw C1 C2 g0 g1 g2 g3 g4 g5;obtain⟨g0,g1,g2,g3,g4,g5⟩:=rl di.o hlen;have C3:=af.mk (D3.o _ (Kd.aN HT.o du.o));clear D3;go_quiet ((go_at_call 180;with_reducible exact C3.o _))
 go_wp2;obtain⟨w4,hw⟩:∃W,w3.drewN nq=W:=⟨_,rfl⟩;have cI:=af.mk (hw▸bb du.o nq:Below w.heap.size w w4);have di:=af.mk (hw▸Kd.e8 di.o nq:Kd.C (Kd.int .i64) w4 (some ad) x.length x);rw[hw];clear hw C3 g0 g1 g2 g3 g4 g5;obtain⟨g0,g1,g2,g3,g4,g5⟩:=rl di.o hlen;have C4:=af.mk (D4.o _ (Kd.aN HT.o cI.o));have C5:=af.mk (fun hne=>D5.o hne _ (Kd.aN HT.o cI.o));clear D4 D5;go_quiet ((go_at_call 180;with_reducible exact C4.o _))
 by_cases e3:j1=j2
 ·have e4:(j1==j2)=true:=beq_iff_eq.2 e3;have E3:=af.mk e3;clear e3 C4 C5;go_wp2;go_ret;exact⟨by rw[ap E3.o];rfl,bb cI.o _⟩
 have e4:(j1==j2)=false:=beq_eq_false_iff_ne.2 e3;have E3:=af.mk e3;have C6:=af.mk (C5.o e3);clear e3 C4 C5;go_wp2_with (go_at_call 187;(with_reducible refine(C6.o _).mono ?_);rintro e w' ⟨rfl,⟨nd,rfl⟩⟩)
 go_loopg [8] 6 (fun kq v8 w'=> ∃i:Int,v8=.int .i64 i∧af (0≤i∧i≤6)∧af ((6:Int) - i≤kq)∧af (∀j:Int,0≤j→j<i→rd x j≠o)∧af (Below w4.heap.size w4 w'))
 case atStart=>exact⟨0,rfl,⟨ae⟩,⟨ae⟩,⟨fun j h0 h1=>ae⟩,⟨bb (Below.refl _ _) _⟩⟩
 case round=>
  obtain⟨i,rfl,HI,HK,HA,HD⟩:=hrel;have h0:0≤i:=HI.o.1;by_cases c6:i<6
  ·have h1:i<x.length:=ae;have gi:=gV (Kd.aN di.o HD.o) i h0 h1;by_cases e:rd x i=o
   ·have e5:(rd x i==o)=true:=beq_iff_eq.2 e;have HM:=af.mk (show o∈x from e▸iK h1 h0);clear e;go_wp2;go_ret;exact⟨by rw[aD E3.o,ap HM.o];rfl,aU cI.o HD.o⟩
   ·have e5:(rd x i==o)=false:=beq_eq_false_iff_ne.2 e;have HE:=af.mk e;clear e;go_wp2;go_roundg (6 - (i.toNat+1))
    case measure=>have:=HK.o;omega
    case rel=>
     refine⟨i+1,rfl,⟨ae⟩,⟨ae⟩,⟨fun j j0 j1=>?_⟩,HD⟩;by_cases ej:j=i
     ·rw[ej];exact HE.o
     ·exact HA.o j j0 ae
  ·have hm:o∉x:=by
    intro hm;obtain⟨j,hj,e⟩:=List.mem_iff_getElem.1 hm;have h6:=H6.o;exact HA.o (j:Int) ae ae (by rw[jY x j hj];exact e)
   have HM:=af.mk hm;clear hm;go_wp2;go_ret;exact⟨by rw[aD E3.o,aD HM.o];rfl,aU cI.o HD.o⟩
theorem TF(A0:Option Addr)(c0:Nat)(t:List Int)(A1:Option Addr)(c1:Nat)(x:List Int)(w:World)(hs:aW t=true)(hr0:Kd.C (Kd.int .i64) w A0 t.length t)(hc0:t.length≤c0)(hr1:Kd.C (Kd.int .i64) w A1 x.length x)(h3:x.length=3)(hp:∀y∈x,bu y):
  Calls Tryz.prog 132 #[.slice A0 t.length c0,.slice A1 x.length c1] w fun e w'=>e=.returned (.bool (rm t (rd x 0) (rd x 1) (rd x 2)))∧Below w.heap.size w w':=by
 obtain⟨ad,rfl⟩:=kx hr1 ae;have P:=fun(i:Int) (i0:0≤i) (i1:i<3)=>hp (rd x i) (iK ae i0);have g0:=zN hr1 ae;have g1:=l7 hr1 1 1 ae;have g2:=l7 hr1 2 2 ae;have hlen:3≤x.length:=ae;have C1:=af.mk (fun hne=>CW hr0 hc0 hs (P 0 ae ae) (P 1 ae ae) (P 2 ae ae) hne);clear P hr0 hr1 hc0 hs h3 hp;unfold rm;by_cases e1:rd x 0=rd x 1
 ·have f1:(rd x 0==rd x 1)=true:=beq_iff_eq.2 e1;have E:=af.mk e1;clear e1;go_enter Tryz.func132,Tryz.ntmps132;go_wp2;go_quiet (fail)
  go_wp2;go_ret;exact⟨by rw[ap E.o];rfl,bb (Below.refl _ _) _⟩
 have f1:(rd x 0==rd x 1)=false:=beq_eq_false_iff_ne.2 e1;have E1:=af.mk e1;clear e1;by_cases e2:rd x 0=rd x 2
 ·have f2:(rd x 0==rd x 2)=true:=beq_iff_eq.2 e2;have E:=af.mk e2;clear e2;go_enter Tryz.func132,Tryz.ntmps132;go_wp2;go_quiet (fail)
  go_wp2;go_ret;exact⟨by rw[aD E1.o,ap E.o];rfl,bb (Below.refl _ _) _⟩
 have f2:(rd x 0==rd x 2)=false:=beq_eq_false_iff_ne.2 e2;have E2:=af.mk e2;clear e2;by_cases e3:rd x 1=rd x 2
 ·have f3:(rd x 1==rd x 2)=true:=beq_iff_eq.2 e3;have E:=af.mk e3;clear e3;go_enter Tryz.func132,Tryz.ntmps132;go_wp2;go_quiet (fail)
  go_wp2;go_ret;exact⟨by rw[aD E1.o,aD E2.o,ap E.o];rfl,bb (Below.refl _ _) _⟩
 have f3:(rd x 1==rd x 2)=false:=beq_eq_false_iff_ne.2 e3;have E3:=af.mk e3;clear e3;have C2:=af.mk (C1.o E1.o);obtain⟨b,hb⟩:∃b,fy t (rd x 0) (rd x 1) (rd x 2)=b:=⟨_,rfl⟩;rw[hb] at C2 ⊢;clear hb C1;cases b
 all_goals
  go_enter Tryz.func132,Tryz.ntmps132;go_wp2;go_quiet ((go_at_call 201;with_reducible exact C2.o _))
  go_wp2;go_ret;exact⟨by rw[aD E1.o,aD E2.o,aD E3.o];rfl,bb (Below.refl _ _) _⟩
theorem aeV(A0:Option Addr)(c0:Nat)(t:List Int)(A1:Option Addr)(c1:Nat)(x:List Int)(w:World)(hs:aW t=true)(hr0:Kd.C (Kd.int .i64) w A0 t.length t)(hc0:t.length≤c0)(hr1:Kd.C (Kd.int .i64) w A1 x.length x)(hc1:x.length≤c1)(hx:x.length≤1048576):
  Calls Tryz.prog 134 #[.slice A0 t.length c0,.slice A1 x.length c1] w fun e w'=>e=.returned (.bool (iE t x))∧Below w.heap.size w w':=by
 have hn:=(fq hs).1;have CD:=af.mk (fun n=>iN (Cy.calls A1 c1 x (gw x) (w.drewN n) (Kd.e8 hr1 n) hc1 (ah hx)));have HB:=af.mk (Below.refl w.heap.size w);by_cases h6:x.length=6
 case neg=>
  rw[show iE t x=false by unfold iE;rw[aD h6];simp];have e1:((x.length:Int) !=6)=true:=bne_iff_ne.2 ae;clear h6 hn hs hr0 hr1 hc0 hc1 hx;go_enter Tryz.func134,Tryz.ntmps134;go_wp2;go_quiet (fail)
  go_wp2;go_ret;exact⟨rfl,bb (Below.refl _ _) _⟩
 obtain⟨d,hd⟩:∃d,gw x=d:=⟨_,rfl⟩;have e1:((x.length:Int) !=6)=false:=bne_eq_false_iff_eq.2 ae;rw[hd] at CD;cases d with
 |false=>
  rw[show iE t x=false by unfold iE;rw[hd];simp];clear h6 hn hs hd hr0 hr1 hc0 hc1 hx;go_enter Tryz.func134,Tryz.ntmps134;go_wp2;go_quiet ((go_at_call 200;with_reducible exact CD.o _))
  go_wp2;go_ret;exact⟨rfl,bb (Below.refl _ _) _⟩
 |true=>
 obtain⟨ad,rfl⟩:=kx hr1 ae;have P:=fun(i:Int) (i0:0≤i) (i1:i<6)=>oT hd (i:=i) i0 ae;have N:=fun(i j:Int) (i0:0≤i) (ij:i<j) (j1:j<6)=>sx hd (i:=i) (j:=j) i0 ij ae;have C1:=af.mk (CW hr0 hc0 hs (P 0 ae ae) (P 1 ae ae) (P 2 ae ae) (N 0 1 ae ae ae));have C2:=af.mk (CW hr0 hc0 hs (P 3 ae ae) (P 4 ae ae) (P 5 ae ae) (N 3 4 ae ae ae));have D3:=af.mk (fun W (h:Kd.C (Kd.int .i64) W A0 t.length t)=>GJ h hc0 hn (P 0 ae ae) (P 1 ae ae));have D4:=af.mk (fun W (h:Kd.C (Kd.int .i64) W A0 t.length t)=>GJ h hc0 hn (P 3 ae ae) (P 4 ae ae));have ja:=iL hs (P 0 ae ae).1 (P 0 ae ae).2 (P 1 ae ae).1 (P 1 ae ae).2 (N 0 1 ae ae ae);have jc:=iL hs (P 3 ae ae).1 (P 3 ae ae).2 (P 4 ae ae).1 (P 4 ae ae).2 (N 3 4 ae ae ae);obtain⟨k5,TG⟩:=(GH hn (l:=bh t (rd x 0) (rd x 1)) (m:=bh t (rd x 3) (rd x 4)) ⟨ja.1,ja.2.1⟩ ⟨jc.1,jc.2.1⟩).rounds;have D5:=af.mk (fun W (h:Kd.C (Kd.int .i64) W A0 t.length t)=>jE.calls k5 A0 c0 t _ _ _ W h hc0 TG);obtain⟨k6,CY⟩:=(Gs x hx (dx t (bh t (rd x 0) (rd x 1)) (bh t (rd x 3) (rd x 4)))).rounds;have D6:=af.mk (fun W (h:Kd.C (Kd.int .i64) W (some ad) x.length x)=>pQ.calls k6 (some ad) c1 x _ _ W h hc1 CY);have et:iE t x=(fy t (rd x 0) (rd x 1) (rd x 2)&&(fy t (rd x 3) (rd x 4) (rd x 5)&&(!decide (bh t (rd x 0) (rd x 1)=bh t (rd x 3) (rd x 4))&&!decide (dx t (bh t (rd x 0) (rd x 1)) (bh t (rd x 3) (rd x 4))∈x)))):=by unfold iE Lu zR zS;rw[hs,ap h6,hd];rfl
 rw[et];have HT:=af.mk hr0;have HX:=af.mk hr1;have hlen:6≤x.length:=ae;obtain⟨g0,g1,g2,g3,g4,g5⟩:=rl hr1 hlen;clear et P N hd hs ja jc hn hr0 hr1 hc0 hc1 hx TG CY h6;obtain⟨b1,hb1⟩:∃b,fy t (rd x 0) (rd x 1) (rd x 2)=b:=⟨_,rfl⟩;obtain⟨b2,hb2⟩:∃b,fy t (rd x 3) (rd x 4) (rd x 5)=b:=⟨_,rfl⟩;obtain⟨j1,sM⟩:∃b,bh t (rd x 0) (rd x 1)=b:=⟨_,rfl⟩;obtain⟨j2,hj2⟩:∃b,bh t (rd x 3) (rd x 4)=b:=⟨_,rfl⟩;obtain⟨m,hm⟩:∃b,dx t j1 j2=b:=⟨_,rfl⟩;rw[hb1] at C1 ⊢;rw[hb2] at C2 ⊢;rw[sM] at D3 D5 D6 ⊢;rw[hj2] at D4 D5 D6 ⊢;rw[hm] at D5 D6 ⊢;clear hb1 hb2 sM hj2 hm;cases b1 with
 |false=>
  clear D3 D4 D5 D6;go_enter Tryz.func134,Tryz.ntmps134;go_wp2;go_quiet (first|(go_at_call 200;with_reducible exact CD.o _)|(go_at_call 201;with_reducible exact C1.o _))
  go_wp2;go_ret;exact⟨rfl,bb (Below.refl _ _) _⟩
 |true=>
 cases b2 with
 |false=>
  clear D3 D4 D5 D6;go_enter Tryz.func134,Tryz.ntmps134;go_wp2;go_quiet (first|(go_at_call 200;with_reducible exact CD.o _)|(go_at_call 201;with_reducible exact C1.o _)|(go_at_call 201;with_reducible exact C2.o _))
  go_wp2;go_ret;exact⟨rfl,bb (Below.refl _ _) _⟩
 |true=>
 go_enter Tryz.func134,Tryz.ntmps134;go_wp2;go_quiet (first|(go_at_call 200;with_reducible exact CD.o _)|(go_at_call 201;with_reducible exact C1.o _)|(go_at_call 201;with_reducible exact C2.o _))
 go_wp2;obtain⟨w3,hw⟩:∃W,w.drewN nq=W:=⟨_,rfl⟩;have du:=af.mk (hw▸bb HB.o nq:Below w.heap.size w w3);rw[hw];clear hw C1 C2 CD g0 g1 g2 g3 g4 g5;obtain⟨g0,g1,g2,g3,g4,g5⟩:=rl (Kd.aN HX.o du.o) hlen;have C3:=af.mk (D3.o _ (Kd.aN HT.o du.o));have C4:=af.mk (D4.o _ (Kd.aN HT.o du.o));clear D3 D4;go_quiet (first|(go_at_call 94;with_reducible exact C3.o _)|(go_at_call 94;with_reducible exact C4.o _))
 obtain⟨w4,hw⟩:∃W,w3.drewN nq=W:=⟨_,rfl⟩;have cI:=af.mk (hw▸bb du.o nq:Below w.heap.size w w4);rw[hw];clear hw C3 C4 g0 g1 g2 g3 g4 g5;by_cases e3:j1=j2
 ·have e4:(j1 !=j2)=false:=bne_eq_false_iff_eq.2 e3;have E3:=af.mk e3;clear e3 D5 D6;go_wp2;go_ret;exact⟨by rw[ap E3.o];rfl,cI.o⟩
 have e4:(j1 !=j2)=true:=bne_iff_ne.2 e3;have E3:=af.mk e3;clear e3;go_wp2_with (first|(go_at_call 95;(with_reducible refine(D5.o _ (Kd.aN HT.o cI.o)).mono ?_);rintro e w5 ⟨rfl,hb⟩;have ef:=af.mk (aU cI.o (aG.below hb));clear hb)|(go_at_call 202;(with_reducible refine(D6.o _ (Kd.aN HX.o ef.o)).mono ?_);rintro e w6 ⟨rfl,hb⟩;have kc:=af.mk (aU ef.o (aG.below hb));clear hb))
 go_ret;exact⟨by rw[aD E3.o];simp,kc.o⟩
end X
namespace P
def zU.f(k:Nat)(l0 l1:List Int):Option Bool:=if X.aW l0=true∧(l1.length=3∧l1.all X.dE=true) then some (X.rm l0 (rd l1 0) (rd l1 1) (rd l1 2)) else none
theorem zU.calls(k:Nat)(A0:Option Addr)(c0:Nat)(l0:List Int)(A1:Option Addr)(c1:Nat)(l1:List Int)(r:Bool)(w:World)(hr0:Kd.C (Kd.int .i64) w A0 l0.length l0)(hc0:l0.length≤c0)(hr1:Kd.C (Kd.int .i64) w A1 l1.length l1)(hc1:l1.length≤c1)(h:zU.f k l0 l1=some r):
  Calls Tryz.prog 132 #[.slice A0 l0.length c0,.slice A1 l1.length c1] w fun e w'=>e=.returned (.bool r)∧Below w.heap.size w w':=by
 unfold zU.f at h;by_cases hc:X.aW l0=true∧(l1.length=3∧l1.all X.dE=true)
 case neg=>rw[ag hc] at h;cases h
 rw[ah hc] at h;obtain rfl:=au h;exact X.TF A0 c0 l0 A1 c1 l1 w hc.1 hr0 hc0 hr1 hc.2.1 (fun y hy=>X.eB.1 (List.all_eq_true.1 hc.2.2 y hy))
end P
namespace X
theorem wq{w:World}{ad:Addr}{t:List Int}{n:Nat}(h:Kd.C (Kd.int .i64) w (some ad) n t)(hn:7≤n):w.cell? ad=some (.int .i64 (rd t 0))∧w.cell? ⟨ad.block,ad.off+1,none⟩=some (.int .i64 (rd t 1))∧w.cell? ⟨ad.block,ad.off+2,none⟩=some (.int .i64 (rd t 2))∧w.cell? ⟨ad.block,ad.off+3,none⟩=some (.int .i64 (rd t 3))∧w.cell? ⟨ad.block,ad.off+4,none⟩=some (.int .i64 (rd t 4))∧w.cell? ⟨ad.block,ad.off+5,none⟩=some (.int .i64 (rd t 5))∧w.cell? ⟨ad.block,ad.off+6,none⟩=some (.int .i64 (rd t 6)):=
 ⟨zN h ae,l7 h 1 1 ae,l7 h 2 2 ae,l7 h 3 3 ae,l7 h 4 4 ae,l7 h 5 5 ae,l7 h 6 6 ae⟩
theorem TH{t x:List Int}{i:Int}(h0:1≤i)(h1:i≤3)(h:fy t (rd x 0) (rd x i) (rd x (i+3))=false):sE t x=false:=by
 have:i=1∨i=2∨i=3:=ae;unfold fy at h;unfold sE fz;rcases this with rfl|rfl|rfl
 ·rw[show a8 t (rd x 4) (bh t (rd x 0) (rd x 1))=false from h];rfl
 ·rw[show a8 t (rd x 5) (bh t (rd x 0) (rd x 2))=false from h];simp
 ·rw[show a8 t (rd x 6) (bh t (rd x 0) (rd x 3))=false from h];simp
theorem TI{t x:List Int}(h:∀j:Int,1≤j→j<4→fy t (rd x 0) (rd x j) (rd x (j+3))=true):sE t x=true:=by
 unfold sE fz;rw[show a8 t (rd x 4) (bh t (rd x 0) (rd x 1))=true from h 1 ae ae,show a8 t (rd x 5) (bh t (rd x 0) (rd x 2))=true from h 2 ae ae,show a8 t (rd x 6) (bh t (rd x 0) (rd x 3))=true from h 3 ae ae];rfl
theorem aeW(A0:Option Addr)(c0:Nat)(t:List Int)(A1:Option Addr)(c1:Nat)(x:List Int)(w:World)(hs:aW t=true)(hr0:Kd.C (Kd.int .i64) w A0 t.length t)(hc0:t.length≤c0)(hr1:Kd.C (Kd.int .i64) w A1 x.length x)(hc1:x.length≤c1)(hx:x.length≤1048576):
  Calls Tryz.prog 230 #[.slice A0 t.length c0,.slice A1 x.length c1] w fun e w'=>e=.returned (.bool (fA t x))∧Below w.heap.size w w':=by
 have hn:=(fq hs).1;have ht:=(hG.1 hn).1;obtain⟨k1,hk1⟩:=(oX t ae).rounds;rw[hs] at hk1;obtain⟨k2,hk2⟩:=(TE hx).rounds;have CS:=af.mk (fun W (hW:Below w.heap.size w W)=>cu.calls k1 A0 c0 t true W (Kd.aN hr0 hW) hc0 hk1);have CD:=af.mk (fun W (hW:Below w.heap.size w W)=>(iF.calls k2 A1 c1 x (gw x) W (Kd.aN hr1 hW) hc1 hk2).mono fun _ _ h=>(⟨h.1,aG.below h.2⟩:_∧Below W.heap.size W _));have HB:=af.mk (Below.refl w.heap.size w);have HT:=af.mk hr0;have HX:=af.mk hr1;have HC:=af.mk hc0;clear hr0 hr1 hc1 hx hk1 hk2 hc0;by_cases h6:x.length=7
 case neg=>
  rw[show fA t x=false by unfold fA;rw[aD h6];simp];have e1:((x.length:Int) !=7)=true:=bne_iff_ne.2 ae;clear h6 hn ht hs;go_enter Tryz.func230,Tryz.ntmps230;go_wp2_with (go_at_call 118;refine(CS.o _ HB.o).mono ?_;rintro e w1 ⟨rfl,hb⟩;have bF:=af.mk hb;clear hb)
  go_ret;exact⟨rfl,bF.o⟩
 obtain⟨d,hd⟩:∃d,gw x=d:=⟨_,rfl⟩;have e1:((x.length:Int) !=7)=false:=bne_eq_false_iff_eq.2 ae;rw[hd] at CD;cases d with
 |false=>
  rw[show fA t x=false by unfold fA;rw[hd];simp];clear h6 hn ht hs hd;go_enter Tryz.func230,Tryz.ntmps230;go_wp2_with (first|(go_at_call 118;refine(CS.o _ HB.o).mono ?_;rintro e w1 ⟨rfl,hb⟩;have bF:=af.mk hb;clear hb)|(go_at_call 233;refine(CD.o _ bF.o).mono ?_;rintro e w2 ⟨rfl,hb⟩;have bK:=af.mk (aU bF.o hb);clear hb))
  go_ret;exact⟨rfl,bK.o⟩
 |true=>
 obtain⟨ad,rfl⟩:=kx HX.o ae;have P:=fun(i:Int) (i0:0≤i) (i1:i<7)=>oT hd (i:=i) i0 ae;have N:=fun(i j:Int) (i0:0≤i) (ij:i<j) (j1:j<7)=>sx hd (i:=i) (j:=j) i0 ij ae;have D0:=af.mk (fun(i:Int) (i0:1≤i) (i1:i≤3) W (h:Kd.C (Kd.int .i64) W A0 t.length t)=>CV h HC.o hs (P 0 ae ae) (P i ae ae) (P (i+3) ae ae) (N 0 i ae ae ae));have DJ:=af.mk (fun(i:Int) (i0:1≤i) (i1:i≤3) W (h:Kd.C (Kd.int .i64) W A0 t.length t)=>GI h HC.o hs (P 0 ae ae) (P i ae ae) (N 0 i ae ae ae));have D1:=af.mk (fun W (h:Kd.C (Kd.int .i64) W A0 t.length t)=>CV h HC.o hs (P 1 ae ae) (P 2 ae ae) (P 3 ae ae) (N 1 2 ae ae ae));have D2:=af.mk (fun W (h:Kd.C (Kd.int .i64) W A0 t.length t)=>CV h HC.o hs (P 4 ae ae) (P 5 ae ae) (P 6 ae ae) (N 4 5 ae ae ae));have ET:=af.mk (show fA t x=(sE t x&&(sF t x&&wi t x)) by unfold fA;rw[hs,ap h6,hd];rfl);have hlen:7≤x.length:=ae;clear P N hd hs hn ht h6;go_enter Tryz.func230,Tryz.ntmps230;go_wp2_with (first|(go_at_call 118;(with_reducible refine(CS.o _ HB.o).mono ?_);rintro e w1 ⟨rfl,hb⟩;have bF:=af.mk hb;clear hb)|(go_at_call 233;(with_reducible refine(CD.o _ bF.o).mono ?_);rintro e w2 ⟨rfl,hb⟩;have bK:=af.mk (aU bF.o hb);clear hb))
 clear CS CD HB bF e1;go_loopg [5] 4 (fun kq v5 w'=> ∃i:Int,v5=.int .i64 i∧af (1≤i∧i≤4)∧af ((4:Int) - i≤kq)∧af (∀j:Int,1≤j→j<i→fy t (rd x 0) (rd x j) (rd x (j+3))=true)∧af (Below w.heap.size w w'))
 case atStart=>exact⟨1,rfl,⟨ae⟩,⟨ae⟩,⟨fun j h0 h1=>ae⟩,⟨bK.o⟩⟩
 case round=>
  clear bK;obtain⟨i,rfl,HI,HK,HA,bK⟩:=hrel;have h0:1≤i:=HI.o.1;by_cases c6:i≤3
  ·have hw3:IntKind.i64.wrap (i+3)=i+3:=by rw[dh];exact bI ae ae
   have oY:=Kd.aN HX.o bK.o;have g0:=zN oY ae;have g1:=gV oY i ae ae;have g2:=gV oY (i+3) ae ae;have C0:=af.mk (D0.o i h0 c6 _ (Kd.aN HT.o bK.o));obtain⟨b,hb⟩:∃b,fy t (rd x 0) (rd x i) (rd x (i+3))=b:=⟨_,rfl⟩;rw[hb] at C0;have HE:=af.mk hb;clear hb oY;cases b with
   |false=>
    go_wp2;go_quiet ((go_at_call 232;with_reducible exact C0.o _))
    go_wp2;go_ret;exact⟨by rw[ET.o,show sE t x=false from TH h0 c6 HE.o];rfl,bb bK.o _⟩
   |true=>
    go_wp2;go_quiet ((go_at_call 232;with_reducible exact C0.o _))
    go_wp2;go_roundg (4 - (i.toNat+1))
    case measure=>have:=HK.o;omega
    case rel=>
     refine⟨i+1,rfl,⟨ae⟩,⟨ae⟩,⟨fun j j0 j1=>?_⟩,⟨bb bK.o _⟩⟩;by_cases ej:j=i
     ·rw[ej];exact HE.o
     ·exact HA.o j j0 ae
  ·have HY:=af.mk (TI (t:=t) (x:=x) fun j j0 j1=>HA.o j j0 ae);clear HA HK HI h0 D0;obtain⟨j1,sM⟩:∃b,bh t (rd x 0) (rd x 1)=b:=⟨_,rfl⟩;obtain⟨j2,hj2⟩:∃b,bh t (rd x 0) (rd x 2)=b:=⟨_,rfl⟩;obtain⟨j3,hj3⟩:∃b,bh t (rd x 0) (rd x 3)=b:=⟨_,rfl⟩;obtain⟨b1,hb1⟩:∃b,fy t (rd x 1) (rd x 2) (rd x 3)=b:=⟨_,rfl⟩;obtain⟨b2,hb2⟩:∃b,fy t (rd x 4) (rd x 5) (rd x 6)=b:=⟨_,rfl⟩;have EE:=af.mk (show fA t x=((!decide (j1=j2)&&(!decide (j1=j3)&&!decide (j2=j3)))&&(!b1&&!b2)) by rw[ET.o,HY.o];unfold sF wi fz;rw[sM,hj2,hj3,hb1,hb2];rfl);rw[hb1] at D1;rw[hb2] at D2;clear HY ET hb1 hb2;obtain⟨g0,g1,g2,g3,g4,g5,g6⟩:=wq (Kd.aN HX.o bK.o) hlen;go_wp2;have C1:=af.mk (DJ.o 1 ae ae _ (Kd.aN HT.o bK.o));rw[sM] at C1;go_quiet ((go_at_call 180;with_reducible exact C1.o _))
   go_wp2;obtain⟨w3,hw⟩:∃W,wr.drewN nq=W:=⟨_,rfl⟩;have du:=af.mk (hw▸bb bK.o nq:Below w.heap.size w w3);rw[hw];clear hw C1 g0 g1 g2 g3 g4 g5 g6;obtain⟨g0,g1,g2,g3,g4,g5,g6⟩:=wq (Kd.aN HX.o du.o) hlen;have C2:=af.mk (DJ.o 2 ae ae _ (Kd.aN HT.o du.o));rw[hj2] at C2;go_quiet ((go_at_call 180;with_reducible exact C2.o _))
   go_wp2;obtain⟨w4,hw⟩:∃W,w3.drewN nq=W:=⟨_,rfl⟩;have cI:=af.mk (hw▸bb du.o nq:Below w.heap.size w w4);rw[hw];clear hw C2 g0 g1 g2 g3 g4 g5 g6;obtain⟨g0,g1,g2,g3,g4,g5,g6⟩:=wq (Kd.aN HX.o cI.o) hlen;have C3:=af.mk (DJ.o 3 ae ae _ (Kd.aN HT.o cI.o));rw[hj3] at C3;go_quiet ((go_at_call 180;with_reducible exact C3.o _))
   go_wp2;obtain⟨w5,hw⟩:∃W,w4.drewN nq=W:=⟨_,rfl⟩;have ef:=af.mk (hw▸bb cI.o nq:Below w.heap.size w w5);rw[hw];clear hw C3 g0 g1 g2 g3 g4 g5 g6;obtain⟨g0,g1,g2,g3,g4,g5,g6⟩:=wq (Kd.aN HX.o ef.o) hlen;have C4:=af.mk (D1.o _ (Kd.aN HT.o ef.o));have C5:=af.mk (D2.o _ (Kd.aN HT.o ef.o));clear D1 D2 DJ sM hj2 hj3 HT HC HX bK du cI;by_cases e12:j1=j2
   ·have f12:(j1 !=j2)=false:=bne_eq_false_iff_eq.2 e12;have E:=af.mk e12;clear e12;go_quiet (fail)
    go_wp2;go_ret;exact⟨by rw[EE.o,ap E.o];rfl,bb ef.o _⟩
   have f12:(j1 !=j2)=true:=bne_iff_ne.2 e12;have E1:=af.mk e12;clear e12;by_cases zV:j1=j3
   ·have f13:(j1 !=j3)=false:=bne_eq_false_iff_eq.2 zV;have E:=af.mk zV;clear zV;go_quiet (fail)
    go_wp2;go_ret;exact⟨by rw[EE.o,ap E.o,aD E1.o];rfl,bb ef.o _⟩
   have f13:(j1 !=j3)=true:=bne_iff_ne.2 zV;have E2:=af.mk zV;clear zV;by_cases zW:j2=j3
   ·have f23:(j2 !=j3)=false:=bne_eq_false_iff_eq.2 zW;have E:=af.mk zW;clear zW;go_quiet (fail)
    go_wp2;go_ret;exact⟨by rw[EE.o,ap E.o,aD E1.o,aD E2.o];rfl,bb ef.o _⟩
   have f23:(j2 !=j3)=true:=bne_iff_ne.2 zW;have E3:=af.mk zW;clear zW;cases b1<;>cases b2
   all_goals
    go_quiet (first|(go_at_call 232;with_reducible exact C4.o _)|(go_at_call 232;with_reducible exact C5.o _))
    go_wp2;go_ret;exact⟨by rw[EE.o,aD E1.o,aD E2.o,aD E3.o];rfl,bb ef.o _⟩
end X
namespace P
def wt.f(k:Nat)(l0 l1:List Int):Option Bool:=if X.aW l0=true∧l1.length≤1048576 then some (X.fA l0 l1) else none
theorem wt.calls(k:Nat)(A0:Option Addr)(c0:Nat)(l0:List Int)(A1:Option Addr)(c1:Nat)(l1:List Int)(r:Bool)(w:World)(hr0:Kd.C (Kd.int .i64) w A0 l0.length l0)(hc0:l0.length≤c0)(hr1:Kd.C (Kd.int .i64) w A1 l1.length l1)(hc1:l1.length≤c1)(h:wt.f k l0 l1=some r):
  Calls Tryz.prog 230 #[.slice A0 l0.length c0,.slice A1 l1.length c1] w fun e w'=>e=.returned (.bool r)∧Below w.heap.size w w':=by
 unfold wt.f at h;by_cases hc:X.aW l0=true∧l1.length≤1048576
 case neg=>rw[ag hc] at h;cases h
 rw[ah hc] at h;obtain rfl:=au h;exact X.aeW A0 c0 l0 A1 c1 l1 w hc.1 hr0 hc0 hr1 hc1 hc.2
end P
namespace X
theorem GZ{w:World}{ad:Addr}{t:List Int}{n:Nat}(h:Kd.C (Kd.int .i64) w (some ad) n t)(hn:4≤n):w.cell? ad=some (.int .i64 (rd t 0))∧w.cell? ⟨ad.block,ad.off+1,none⟩=some (.int .i64 (rd t 1))∧w.cell? ⟨ad.block,ad.off+2,none⟩=some (.int .i64 (rd t 2))∧w.cell? ⟨ad.block,ad.off+3,none⟩=some (.int .i64 (rd t 3)):=
 ⟨zN h ae,l7 h 1 1 ae,l7 h 2 2 ae,l7 h 3 3 ae⟩
theorem afw(A0:Option Addr)(c0:Nat)(t:List Int)(A1:Option Addr)(c1:Nat)(x:List Int)(w:World)(T:Twin t x)(hr0:Kd.C (Kd.int .i64) w A0 t.length t)(hc0:t.length≤c0)(hr1:Kd.C (Kd.int .i64) w A1 x.length x):
    Calls Tryz.prog 133 #[.slice A0 t.length c0,.slice A1 x.length c1] w fun e w'=> ∃v:Value,e=.returned v∧Kd.R (Kd.int .i64) 3 w' w.heap.size (fun _=>True) v (oV t x)∧Below w.heap.size w w':=by
  have hL:=T.len;have P:=fun(i:Int) (i0:0≤i) (i1:i<7)=>T.pt (i:=i) i0 i1;have N:=fun(i j:Int) (i0:0≤i) (i1:i<7) (j0:0≤j) (j1:j<7) (h:i≠j)=>T.ne (i:=i) (j:=j) i0 i1 j0 j1 h;obtain⟨ad,rfl⟩:=kx hr1 ae;obtain⟨k1,hk1⟩:∃k,kb.f k t (rd x 1) (rd x 2) (rd x 4) (rd x 5)=some (dF t (rd x 1) (rd x 2) (rd x 4) (rd x 5)):=(sK T.sys (P 1 ae ae) (P 2 ae ae) (P 4 ae ae) (P 5 ae ae) (N 1 2 ae ae ae ae ae) (N 4 5 ae ae ae ae ae)).rounds;have C1:=af.mk (fun W (hW:Below w.heap.size w W)=>kb.calls k1 A0 c0 t _ _ _ _ _ W (Kd.aN hr0 hW) hc0 hk1);obtain⟨k2,hk2⟩:∃k,kb.f k t (rd x 1) (rd x 3) (rd x 4) (rd x 6)=some (dF t (rd x 1) (rd x 3) (rd x 4) (rd x 6)):=(sK T.sys (P 1 ae ae) (P 3 ae ae) (P 4 ae ae) (P 6 ae ae) (N 1 3 ae ae ae ae ae) (N 4 6 ae ae ae ae ae)).rounds;have C2:=af.mk (fun W (hW:Below w.heap.size w W)=>kb.calls k2 A0 c0 t _ _ _ _ _ W (Kd.aN hr0 hW) hc0 hk2);obtain⟨k3,nD⟩:∃k,kb.f k t (rd x 2) (rd x 3) (rd x 5) (rd x 6)=some (dF t (rd x 2) (rd x 3) (rd x 5) (rd x 6)):=(sK T.sys (P 2 ae ae) (P 3 ae ae) (P 5 ae ae) (P 6 ae ae) (N 2 3 ae ae ae ae ae) (N 5 6 ae ae ae ae ae)).rounds;have C3:=af.mk (fun W (hW:Below w.heap.size w W)=>kb.calls k3 A0 c0 t _ _ _ _ _ W (Kd.aN hr0 hW) hc0 nD);have hlen:7≤x.length:=ae;obtain⟨g0,g1,g2,g3,g4,g5,g6⟩:=wq hr1 hlen;have z0:(0<x.length)=True:=av ae;have q0:(0:Int)<(x.length:Int):=ae;have q1:(1:Int)<(x.length:Int):=ae;have q2:(2:Int)<(x.length:Int):=ae;have q3:(3:Int)<(x.length:Int):=ae;have q4:(4:Int)<(x.length:Int):=ae;have q5:(5:Int)<(x.length:Int):=ae;have q6:(6:Int)<(x.length:Int):=ae;have HB:=af.mk (Below.refl w.heap.size w);clear P N hL T hr0 hr1 hc0 hk1 hk2 nD;unfold oV;go_enter Tryz.func133,Tryz.ntmps133;go_wp2
  go_region_held3 (fun w'=>w'.cell? ⟨ad.block,ad.off+1,none⟩=some (.int .i64 (rd x 1))∧w'.cell? ⟨ad.block,ad.off+2,none⟩=some (.int .i64 (rd x 2))∧w'.cell? ⟨ad.block,ad.off+3,none⟩=some (.int .i64 (rd x 3))∧w'.cell? ⟨ad.block,ad.off+4,none⟩=some (.int .i64 (rd x 4))∧w'.cell? ⟨ad.block,ad.off+5,none⟩=some (.int .i64 (rd x 5))∧w'.cell? ⟨ad.block,ad.off+6,none⟩=some (.int .i64 (rd x 6)))
    (go_keep)
    (first
     |(go_at_call 135;(with_reducible refine(C1.o _ ?_).mono ?_);(repeat(first|exact HB.o|apply bb|apply bR));rintro e w' ⟨rfl,⟨nd,rfl⟩⟩)
     |(go_at_call 135;(with_reducible refine(C2.o _ ?_).mono ?_);(repeat(first|exact HB.o|apply bb|apply bR));rintro e w' ⟨rfl,⟨nd,rfl⟩⟩)
     |(go_at_call 135;(with_reducible refine(C3.o _ ?_).mono ?_);(repeat(first|exact HB.o|apply bb|apply bR));rintro e w' ⟨rfl,⟨nd,rfl⟩⟩))
  go_wp2;go_ret;exact⟨_,rfl,CX w _ (by repeat(first|exact HB.o|apply bb|apply bR)) _ _ _,cS (by repeat(first|exact HB.o|apply bb|apply bR)) _⟩
theorem afx(A0:Option Addr)(c0:Nat)(t:List Int)(A1:Option Addr)(c1:Nat)(x:List Int)(w:World)(hq:fM t x=true)(hr0:Kd.C (Kd.int .i64) w A0 t.length t)(hc0:t.length≤c0)(hr1:Kd.C (Kd.int .i64) w A1 x.length x):
    Calls Tryz.prog 137 #[.slice A0 t.length c0,.slice A1 x.length c1] w fun e w'=> ∃v:Value,e=.returned v∧Kd.R (Kd.int .i64) 3 w' w.heap.size (fun _=>True) v (rn t x)∧Below w.heap.size w w':=by
  have hL:=(oZ hq).2.1;have hs:=(oZ hq).1;have P:=fun(i:Int) (i0:0≤i) (i1:i<4)=>rq hq i0 i1;have N:=fun(i j:Int) (i0:0≤i) (ij:i<j) (j1:j<4)=>z8 hq i0 ij j1;obtain⟨ad,rfl⟩:=kx hr1 ae;obtain⟨k1,hk1⟩:∃k,kb.f k t (rd x 0) (rd x 1) (rd x 2) (rd x 3)=some (dF t (rd x 0) (rd x 1) (rd x 2) (rd x 3)):=(sK hs (P 0 ae ae) (P 1 ae ae) (P 2 ae ae) (P 3 ae ae) (N 0 1 ae ae ae) (N 2 3 ae ae ae)).rounds;have C1:=af.mk (fun W (hW:Below w.heap.size w W)=>kb.calls k1 A0 c0 t _ _ _ _ _ W (Kd.aN hr0 hW) hc0 hk1);obtain⟨k2,hk2⟩:∃k,kb.f k t (rd x 0) (rd x 2) (rd x 1) (rd x 3)=some (dF t (rd x 0) (rd x 2) (rd x 1) (rd x 3)):=(sK hs (P 0 ae ae) (P 2 ae ae) (P 1 ae ae) (P 3 ae ae) (N 0 2 ae ae ae) (N 1 3 ae ae ae)).rounds;have C2:=af.mk (fun W (hW:Below w.heap.size w W)=>kb.calls k2 A0 c0 t _ _ _ _ _ W (Kd.aN hr0 hW) hc0 hk2);obtain⟨k3,nD⟩:∃k,kb.f k t (rd x 0) (rd x 3) (rd x 1) (rd x 2)=some (dF t (rd x 0) (rd x 3) (rd x 1) (rd x 2)):=(sK hs (P 0 ae ae) (P 3 ae ae) (P 1 ae ae) (P 2 ae ae) (N 0 3 ae ae ae) (N 1 2 ae ae ae)).rounds;have C3:=af.mk (fun W (hW:Below w.heap.size w W)=>kb.calls k3 A0 c0 t _ _ _ _ _ W (Kd.aN hr0 hW) hc0 nD);have hlen:4≤x.length:=ae;obtain⟨g0,g1,g2,g3⟩:=GZ hr1 hlen;have z0:(0<x.length)=True:=av ae;have q0:(0:Int)<(x.length:Int):=ae;have q1:(1:Int)<(x.length:Int):=ae;have q2:(2:Int)<(x.length:Int):=ae;have q3:(3:Int)<(x.length:Int):=ae;have HB:=af.mk (Below.refl w.heap.size w);clear P N hL hs hq hr0 hr1 hc0 hk1 hk2 nD;unfold rn;go_enter Tryz.func137,Tryz.ntmps137;go_wp2
  go_region_held3 (fun w'=>w'.cell? ad=some (.int .i64 (rd x 0))∧w'.cell? ⟨ad.block,ad.off+1,none⟩=some (.int .i64 (rd x 1))∧w'.cell? ⟨ad.block,ad.off+2,none⟩=some (.int .i64 (rd x 2))∧w'.cell? ⟨ad.block,ad.off+3,none⟩=some (.int .i64 (rd x 3)))
    (go_keep)
    (first
     |(go_at_call 135;(with_reducible refine(C1.o _ ?_).mono ?_);(repeat(first|exact HB.o|apply bb|apply bR));rintro e w' ⟨rfl,⟨nd,rfl⟩⟩)
     |(go_at_call 135;(with_reducible refine(C2.o _ ?_).mono ?_);(repeat(first|exact HB.o|apply bb|apply bR));rintro e w' ⟨rfl,⟨nd,rfl⟩⟩)
     |(go_at_call 135;(with_reducible refine(C3.o _ ?_).mono ?_);(repeat(first|exact HB.o|apply bb|apply bR));rintro e w' ⟨rfl,⟨nd,rfl⟩⟩))
  go_wp2;go_ret;exact⟨_,rfl,CX w _ (by repeat(first|exact HB.o|apply bb|apply bR)) _ _ _,cS (by repeat(first|exact HB.o|apply bb|apply bR)) _⟩
end X
namespace P
def Aa.f(k:Nat)(l0 l1:List Int):Option (List Int):=if X.fA l0 l1=true then some (X.oV l0 l1) else none
theorem Aa.calls(k:Nat)(A0:Option Addr)(c0:Nat)(l0:List Int)(A1:Option Addr)(c1:Nat)(l1:List Int)(r:List Int)(w:World)(hr0:Kd.C (Kd.int .i64) w A0 l0.length l0)(hc0:l0.length≤c0)(hr1:Kd.C (Kd.int .i64) w A1 l1.length l1)(hc1:l1.length≤c1)(h:Aa.f k l0 l1=some r):
  Calls Tryz.prog 133 #[.slice A0 l0.length c0,.slice A1 l1.length c1] w fun e w'=> ∃bO:Value,e=.returned bO∧Kd.R (Kd.int .i64) 3 w' w.heap.size (fun _=>True) bO r∧Below w.heap.size w w':=by
 unfold Aa.f at h;by_cases hc:X.fA l0 l1=true
 case neg=>rw[ag hc] at h;cases h
 rw[ah hc] at h;obtain rfl:=au h;exact X.afw A0 c0 l0 A1 c1 l1 w (X.wk.1 hc) hr0 hc0 hr1
def Ab.f(k:Nat)(l0 l1:List Int):Option (List Int):=if X.fM l0 l1=true then some (X.rn l0 l1) else none
theorem Ab.calls(k:Nat)(A0:Option Addr)(c0:Nat)(l0:List Int)(A1:Option Addr)(c1:Nat)(l1:List Int)(r:List Int)(w:World)(hr0:Kd.C (Kd.int .i64) w A0 l0.length l0)(hc0:l0.length≤c0)(hr1:Kd.C (Kd.int .i64) w A1 l1.length l1)(hc1:l1.length≤c1)(h:Ab.f k l0 l1=some r):
  Calls Tryz.prog 137 #[.slice A0 l0.length c0,.slice A1 l1.length c1] w fun e w'=> ∃bO:Value,e=.returned bO∧Kd.R (Kd.int .i64) 3 w' w.heap.size (fun _=>True) bO r∧Below w.heap.size w w':=by
 unfold Ab.f at h;by_cases hc:X.fM l0 l1=true
 case neg=>rw[ag hc] at h;cases h
 rw[ah hc] at h;obtain rfl:=au h;exact X.afx A0 c0 l0 A1 c1 l1 w hc hr0 hc0 hr1
end P
end Go.Proofs.YtiobedekgnfjcaaGreatDoor
