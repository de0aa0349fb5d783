/- What both Executes come to: contracts and plain laws, for the laws on Execute. No conditions. (Part 20 of 28.) -/
import Derived.Test.YtiobedekgnfjcaaGreatDoorME15
import Derived.Test.YtiobedekgnfjcaaGreatDoorME16
set_option linter.unusedVariables false
set_option linter.unusedSimpArgs false
set_option maxHeartbeats 8000000
set_option maxRecDepth 100000
namespace Go.Proofs.YtiobedekgnfjcaaGreatDoor
namespace P
end P
open Go.Proofs.YtiobedekgnfjcaaGreatDoor.P Go.Proofs.YtiobedekgnfjcaaGreatDoorW.aq Go.Proofs.YtiobedekgnfjcaaGreatDoorW.ay Go.RowKit
namespace X
theorem afy{t x:List Int}{i j:Int}(j0:1≤j)(ji:j<i)(i1:i≤3)(h:fz t x j=fz t x i):sF t x=false:=by
 have:(j=1∧i=2)∨(j=1∧i=3)∨(j=2∧i=3):=ae;unfold sF;rcases this with⟨rfl,rfl⟩|⟨rfl,rfl⟩|⟨rfl,rfl⟩
 ·rw[ap h];rfl
 ·rw[ap h];simp
 ·rw[ap h];simp
theorem afz{t x:List Int}(h:∀j k:Int,1≤j→j<k→k<4→fz t x j≠fz t x k):sF t x=true:=by
 unfold sF;rw[aD (h 1 2 ae ae ae),aD (h 1 3 ae ae ae),aD (h 2 3 ae ae ae)];rfl
def uj(t x:List Int)(i:Int):List Int:=mz (i - 1).toNat fun j=>fz t x (j+1)
theorem afA(t x:List Int){i:Int}(h:1≤i):uj t x (i+1)=uj t x i++[fz t x i]:=by
 unfold uj;rw[show(i+1 - 1).toNat=(i - 1).toNat+1 by omega,R1,show(((i - 1).toNat:Nat):Int)+1=i by omega]
theorem afB{t x:List Int}{i:Int}(h:1≤i){l:Int}:l∈uj t x i↔ ∃j:Int,1≤j∧j<i∧fz t x j=l:=by
 unfold uj mz;rw[List.mem_map]
 constructor
 ·rintro⟨a,ha,e⟩;exact⟨(a:Int)+1,ae,by have:=List.mem_range.1 ha;omega,e⟩
 ·rintro⟨j,j0,j1,e⟩;exact⟨(j - 1).toNat,List.mem_range.2 ae,by show fz t x ((((j - 1).toNat:Nat):Int)+1)=l;rw[show(((j - 1).toNat:Nat):Int)+1=j by omega];exact e⟩
theorem afC{A0:Option Addr}{c0:Nat}{t x:List Int}{w:World}(hr:Kd.C (Kd.int .i64) w A0 t.length t)(hc:t.length≤c0)(hn:b9 t 81=true){i:Int}(hp:bu (rd x 0))(hq:bu (rd x i))(n:Nat):
 Calls Tryz.prog 94 #[.slice A0 t.length c0,.int .i64 (rd x 0),.int .i64 (rd x i)] (w.drewN n) fun e w'=>e=.returned (.int .i64 (fz t x i))∧∃m,w'=w.drewN m:=GJ hr hc hn hp hq n
theorem afD(A0:Option Addr)(c0:Nat)(t:List Int)(A1:Option Addr)(c1:Nat)(x:List Int)(w:World)(hs:aW t=true)(hr0:Kd.C (Kd.int .i64) w A0 t.length t)(hc0:t.length≤c0)(hr1:Kd.C (Kd.int .i64) w A1 x.length x)(hc1:x.length≤c1)(hx:x.length≤1048576):
  Calls Tryz.prog 131 #[.slice A0 t.length c0,.slice A1 x.length c1] w fun e w'=>e=.returned (.bool (fA t x))∧Below w.heap.size w w':=by
 have hn:=(fq hs).1;have CD:=af.mk (fun n=>iN (Cy.calls A1 c1 x (gw x) (w.drewN n) (Kd.e8 hr1 n) hc1 (ah hx)));have fH:=af.mk (Below.refl w.heap.size w);by_cases h6:x.length=7
 case neg=>
  rw[show fA t x=false by unfold fA;rw[aD h6];simp];have e1:((x.length:Int) !=7)=true:=bne_iff_ne.2 ae;clear h6 hn hs hr0 hr1 hc0 hc1 hx;go_enter Tryz.func131,Tryz.ntmps131;go_wp2;go_quiet (fail)
  go_wp2;go_ret;exact⟨rfl,bb (Below.refl _ _) _⟩
 obtain⟨d,hd⟩:∃d,gw x=d:=⟨_,rfl⟩;have e1:((x.length:Int) !=7)=false:=bne_eq_false_iff_eq.2 ae;rw[hd] at CD;cases d with
 |false=>
  rw[show fA t x=false by unfold fA;rw[hd];simp];clear h6 hn hs hd hr0 hr1 hc0 hc1 hx;go_enter Tryz.func131,Tryz.ntmps131;go_wp2;go_quiet ((go_at_call 200;with_reducible exact CD.o _))
  go_wp2;go_ret;exact⟨rfl,bb (Below.refl _ _) _⟩
 |true=>
 obtain⟨ad,rfl⟩:=kx hr1 ae;have P:=fun(i:Int) (i0:0≤i) (i1:i<7)=>oT hd (i:=i) i0 ae;have N:=fun(i j:Int) (i0:0≤i) (ij:i<j) (j1:j<7)=>sx hd (i:=i) (j:=j) i0 ij ae;have C1:=af.mk (CW hr0 hc0 hs (P 1 ae ae) (P 2 ae ae) (P 3 ae ae) (N 1 2 ae ae ae));have C2:=af.mk (CW hr0 hc0 hs (P 4 ae ae) (P 5 ae ae) (P 6 ae ae) (N 4 5 ae ae ae));have DJ:=af.mk (fun(i:Int) (i0:1≤i) (i1:i≤3) W (h:Kd.C (Kd.int .i64) W A0 t.length t)=>afC (x:=x) (i:=i) h hc0 hn (P 0 ae ae) (P i ae ae));have DO:=af.mk (fun(i:Int) (i0:1≤i) (i1:i≤3) W (h:Kd.C (Kd.int .i64) W A0 t.length t)=>iM.calls A0 c0 t (rd x (i+3)) (fz t x i) (a8 t (rd x (i+3)) (fz t x i)) W h hc0 (tY hn (P (i+3) ae ae) (by have j:=iL hs (P 0 ae ae).1 (P 0 ae ae).2 (P i ae ae).1 (P i ae ae).2 (N 0 i ae ae ae);exact⟨j.1,j.2.1⟩)));have ET:=af.mk (show fA t x=(sE t x&&(sF t x&&wi t x)) by unfold fA;rw[hs,ap h6,hd];rfl);have HT:=af.mk hr0;have HX:=af.mk hr1;have hlen:7≤x.length:=ae;obtain⟨g0,g1,g2,g3,g4,g5,g6⟩:=wq hr1 hlen;clear P N hd hs hn h6 hr0 hr1 hc0 hc1 hx;obtain⟨b1,hb1⟩:∃b,fy t (rd x 1) (rd x 2) (rd x 3)=b:=⟨_,rfl⟩;obtain⟨b2,hb2⟩:∃b,fy t (rd x 4) (rd x 5) (rd x 6)=b:=⟨_,rfl⟩;have EE:=af.mk (show wi t x=(!b1&&!b2) by unfold wi;rw[hb1,hb2]);rw[hb1] at C1;rw[hb2] at C2;clear hb1 hb2;cases b1 with
 |true=>
  clear DJ DO;go_enter Tryz.func131,Tryz.ntmps131;go_wp2;go_quiet (first|(go_at_call 200;with_reducible exact CD.o _)|(go_at_call 201;with_reducible exact C1.o _))
  go_wp2;go_ret;exact⟨by rw[ET.o,EE.o];simp,bb (Below.refl _ _) _⟩
 |false=>
 cases b2 with
 |true=>
  clear DJ DO;go_enter Tryz.func131,Tryz.ntmps131;go_wp2;go_quiet (first|(go_at_call 200;with_reducible exact CD.o _)|(go_at_call 201;with_reducible exact C1.o _)|(go_at_call 201;with_reducible exact C2.o _))
  go_wp2;go_ret;exact⟨by rw[ET.o,EE.o];simp,bb (Below.refl _ _) _⟩
 |false=>
 go_enter Tryz.func131,Tryz.ntmps131;go_wp2;go_quiet (first|(go_at_call 200;with_reducible exact CD.o _)|(go_at_call 201;with_reducible exact C1.o _)|(go_at_call 201;with_reducible exact C2.o _))
 obtain⟨w3,hw⟩:∃W,w.drewN nq=W:=⟨_,rfl⟩;have du:=af.mk (hw▸bb fH.o nq:Below w.heap.size w w3);rw[hw];clear hw C1 C2 CD g0 g1 g2 g3 g4 g5 g6 fH e1;go_wp2;go_loopg [5,6] 4 (fun kq v5 v6 w'=> ∃i:Int,v6=.int .i64 i∧af (1≤i∧i≤4)∧af ((4:Int) - i≤kq)∧af (∀j:Int,1≤j→j<i→fy t (rd x 0) (rd x j) (rd x (j+3))=true)∧af (∀j k:Int,1≤j→j<k→k<i→fz t x j≠fz t x k)∧af (Kd.R (Kd.int .i64) 3 w' w.heap.size (fun _=>True) v5 (uj t x i))∧af (Below w.heap.size w w'))
 case atStart=>exact⟨1,rfl,⟨ae⟩,⟨ae⟩,⟨fun j h0 h1=>ae⟩,⟨fun j k h0 h1 h2=>ae⟩,⟨Lt w _ du.o⟩,⟨cS du.o _⟩⟩
 case round=>
  clear du;obtain⟨i,rfl,HI,HK,HA,Um,HO,HB⟩:=hrel;have h0:1≤i:=HI.o.1;obtain⟨Ao,co,eo⟩:=Kd.bJ HO.o;subst eo;by_cases c6:i≤3
  ·have hw3:IntKind.i64.wrap (i+3)=i+3:=by rw[dh];exact bI ae ae
   have oY:=Kd.aN HX.o HB.o;have g0:=zN oY ae;have g1:=gV oY i ae ae;have C0:=af.mk (DJ.o i h0 c6 _ (Kd.aN HT.o HB.o));have D0:=af.mk (DO.o i h0 c6);have LP:=af.mk (afA t x h0);have HM:=af.mk (fun l=>afB (t:=t) (x:=x) h0 (l:=l));have Ac:=af.mk (show(uj t x i).length=(i - 1).toNat from JZ _ _);obtain⟨xs,hxs⟩:∃xs,uj t x i=xs:=⟨_,rfl⟩;obtain⟨l,hl⟩:∃l,fz t x i=l:=⟨_,rfl⟩;obtain⟨b,hb⟩:∃b,a8 t (rd x (i+3)) l=b:=⟨_,rfl⟩;rw[hxs] at HO LP HM Ac ⊢;rw[hl] at C0 D0 LP;rw[hb] at D0;have HE:=af.mk (show fy t (rd x 0) (rd x i) (rd x (i+3))=b by unfold fy;unfold fz at hl;rw[hl];exact hb);have HL:=af.mk hl;have hxl:xs.length≤1048576:=by have:=Ac.o;omega
   obtain⟨k6,CY⟩:=(Gs xs hxl l).rounds;have D6:=af.mk (fun W A c (h:Kd.C (Kd.int .i64) W A xs.length xs) (hc:xs.length≤c)=>pQ.calls k6 A c xs l _ W h hc CY);clear hb hl hxs oY CY hxl;go_wp2;go_quiet ((go_at_call 94;with_reducible exact C0.o _))
   obtain⟨w4,hw⟩:∃W,wr.drewN nq=W:=⟨_,rfl⟩;have cI:=af.mk (hw▸bb HB.o nq:Below w.heap.size w w4);have sD:=af.mk (Kd.dB HO.o (hw▸bb (Below.refl _ _) nq:Below wr.heap.size wr w4));rw[hw];clear hw C0 g0 g1 HO HB;have g2:=gV (Kd.aN HX.o cI.o) (i+3) ae ae;cases b with
   |false=>
    go_wp2_with (go_at_call 139;(with_reducible refine(D0.o _ (Kd.aN HT.o cI.o)).mono ?_);rintro e w5 ⟨rfl,hb⟩;have ef:=af.mk (aU cI.o (aG.below hb));clear hb)
    go_ret;exact⟨by rw[ET.o,TH h0 c6 HE.o];rfl,ef.o⟩
   |true=>
   by_cases hm:l∈xs
   ·rw[ap hm] at D6;have LQ:=af.mk ((HM.o l).1 hm);clear hm;go_wp2_with (first|(go_at_call 139;(with_reducible refine(D0.o _ (Kd.aN HT.o cI.o)).mono ?_);rintro e w5 ⟨rfl,hb⟩;have ef:=af.mk (aU cI.o (aG.below hb));have Dd:=af.mk (Kd.bm (Kd.dB sD.o (aG.below hb)));clear hb)|(go_at_call 202;(with_reducible refine(D6.o _ _ _ Dd.o.2.2 Dd.o.2.1).mono ?_);rintro e w6 ⟨rfl,hb⟩;have kc:=af.mk (aU ef.o (aG.below hb));clear hb))
    go_ret;obtain⟨j,j0,j1,ej⟩:=LQ.o;exact⟨by rw[ET.o,afy j0 j1 c6 (ej.trans HL.o.symm)];simp,kc.o⟩
   ·rw[aD hm] at D6;have LQ:=af.mk (fun h=>hm ((HM.o l).2 h));clear hm;go_wp2_with (first|(go_at_call 139;(with_reducible refine(D0.o _ (Kd.aN HT.o cI.o)).mono ?_);rintro e w5 ⟨rfl,hb⟩;have ef:=af.mk (aU cI.o (aG.below hb));have Dd:=af.mk (Kd.dB sD.o (aG.below hb));have Un:=af.mk (Kd.bm Dd.o);clear hb)|(go_at_call 202;(with_reducible refine(D6.o _ _ _ Un.o.2.2 Un.o.2.1).mono ?_);rintro e w6 ⟨rfl,hb⟩;have kc:=af.mk (aU ef.o (aG.below hb));have G1:=af.mk (Kd.dB Dd.o (aG.below hb));clear hb)|(at_builtin;refine Kd.jW (Kd.int .i64) (w0:=w) w.heap.size rfl (.tmp 70) (.tmp 72) 31 3 (.int .i64 0) 8 rfl Tryz.underlying31 info3 rfl ao ae (.slice Ao xs.length co) xs l [.int .i64 l] (fun _=>True) (fun _=>False) rfl rfl ?aP (fun _ hk=>hk.elim) ?aF ?aO ?aB ?aS ?aL ?_;(case aP=>exact rfl);(case aB=>exact kc.o);(case aF=>exact(fun _ _=>trivial));(case aO=>exact G1.o);(case aS=>exact kc.o.size);(case aL=>have:=Ac.o;omega);intro v7 w7 ho hb hg hat;have LR:=af.mk ho;have Ad:=af.mk hb;clear ho hb hg hat))
    go_roundg (4 - (i.toNat+1))
    case measure=>have:=HK.o;omega
    case rel=>
     refine⟨i+1,rfl,⟨ae⟩,⟨ae⟩,⟨fun j j0 j1=>?_⟩,⟨fun j k j0 jk k1=>?_⟩,⟨by rw[LP.o];exact LR.o⟩,Ad⟩
     ·by_cases ej:j=i
      ·rw[ej];exact HE.o
      ·exact HA.o j j0 ae
     ·by_cases ek:k=i
      ·rw[ek];exact fun e=>LQ.o ⟨j,j0,ae,e.trans HL.o⟩
      ·exact Um.o j k j0 jk ae
  ·have HY:=af.mk (TI (t:=t) (x:=x) fun j j0 j1=>HA.o j j0 ae);have HZ:=af.mk (afz (t:=t) (x:=x) fun j k j0 jk k1=>Um.o j k j0 jk ae);go_wp2;go_ret;exact⟨by rw[ET.o,EE.o,HY.o,HZ.o];rfl,HB.o⟩
end X
namespace P
def wC.f(k:Nat)(l0 l1:List Int):Option Bool:=if X.aW l0=true∧l1.length≤1048576 then some (X.fA l0 l1) else none
theorem wC.calls(k:Nat)(A0:Option Addr)(c0:Nat)(l0:List Int)(A1:Option Addr)(c1:Nat)(l1:List Int)(r:Bool)(w:World)(hr0:Kd.C (Kd.int .i64) w A0 l0.length l0)(hc0:l0.length≤c0)(hr1:Kd.C (Kd.int .i64) w A1 l1.length l1)(hc1:l1.length≤c1)(h:wC.f k l0 l1=some r):
  Calls Tryz.prog 131 #[.slice A0 l0.length c0,.slice A1 l1.length c1] w fun e w'=>e=.returned (.bool r)∧Below w.heap.size w w':=by
 unfold wC.f at h;by_cases hc:X.aW l0=true∧l1.length≤1048576
 case neg=>rw[ag hc] at h;cases h
 rw[ah hc] at h;obtain rfl:=au h;exact X.afD A0 c0 l0 A1 c1 l1 w hc.1 hr0 hc0 hr1 hc1 hc.2
end P
namespace X
theorem anI(A0:Option Addr)(c0:Nat)(t:List Int)(A1:Option Addr)(c1:Nat)(x:List Int)(w:World)(hs:aW t=true)(hr0:Kd.C (Kd.int .i64) w A0 t.length t)(hc0:t.length≤c0)(hr1:Kd.C (Kd.int .i64) w A1 x.length x)(hc1:x.length≤c1):
    Calls Tryz.prog 109 #[.slice A0 t.length c0,.slice A1 x.length c1] w fun e w'=> ∃v:Value,e=.returned (.tuple #[v,.bool (o0 t x).2])∧Kd.R (Kd.int .i64) 3 w' w.heap.size (fun _=>True) v (o0 t x).1∧Below w.heap.size w w':=by
  have ht:=(hG.1 (fq hs).1).1;by_cases h4:x.length=4
  case neg=>
    have hv:o0 t x=([],false):=ag (by unfold fM;rw[aD h4];simp);rw[hv];have e1:((x.length:Int) !=4)=true:=bne_iff_ne.2 ae;clear h4 hs hr0 hr1 hc0 hc1 hv ht;go_enter Tryz.func109,Tryz.ntmps109;go_wp2;go_ret2
    exact⟨_,rfl,Lt w _ (Below.refl _ _),cS (Below.refl _ _) _⟩
  obtain⟨kq,wK⟩:=(Ur (t:=t) (l:=x) ae h4).rounds;have CQ:=af.mk (wF.calls kq A0 c0 t A1 c1 x (fM t x) w hr0 hc0 hr1 hc1 wK);have e1:((x.length:Int) !=4)=false:=bne_eq_false_iff_eq.2 ae;by_cases hq:fM t x=true
  case neg=>
    rw[show o0 t x=([],false) from ag hq];rw[Bool.eq_false_iff.2 hq] at CQ;clear h4 hs hr0 hr1 hc0 hc1 wK hq ht;go_enter Tryz.func109,Tryz.ntmps109;go_wp2_with (go_at_call 178;(with_reducible refine CQ.o.mono ?_);rintro e w1 ⟨rfl,hb⟩;have bF:=af.mk hb;clear hb)
    go_ret2
    exact⟨_,rfl,Lt w _ bF.o,cS bF.o _⟩
  rw[show o0 t x=(rn t x,true) from ah hq];rw[hq] at CQ;have P:=fun(i:Int) (i0:0≤i) (i1:i<4)=>rq hq i0 i1;have N:=fun(i j:Int) (i0:0≤i) (ij:i<j) (j1:j<4)=>z8 hq i0 ij j1;obtain⟨ad,rfl⟩:=kx hr1 ae;obtain⟨k1,hk1⟩:∃k,kR.f k t (rd x 0) (rd x 1) (rd x 2) (rd x 3)=some (dF t (rd x 0) (rd x 1) (rd x 2) (rd x 3)):=(wn hs (P 0 ae ae) (P 1 ae ae) (P 2 ae ae) (P 3 ae ae) (N 0 1 ae ae ae) (N 2 3 ae ae ae) (GY hq).1).rounds;have C1:=af.mk (fun W (hW:Below w.heap.size w W)=>kR.calls k1 A0 c0 t _ _ _ _ _ W (Kd.aN hr0 hW) hc0 hk1);obtain⟨k2,hk2⟩:∃k,kR.f k t (rd x 0) (rd x 2) (rd x 1) (rd x 3)=some (dF t (rd x 0) (rd x 2) (rd x 1) (rd x 3)):=(wn hs (P 0 ae ae) (P 2 ae ae) (P 1 ae ae) (P 3 ae ae) (N 0 2 ae ae ae) (N 1 3 ae ae ae) (GY hq).2.1).rounds;have C2:=af.mk (fun W (hW:Below w.heap.size w W)=>kR.calls k2 A0 c0 t _ _ _ _ _ W (Kd.aN hr0 hW) hc0 hk2);obtain⟨k3,nD⟩:∃k,kR.f k t (rd x 0) (rd x 3) (rd x 1) (rd x 2)=some (dF t (rd x 0) (rd x 3) (rd x 1) (rd x 2)):=(wn hs (P 0 ae ae) (P 3 ae ae) (P 1 ae ae) (P 2 ae ae) (N 0 3 ae ae ae) (N 1 2 ae ae ae) (GY hq).2.2).rounds;have C3:=af.mk (fun W (hW:Below w.heap.size w W)=>kR.calls k3 A0 c0 t _ _ _ _ _ W (Kd.aN hr0 hW) hc0 nD);have hlen:4≤x.length:=ae;have z0:(0<x.length)=True:=av ae;have q0:(0:Int)<(x.length:Int):=ae;have q1:(1:Int)<(x.length:Int):=ae;have q2:(2:Int)<(x.length:Int):=ae;have q3:(3:Int)<(x.length:Int):=ae;have HX:=af.mk hr1;clear P N hs hq hr0 hr1 hc0 hc1 hk1 hk2 nD wK h4 ht;unfold rn;dsimp only;go_enter Tryz.func109,Tryz.ntmps109;go_wp2_with (go_at_call 178;(with_reducible refine CQ.o.mono ?_);rintro e w1 ⟨rfl,hb⟩;have HB:=af.mk hb;clear hb)
  clear CQ;obtain⟨g0,g1,g2,g3⟩:=GZ (Kd.aN HX.o HB.o) hlen
  go_region_held3 (fun w'=>w'.cell? ad=some (.int .i64 (rd x 0))∧w'.cell? ⟨ad.block,ad.off+1,none⟩=some (.int .i64 (rd x 1))∧w'.cell? ⟨ad.block,ad.off+2,none⟩=some (.int .i64 (rd x 2))∧w'.cell? ⟨ad.block,ad.off+3,none⟩=some (.int .i64 (rd x 3)))
    (go_keep)
    (first
     |(go_at_call 177;(with_reducible refine(C1.o _ ?_).mono ?_);(repeat(first|exact HB.o|apply bb|apply bR));rintro e w' ⟨rfl,⟨nd,rfl⟩⟩)
     |(go_at_call 177;(with_reducible refine(C2.o _ ?_).mono ?_);(repeat(first|exact HB.o|apply bb|apply bR));rintro e w' ⟨rfl,⟨nd,rfl⟩⟩)
     |(go_at_call 177;(with_reducible refine(C3.o _ ?_).mono ?_);(repeat(first|exact HB.o|apply bb|apply bR));rintro e w' ⟨rfl,⟨nd,rfl⟩⟩))
  go_wp2;go_ret2
  exact⟨_,rfl,CX w _ (by repeat(first|exact HB.o|apply bb|apply bR)) _ _ _,cS (by repeat(first|exact HB.o|apply bb|apply bR)) _⟩
end X
namespace P
def yu.f(k:Nat)(l0 l1:List Int):Option (List Int×Bool):=if X.aW l0=true then some (X.o0 l0 l1) else none
theorem yu.calls(k:Nat)(A0:Option Addr)(c0:Nat)(l0:List Int)(A1:Option Addr)(c1:Nat)(l1:List Int)(r1:List Int)(r2:Bool)(w:World)(hr0:Kd.C (Kd.int .i64) w A0 l0.length l0)(hc0:l0.length≤c0)(hr1:Kd.C (Kd.int .i64) w A1 l1.length l1)(hc1:l1.length≤c1)(h:yu.f k l0 l1=some (r1,r2)):
  Calls Tryz.prog 109 #[.slice A0 l0.length c0,.slice A1 l1.length c1] w fun e w'=> ∃bO:Value,e=.returned (.tuple #[bO,.bool r2])∧Kd.R (Kd.int .i64) 3 w' w.heap.size (fun _=>True) bO r1∧Below w.heap.size w w':=by
 unfold yu.f at h;by_cases hc:X.aW l0=true
 case neg=>rw[ag hc] at h;cases h
 rw[ah hc] at h;have e:=au h;obtain rfl:=congrArg Prod.fst e;obtain rfl:=congrArg Prod.snd e;exact X.anI A0 c0 l0 A1 c1 l1 w hc hr0 hc0 hr1 hc1
def o3.f(k:Nat)(l0:List Int)(l1:List Int):Option (Bool):=(fE.f l0).bind fun LS=>(if LS=true then((wC.f k l0 l1).bind fun t236=>(if t236=true then((Aa.f k l0 l1).bind fun G2=>((zU.f k l0 G2).bind fun LU=>(some LU))) else(some false))) else(some false))
theorem o3.calls(k:Nat)(A0:Option Addr)(c0:Nat)(l0:List Int)(A1:Option Addr)(c1:Nat)(l1:List Int)(r:Bool)(w:World)(hr0:Kd.C (Kd.int .i64) w A0 l0.length l0)(hc0:l0.length≤c0)(hr1:Kd.C (Kd.int .i64) w A1 l1.length l1)(hc1:l1.length≤c1)(h:o3.f k l0 l1=some r):
  Calls Tryz.prog 82 #[.slice A0 l0.length c0,.slice A1 l1.length c1] w fun e w'=>e=.returned (.bool r)∧Below w.heap.size w w':=by
 have aj:=af.mk hr0;have ax:=af.mk hc0;clear hr0 hc0;have bN:=af.mk hr1;have cA:=af.mk hc1;clear hr1 hc1;have HB:=af.mk (Below.refl w.heap.size w);have H:=h;clear h;unfold o3.f at H;replace H:=aA.mp H;obtain⟨LS,bW,H⟩:=H;have A3:=af.mk bW;clear bW;by_cases c4:LS=true
 case neg=>
  replace c4:=bU c4;subst c4;rw[ag bV] at H;obtain rfl:=au H;go_enter Tryz.func82,Tryz.ntmps82;go_wp2_with ((refine aY 6 Tryz.func40 #[.slice A0 l0.length c0] ?_;(with_reducible refine(fE.calls _ _ l0 false _ ?_ ?_ A3.o).mono ?_);exact bD aj;exact ax.o;rintro e t_ ⟨rfl,hb⟩;refine⟨_,rfl,?_⟩;replace HB:=aM HB hb))
  go_ret;exact⟨bE,ai HB⟩
 subst c4;rw[ah rfl] at H;replace H:=aA.mp H;obtain⟨t236,cY,H⟩:=H;have A5:=af.mk cY;clear cY;by_cases c6:t236=true
 case neg=>
  replace c6:=bU c6;subst c6;rw[ag bV] at H;obtain rfl:=au H;go_enter Tryz.func82,Tryz.ntmps82;go_wp2_with (first|(refine aY 6 Tryz.func40 #[.slice A0 l0.length c0] ?_;(with_reducible refine(fE.calls _ _ l0 true _ ?_ ?_ A3.o).mono ?_);exact bD aj;exact ax.o;rintro e ju ⟨rfl,hb⟩;refine⟨_,rfl,?_⟩;replace HB:=aM HB hb)|(go_at_call 131;(with_reducible refine(wC.calls k _ _ l0 _ _ l1 false _ ?bz ?bB ?cg ?cm A5.o).mono ?_);(case bz=>exact cG aj HB);(case bB=>exact ax.o);(case cg=>exact cG bN HB);(case cm=>exact cA.o);rintro e hY ⟨rfl,hb⟩;replace HB:=aM HB hb))
  go_ret;exact⟨bE,ai HB⟩
 subst c6;rw[ah rfl] at H;replace H:=aA.mp H;obtain⟨G2,dy,H⟩:=H;have A7:=af.mk dy;clear dy;replace H:=aA.mp H;obtain⟨LU,eG,H⟩:=H;have A8:=af.mk eG;clear eG;obtain rfl:=au H;go_enter Tryz.func82,Tryz.ntmps82;go_wp2_with (first|(refine aY 6 Tryz.func40 #[.slice A0 l0.length c0] ?_;(with_reducible refine(fE.calls _ _ l0 true _ ?_ ?_ A3.o).mono ?_);exact bD aj;exact ax.o;rintro e w9 ⟨rfl,hb⟩;refine⟨_,rfl,?_⟩;replace HB:=aM HB hb)|(go_at_call 131;(with_reducible refine(wC.calls k _ _ l0 _ _ l1 true _ ?bz ?bB ?cg ?cm A5.o).mono ?_);(case bz=>exact cG aj HB);(case bB=>exact ax.o);(case cg=>exact cG bN HB);(case cm=>exact cA.o);rintro e mH ⟨rfl,hb⟩;replace HB:=aM HB hb)|(go_at_call 133;(with_reducible refine(Aa.calls k _ _ l0 _ _ l1 G2 _ ?bz ?bB ?cg ?cm A7.o).mono ?_);(case bz=>exact cG aj HB);(case bB=>exact ax.o);(case cg=>exact cG bN HB);(case cm=>exact cA.o);rintro e mG ⟨aqF,rfl,ho0,hb⟩;have De:=af.mk (Kd.cv ho0 (aZ (ai HB)));replace HB:=aM HB hb;obtain⟨aqG,Uo,G3⟩:=Kd.bJ De.o;subst G3)|(go_at_call 132;(with_reducible refine(zU.calls k _ _ l0 _ _ G2 LU _ ?bz ?bB ?cg ?cm A8.o).mono ?_);(case bz=>exact cG aj HB);(case bB=>exact ax.o);(case cg=>exact pE De);(case cm=>exact(Kd.bm De.o).2.1);rintro e rk ⟨rfl,hb⟩;replace De:=af.mk (Kd.dB (aX De) hb);replace HB:=aM HB hb))
 go_ret;exact⟨bE,ai HB⟩
end P
end Go.Proofs.YtiobedekgnfjcaaGreatDoor
