/- What both Executes come to: contracts and plain laws, for the laws on Execute. No conditions. (Part 23 of 28.) -/
import Derived.Test.YtiobedekgnfjcaaGreatDoorME15
import Derived.Test.YtiobedekgnfjcaaGreatDoorME16
import Derived.Test.YtiobedekgnfjcaaGreatDoorME17
set_option linter.unusedVariables false
set_option linter.unusedSimpArgs false
set_option maxHeartbeats 8000000
set_option maxRecDepth 100000
namespace Go.Proofs.YtiobedekgnfjcaaGreatDoor
namespace P
end P
open Go.Proofs.YtiobedekgnfjcaaGreatDoor.P Go.Proofs.YtiobedekgnfjcaaGreatDoorW.aq Go.Proofs.YtiobedekgnfjcaaGreatDoorW.ay Go.RowKit
namespace X
def ot(t l:List Int):Nat:=fL t (fw t (dm l)) (bh t (rd l 0) (rd l 1))
def kC(t l:List Int):Int×Bool:=if fM t l=true then((ot t l:Int) - 1,true) else(0,false)
theorem U4{t l:List Int}{x:Int}(h:x∈fw t (dm l)):bu x:=by
 unfold fw gJ at h;have:=pF.1 h;exact⟨this.1,this.2.1⟩
theorem Mv(t l:List Int):(fw t (dm l)).length≤91:=by unfold fw;exact uh _
theorem agR(A0:Option Addr)(c0:Nat)(t:List Int)(A1:Option Addr)(c1:Nat)(x:List Int)(w:World)(hs:aW t=true)(hr0:Kd.C (Kd.int .i64) w A0 t.length t)(hc0:t.length≤c0)(hr1:Kd.C (Kd.int .i64) w A1 x.length x)(hc1:x.length≤c1):
  Calls Tryz.prog 110 #[.slice A0 t.length c0,.slice A1 x.length c1] w fun e w'=>e=.returned (.tuple #[.int .i64 (kC t x).1,.bool (kC t x).2])∧Below w.heap.size w w':=by
 have hn:=(fq hs).1;have ht:=(hG.1 hn).1;by_cases h4:x.length=4
 case neg=>
  rw[show kC t x=(0,false) from ag (by unfold fM;rw[aD h4];simp)];have e1:((x.length:Int) !=4)=true:=bne_iff_ne.2 ae;clear h4 hs hr0 hr1 hc0 hc1 ht hn;go_enter Tryz.func110,Tryz.ntmps110;go_wp2;go_ret2
  exact⟨rfl,Below.refl _ _⟩
 obtain⟨kq,wK⟩:=(Ur (t:=t) (l:=x) ae h4).rounds;have CQ:=af.mk (wF.calls kq A0 c0 t A1 c1 x (fM t x) w hr0 hc0 hr1 hc1 wK);have e1:((x.length:Int) !=4)=false:=bne_eq_false_iff_eq.2 ae;by_cases hq:fM t x=true
 case neg=>
  rw[show kC t x=(0,false) from ag hq];rw[Bool.eq_false_iff.2 hq] at CQ;clear h4 hs hr0 hr1 hc0 hc1 wK hq ht hn;go_enter Tryz.func110,Tryz.ntmps110;go_wp2_with (go_at_call 178;(with_reducible refine CQ.o.mono ?_);rintro e w1 ⟨rfl,hb⟩;have bF:=af.mk hb;clear hb)
  go_ret2
  exact⟨rfl,bF.o⟩
 rw[show kC t x=((ot t x:Int) - 1,true) from ah hq];rw[hq] at CQ;obtain⟨ad,rfl⟩:=kx hr1 ae;have P0:=rq hq (i:=0) ae ae;have P1:=rq hq (i:=1) ae ae;have Ak:=z8 hq (i:=0) (j:=1) ae ae ae;have hj:=iL hs P0.1 P0.2 P1.1 P1.2 Ak;obtain⟨k7,U5⟩:=(U3 hs (l:=x) ae (Uk hq)).rounds;have CL:=af.mk (fun W (hW:Below w.heap.size w W)=>cD.calls k7 A0 c0 t (some ad) c1 x (fw t (dm x)) W (Kd.aN hr0 hW) hc0 (Kd.aN hr1 hW) hc1 U5);have DJ:=af.mk (fun W (h:Kd.C (Kd.int .i64) W A0 t.length t)=>GI h hc0 hs P0 P1 Ak);have DO:=af.mk (fun(p:Int) (hp:bu p) W (h:Kd.C (Kd.int .i64) W A0 t.length t)=>gA.calls A0 c0 t p (bh t (rd x 0) (rd x 1)) (a8 t p (bh t (rd x 0) (rd x 1))) W h hc0 (sJ hn hp ⟨hj.1,hj.2.1⟩));have HS:=af.mk (fun y (hy:y∈fw t (dm x))=>U4 hy);have HL:=af.mk (Mv t x);have HQ:=af.mk (show ot t x=fL t (fw t (dm x)) (bh t (rd x 0) (rd x 1)) from rfl);have HT:=af.mk hr0;have HX:=af.mk hr1;have hlen:4≤x.length:=ae;obtain⟨l,hl⟩:∃l,bh t (rd x 0) (rd x 1)=l:=⟨_,rfl⟩;obtain⟨L,hL⟩:∃L,fw t (dm x)=L:=⟨_,rfl⟩;rw[hl] at DJ DO HQ;rw[hL] at CL HS HL HQ;clear hl hL hj P0 P1 Ak U5 wK hq hs hn ht h4 hr0 hr1 hc0 hc1;go_enter Tryz.func110,Tryz.ntmps110;go_wp2_with (first|(go_at_call 178;(with_reducible refine CQ.o.mono ?_);rintro e w1 ⟨rfl,hb⟩;have bF:=af.mk hb;clear hb)|(go_at_call 179;(with_reducible refine(CL.o _ bF.o).mono ?_);rintro e w2 ⟨v2,rfl,hR,hb⟩;obtain⟨A6,c6,rfl⟩:=Kd.bJ hR;have bK:=af.mk (aU bF.o hb);have HR2:=af.mk (Kd.bm hR);clear hR hb))
 obtain⟨g0,g1,g2,g3⟩:=GZ (Kd.aN HX.o bK.o) hlen;have C1:=af.mk (DJ.o _ (Kd.aN HT.o bK.o));clear CQ CL DJ;go_quiet ((go_at_call 180;with_reducible exact C1.o _))
 obtain⟨w3,hw⟩:∃W,w2.drewN nq=W:=⟨_,rfl⟩;have du:=af.mk (hw▸bb bK.o nq:Below w.heap.size w w3);have Cg:=af.mk (hw▸Kd.e8 HR2.o.2.2 nq:Kd.C (Kd.int .i64) w3 A6 L.length L);rw[hw];clear hw C1 g0 g1 g2 g3 e1 hlen;go_wp2;go_loopg [8,9] L.length (fun kq v8 v9 w'=> ∃i:Int,v9=.int .i64 i∧v8=.int .i64 (fL t (L.take i.toNat) l:Int)∧af (0≤i∧i≤L.length)∧af ((L.length:Int) - i≤kq)∧af (Below w3.heap.size w3 w'))
 case atStart=>exact⟨0,rfl,rfl,⟨ae⟩,⟨ae⟩,⟨Below.refl _ _⟩⟩
 case round=>
  obtain⟨i,rfl,rfl,HI,HK,HD⟩:=hrel;have h0:0≤i:=HI.o.1;have HN:=af.mk (Nat.le_trans (C8 t (L.take i.toNat) l) (by rw[List.length_take];have:=HL.o;omega:(L.take i.toNat).length≤91));by_cases ci:i<(L.length:Int)
  ·obtain⟨a6,ha,gi⟩:=Kd.ck (Kd.aN Cg.o HD.o) i h0 ci;subst ha;have D0:=af.mk (DO.o (rd L i) (HS.o _ (iK ci h0)) _ (Kd.aN HT.o (aU du.o HD.o)));have HC:=af.mk (LD t L l h0 ci);obtain⟨b,hb⟩:∃b,a8 t (rd L i) l=b:=⟨_,rfl⟩;rw[hb] at D0 HC;obtain⟨n,hnn⟩:∃n,fL t (L.take i.toNat) l=n:=⟨_,rfl⟩;rw[hnn] at HC HN ⊢;have Mw:(n:Int)≤91:=by have:=HN.o;omega
   have agS:(L.length:Int)≤91:=by have:=HL.o;omega
   clear hb hnn;cases b
   all_goals
    go_wp2_with (go_at_call 181;(with_reducible refine D0.o.mono ?_);rintro e w5 ⟨rfl,hb⟩;have ef:=af.mk (aU HD.o (aG.below hb));clear hb)
    go_roundg (L.length - (i.toNat+1))
    case measure=>have:=HK.o;omega
    case rel=>exact⟨i+1,rfl,by rw[HC.o];simp,⟨ae⟩,⟨ae⟩,ef⟩
  ·have hi:i.toNat=L.length:=by have:=HI.o;omega
   have hv:fL t (L.take i.toNat) l=ot t x:=by rw[hi,List.take_length,HQ.o]
   rw[hv] at HN ⊢;have Mw:(ot t x:Int)≤91:=by have:=HN.o;omega
   go_wp2;go_ret2
   exact⟨rfl,aU du.o HD.o⟩
end X
namespace P
def wL.f(k:Nat)(l0 l1:List Int):Option (Int×Bool):=if X.aW l0=true then some (X.kC l0 l1) else none
theorem wL.calls(k:Nat)(A0:Option Addr)(c0:Nat)(l0:List Int)(A1:Option Addr)(c1:Nat)(l1:List Int)(r1:Int)(r2:Bool)(w:World)(hr0:Kd.C (Kd.int .i64) w A0 l0.length l0)(hc0:l0.length≤c0)(hr1:Kd.C (Kd.int .i64) w A1 l1.length l1)(hc1:l1.length≤c1)(h:wL.f k l0 l1=some (r1,r2)):
  Calls Tryz.prog 110 #[.slice A0 l0.length c0,.slice A1 l1.length c1] w fun e w'=>e=.returned (.tuple #[.int .i64 r1,.bool r2])∧Below w.heap.size w w':=by
 unfold wL.f at h;by_cases hc:X.aW l0=true
 case neg=>rw[ag hc] at h;cases h
 rw[ah hc] at h;have e:=au h;obtain rfl:=congrArg Prod.fst e;obtain rfl:=congrArg Prod.snd e;exact X.agR A0 c0 l0 A1 c1 l1 w hc hr0 hc0 hr1 hc1
end P
namespace X
theorem agT(A0:Option Addr)(c0:Nat)(t:List Int)(A1:Option Addr)(c1:Nat)(x:List Int)(w:World)(hs:aW t=true)(hr0:Kd.C (Kd.int .i64) w A0 t.length t)(hc0:t.length≤c0)(hr1:Kd.C (Kd.int .i64) w A1 x.length x)(hc1:x.length≤c1):
  Calls Tryz.prog 85 #[.slice A0 t.length c0,.slice A1 x.length c1] w fun e w'=>e=.returned (.tuple #[.int .i64 (kC t x).1,.bool (kC t x).2])∧Below w.heap.size w w':=by
 have hn:=(fq hs).1;have CS:=af.mk (fE.calls A0 c0 t true w hr0 hc0 (congrArg some hs));have CQ:=af.mk (fun W (hW:Below w.heap.size w W)=>sR.calls A0 c0 t A1 c1 x (fM t x) W (Kd.aN hr0 hW) hc0 (Kd.aN hr1 hW) hc1 (Us hs));by_cases hq:fM t x=true
 case neg=>
  rw[show kC t x=(0,false) from ag hq];rw[Bool.eq_false_iff.2 hq] at CQ;clear hs hr0 hr1 hc0 hc1 hq hn;go_enter Tryz.func85,Tryz.ntmps85;go_wp2_with (first|(go_at_call 40;(with_reducible refine CS.o.mono ?_);rintro e w0 ⟨rfl,hb⟩;have fH:=af.mk hb;clear hb)|(go_at_call 136;(with_reducible refine(CQ.o _ fH.o).mono ?_);rintro e w2 ⟨rfl,hb⟩;have bK:=af.mk (aU fH.o hb);clear hb))
  go_ret2
  exact⟨rfl,bK.o⟩
 rw[show kC t x=((ot t x:Int) - 1,true) from ah hq];rw[hq] at CQ;have h4:=(oZ hq).2.1;obtain⟨ad,rfl⟩:=kx hr1 ae;have P0:=rq hq (i:=0) ae ae;have P1:=rq hq (i:=1) ae ae;have Ak:=z8 hq (i:=0) (j:=1) ae ae ae;have hj:=iL hs P0.1 P0.2 P1.1 P1.2 Ak;have hsp:Dl.f t x=some (fw t (dm x)):=ah ⟨hs,List.all_eq_true.2 fun y hy=>eB.2 (Uk hq y hy)⟩;have CL:=af.mk (fun W (hW:Below w.heap.size w W)=>Dl.calls A0 c0 t (some ad) c1 x (fw t (dm x)) W (Kd.aN hr0 hW) hc0 (Kd.aN hr1 hW) hc1 hsp);have DJ:=af.mk (fun W (h:Kd.C (Kd.int .i64) W A0 t.length t)=>GJ h hc0 hn P0 P1);have DO:=af.mk (fun(p:Int) (hp:bu p) W (h:Kd.C (Kd.int .i64) W A0 t.length t)=>iM.calls A0 c0 t p (bh t (rd x 0) (rd x 1)) (a8 t p (bh t (rd x 0) (rd x 1))) W h hc0 (tY hn hp ⟨hj.1,hj.2.1⟩));have HS:=af.mk (fun y (hy:y∈fw t (dm x))=>U4 hy);have HL:=af.mk (Mv t x);have HQ:=af.mk (show ot t x=fL t (fw t (dm x)) (bh t (rd x 0) (rd x 1)) from rfl);have HT:=af.mk hr0;have HX:=af.mk hr1;have hlen:4≤x.length:=ae;obtain⟨l,hl⟩:∃l,bh t (rd x 0) (rd x 1)=l:=⟨_,rfl⟩;obtain⟨L,hL⟩:∃L,fw t (dm x)=L:=⟨_,rfl⟩;rw[hl] at DJ DO HQ;rw[hL] at CL HS HL HQ;clear hl hL hj P0 P1 Ak hsp hq hs hn h4 hr0 hr1 hc0 hc1;go_enter Tryz.func85,Tryz.ntmps85;go_wp2_with (first|(go_at_call 40;(with_reducible refine CS.o.mono ?_);rintro e w0 ⟨rfl,hb⟩;have fH:=af.mk hb;clear hb)|(go_at_call 136;(with_reducible refine(CQ.o _ fH.o).mono ?_);rintro e w2 ⟨rfl,hb⟩;have bK:=af.mk (aU fH.o hb);clear hb))
 obtain⟨g0,g1,g2,g3⟩:=GZ (Kd.aN HX.o bK.o) hlen;have C1:=af.mk (DJ.o _ (Kd.aN HT.o bK.o));clear CQ CS DJ;go_quiet ((go_at_call 94;with_reducible exact C1.o _))
 obtain⟨w4,hw⟩:∃W,w2.drewN nq=W:=⟨_,rfl⟩;have cI:=af.mk (hw▸bb bK.o nq:Below w.heap.size w w4);rw[hw];clear hw C1 g0 g1 g2 g3 hlen;go_wp2_with (go_at_call 138;(with_reducible refine(CL.o _ cI.o).mono ?_);rintro e w3 ⟨v2,rfl,hR,hb⟩;obtain⟨A6,c6,rfl⟩:=Kd.bJ hR;have du:=af.mk (aU cI.o hb);have Cg:=af.mk (Kd.bm hR).2.2;clear hR hb)
 go_loopg [7,31] L.length (fun kq v7 v31 w'=> ∃i:Int,v31=.int .i64 i∧v7=.int .i64 ((fL t (L.take i.toNat) l:Int) - 1)∧af (0≤i∧i≤L.length)∧af ((L.length:Int) - i≤kq)∧af (Below w3.heap.size w3 w'))
 case atStart=>exact⟨0,rfl,rfl,⟨ae⟩,⟨ae⟩,⟨Below.refl _ _⟩⟩
 case round=>
  obtain⟨i,rfl,rfl,HI,HK,HD⟩:=hrel;have h0:0≤i:=HI.o.1;have HN:=af.mk (Nat.le_trans (C8 t (L.take i.toNat) l) (by rw[List.length_take];have:=HL.o;omega:(L.take i.toNat).length≤91));by_cases ci:i<(L.length:Int)
  ·obtain⟨a6,ha,gi⟩:=Kd.ck (Kd.aN Cg.o HD.o) i h0 ci;subst ha;have D0:=af.mk (DO.o (rd L i) (HS.o _ (iK ci h0)) _ (Kd.aN HT.o (aU du.o HD.o)));have HC:=af.mk (LD t L l h0 ci);obtain⟨b,hb⟩:∃b,a8 t (rd L i) l=b:=⟨_,rfl⟩;rw[hb] at D0 HC;obtain⟨n,hnn⟩:∃n,fL t (L.take i.toNat) l=n:=⟨_,rfl⟩;rw[hnn] at HC HN ⊢;have Mw:(n:Int)≤91:=by have:=HN.o;omega
   have agS:(L.length:Int)≤91:=by have:=HL.o;omega
   clear hb hnn;cases b
   all_goals
    go_wp2_with (go_at_call 139;(with_reducible refine D0.o.mono ?_);rintro e w5 ⟨rfl,hb⟩;have ef:=af.mk (aU HD.o (aG.below hb));clear hb)
    go_roundg (L.length - (i.toNat+1))
    case measure=>have:=HK.o;omega
    case rel=>exact⟨i+1,rfl,by rw[HC.o];first|rfl|(refine congrArg (Value.int .i64) ?_;simp;done)|(refine congrArg (Value.int .i64) ?_;simp;omega),⟨ae⟩,⟨ae⟩,ef⟩
  ·have hi:i.toNat=L.length:=by have:=HI.o;omega
   have hv:fL t (L.take i.toNat) l=ot t x:=by rw[hi,List.take_length,HQ.o]
   rw[hv] at HN ⊢;have Mw:(ot t x:Int)≤91:=by have:=HN.o;omega
   go_wp2;go_ret2
   exact⟨rfl,aU du.o HD.o⟩
end X
namespace P
def wM.f(k:Nat)(l0 l1:List Int):Option (Int×Bool):=if X.aW l0=true then some (X.kC l0 l1) else none
theorem wM.calls(k:Nat)(A0:Option Addr)(c0:Nat)(l0:List Int)(A1:Option Addr)(c1:Nat)(l1:List Int)(r1:Int)(r2:Bool)(w:World)(hr0:Kd.C (Kd.int .i64) w A0 l0.length l0)(hc0:l0.length≤c0)(hr1:Kd.C (Kd.int .i64) w A1 l1.length l1)(hc1:l1.length≤c1)(h:wM.f k l0 l1=some (r1,r2)):
  Calls Tryz.prog 85 #[.slice A0 l0.length c0,.slice A1 l1.length c1] w fun e w'=>e=.returned (.tuple #[.int .i64 r1,.bool r2])∧Below w.heap.size w w':=by
 unfold wM.f at h;by_cases hc:X.aW l0=true
 case neg=>rw[ag hc] at h;cases h
 rw[ah hc] at h;have e:=au h;obtain rfl:=congrArg Prod.fst e;obtain rfl:=congrArg Prod.snd e;exact X.agT A0 c0 l0 A1 c1 l1 w hc hr0 hc0 hr1 hc1
end P
namespace X
theorem anA(A0:Option Addr)(c0:Nat)(t:List Int)(A1:Option Addr)(c1:Nat)(x:List Int)(w:World)(T:Twin t x)(hr0:Kd.C (Kd.int .i64) w A0 t.length t)(hc0:t.length≤c0)(hr1:Kd.C (Kd.int .i64) w A1 x.length x):
    Calls Tryz.prog 231 #[.slice A0 t.length c0,.slice A1 x.length c1] w fun e w'=> ∃v:Value,e=.returned v∧Kd.R (Kd.int .i64) 3 w' w.heap.size (fun _=>True) v (oV t x)∧Below w.heap.size w w':=by
  have hL:=T.len;have P:=fun(i:Int) (i0:0≤i) (i1:i<7)=>T.pt (i:=i) i0 i1;have N:=fun(i j:Int) (i0:0≤i) (i1:i<7) (j0:0≤j) (j1:j<7) (h:i≠j)=>T.ne (i:=i) (j:=j) i0 i1 j0 j1 h;obtain⟨ad,rfl⟩:=kx hr1 ae;obtain⟨k1,hk1⟩:∃k,kR.f k t (rd x 1) (rd x 2) (rd x 4) (rd x 5)=some (dF t (rd x 1) (rd x 2) (rd x 4) (rd x 5)):=(wn T.sys (P 1 ae ae) (P 2 ae ae) (P 4 ae ae) (P 5 ae ae) (N 1 2 ae ae ae ae ae) (N 4 5 ae ae ae ae ae) (T.apart (i:=1) (j:=2) ae ae ae)).rounds;have C1:=af.mk (fun W (hW:Below w.heap.size w W)=>kR.calls k1 A0 c0 t _ _ _ _ _ W (Kd.aN hr0 hW) hc0 hk1);obtain⟨k2,hk2⟩:∃k,kR.f k t (rd x 1) (rd x 3) (rd x 4) (rd x 6)=some (dF t (rd x 1) (rd x 3) (rd x 4) (rd x 6)):=(wn T.sys (P 1 ae ae) (P 3 ae ae) (P 4 ae ae) (P 6 ae ae) (N 1 3 ae ae ae ae ae) (N 4 6 ae ae ae ae ae) (T.apart (i:=1) (j:=3) ae ae ae)).rounds;have C2:=af.mk (fun W (hW:Below w.heap.size w W)=>kR.calls k2 A0 c0 t _ _ _ _ _ W (Kd.aN hr0 hW) hc0 hk2);obtain⟨k3,nD⟩:∃k,kR.f k t (rd x 2) (rd x 3) (rd x 5) (rd x 6)=some (dF t (rd x 2) (rd x 3) (rd x 5) (rd x 6)):=(wn T.sys (P 2 ae ae) (P 3 ae ae) (P 5 ae ae) (P 6 ae ae) (N 2 3 ae ae ae ae ae) (N 5 6 ae ae ae ae ae) (T.apart (i:=2) (j:=3) ae ae ae)).rounds;have C3:=af.mk (fun W (hW:Below w.heap.size w W)=>kR.calls k3 A0 c0 t _ _ _ _ _ W (Kd.aN hr0 hW) hc0 nD);have hlen:7≤x.length:=ae;obtain⟨g0,g1,g2,g3,g4,g5,g6⟩:=wq hr1 hlen;have z0:(0<x.length)=True:=av ae;have q0:(0:Int)<(x.length:Int):=ae;have q1:(1:Int)<(x.length:Int):=ae;have q2:(2:Int)<(x.length:Int):=ae;have q3:(3:Int)<(x.length:Int):=ae;have q4:(4:Int)<(x.length:Int):=ae;have q5:(5:Int)<(x.length:Int):=ae;have q6:(6:Int)<(x.length:Int):=ae;have HB:=af.mk (Below.refl w.heap.size w);clear P N hL T hr0 hr1 hc0 hk1 hk2 nD;unfold oV;go_enter Tryz.func231,Tryz.ntmps231;go_wp2
  go_region_held3 (fun w'=>w'.cell? ⟨ad.block,ad.off+1,none⟩=some (.int .i64 (rd x 1))∧w'.cell? ⟨ad.block,ad.off+2,none⟩=some (.int .i64 (rd x 2))∧w'.cell? ⟨ad.block,ad.off+3,none⟩=some (.int .i64 (rd x 3))∧w'.cell? ⟨ad.block,ad.off+4,none⟩=some (.int .i64 (rd x 4))∧w'.cell? ⟨ad.block,ad.off+5,none⟩=some (.int .i64 (rd x 5))∧w'.cell? ⟨ad.block,ad.off+6,none⟩=some (.int .i64 (rd x 6)))
    (go_keep)
    (first
     |(go_at_call 177;(with_reducible refine(C1.o _ ?_).mono ?_);(repeat(first|exact HB.o|apply bb|apply bR));rintro e w' ⟨rfl,⟨nd,rfl⟩⟩)
     |(go_at_call 177;(with_reducible refine(C2.o _ ?_).mono ?_);(repeat(first|exact HB.o|apply bb|apply bR));rintro e w' ⟨rfl,⟨nd,rfl⟩⟩)
     |(go_at_call 177;(with_reducible refine(C3.o _ ?_).mono ?_);(repeat(first|exact HB.o|apply bb|apply bR));rintro e w' ⟨rfl,⟨nd,rfl⟩⟩))
  go_wp2;go_ret;exact⟨_,rfl,CX w _ (by repeat(first|exact HB.o|apply bb|apply bR)) _ _ _,cS (by repeat(first|exact HB.o|apply bb|apply bR)) _⟩
end X
namespace P
def Bj.f(k:Nat)(l0 l1:List Int):Option (List Int):=if X.fA l0 l1=true then some (X.oV l0 l1) else none
theorem Bj.calls(k:Nat)(A0:Option Addr)(c0:Nat)(l0:List Int)(A1:Option Addr)(c1:Nat)(l1:List Int)(r:List Int)(w:World)(hr0:Kd.C (Kd.int .i64) w A0 l0.length l0)(hc0:l0.length≤c0)(hr1:Kd.C (Kd.int .i64) w A1 l1.length l1)(hc1:l1.length≤c1)(h:Bj.f k l0 l1=some r):
  Calls Tryz.prog 231 #[.slice A0 l0.length c0,.slice A1 l1.length c1] w fun e w'=> ∃bO:Value,e=.returned bO∧Kd.R (Kd.int .i64) 3 w' w.heap.size (fun _=>True) bO r∧Below w.heap.size w w':=by
 unfold Bj.f at h;by_cases hc:X.fA l0 l1=true
 case neg=>rw[ag hc] at h;cases h
 rw[ah hc] at h;obtain rfl:=au h;exact X.anA A0 c0 l0 A1 c1 l1 w (X.wk.1 hc) hr0 hc0 hr1
end P
namespace X
theorem aoy{t:List Int}(hs:aW t=true)(l:List Int):Ev (fun n=>wM.f n t l) (kC t l):=Ev.done (ah hs)
theorem aoz{t:List Int}(hs:aW t=true)(l:List Int):Ev (fun n=>wL.f n t l) (kC t l):=Ev.done (ah hs)
end X
namespace P
def r6.f(k:Nat)(l0:List Int)(l1:List Int):Option (List Int×Bool):=(wt.f k l0 l1).bind fun Qs=>(if Qs=true then((Bj.f k l0 l1).bind fun Qt=>(some (Qt,true))) else(some ((([]:List Int)),false)))
theorem r6.calls(k:Nat)(A0:Option Addr)(c0:Nat)(l0:List Int)(A1:Option Addr)(c1:Nat)(l1:List Int)(r1:List Int)(r2:Bool)(w:World)(hr0:Kd.C (Kd.int .i64) w A0 l0.length l0)(hc0:l0.length≤c0)(hr1:Kd.C (Kd.int .i64) w A1 l1.length l1)(hc1:l1.length≤c1)(h:r6.f k l0 l1=some (r1,r2)):
  Calls Tryz.prog 174 #[.slice A0 l0.length c0,.slice A1 l1.length c1] w fun e w'=> ∃bO:Value,e=.returned (.tuple #[bO,.bool r2])∧Kd.R (Kd.int .i64) 3 w' w.heap.size (fun _=>True) bO r1∧Below w.heap.size w w':=by
 have aj:=af.mk hr0;have ax:=af.mk hc0;clear hr0 hc0;have bN:=af.mk hr1;have cA:=af.mk hc1;clear hr1 hc1;have HB:=af.mk (Below.refl w.heap.size w);have H:=h;clear h;unfold r6.f at H;replace H:=aA.mp H;obtain⟨Qs,bW,H⟩:=H;have A3:=af.mk bW;clear bW;by_cases c4:Qs=true
 case neg=>
  replace c4:=bU c4;subst c4;rw[ag bV] at H;generalize Y4:((([]:List Int)):List Int)=ata at H;have Y5:=af.mk Y4.symm;clear Y4;simp only[Option.some.injEq,Prod.mk.injEq] at H;obtain⟨rfl,rfl⟩:=H;go_enter Tryz.func174,Tryz.ntmps174;go_wp2_with (first|(refine aY 8 Tryz.func230 #[.slice A0 l0.length c0,.slice A1 l1.length c1] ?_;(with_reducible refine(wt.calls k _ _ l0 _ _ l1 false _ ?bz ?bB ?cg ?cm A3.o).mono ?_);(case bz=>exact bD aj);(case bB=>exact ax.o);(case cg=>exact bD bN);(case cm=>exact cA.o);rintro e w8 ⟨rfl,hb⟩;refine⟨_,rfl,?_⟩;replace HB:=aM HB hb)|((with_reducible refine db (N:=10) rfl ?_);refine Kd.dV (Kd.int .i64) _ 3 ?hg (N:=10) ?hd (xs:=([]:List Int)) (inner:=[]) (ok:=fun _=>True) (bp:=fun _=>True) ?hr ?hp (fun _ hk=>hk) trivial (Below.refl _ _) (aH _) bn ?_;(case hd=>rfl);(case hg=>rfl);(case hr=>first|(go_simp;done)|(go_simp;rfl));(case hp=>exact(aE.none _ _));intro atb w9 qA hb bq br;clear bq br;(first|rw[←Y5.o] at qA|(simp only[Int.reduceToNat] at qA;rw[←Y5.o] at qA));have anB:=af.mk (Kd.cv qA (aZ (ai HB)));replace HB:=aM HB hb;clear hb qA))
  go_ret2
  exact⟨_,bE,aX anB,ai HB⟩
 subst c4;rw[ah rfl] at H;replace H:=aA.mp H;obtain⟨Qt,cY,H⟩:=H;have A5:=af.mk cY;clear cY;simp only[Option.some.injEq,Prod.mk.injEq] at H;obtain⟨rfl,rfl⟩:=H;go_enter Tryz.func174,Tryz.ntmps174;go_wp2_with (first|(refine aY 8 Tryz.func230 #[.slice A0 l0.length c0,.slice A1 l1.length c1] ?_;(with_reducible refine(wt.calls k _ _ l0 _ _ l1 true _ ?bz ?bB ?cg ?cm A3.o).mono ?_);(case bz=>exact bD aj);(case bB=>exact ax.o);(case cg=>exact bD bN);(case cm=>exact cA.o);rintro e w6 ⟨rfl,hb⟩;refine⟨_,rfl,?_⟩;replace HB:=aM HB hb)|(refine aY 13 Tryz.func231 #[.slice A0 l0.length c0,.slice A1 l1.length c1] ?_;(with_reducible refine(Bj.calls k _ _ l0 _ _ l1 Qt _ ?bz ?bB ?cg ?cm A5.o).mono ?_);(case bz=>exact cG aj HB);(case bB=>exact ax.o);(case cg=>exact cG bN HB);(case cm=>exact cA.o);rintro e w7 ⟨atc,rfl,ho0,hb⟩;refine⟨_,rfl,?_⟩;have anC:=af.mk (Kd.cv ho0 (aZ (ai HB)));replace HB:=aM HB hb))
 go_ret2
 exact⟨_,bE,aX anC,ai HB⟩
def r7.f(k:Nat)(l0:List Int)(l1:List Int):Option (Bool):=(r6.f k l0 l1).bind fun ym=>(if ym.2=true then(if 0<(ym.1.length:Int) then(if 1<(ym.1.length:Int) then(if 2<(ym.1.length:Int) then((sN.f k l0 (rd ym.1 0) (rd ym.1 1) (rd ym.1 2)).bind fun Jo=>(some Jo)) else none) else none) else none) else(some false))
theorem r7.calls(k:Nat)(A0:Option Addr)(c0:Nat)(l0:List Int)(A1:Option Addr)(c1:Nat)(l1:List Int)(r:Bool)(w:World)(hr0:Kd.C (Kd.int .i64) w A0 l0.length l0)(hc0:l0.length≤c0)(hr1:Kd.C (Kd.int .i64) w A1 l1.length l1)(hc1:l1.length≤c1)(h:r7.f k l0 l1=some r):
  Calls Tryz.prog 107 #[.slice A0 l0.length c0,.slice A1 l1.length c1] w fun e w'=>e=.returned (.bool r)∧Below w.heap.size w w':=by
 have aj:=af.mk hr0;have ax:=af.mk hc0;clear hr0 hc0;have bN:=af.mk hr1;have cA:=af.mk hc1;clear hr1 hc1;have HB:=af.mk (Below.refl w.heap.size w);have H:=h;clear h;unfold r7.f at H;replace H:=aA.mp H;obtain⟨⟨gQ,anD⟩,bW,H⟩:=H;have A3:=af.mk bW;clear bW;by_cases c4:anD=true
 case neg=>
  replace c4:=bU c4;subst c4;rw[ag bV] at H;obtain rfl:=au H;go_enter Tryz.func107,Tryz.ntmps107;go_wp2_with ((go_at_call 174;(with_reducible refine(r6.calls k _ _ l0 _ _ l1 gQ false _ ?bz ?bB ?cg ?cm A3.o).mono ?_);(case bz=>exact bD aj);(case bB=>exact ax.o);(case cg=>exact bD bN);(case cm=>exact cA.o);rintro e mG ⟨Qu,rfl,ho0,hb⟩;have qB:=af.mk (Kd.cv ho0 (aZ (ai HB)));replace HB:=aM HB hb))
  repeat(go_quiet ((go_at_call 174;(with_reducible refine(r6.calls k _ _ l0 _ _ l1 gQ false _ ?bz ?bB ?cg ?cm A3.o).mono ?_);(case bz=>exact bD aj);(case bB=>exact ax.o);(case cg=>exact bD bN);(case cm=>exact cA.o);rintro e mG ⟨Qu,rfl,ho0,hb⟩;have qB:=af.mk (Kd.cv ho0 (aZ (ai HB)));replace HB:=aM HB hb));try go_wp2)
  go_ret;exact⟨bE,ai HB⟩
 subst c4;rw[ah rfl] at H;by_cases c5:0<(gQ.length:Int)
 case neg=>
  rw[ag c5] at H;cases H
 rw[ah c5] at H;have dC:=ap c5;have oe:decide (0<gQ.length)=true:=ap ae;clear c5;by_cases c6:1<(gQ.length:Int)
 case neg=>
  rw[ag c6] at H;cases H
 rw[ah c6] at H;have dU:=ap c6;have j9:decide (1<gQ.length)=true:=ap ae;clear c6;by_cases c7:2<(gQ.length:Int)
 case neg=>
  rw[ag c7] at H;cases H
 rw[ah c7] at H;have eN:=ap c7;have pT:decide (2<gQ.length)=true:=ap ae;clear c7;replace H:=aA.mp H;obtain⟨Jo,eG,H⟩:=H;have A8:=af.mk eG;clear eG;obtain rfl:=au H;go_enter Tryz.func107,Tryz.ntmps107;go_wp2_with (first|(go_at_call 174;(with_reducible refine(r6.calls k _ _ l0 _ _ l1 gQ true _ ?bz ?bB ?cg ?cm A3.o).mono ?_);(case bz=>exact bD aj);(case bB=>exact ax.o);(case cg=>exact bD bN);(case cm=>exact cA.o);rintro e w9 ⟨Qu,rfl,ho0,hb⟩;have qB:=af.mk (Kd.cv ho0 (aZ (ai HB)));replace HB:=aM HB hb;obtain⟨anE,Mt,Aj⟩:=Kd.bJ qB.o;subst Aj;have yn:0≤(0:Int):=ae;have yo:0<(gQ.length:Int):=aJ;obtain⟨Fi,Qv,Fj⟩:=Kd.ck (Kd.bm qB.o).2.2 0 yn yo;cases Qv;have anF:(0<gQ.length)=True:=av ae;(try rw[show((0:Int)).toNat=0 from rfl] at Fj);(try rw[Addr.add_zero'] at Fj);replace yn:=av yn;replace yo:=av yo;have yp:0≤(1:Int):=ae;have yq:1<(gQ.length:Int):=aJ;obtain⟨Qw,Qx,Fk⟩:=Kd.ck (Kd.bm qB.o).2.2 1 yp yq;obtain rfl:Fi=Qw:=(by injection Qx);(try simp only[show(1:Int).toNat=1 from rfl,Nat.reduceMul,Nat.reduceEqDiff,Go.Addr.add,↓reduceIte] at Fk);have anG:(1<gQ.length)=True:=av ae;(try rw[show((1:Int)).toNat=1 from rfl] at Fk);replace yp:=av yp;replace yq:=av yq;have yr:0≤(2:Int):=ae;have yt:2<(gQ.length:Int):=aJ;obtain⟨Qy,Qz,Fl⟩:=Kd.ck (Kd.bm qB.o).2.2 2 yr yt;obtain rfl:Fi=Qy:=(by injection Qz);(try simp only[show(2:Int).toNat=2 from rfl,Nat.reduceMul,Nat.reduceEqDiff,Go.Addr.add,↓reduceIte] at Fl);have anH:(2<gQ.length)=True:=av ae;(try rw[show((2:Int)).toNat=2 from rfl] at Fl);replace yr:=av yr;replace yt:=av yt)|(go_at_call 175;(with_reducible refine(sN.calls k _ _ l0 (rd gQ 0) (rd gQ 1) (rd gQ 2) Jo _ ?_ ?_ A8.o).mono ?_);exact cG aj HB;exact ax.o;rintro e w' ⟨rfl,⟨nd,rfl⟩⟩;(try exact eA)))
 repeat(go_quiet (first|(go_at_call 174;(with_reducible refine(r6.calls k _ _ l0 _ _ l1 gQ true _ ?bz ?bB ?cg ?cm A3.o).mono ?_);(case bz=>exact bD aj);(case bB=>exact ax.o);(case cg=>exact bD bN);(case cm=>exact cA.o);rintro e w9 ⟨Qu,rfl,ho0,hb⟩;have qB:=af.mk (Kd.cv ho0 (aZ (ai HB)));replace HB:=aM HB hb;obtain⟨anE,Mt,Aj⟩:=Kd.bJ qB.o;subst Aj;have yn:0≤(0:Int):=ae;have yo:0<(gQ.length:Int):=aJ;obtain⟨Fi,Qv,Fj⟩:=Kd.ck (Kd.bm qB.o).2.2 0 yn yo;cases Qv;have anF:(0<gQ.length)=True:=av ae;(try rw[show((0:Int)).toNat=0 from rfl] at Fj);(try rw[Addr.add_zero'] at Fj);replace yn:=av yn;replace yo:=av yo;have yp:0≤(1:Int):=ae;have yq:1<(gQ.length:Int):=aJ;obtain⟨Qw,Qx,Fk⟩:=Kd.ck (Kd.bm qB.o).2.2 1 yp yq;obtain rfl:Fi=Qw:=(by injection Qx);(try simp only[show(1:Int).toNat=1 from rfl,Nat.reduceMul,Nat.reduceEqDiff,Go.Addr.add,↓reduceIte] at Fk);have anG:(1<gQ.length)=True:=av ae;(try rw[show((1:Int)).toNat=1 from rfl] at Fk);replace yp:=av yp;replace yq:=av yq;have yr:0≤(2:Int):=ae;have yt:2<(gQ.length:Int):=aJ;obtain⟨Qy,Qz,Fl⟩:=Kd.ck (Kd.bm qB.o).2.2 2 yr yt;obtain rfl:Fi=Qy:=(by injection Qz);(try simp only[show(2:Int).toNat=2 from rfl,Nat.reduceMul,Nat.reduceEqDiff,Go.Addr.add,↓reduceIte] at Fl);have anH:(2<gQ.length)=True:=av ae;(try rw[show((2:Int)).toNat=2 from rfl] at Fl);replace yr:=av yr;replace yt:=av yt)|(go_at_call 175;(with_reducible refine(sN.calls k _ _ l0 (rd gQ 0) (rd gQ 1) (rd gQ 2) Jo _ ?_ ?_ A8.o).mono ?_);exact cG aj HB;exact ax.o;rintro e w' ⟨rfl,⟨nd,rfl⟩⟩;(try exact eA)));try go_wp2)
 go_ret;exact⟨bE,ai HB⟩
end P
end Go.Proofs.YtiobedekgnfjcaaGreatDoor
