/- What both Executes come to: contracts and plain laws, for the laws on Execute. No conditions. (Part 21 of 28.) -/
import Derived.Test.YtiobedekgnfjcaaGreatDoorME15
set_option linter.unusedVariables false
set_option linter.unusedSimpArgs false
set_option maxHeartbeats 1000000
set_option maxRecDepth 100000
namespace Go.Proofs.YtiobedekgnfjcaaGreatDoor
namespace P
end P
open Go.Proofs.YtiobedekgnfjcaaGreatDoor.P Go.Proofs.YtiobedekgnfjcaaGreatDoorW.aq Go.Proofs.YtiobedekgnfjcaaGreatDoorW.ay Go.RowKit
namespace X
theorem Up{t:List Int}(hs:aW t=true){p q r:Int}(hp:bu p)(hq:bu q)(hr:bu r):Ev (fun k=>sN.f k t p q r) (rm t p q r):=by
 unfold sN.f rm;by_cases e1:p=q
 ·rw[ap e1];exact Ev.pos e1 (Ev.done rfl)
 rw[aD e1];refine Ev.neg e1 ?_;by_cases e2:p=r
 ·rw[ap e2];exact Ev.pos e2 (Ev.done rfl)
 rw[aD e2];refine Ev.neg e2 ?_;by_cases e3:q=r
 ·rw[ap e3];exact Ev.pos e3 (Ev.done rfl)
 rw[aD e3];exact Ev.neg e3 (Ev.bind (TA hs hp hq hr e1) (Ev.done bn))
theorem afE(A0:Option Addr)(c0:Nat)(t:List Int)(A1:Option Addr)(c1:Nat)(x:List Int)(w:World)(hs:aW t=true)(hr0:Kd.C (Kd.int .i64) w A0 t.length t)(hc0:t.length≤c0)(hr1:Kd.C (Kd.int .i64) w A1 x.length x)(hc1:x.length≤c1)(hx:x.length≤1048576):
  Calls Tryz.prog 108 #[.slice A0 t.length c0,.slice A1 x.length c1] w fun e w'=>e=.returned (.bool (iE t x&&sL t x))∧Below w.heap.size w w':=by
 have CH:=af.mk (aeU A0 c0 t A1 c1 x w hs hr0 hc0 hr1 hc1 hx);obtain⟨d,hd⟩:∃d,iE t x=d:=⟨_,rfl⟩;rw[hd] at CH ⊢;cases d with
 |false=>
  clear hr0 hr1 hc0 hc1 hx hs hd;go_enter Tryz.func108,Tryz.ntmps108;go_wp2_with (go_at_call 176;(with_reducible refine CH.o.mono ?_);rintro e w1 ⟨rfl,hb⟩;have bF:=af.mk hb;clear hb)
  go_ret;exact⟨rfl,bF.o⟩
 |true=>
 have H:=TB hd;have H6:=H.len;obtain⟨ad,rfl⟩:=kx hr1 ae;have D1:=af.mk (fun W (h:Kd.C (Kd.int .i64) W A0 t.length t)=>Ls h hc0 hs (H.pt (i:=0) ae ae) (H.pt (i:=4) ae ae) (H.pt (i:=1) ae ae) (H.pt (i:=3) ae ae) (H.dn (i:=0) (j:=4) ae ae ae ae ae) (H.dn (i:=1) (j:=3) ae ae ae ae ae) (H.apart (i:=0) (j:=1) (k:=4) (l:=3) ae ae ae ae ae ae ae ae ae ae));have D2:=af.mk (fun W (h:Kd.C (Kd.int .i64) W A0 t.length t)=>Ls h hc0 hs (H.pt (i:=0) ae ae) (H.pt (i:=5) ae ae) (H.pt (i:=2) ae ae) (H.pt (i:=3) ae ae) (H.dn (i:=0) (j:=5) ae ae ae ae ae) (H.dn (i:=2) (j:=3) ae ae ae ae ae) (H.apart (i:=0) (j:=2) (k:=5) (l:=3) ae ae ae ae ae ae ae ae ae ae));have D3:=af.mk (fun W (h:Kd.C (Kd.int .i64) W A0 t.length t)=>Ls h hc0 hs (H.pt (i:=1) ae ae) (H.pt (i:=5) ae ae) (H.pt (i:=2) ae ae) (H.pt (i:=4) ae ae) (H.dn (i:=1) (j:=5) ae ae ae ae ae) (H.dn (i:=2) (j:=4) ae ae ae ae ae) (H.apart (i:=1) (j:=2) (k:=5) (l:=4) ae ae ae ae ae ae ae ae ae ae));obtain⟨k,hk⟩:=(Up hs (H.cr (i:=0) (j:=1) (k:=4) (l:=3) ae ae ae ae ae ae ae ae ae ae) (H.cr (i:=0) (j:=2) (k:=5) (l:=3) ae ae ae ae ae ae ae ae ae ae) (H.cr (i:=1) (j:=2) (k:=5) (l:=4) ae ae ae ae ae ae ae ae ae ae)).rounds;have D4:=af.mk (fun W (h:Kd.C (Kd.int .i64) W A0 t.length t)=>sN.calls k A0 c0 t _ _ _ _ W h hc0 hk);have HT:=af.mk hr0;have HX:=af.mk hr1;have hlen:6≤x.length:=ae;have EK:=af.mk (show(true&&sL t x)=rm t (dF t (rd x 0) (rd x 4) (rd x 1) (rd x 3)) (dF t (rd x 0) (rd x 5) (rd x 2) (rd x 3)) (dF t (rd x 1) (rd x 5) (rd x 2) (rd x 4)) from rfl);clear hk H H6 hd hs hr0 hr1 hc0 hc1 hx;obtain⟨v1,hv1⟩:∃b,(dF t (rd x 0) (rd x 4) (rd x 1) (rd x 3))=b:=⟨_,rfl⟩;rw[hv1] at D1 D4 EK;clear hv1;obtain⟨v2,hv2⟩:∃b,(dF t (rd x 0) (rd x 5) (rd x 2) (rd x 3))=b:=⟨_,rfl⟩;rw[hv2] at D2 D4 EK;clear hv2;obtain⟨v3,j8⟩:∃b,(dF t (rd x 1) (rd x 5) (rd x 2) (rd x 4))=b:=⟨_,rfl⟩;rw[j8] at D3 D4 EK;clear j8;go_enter Tryz.func108,Tryz.ntmps108;go_wp2_with (go_at_call 176;(with_reducible refine CH.o.mono ?_);rintro e w1 ⟨rfl,hb⟩;have bF:=af.mk hb;clear hb)
 clear CH;obtain⟨g0,g1,g2,g3,g4,g5⟩:=rl (Kd.aN HX.o bF.o) hlen;have C1:=af.mk (D1.o _ (Kd.aN HT.o bF.o));clear D1;go_quiet ((go_at_call 177;with_reducible exact C1.o _))
 go_wp2;obtain⟨w2,hw⟩:∃W,w1.drewN nq=W:=⟨_,rfl⟩;have bK:=af.mk (hw▸bb bF.o nq:Below w.heap.size w w2);rw[hw];clear hw C1 g0 g1 g2 g3 g4 g5;obtain⟨g0,g1,g2,g3,g4,g5⟩:=rl (Kd.aN HX.o bK.o) hlen;have C2:=af.mk (D2.o _ (Kd.aN HT.o bK.o));clear D2;go_quiet ((go_at_call 177;with_reducible exact C2.o _))
 go_wp2;obtain⟨w3,hw⟩:∃W,w2.drewN nq=W:=⟨_,rfl⟩;have du:=af.mk (hw▸bb bK.o nq:Below w.heap.size w w3);rw[hw];clear hw C2 g0 g1 g2 g3 g4 g5;obtain⟨g0,g1,g2,g3,g4,g5⟩:=rl (Kd.aN HX.o du.o) hlen;have C3:=af.mk (D3.o _ (Kd.aN HT.o du.o));clear D3;go_quiet ((go_at_call 177;with_reducible exact C3.o _))
 obtain⟨w4,hw⟩:∃W,w3.drewN nq=W:=⟨_,rfl⟩;have cI:=af.mk (hw▸bb du.o nq:Below w.heap.size w w4);rw[hw];clear hw C3 g0 g1 g2 g3 g4 g5;go_wp2_with (go_at_call 175;(with_reducible refine(D4.o _ (Kd.aN HT.o cI.o)).mono ?_);rintro e w5 ⟨rfl,hb⟩;have ef:=af.mk (aU cI.o (aG.below hb));clear hb)
 go_ret;exact⟨by rw[EK.o];rfl,ef.o⟩
theorem afF(A0:Option Addr)(c0:Nat)(t:List Int)(A1:Option Addr)(c1:Nat)(x:List Int)(w:World)(hs:aW t=true)(hr0:Kd.C (Kd.int .i64) w A0 t.length t)(hc0:t.length≤c0)(hr1:Kd.C (Kd.int .i64) w A1 x.length x)(hc1:x.length≤c1)(hx:x.length≤1048576):
    Calls Tryz.prog 83 #[.slice A0 t.length c0,.slice A1 x.length c1] w fun e w'=>e=.returned (.bool (iE t x&&sL t x))∧Below w.heap.size w w':=by
  have CS:=af.mk (fE.calls A0 c0 t true w hr0 hc0 (congrArg some hs));have CH:=af.mk (fun W (hW:Below w.heap.size w W)=>aeV A0 c0 t A1 c1 x W hs (Kd.aN hr0 hW) hc0 (Kd.aN hr1 hW) hc1 hx);obtain⟨d,hd⟩:∃d,iE t x=d:=⟨_,rfl⟩;rw[hd] at CH ⊢;cases d with
  |false=>
    clear hr0 hr1 hc0 hc1 hx hs hd;go_enter Tryz.func83,Tryz.ntmps83;go_wp2_with (first|(go_at_call 40;(with_reducible refine CS.o.mono ?_);rintro e w1 ⟨rfl,hb⟩;have bF:=af.mk hb;clear hb)|(go_at_call 134;(with_reducible refine(CH.o _ bF.o).mono ?_);rintro e w2 ⟨rfl,hb⟩;have bK:=af.mk (aU bF.o hb);clear hb))
    go_ret;exact⟨rfl,bK.o⟩
  |true=>
  have H:=TB hd;have H6:=H.len;obtain⟨ad,rfl⟩:=kx hr1 ae;obtain⟨k1,hk1⟩:=(sK hs (H.pt (i:=0) ae ae) (H.pt (i:=4) ae ae) (H.pt (i:=1) ae ae) (H.pt (i:=3) ae ae) (H.dn (i:=0) (j:=4) ae ae ae ae ae) (H.dn (i:=1) (j:=3) ae ae ae ae ae)).rounds;have C1:=af.mk (fun W (hW:Below w.heap.size w W)=>kb.calls k1 A0 c0 t _ _ _ _ _ W (Kd.aN hr0 hW) hc0 hk1);obtain⟨k2,hk2⟩:=(sK hs (H.pt (i:=0) ae ae) (H.pt (i:=5) ae ae) (H.pt (i:=2) ae ae) (H.pt (i:=3) ae ae) (H.dn (i:=0) (j:=5) ae ae ae ae ae) (H.dn (i:=2) (j:=3) ae ae ae ae ae)).rounds;have C2:=af.mk (fun W (hW:Below w.heap.size w W)=>kb.calls k2 A0 c0 t _ _ _ _ _ W (Kd.aN hr0 hW) hc0 hk2);obtain⟨k3,nD⟩:=(sK hs (H.pt (i:=1) ae ae) (H.pt (i:=5) ae ae) (H.pt (i:=2) ae ae) (H.pt (i:=4) ae ae) (H.dn (i:=1) (j:=5) ae ae ae ae ae) (H.dn (i:=2) (j:=4) ae ae ae ae ae)).rounds;have C3:=af.mk (fun W (hW:Below w.heap.size w W)=>kb.calls k3 A0 c0 t _ _ _ _ _ W (Kd.aN hr0 hW) hc0 nD)
  have Uq:∀y∈[dF t (rd x 0) (rd x 4) (rd x 1) (rd x 3),dF t (rd x 0) (rd x 5) (rd x 2) (rd x 3),dF t (rd x 1) (rd x 5) (rd x 2) (rd x 4)],bu y:=by
    intro y hy;rcases List.mem_cons.1 hy with rfl|hy
    · exact(H.cr (i:=0) (j:=1) (k:=4) (l:=3) ae ae ae ae ae ae ae ae ae ae)
    rcases List.mem_cons.1 hy with rfl|hy
    · exact(H.cr (i:=0) (j:=2) (k:=5) (l:=3) ae ae ae ae ae ae ae ae ae ae)
    rw[List.mem_singleton.1 hy];exact(H.cr (i:=1) (j:=2) (k:=5) (l:=4) ae ae ae ae ae ae ae ae ae ae)
  have CK:=af.mk (fun W (hW:Below w.heap.size w W) b (hb:b=W.heap.size)=>show Calls Tryz.prog 132 #[.slice A0 t.length c0,.slice (some ⟨b,0,none⟩) 3 3] (W.alloc _) _ from TF A0 c0 t (some ⟨b,0,none⟩) 3 [dF t (rd x 0) (rd x 4) (rd x 1) (rd x 3),dF t (rd x 0) (rd x 5) (rd x 2) (rd x 3),dF t (rd x 1) (rd x 5) (rd x 2) (rd x 4)] (W.alloc (.cells #[.int .i64 (dF t (rd x 0) (rd x 4) (rd x 1) (rd x 3)),.int .i64 (dF t (rd x 0) (rd x 5) (rd x 2) (rd x 3)),.int .i64 (dF t (rd x 1) (rd x 5) (rd x 2) (rd x 4))] 3)) hs (Kd.aN hr0 (cS hW _)) hc0 (hb▸(Kd.bm (CX w W hW _ _ _)).2.2) rfl Uq);have HX:=af.mk hr1;have hlen:6≤x.length:=ae;have EK:=af.mk (show(true&&sL t x)=rm t (dF t (rd x 0) (rd x 4) (rd x 1) (rd x 3)) (dF t (rd x 0) (rd x 5) (rd x 2) (rd x 3)) (dF t (rd x 1) (rd x 5) (rd x 2) (rd x 4)) from rfl);clear hk1 hk2 nD Uq H H6 hd hs hr0 hr1 hc0 hc1 hx;obtain⟨v1,hv1⟩:∃b,(dF t (rd x 0) (rd x 4) (rd x 1) (rd x 3))=b:=⟨_,rfl⟩;rw[hv1] at C1 CK EK;clear hv1;obtain⟨v2,hv2⟩:∃b,(dF t (rd x 0) (rd x 5) (rd x 2) (rd x 3))=b:=⟨_,rfl⟩;rw[hv2] at C2 CK EK;clear hv2;obtain⟨v3,j8⟩:∃b,(dF t (rd x 1) (rd x 5) (rd x 2) (rd x 4))=b:=⟨_,rfl⟩;rw[j8] at C3 CK EK;clear j8;have z0:(0<x.length)=True:=av ae;have q0:(0:Int)<(x.length:Int):=ae;have q1:(1:Int)<(x.length:Int):=ae;have q2:(2:Int)<(x.length:Int):=ae;have q3:(3:Int)<(x.length:Int):=ae;have q4:(4:Int)<(x.length:Int):=ae;have q5:(5:Int)<(x.length:Int):=ae;go_enter Tryz.func83,Tryz.ntmps83;go_wp2_with (first|(go_at_call 40;(with_reducible refine CS.o.mono ?_);rintro e w1 ⟨rfl,hb⟩;have bF:=af.mk hb;clear hb)|(go_at_call 134;(with_reducible refine(CH.o _ bF.o).mono ?_);rintro e w2 ⟨rfl,hb⟩;have HB:=af.mk (aU bF.o hb);clear hb))
  clear CS CH;obtain⟨g0,g1,g2,g3,g4,g5⟩:=rl (Kd.aN HX.o HB.o) hlen
  go_region_held3 (fun w'=>w'.cell? ad=some (.int .i64 (rd x 0))∧w'.cell? ⟨ad.block,ad.off+1,none⟩=some (.int .i64 (rd x 1))∧w'.cell? ⟨ad.block,ad.off+2,none⟩=some (.int .i64 (rd x 2))∧w'.cell? ⟨ad.block,ad.off+3,none⟩=some (.int .i64 (rd x 3))∧w'.cell? ⟨ad.block,ad.off+4,none⟩=some (.int .i64 (rd x 4))∧w'.cell? ⟨ad.block,ad.off+5,none⟩=some (.int .i64 (rd x 5)))
    (go_keep)
    (first
     |(go_at_call 135;(with_reducible refine(C1.o _ ?_).mono ?_);(repeat(first|exact HB.o|apply bb|apply bR));rintro e w' ⟨rfl,⟨nd,rfl⟩⟩)
     |(go_at_call 135;(with_reducible refine(C2.o _ ?_).mono ?_);(repeat(first|exact HB.o|apply bb|apply bR));rintro e w' ⟨rfl,⟨nd,rfl⟩⟩)
     |(go_at_call 135;(with_reducible refine(C3.o _ ?_).mono ?_);(repeat(first|exact HB.o|apply bb|apply bR));rintro e w' ⟨rfl,⟨nd,rfl⟩⟩)
     |(go_at_call 132;(with_reducible refine(CK.o _ ?_ _ ?_).mono ?_);(repeat(first|exact HB.o|apply bb|apply bR));(first|rfl|simp);rintro e w9 ⟨rfl,hb⟩;have wD:=af.mk (aU (cS (by repeat(first|exact HB.o|apply bb|apply bR)) _) hb);obtain⟨d0,d1,d2,d3,d4,d5⟩:=rl (Kd.aN HX.o wD.o) hlen;clear hb))
  go_wp2;go_ret;exact⟨by rw[EK.o];rfl,by repeat(first|exact wD.o|apply bb|apply bR)⟩
end X
namespace P
def sQ.f(k:Nat)(l0 l1:List Int):Option Bool:=if X.aW l0=true∧l1.length≤1048576 then some (X.iE l0 l1&&X.sL l0 l1) else none
theorem sQ.calls(k:Nat)(A0:Option Addr)(c0:Nat)(l0:List Int)(A1:Option Addr)(c1:Nat)(l1:List Int)(r:Bool)(w:World)(hr0:Kd.C (Kd.int .i64) w A0 l0.length l0)(hc0:l0.length≤c0)(hr1:Kd.C (Kd.int .i64) w A1 l1.length l1)(hc1:l1.length≤c1)(h:sQ.f k l0 l1=some r):
  Calls Tryz.prog 83 #[.slice A0 l0.length c0,.slice A1 l1.length c1] w fun e w'=>e=.returned (.bool r)∧Below w.heap.size w w':=by
 unfold sQ.f at h;by_cases hc:X.aW l0=true∧l1.length≤1048576
 case neg=>rw[ag hc] at h;cases h
 rw[ah hc] at h;obtain rfl:=au h;exact X.afF A0 c0 l0 A1 c1 l1 w hc.1 hr0 hc0 hr1 hc1 hc.2
def uk.f(k:Nat)(l0 l1:List Int):Option Bool:=if X.aW l0=true∧l1.length≤1048576 then some (X.iE l0 l1&&X.sL l0 l1) else none
theorem uk.calls(k:Nat)(A0:Option Addr)(c0:Nat)(l0:List Int)(A1:Option Addr)(c1:Nat)(l1:List Int)(r:Bool)(w:World)(hr0:Kd.C (Kd.int .i64) w A0 l0.length l0)(hc0:l0.length≤c0)(hr1:Kd.C (Kd.int .i64) w A1 l1.length l1)(hc1:l1.length≤c1)(h:uk.f k l0 l1=some r):
  Calls Tryz.prog 108 #[.slice A0 l0.length c0,.slice A1 l1.length c1] w fun e w'=>e=.returned (.bool r)∧Below w.heap.size w w':=by
 unfold uk.f at h;by_cases hc:X.aW l0=true∧l1.length≤1048576
 case neg=>rw[ag hc] at h;cases h
 rw[ah hc] at h;obtain rfl:=au h;exact X.afE A0 c0 l0 A1 c1 l1 w hc.1 hr0 hc0 hr1 hc1 hc.2
end P
end Go.Proofs.YtiobedekgnfjcaaGreatDoor
