/- What both Executes come to: contracts and plain laws, for the laws on Execute. No conditions. (Part 15 of 28.) -/
import Derived.Test.YtiobedekgnfjcaaGreatDoorME10
import Derived.Test.YtiobedekgnfjcaaGreatDoorME7
import Derived.Test.YtiobedekgnfjcaaGreatDoorME8
import Derived.Test.YtiobedekgnfjcaaGreatDoorME9
set_option linter.unusedVariables false
set_option linter.unusedSimpArgs false
set_option maxHeartbeats 8000000
set_option maxRecDepth 100000
namespace Go.Proofs.YtiobedekgnfjcaaGreatDoor
namespace P
end P
open Go.Proofs.YtiobedekgnfjcaaGreatDoor.P Go.Proofs.YtiobedekgnfjcaaGreatDoorW.aq Go.Proofs.YtiobedekgnfjcaaGreatDoorW.ay Go.RowKit
namespace X
theorem ad_(b bk:Nat)(A0:Option Addr)(c0:Nat)(t:List Int)(w:World)(hb:dZ w b A0 c0 t)(hn:b9 t 81=true)(k:Int)(hK:bP k)
  (hk:w.cell? ⟨bk,0,none⟩=some (.int .i64 k)) (x y z:Int) (hx:bP x) (hy:bP y):
  Calls Tryz.prog 199 #[.int .i64 x,.int .i64 y,.int .i64 z,.pointer (some ⟨b,0,none⟩),.pointer (some ⟨bk,0,none⟩)] w fun e w'=>e=.returned (.bool (oc t k x y))∧Below w.heap.size w w':=by
 obtain⟨hl,_⟩:=hG.1 hn;obtain⟨ad,rfl⟩:=hb.some ae;obtain⟨x0,x1⟩:=hx;obtain⟨y0,y1⟩:=hy;obtain⟨k0,k1⟩:=hK;have hc:=hb.cell;unfold oc;have C1:=af.mk (tQ x y ⟨x0,x1⟩ ⟨y0,y1⟩);have q1:=gG hn (i:=9*x+y) ae ae;have g1:=hb.at (9*x+y) ae ae;have q3:=gG hn (i:=9*k+x) ae ae;have g3:=hb.at (9*k+x) ae ae;have q6:=gG hn (i:=9*k+y) ae ae;have g6:=hb.at (9*k+y) ae ae;obtain⟨s0,s1⟩:=iA x y;have C2:=af.mk (tQ (rd t (9*k+x)) (rd t (9*k+y)) q3 q6);obtain⟨u1,hu1⟩:∃u,rd t (9*x+y)=u:=⟨_,rfl⟩;obtain⟨u3,CG⟩:∃u,rd t (9*k+x)=u:=⟨_,rfl⟩;obtain⟨u6,Tn⟩:∃u,rd t (9*k+y)=u:=⟨_,rfl⟩;obtain⟨s,hs⟩:∃s,bg x y=s:=⟨_,rfl⟩;obtain⟨r,hr⟩:∃r,bg u3 u6=r:=⟨_,rfl⟩;rw[hu1] at q1 g1 ⊢;rw[CG] at q3 g3 C2 ⊢;rw[Tn] at q6 g6 C2 ⊢;rw[hs] at C1 s0 s1 ⊢;rw[hr] at C2 ⊢;obtain⟨oa,K8⟩:=q1;obtain⟨q30,q31⟩:=q3;have g2:=hb.at (9*k+u1) ae ae;have g4:=hb.at (9*u3+y) ae ae;have g5:=hb.at (9*k+s) ae ae;obtain⟨u2,nZ⟩:∃u,rd t (9*k+u1)=u:=⟨_,rfl⟩;obtain⟨u4,CJ⟩:∃u,rd t (9*u3+y)=u:=⟨_,rfl⟩;obtain⟨u5,Tp⟩:∃u,rd t (9*k+s)=u:=⟨_,rfl⟩;rw[nZ] at g2 ⊢;rw[CJ] at g4 ⊢;rw[Tp] at g5 ⊢;have hlen:81≤t.length:=ae;clear hb hn hu1 nZ CG CJ Tp Tn hs hr hl q6;by_cases h1:(u2==u4)=true
 case neg=>
  have h1:=Bool.eq_false_iff.2 h1;rw[h1];go_enter Tryz.func199,Tryz.ntmps199;go_wp2;go_quiet ((first|(go_at_call 36;with_reducible exact qd (C1.o _))|(go_at_call 36;with_reducible exact qd (C2.o _))))
  go_wp2;go_ret;exact⟨rfl,aG.below ⟨⟨_,rfl⟩⟩⟩
 case pos=>
  rw[h1,Bool.true_and];go_enter Tryz.func199,Tryz.ntmps199;go_wp2;go_quiet ((first|(go_at_call 36;with_reducible exact qd (C1.o _))|(go_at_call 36;with_reducible exact qd (C2.o _))))
  go_wp2;go_ret;exact⟨rfl,aG.below ⟨⟨_,rfl⟩⟩⟩
theorem aea:Eg 199:=enters_of Tryz.func199 am rfl
theorem aeb:Eg 198:=enters_of Tryz.func198 am rfl
theorem aec(b:Nat)(A0:Option Addr)(c0:Nat)(t:List Int)(w:World)(hb:dZ w b A0 c0 t)(hn:b9 t 81=true)(k:Int)(hK:bP k):
  Calls Tryz.prog 198 #[.int .i64 k,.pointer (some ⟨b,0,none⟩)] w fun e w'=>e=.returned (.bool (od t k))∧Below w.heap.size w w':=by
 have pN:∀(fn:Fn) (first cap:Array Value) (w:World),(Instr.makeFunc fn first cap).run Tryz.prog w=.ok (.func fn first cap) w:=fun _ _ _ _=>rfl;have hb0:Below w.heap.size w (w.alloc (.cells #[.int .i64 k] 3)):=(Below.refl _ _).alloc (aH _) _;have hb1:(w.alloc (.cells #[.int .i64 k] 3)).cell? ⟨w.heap.size,0,none⟩=some (.int .i64 k):=World.cell?_alloc_new w _ _ 0;have hbx:=hb.below hb0
 have hcall:=BZ 199 #[.pointer (some ⟨b,0,none⟩),.pointer (some ⟨w.heap.size,0,none⟩)] aea (fun x y _=>oc t k x y) (w.alloc (.cells #[.int .i64 k] 3))
  (fun W x y z hW hd=>ad_ b w.heap.size A0 c0 t W (hbx.below hW) hn k hK (dH hW hb1) x y z hd.1 hd.2.1)
 rw[show lX (fun x y _=>oc t k x y)=od t k from rfl] at hcall;have HC:=af.mk hcall;have HB:=af.mk hb0;clear hb hn hbx hb0 hb1 hcall;go_enter Tryz.func198,Tryz.ntmps198;go_wp2_with (go_at_call 41;refine HC.o.mono ?_;rintro e w' ⟨rfl,hb'⟩)
 go_ret;exact⟨rfl,aU HB.o hb'⟩
theorem aed(A0:Option Addr)(c0:Nat)(t:List Int)(w:World)(hr:Kd.C (Kd.int .i64) w A0 t.length t)(hn:b9 t 81=true):
  Calls Tryz.prog 126 #[.slice A0 t.length c0] w fun e w'=> ∃v:Value,e=.returned v∧Kd.R (Kd.int .i64) 3 w' w.heap.size (fun _=>True) v (zM t)∧Below w.heap.size w w':=by
 have pN:∀(fn:Fn) (first cap:Array Value) (w:World),(Instr.makeFunc fn first cap).run Tryz.prog w=.ok (.func fn first cap) w:=fun _ _ _ _=>rfl;have hb0:Below w.heap.size w (w.alloc (.cells #[.slice A0 t.length c0] 31)):=(Below.refl _ _).alloc (aH _) _;have hb1:(w.alloc (.cells #[.slice A0 t.length c0] 31)).cell? ⟨w.heap.size,0,none⟩=some (.slice A0 t.length c0):=World.cell?_alloc_new w _ _ 0;have hbx:dZ (w.alloc (.cells #[.slice A0 t.length c0] 31)) w.heap.size A0 c0 t:=⟨hb1,Kd.aN hr hb0⟩
 have HC:=af.mk (Tk 198 #[.pointer (some ⟨w.heap.size,0,none⟩)] aeb (od t) _
  (fun W k hW hd=>aec _ A0 c0 t W (hbx.below hW) hn k hd))
 have HB:=af.mk hb0;clear hr hn hb0 hb1 hbx;go_enter Tryz.func126,Tryz.ntmps126;go_wp2_with (go_at_call 127;refine HC.o.mono ?_;rintro e w' ⟨v,rfl,ho,hb⟩;have HO:=af.mk ho;have bK:=af.mk hb;clear ho hb)
 go_ret;exact⟨_,rfl,Kd.cv HO.o HB.o.size,aU HB.o bK.o⟩
theorem aee(A0:Option Addr)(c0:Nat)(t:List Int)(w:World)(hr:Kd.C (Kd.int .i64) w A0 t.length t):
  Calls Tryz.prog 77 #[.slice A0 t.length c0] w fun e w'=> ∃v:Value,e=.returned (.tuple #[v,.bool (aW t)])∧Kd.R (Kd.int .i64) 3 w' w.heap.size (fun _=>True) v (if aW t=true then zM t else[])∧Below w.heap.size w w':=by
 have hcall:=tX A0 c0 t w hr;by_cases hs:aW t=true
 case neg=>
  have hs:=Bool.eq_false_iff.2 hs;rw[hs] at hcall ⊢;have HC:=af.mk hcall;clear hcall hs hr;go_enter Tryz.func77,Tryz.ntmps77;go_wp2_with (go_at_call 40;refine HC.o.mono ?_;rintro e w' ⟨rfl,hb⟩)
  go_ret2
  exact⟨_,rfl,Kd.kJ _ _ _ _ _,hb⟩
 case pos=>
  rw[hs] at hcall ⊢;have HC:=af.mk hcall;have HK:=af.mk (fun W (hW:Below w.heap.size w W)=>aed A0 c0 t W (Kd.aN hr hW) (fq hs).1);clear hcall hs hr;go_enter Tryz.func77,Tryz.ntmps77;go_wp2_with fail
  refine HC.o.mono ?_;rintro e w1 ⟨rfl,hb⟩;have HB:=af.mk hb;clear hb HC;go_wp2_with fail
  refine(HK.o w1 HB.o).mono ?_;rintro e w2 ⟨v,rfl,ho,hb⟩;have HO:=af.mk ho;have bK:=af.mk (aU HB.o hb);clear ho hb HK;go_wp2;go_ret2
  exact⟨_,rfl,Kd.cv HO.o HB.o.size,bK.o⟩
end X
namespace P
def ud.f(l0:List Int):Option (List Int×Bool):=some (if X.aW l0=true then X.zM l0 else[],X.aW l0)
theorem ud.calls(A0:Option Addr)(c0:Nat)(l0:List Int)(r1:List Int)(r2:Bool)(w:World)(hr0:Kd.C (Kd.int .i64) w A0 l0.length l0)(hc0:l0.length≤c0)(h:ud.f l0=some (r1,r2)):
  Calls Tryz.prog 77 #[.slice A0 l0.length c0] w fun e w'=> ∃bO:Value,e=.returned (.tuple #[bO,.bool r2])∧Kd.R (Kd.int .i64) 3 w' w.heap.size (fun _=>True) bO r1∧Below w.heap.size w w':=by
 obtain⟨rfl,rfl⟩:=Prod.mk.inj (au h);exact X.aee A0 c0 l0 w hr0
end P
namespace X
theorem anf(A0:Option Addr)(c0:Nat)(t:List Int)(k:Int)(w:World)(hr:Kd.C (Kd.int .i64) w A0 t.length t)(hn:b9 t 81=true)(hk:bP k):
  Calls Tryz.prog 171 #[.slice A0 t.length c0,.int .i64 k] w fun e w'=>e=.returned (.bool (od t k))∧aG w w':=by
 obtain⟨hl,_⟩:=hG.1 hn;obtain⟨ad,rfl⟩:=kx hr ae;have HT:=af.mk hr;have HN:=af.mk hn;have hlen:81≤t.length:=ae;obtain⟨k0,k1⟩:=hk;clear hr hn hl;go_enter Tryz.func171,Tryz.ntmps171;go_wp2;go_loopg [5] 9 (fun kq v5 w'=> ∃a:Int,v5=.int .i64 a∧af (0≤a∧a≤9)∧af ((9:Int) - a≤kq)∧af (∀x y:Int,0≤x→x<a→bP y→oc t k x y=true)∧af (aG w w'))
 case atStart=>exact⟨0,rfl,⟨ae⟩,⟨ae⟩,⟨fun x y h0 h1=>ae⟩,⟨aG.refl _⟩⟩
 case round=>
  obtain⟨a,rfl,HI,HK,HA,HD⟩:=hrel;have h0:0≤a:=HI.o.1;by_cases c6:a<9
  ·go_wp2;go_loopg [6] 9 (fun kq v6 w'=> ∃b:Int,v6=.int .i64 b∧af (0≤b∧b≤9)∧af ((9:Int) - b≤kq)∧af (∀y:Int,0≤y→y<b→oc t k a y=true)∧af (aG w w'))
   case atStart=>exact⟨0,rfl,⟨ae⟩,⟨ae⟩,⟨fun y h0 h1=>ae⟩,HD⟩
   case round=>
    clear HD;obtain⟨b,rfl,HI2,bw,jZ,HD⟩:=hrel;have lu:0≤b:=HI2.o.1;by_cases c7:b<9
    ·have fu:=Kd.aN HT.o HD.o.below;have p1:=gG HN.o (i:=9*a+b) ae ae;have p2:=gG HN.o (i:=9*k+a) ae ae;have p3:=gG HN.o (i:=9*k+b) ae ae;have p4:=iA a b;have hs:oc t k a b=((rd t (9*k+rd t (9*a+b))==rd t (9*rd t (9*k+a)+b))&&(rd t (9*k+bg a b)==bg (rd t (9*k+a)) (rd t (9*k+b)))):=rfl;have C1:=af.mk (vY a b ⟨h0,c6⟩ ⟨lu,c7⟩);have C2:=af.mk (vY (rd t (9*k+a)) (rd t (9*k+b)) p2 p3);have g1:=gV fu (9*a+b) ae ae;have g2:=gV fu (9*k+a) ae ae;have g3:=gV fu (9*k+b) ae ae;obtain⟨v1,hv1⟩:∃v,rd t (9*a+b)=v:=⟨_,rfl⟩;obtain⟨v2,hv2⟩:∃v,rd t (9*k+a)=v:=⟨_,rfl⟩;obtain⟨v3,j8⟩:∃v,rd t (9*k+b)=v:=⟨_,rfl⟩;obtain⟨s,hs1⟩:∃v,bg a b=v:=⟨_,rfl⟩;rw[hv1] at g1 hs p1;rw[hv2] at g2 hs C2 p2;rw[j8] at g3 hs C2 p3;rw[hs1] at C1 hs p4;clear hv1 hv2 j8 hs1;obtain⟨ry,p11⟩:=p1;obtain⟨p20,p21⟩:=p2;obtain⟨p40,p41⟩:=p4;have g4:=gV fu (9*k+v1) ae ae;have g5:=gV fu (9*v2+b) ae ae;have g6:=gV fu (9*k+s) ae ae;obtain⟨u1,hu1⟩:∃v,rd t (9*k+v1)=v:=⟨_,rfl⟩;obtain⟨u2,nZ⟩:∃v,rd t (9*v2+b)=v:=⟨_,rfl⟩;obtain⟨u3,CG⟩:∃v,rd t (9*k+s)=v:=⟨_,rfl⟩;obtain⟨u4,CJ⟩:∃v,bg v2 v3=v:=⟨_,rfl⟩;rw[hu1] at g4 hs;rw[nZ] at g5 hs;rw[CG] at g6 hs;rw[CJ] at C2 hs;have HS:=af.mk hs;clear hs hu1 nZ CG CJ fu;by_cases he:u1=u2
     ·have n9:(u1==u2)=true:=beq_iff_eq.2 he;have he2:(u1 !=u2)=false:=bne_eq_false_iff_eq.2 he;clear he;by_cases hf:u3=u4
      ·have hf1:(u3==u4)=true:=beq_iff_eq.2 hf;have hf2:(u3 !=u4)=false:=bne_eq_false_iff_eq.2 hf;have HP:=af.mk (show oc t k a b=true by rw[HS.o,n9,hf1];rfl);clear hf;go_wp2;go_quiet ((first|(go_at_call 38;with_reducible exact iN (C1.o _))|(go_at_call 38;with_reducible exact iN (C2.o _))))
       go_wp2;go_roundg (9 - (b.toNat+1))
       case measure=>have:=bw.o;omega
       case rel=>
        refine⟨b+1,rfl,⟨ae⟩,⟨ae⟩,⟨fun y hy0 hy1=>?_⟩,⟨HD.o.step _⟩⟩;by_cases e:y=b
        ·rw[e];exact HP.o
        ·exact jZ.o y hy0 ae
      ·have hf2:(u3 !=u4)=true:=bne_iff_ne.2 hf;have HP:=af.mk (show oc t k a b=false by rw[HS.o,beq_eq_false_iff_ne.2 hf];simp);clear hf;go_wp2;go_quiet ((first|(go_at_call 38;with_reducible exact iN (C1.o _))|(go_at_call 38;with_reducible exact iN (C2.o _))))
       go_wp2;go_ret;exact⟨by rw[show od t k=false from zf (p:=fun a b _=>oc t k a b) ⟨h0,c6⟩ ⟨lu,c7⟩ (⟨ae,ae⟩:bP 0) HP.o];rfl,by first|exact HD.o.step _|exact(HD.o.step _).step _⟩
     ·have he2:(u1 !=u2)=true:=bne_iff_ne.2 he;have HP:=af.mk (show oc t k a b=false by rw[HS.o,beq_eq_false_iff_ne.2 he];rfl);clear he;go_wp2;go_quiet (fail)
      go_wp2;go_ret;exact⟨by rw[show od t k=false from zf (p:=fun a b _=>oc t k a b) ⟨h0,c6⟩ ⟨lu,c7⟩ (⟨ae,ae⟩:bP 0) HP.o];rfl,by first|exact HD.o.step _|exact(HD.o.step _).step _⟩
    ·go_wp2;go_roundg (9 - (a.toNat+1))
     case measure=>have:=HK.o;omega
     case rel=>
      refine⟨a+1,rfl,⟨ae⟩,⟨ae⟩,⟨fun x y hx0 hx1 hy=>?_⟩,HD⟩;by_cases e:x=a
      ·rw[e];exact jZ.o y hy.1 (by have:=hy.2;have:=HI2.o;omega)
      ·exact HA.o x y hx0 ae hy
  ·go_wp2;go_ret;have hall:od t k=true:=abu.2 fun x y _ hx hy _=>HA.o x y hx.1 (by have:=HI.o;have:=hx.2;omega) hy;exact⟨by rw[hall];rfl,HD.o⟩
end X
namespace P
def yj.f(k:Nat)(l0:List Int)(a1:Int):Option Bool:=if X.b9 l0 81=true∧(0≤a1∧a1<9) then some (X.od l0 a1) else none
theorem yj.calls(k:Nat)(A0:Option Addr)(c0:Nat)(l0:List Int)(a1:Int)(r:Bool)(w:World)(hr0:Kd.C (Kd.int .i64) w A0 l0.length l0)(hc0:l0.length≤c0)(h:yj.f k l0 a1=some r):
  Calls Tryz.prog 171 #[.slice A0 l0.length c0,.int .i64 a1] w fun e w'=>e=.returned (.bool r)∧Below w.heap.size w w':=by
 unfold yj.f at h;by_cases hc:X.b9 l0 81=true∧(0≤a1∧a1<9)
 case neg=>rw[ag hc] at h;cases h
 rw[ah hc] at h;obtain rfl:=au h;exact(X.anf A0 c0 l0 a1 w hr0 hc.1 hc.2).mono fun _ _ h=>⟨h.1,aG.below h.2⟩
end P
namespace X
theorem aol{t:List Int}(hn:b9 t 81=true){k:Int}(hk:bP k):Ev (fun n=>yj.f n t k) (od t k):=Ev.done (ah ⟨hn,hk⟩)
end X
namespace P
open Go.Proofs.YtiobedekgnfjcaaGreatDoorW.pK
mutual
def ff.l0:Nat→List (List Int)→Int→Option ((List (List Int)))
 |0,_,_=>none
 |k+1,x1,x2=>if x2<3 then(ff.l1 k x1 x2 (([]:List Int)) 0) else(some x1)
def ff.l1:Nat→List (List Int)→Int→List Int→Int→Option ((List (List Int)))
 |0,_,_,_,_=>none
 |k+1,x1,x2,x3,x4=>if x4<9 then((iR.f x4 x2).bind fun AQ=>(if x3.length<17592186044416 then(ff.l1 k x1 x2 (x3++[wrap64 ((wrap64 (9*x4))+AQ)]) (wrap64 (x4+1))) else none)) else(if x1.length<5864062014805 then(ff.l0 k (x1++[x3]) (wrap64 (x2+1))) else none)
end
def ff.f(k:Nat):Option ((List (List Int))):=ff.l0 k (([(([0,1,2,3,4,5,6,7,8]:List Int))]:List (List Int))) 0
theorem ff.lx:∀k,(∀y0 y1,a7 (ff.l0 k y0 y1) (ff.l0 (k+1) y0 y1))∧(∀y0 y1 y2 y3,a7 (ff.l1 k y0 y1 y2 y3) (ff.l1 (k+1) y0 y1 y2 y3))
 |0=>⟨fun _ _ r h=>by simp[ff.l0] at h,fun _ _ _ _ r h=>by simp[ff.l1] at h⟩
 |k+1=>by
  obtain⟨d7,ih1⟩:=ff.lx k;refine⟨?_,?_⟩
  ·intro y0 y1;unfold ff.l0;repeat' first
   |(with_reducible exact d7 _ _)
   |(with_reducible exact ih1 _ _ _ _)
   |(with_reducible exact a7.refl _)
   |(with_reducible exact a7.none _)
   |(with_reducible refine a7.ite ?_ ?_)
   |(with_reducible refine a7.bind ?_ (fun _=>?_))
   |exact d7 _ _
   |exact ih1 _ _ _ _
   |exact a7.none _
   |refine a7.ite ?_ ?_
   |refine a7.bind ?_ (fun _=>?_)
  ·intro y0 y1 y2 y3;unfold ff.l1;repeat' first
   |(with_reducible exact d7 _ _)
   |(with_reducible exact ih1 _ _ _ _)
   |(with_reducible exact a7.refl _)
   |(with_reducible exact a7.none _)
   |(with_reducible refine a7.ite ?_ ?_)
   |(with_reducible refine a7.bind ?_ (fun _=>?_))
   |exact d7 _ _
   |exact ih1 _ _ _ _
   |exact a7.none _
   |refine a7.ite ?_ ?_
   |refine a7.bind ?_ (fun _=>?_)
theorem ff.mono:∀k,a7 (ff.f k ) (ff.f (k+1) ):=by
 intro k;obtain⟨d7,ih1⟩:=ff.lx k;unfold ff.f
 repeat' first
   |(with_reducible exact d7 _ _)
   |(with_reducible exact ih1 _ _ _ _)
   |(with_reducible exact a7.refl _)
   |(with_reducible exact a7.none _)
   |(with_reducible refine a7.ite ?_ ?_)
   |(with_reducible refine a7.bind ?_ (fun _=>?_))
   |exact d7 _ _
   |exact ih1 _ _ _ _
   |exact a7.none _
   |refine a7.ite ?_ ?_
   |refine a7.bind ?_ (fun _=>?_)
theorem ff.calls(k:Nat)(r:List (List Int))(w:World)(h:ff.f k=some r):
  Calls Tryz.prog 184 #[] w fun e w'=> ∃bO:Value,e=.returned (bO)∧Kd.N (Kd.slice 3 (Kd.int .i64)) 31 w' w.heap.size (fun k_=>(w.heap.size≤k_)) bO r∧Below w.heap.size w w':=by
 have HB:=af.mk (Below.refl w.heap.size w);have H:=h;clear h;unfold ff.f at H;generalize Xk:((([0,1,2,3,4,5,6,7,8]:List Int)):List Int)=EB at H;have Xl:=af.mk Xk.symm;clear Xk;generalize Xm:((([EB]:List (List Int))):List (List Int))=aj2 at H;have Xn:=af.mk Xm.symm;clear Xm;have H':=af.mk H;clear H;go_enter Tryz.func184,Tryz.ntmps184;go_wp2_with (first|((with_reducible refine db (N:=5) rfl ?_);refine Kd.dV (Kd.int .i64) _ 3 ?hg (N:=5) ?hd (xs:=([0,1,2,3,4,5,6,7,8]:List Int)) (inner:=[.int .i64 0,.int .i64 1,.int .i64 2,.int .i64 3,.int .i64 4,.int .i64 5,.int .i64 6,.int .i64 7,.int .i64 8]) (ok:=fun _=>True) (bp:=fun _=>True) ?hr ?hp (fun _ hk=>hk) trivial (Below.refl _ _) (aH _) bn ?_;(case hd=>rfl);(case hg=>rfl);(case hr=>first|(go_simp;done)|(go_simp;rfl));(case hp=>exact(aE.one (show Kd.M (Kd.int .i64) _ _ _ 0 [.int .i64 0] from rfl) (aE.one (show Kd.M (Kd.int .i64) _ _ _ 1 [.int .i64 1] from rfl) (aE.one (show Kd.M (Kd.int .i64) _ _ _ 2 [.int .i64 2] from rfl) (aE.one (show Kd.M (Kd.int .i64) _ _ _ 3 [.int .i64 3] from rfl) (aE.one (show Kd.M (Kd.int .i64) _ _ _ 4 [.int .i64 4] from rfl) (aE.one (show Kd.M (Kd.int .i64) _ _ _ 5 [.int .i64 5] from rfl) (aE.one (show Kd.M (Kd.int .i64) _ _ _ 6 [.int .i64 6] from rfl) (aE.one (show Kd.M (Kd.int .i64) _ _ _ 7 [.int .i64 7] from rfl) (aE.one (show Kd.M (Kd.int .i64) _ _ _ 8 [.int .i64 8] from rfl) (aE.none _ _)))))))))));intro ass w1 uR hb bq br;clear bq br;(first|rw[←Xl.o] at uR|(simp only[Int.reduceToNat] at uR;rw[←Xl.o] at uR));have Iy:=af.mk (Kd.cv (Kd.ra (M:=fun k_=>(w.heap.size≤k_)) uR (aZ (ai HB)) (fun k_ h_=>h_)) (aZ (ai HB)));replace HB:=aM HB hb;clear hb uR;obtain⟨Xo,Xp,eo3⟩:=Kd.bJ Iy.o;subst eo3)|((with_reducible refine db (N:=6) rfl ?_);refine Kd.qW (Kd.slice 3 (Kd.int .i64)) _ 31 ?hg (N':=6) ?hd (xs:=([EB]:List (List Int))) (inner:=[.slice Xo EB.length Xp]) (ok:=(fun k_=>(w.heap.size≤k_))) (bp:=(fun k_=>(w.heap.size≤k_))) ?hr ?hp (fun _ hk=>hk) ((show ∀k_,w1.heap.size≤k_→(fun k_=>(w.heap.size≤k_)) k_ from fun k_ hk=>(Nat.le_trans (aZ (ai HB)) hk)) _ (aH _)) (Below.refl _ _) (aH _) bn ?_;(case hd=>rfl);(case hg=>rfl);(case hr=>first|(go_simp;done)|(go_simp;rfl));(case hp=>exact(aE.one (show Kd.FK (Kd.slice 3 (Kd.int .i64)) _ _ EB [.slice Xo EB.length Xp] from(Kd.qZ (Kd.bm (Kd.dq (ok':=(fun k_=>(w.heap.size≤k_))) (Iy.o) (fun k_ hk=>hk.1))).2.1 (Kd.Ch (Kd.dq (ok':=(fun k_=>(w.heap.size≤k_))) (Iy.o) (fun k_ hk=>hk.1))))) (aE.none _ _)));intro ast w4 dv hb bq br;clear bq br;(first|rw[←Xn.o] at dv|(simp only[Int.reduceToNat] at dv;rw[←Xn.o] at dv));have aj3:=af.mk (Kd.hO dv (aZ (ai HB)));replace HB:=aM HB hb;clear Iy;clear hb dv))
 go_loopg [1,2] k (fun kq v1 v2 w'=> ∃(mf:List (List Int)) (uS:Int),v2=.int .i64 uS∧af (ff.l0 kq mf uS=some r)∧af (kq≤k)∧af (Kd.N (Kd.slice 3 (Kd.int .i64)) 31 w' w.heap.size (fun k_=>(w.heap.size≤k_)) v1 mf)∧af (Below w.heap.size w w'))
 case atStart=>exact⟨(aj2),(0),ak,H',⟨aH _⟩,⟨bM aj3⟩,⟨ai HB⟩⟩
 case round=>
  clear H';obtain⟨mf,uS,rfl,HA,aC,bX,HB⟩:=hrel;cases gk with
  |zero=>exact absurd HA.o (by simp[ff.l0])
  |succ k1=>
   have H:=HA.o;clear HA;simp only[ff.l0] at H;by_cases c6:uS<3
   case neg=>
    rw[ag c6] at H;have dU:=aD c6;clear c6;obtain rfl:=au H;go_wp2;go_ret;exact⟨_,bE,bM bX,ai HB⟩
   rw[ah c6] at H;have dU:=ap c6;clear c6;generalize Xq:((([]:List Int)):List Int)=aj4 at H;have Xr:=af.mk Xq.symm;clear Xq;have H':=af.mk H;clear H;go_wp2_with (((with_reducible refine db (N:=11) rfl ?_);refine Kd.dV (Kd.int .i64) _ 3 ?hg (N:=11) ?hd (xs:=([]:List Int)) (inner:=[]) (ok:=fun _=>True) (bp:=fun _=>True) ?hr ?hp (fun _ hk=>hk) trivial (Below.refl _ _) (aH _) bn ?_;(case hd=>rfl);(case hg=>rfl);(case hr=>first|(go_simp;done)|(go_simp;rfl));(case hp=>exact(aE.none _ _));intro asu w7 fk hb bq br;clear bq br;(first|rw[←Xr.o] at fk|(simp only[Int.reduceToNat] at fk;rw[←Xr.o] at fk));replace bX:=af.mk (Kd.fY (bM bX) (Kd.kK fk) hb);have aj5:=af.mk (Kd.cv (Kd.ra (M:=fun k_=>(w.heap.size≤k_)) fk (aZ (ai HB)) (fun k_ h_=>h_)) (aZ (ai HB)));replace HB:=aM HB hb;clear hb fk))
   go_loopg [3,4] k1 (fun kq v3 v4 w'=> ∃(dP:List Int) (fK:Int),v4=.int .i64 fK∧af (ff.l1 kq mf uS dP fK=some r)∧af (kq≤k1)∧af (Kd.N (Kd.slice 3 (Kd.int .i64)) 31 w' w.heap.size (fun k_=>(w.heap.size≤k_)∧some k_≠(v3:Value).ownBlock) u1 mf)∧af (Kd.R (Kd.int .i64) 3 w' w.heap.size (fun k_=>(w.heap.size≤k_)) v3 dP)∧af (Below w.heap.size w w'))
   case atStart=>exact⟨(aj4),(0),ak,H',⟨aH _⟩,⟨bM bX⟩,⟨by(with_reducible repeat(first|apply Kd.iJ|apply Kd.iy|apply Kd.fU));exact Kd.dq aj5.o (fun _ hk=>hk.1)⟩,⟨ai HB⟩⟩
   case round=>
    clear H';obtain⟨dP,fK,rfl,HA,bw,bX,cy,HB⟩:=hrel;cases gk with
    |zero=>exact absurd HA.o (by simp[ff.l1])
    |succ k2=>
     have H:=HA.o;clear HA;simp only[ff.l1] at H;by_cases c9:fK<9
     case neg=>
      rw[ag c9] at H;have gU:=aD c9;clear c9;by_cases c13:mf.length<5864062014805
      case neg=>
       rw[ag c13] at H;cases H
      rw[ah c13] at H;have N7:=af.mk c13;clear c13;generalize Xs:((mf++[dP]):List (List Int))=aj6 at H;have aj7:=af.mk Xs.symm;clear Xs;have H':=af.mk H;clear H;obtain⟨aj8,aj9,aj_⟩:=Kd.bJ cy.o;subst aj_;go_wp2_with ((at_builtin;refine Kd.acD (Kd.slice 3 (Kd.int .i64)) (w0:=w) w.heap.size rfl (.tmp 25) (.tmp 27) 80 31 (.slice none 0 0) 24 rfl Tryz.underlying80 kL rfl ao ae u1 mf dP [.slice aj8 dP.length aj9] (fun k_=>(w.heap.size≤k_)) (fun k_=>((fun k_=>(w.heap.size≤k_))) k_∧some k_≠(u1:Value).ownBlock) rfl rfl ?aP (fun _ hk=>hk) ?aF ?aO ?aB ?aS ?aL ?_;(case aP=>exact(Kd.qZ (Kd.bm (Kd.dq (ok':=(fun k_=>((fun k_=>(w.heap.size≤k_))) k_∧some k_≠(u1:Value).ownBlock)) (Kd.jo (cy.o) (Kd.jt bX.o) ao) (fun k_ hk=>⟨hk.1,hk.2⟩))).2.1 (Kd.Ch (Kd.dq (ok':=(fun k_=>((fun k_=>(w.heap.size≤k_))) k_∧some k_≠(u1:Value).ownBlock)) (Kd.jo (cy.o) (Kd.jt bX.o) ao) (fun k_ hk=>⟨hk.1,hk.2⟩)))));(case aB=>exact(ai HB));(case aF=>exact(fun k_ hk=>(Nat.le_trans (aZ (ai HB)) hk)));(case aO=>exact(by(with_reducible repeat(first|apply Kd.tM|apply Kd.tN|apply Kd.tO));exact Kd.kP bX.o (fun _ hk=>hk.1)));(case aS=>exact(aZ (ai HB)));(case aL=>have:=N7.o;omega);intro asv ju ho hb hg hat;rw[←aj7.o] at ho;replace HB:=af.mk (hb);have akb:=af.mk (ho);clear bX cy;clear ho hb hg hat))
      go_roundg k2
      case measure=>have:=aC.o;have:=bw.o;omega
      case rel=>exact⟨(aj6),(wrap64 (uS+1)),ak,H',⟨by have:=aC.o;have:=bw.o;omega⟩,⟨bM akb⟩,⟨ai HB⟩⟩
     rw[ah c9] at H;have gU:=ap c9;clear c9;replace H:=aA.mp H;obtain⟨AQ,uE,H⟩:=H;have mc:=af.mk uE;clear uE;by_cases c11:dP.length<17592186044416
     case neg=>
      rw[ag c11] at H;cases H
     rw[ah c11] at H;have akc:=af.mk c11;clear c11;generalize Xt:((dP++[wrap64 ((wrap64 (9*fK))+AQ)]):List Int)=akd at H;have ake:=af.mk Xt.symm;clear Xt;have H':=af.mk H;clear H;go_wp2_with (first|(refine cx 21 Tryz.func98 #[.int .i64 fK,.int .i64 uS] (iR.calls fK uS AQ _ mc.o) fun nd=>?_)|(at_builtin;refine Kd.jW (Kd.int .i64) (w0:=w) w.heap.size rfl (.tmp 16) (.tmp 23) 31 3 (.int .i64 0) 8 rfl Tryz.underlying31 info3 rfl ao ae u3 dP (wrap64 ((wrap64 (9*fK))+AQ)) [.int .i64 (wrap64 ((wrap64 (9*fK))+AQ))] (fun k_=>(w.heap.size≤k_)) (fun _=>False) rfl rfl ?aP (fun _ hk=>hk.elim) ?aF ?aO ?aB ?aS ?aL ?_;(case aP=>exact rfl);(case aB=>exact(ai HB));(case aF=>exact(fun k_ hk=>(Nat.le_trans (aZ (ai HB)) hk)));(case aO=>exact(aX cy));(case aS=>exact(aZ (ai HB)));(case aL=>have:=akc.o;omega);intro asw sS ho hb hg hat;rw[←ake.o] at ho;replace bX:=af.mk (Kd.nw (ok:=(fun k_=>(w.heap.size≤k_))) (bM bX) hg hat);replace HB:=af.mk (hb);have akf:=af.mk (ho);clear cy;clear ho hb hg hat))
     go_roundg k2
     case measure=>have:=aC.o;have:=bw.o;omega
     case rel=>exact⟨(akd),(wrap64 (fK+1)),ak,H',⟨by have:=aC.o;have:=bw.o;omega⟩,⟨bM bX⟩,⟨aX akf⟩,⟨ai HB⟩⟩
def xZ.f(k:Nat)(l0:List Int):Option (List Int):=(As.f (IntKind.u64.wrap ((l0.length:Int)))).bind fun E7=>((AY.f k l0 0 (l0.length:Int) E7).bind fun PI=>(some PI))
theorem xZ.calls(k:Nat)(aI:Nat→Prop)(gK:Value)(l0:List Int)(r:List Int)(w0 w:World)(hB:Below w0.heap.size w0 w)(ho0:Kd.R (Kd.int .i64) 3 w w0.heap.size aI gK l0)(h:xZ.f k l0=some r):
  Calls Tryz.prog 152 #[gK] w fun e w'=>e=.returned (.tuple #[])∧Kd.R (Kd.int .i64) 3 w' w0.heap.size (fun k_=>(aI k_∨w.heap.size≤k_)) gK r∧Below w0.heap.size w0 w'∧Kept w w' (fun k_=>aI k_):=by
 have jD:=af.mk (show Kd.R (Kd.int .i64) 3 w w0.heap.size (fun k_=>(aI k_∨w.heap.size≤k_)) gK l0 from Kd.dq ho0 (fun k_ hk=>(.inl hk)));have HK:=af.mk (Kept.refl w (fun k_=>aI k_));have ut:=af.mk hB.size;have HB:=af.mk hB;clear hB;have H:=h;clear h;unfold xZ.f at H;replace H:=aA.mp H;obtain⟨E7,cW,H⟩:=H;have A2:=af.mk cW;clear cW;replace H:=aA.mp H;obtain⟨PI,bW,H⟩:=H;have A3:=af.mk bW;clear bW;obtain rfl:=au H;obtain⟨PJ,PK,eo4⟩:=Kd.bJ jD.o;subst eo4;go_enter Tryz.func152,Tryz.ntmps152;go_wp2_with (first|(refine cx 9 Tryz.func208 #[.int .u64 (IntKind.u64.wrap ((l0.length:Int)))] (As.calls (IntKind.u64.wrap ((l0.length:Int))) E7 _ A2.o) fun nd=>?_)|(refine aY 10 Tryz.func214 #[.slice PJ l0.length PK,.int .i64 0,.int .i64 (l0.length:Int),.int .i64 E7] ?_;(with_reducible refine(AY.calls k (fun k_=>some k_=(.slice PJ l0.length PK:Value).ownBlock) (.slice PJ l0.length PK) l0 0 (l0.length:Int) E7 PI w0 _ ?bz ?bB A3.o).mono ?_);(case bz=>repeat(first|(with_reducible first|exact HB.o|apply cS|apply bb|apply bR)|exact HB.o));(case bB=>exact Kd.tL rfl jD.o);rintro e w5 ⟨rfl,hy0,hb,hkp⟩;refine⟨_,rfl,?_⟩;replace HK:=af.mk (Kept.then_ (S:=(fun k_=>aI k_)) (by repeat(first|(with_reducible first|exact HK.o|apply Kept.alloc|apply Kept.drewN|apply Kept.drew)|exact HK.o)) hkp (fun k_ hs_=>(fun e_=>(jD.o.1 k_ e_.symm)) hs_));replace jD:=af.mk (Kd.SA rfl hy0 (fun k_ e_=>jD.o.1 k_ e_));replace HB:=af.mk (hb)))
 first|go_end0|((try simp only[Exit.inBlock,Exit.then]);refine bodyPost_ret (results_none rfl _ _ _) rfl ?_)
 exact⟨bE,aX jD,ai HB,by repeat(first|(with_reducible first|exact HK.o|apply Kept.alloc|apply Kept.drewN|apply Kept.drew)|exact HK.o)⟩
end P
namespace X
theorem X4(x y:Int):tp.f x y=some (decide (x<y)):=by
 unfold tp.f gY.f;simp
theorem alw:∀a b:List Int,a.Pairwise (·<·)→b.Pairwise (·<·)→(∀x,x∈a↔x∈b)→a=b:=by
 intro a
 induction a with
 |nil=>
  intro b _ _ h;cases b with
  |nil=>rfl
  |cons y b=>exact absurd ((h y).2 List.mem_cons_self) bn
 |cons x a ih=>
  intro b ha hb h;cases b with
  |nil=>exact absurd ((h x).1 List.mem_cons_self) bn
  |cons y b=>
   have ha:=List.pairwise_cons.1 ha;have hb:=List.pairwise_cons.1 hb
   have e:x=y:=by
    rcases List.mem_cons.1 ((h x).1 List.mem_cons_self) with e|e
    ·exact e
    ·rcases List.mem_cons.1 ((h y).2 List.mem_cons_self) with e2|e2
     ·exact e2.symm
     ·have:=hb.1 x e;have:=ha.1 y e2;omega
   subst e;rw[ih b ha.2 hb.2 fun z=>⟨fun hz=>?_,fun hz=>?_⟩]
   ·rcases List.mem_cons.1 ((h z).1 (List.mem_cons_of_mem _ hz)) with e|e
    ·have:=ha.1 z hz;omega
    ·exact e
   ·rcases List.mem_cons.1 ((h z).2 (List.mem_cons_of_mem _ hz)) with e|e
    ·have:=hb.1 z hz;omega
    ·exact e
def oE(j a:Int):Int:=if a=j then j - 1 else if a=j - 1 then j else a
def ya(l:List Int)(j:Int):List Int:=(l.set j.toNat (rd l (j - 1))).set (j - 1).toNat (rd l j)
theorem X5{l:List Int}{i j v:Int}(i0:0≤i)(i1:i<l.length)(j0:0≤j):rd (l.set i.toNat v) j=if j=i then v else rd l j:=by
 unfold rd;rw[List.getD_eq_getElem?_getD,List.getD_eq_getElem?_getD,List.getElem?_set];by_cases e:j=i
 ·rw[ah e,ah ae,ah ae];rfl
 ·rw[ag e,ag ae]
theorem E8{l:List Int}{j:Int}(j0:0<j)(j1:j<l.length){a:Int}(a0:0≤a):rd (ya l j) a=rd l (oE j a):=by
 unfold ya oE;rw[X5 ae (by rw[List.length_set];omega) a0,X5 ae j1 a0];by_cases e1:a=j - 1
 ·rw[ah e1,ag ae,ah e1]
 ·by_cases e2:a=j
  ·rw[ag e1,ah e2,ah e2]
  ·rw[ag e1,ag e2,ag e2,ag e1]
theorem IV(l:List Int)(j:Int):(ya l j).length=l.length:=by unfold ya;rw[List.length_set,List.length_set]
theorem X6{l:List Int}{v:Int}:v∈l↔ ∃i:Int,0≤i∧i<l.length∧rd l i=v:=by
 constructor
 ·intro h;obtain⟨i,hi,e⟩:=List.mem_iff_getElem.1 h;exact⟨i,ae,ae,by rw[jY l i hi,e]⟩
 ·rintro⟨i,i0,i1,e⟩;rw[←e];exact iK i1 i0
theorem alx{l:List Int}{j:Int}(j0:0<j)(j1:j<l.length){v:Int}:v∈ya l j↔v∈l:=by
 rw[X6,X6];have rng:∀a:Int,0≤a→a<l.length→0≤oE j a∧oE j a<l.length:=fun a a0 a1=>by unfold oE;split<;>(try split)<;>omega
 have inv:∀a:Int,oE j (oE j a)=a:=fun a=>by unfold oE;split<;>(try split)<;>(try split)<;>omega
 constructor
 ·rintro⟨a,a0,a1,e⟩;rw[IV] at a1;rw[E8 j0 j1 a0] at e;exact⟨oE j a,(rng a a0 a1).1,(rng a a0 a1).2,e⟩
 ·rintro⟨a,a0,a1,e⟩;refine⟨oE j a,(rng a a0 a1).1,by rw[IV];exact(rng a a0 a1).2,?_⟩;rw[E8 j0 j1 (rng a a0 a1).1,inv];exact e
def AZ(l:List Int):Prop:=∀a b:Int,0≤a→a<l.length→0≤b→b<l.length→a≠b→rd l a≠rd l b
theorem aly{l:List Int}(h:AZ l){j:Int}(j0:0<j)(j1:j<l.length):AZ (ya l j):=by
 intro a b a0 a1 b0 b1 hne;rw[IV] at a1 b1;rw[E8 j0 j1 a0,E8 j0 j1 b0];refine h _ _ ?_ ?_ ?_ ?_ ?_<;>(unfold oE;split<;>(try split)<;>(try split)<;>(try split)<;>omega)
def alz(l:List Int)(i j:Int):Prop:=(∀a b:Int,0≤a→a<b→b≤i→a≠j→b≠j→rd l a<rd l b)∧∀b:Int,j<b→b≤i→rd l j<rd l b
def IW(l r:List Int):Prop:=r.length=l.length∧(∀v,v∈r↔v∈l)∧r.Pairwise (·<·)
theorem alA{l0:List Int}{n:Int}(hn:n≤1000){i:Int}(i0:0≤i)(i1:i<n)(hr:∀l:List Int,(l.length:Int)=n→(∀v,v∈l↔v∈l0)→AZ l→(∀a b:Int,0≤a→a<b→b≤i→rd l a<rd l b)→∃r,IW l0 r∧Ev (fun k=>dL.l0 k l 0 n (i+1)) r)(d:Nat):
  ∀(j:Int) (l:List Int),j=d→j≤i→(l.length:Int)=n→(∀v,v∈l↔v∈l0)→AZ l→alz l i j→∃r,IW l0 r∧Ev (fun k=>dL.l1 k l 0 n i j) r:=by
 induction d with
 |zero=>
  intro j l hj ji hl hm hd hN;have hj:j=0:=hj;subst hj
  obtain⟨r,h1,h2⟩:=hr l hl hm hd fun a b a0 ab b1=>by
   by_cases e:a=0
   ·subst e;exact hN.2 b ae b1
   ·exact hN.1 a b a0 ab b1 e ae
  refine⟨r,h1,?_⟩;refine Ev.step (fun k=>by rw[dL.l1]) ?_;rw[bI (x:=i+1) ae ae];exact Ev.neg ae h2
 |succ d ih=>
  intro j l hj ji hl hm hd hN;have e1:wrap64 (j - 1)=j - 1:=bI ae ae;have e2:wrap64 (i+1)=i+1:=bI ae ae;by_cases hc:rd l j<rd l (j - 1)
  ·have hlen:=IV l j;have R:=fun(a:Int) (a0:0≤a)=>E8 (l:=l) (j:=j) ae ae a0
   obtain⟨r,h1,h2⟩:=ih (j - 1) (ya l j) ae ae (by rw[hlen];exact hl) (fun v=>(alx ae ae).trans (hm v)) (aly hd ae ae) ⟨fun a b a0 ab b1 na nb=>by
     rw[R a a0,R b ae];unfold oE;by_cases ea:a=j
     ·rw[ah ea,ag ae,ag nb];exact hN.1 (j - 1) b ae ae b1 ae ae
     ·rw[ag ea,ag na];by_cases eb:b=j
      ·rw[ah eb];exact hN.1 a (j - 1) a0 ae ae ea ae
      ·rw[ag eb,ag nb];exact hN.1 a b a0 ab b1 ea eb,fun b jb b1=>by
     rw[R (j - 1) ae,R b ae];unfold oE;rw[ag ae,ah rfl];by_cases eb:b=j
     ·rw[ah eb];exact hc
     ·rw[ag eb,ag ae];exact hN.2 b ae b1⟩
   refine⟨r,h1,?_⟩;refine Ev.step (fun k=>by rw[dL.l1]) ?_;rw[e1,e2,X4];exact Ev.pos ae (Ev.pos ae (Ev.pos ae (Ev.pos ae (Ev.pos ae (Ev.fix rfl (Ev.pos (ap hc) h2))))))
  ·have hlt:rd l (j - 1)<rd l j:=by
    have:=hd (j - 1) j ae ae ae ae ae;omega
   obtain⟨r,h1,h2⟩:=hr l hl hm hd fun a b a0 ab b1=>by
    by_cases ea:a=j
    ·subst ea;exact hN.2 b ab b1
    ·by_cases eb:b=j
     ·subst eb;by_cases e:a=b - 1
      ·rw[e];exact hlt
      ·have:=hN.1 a (b - 1) a0 ae ae ea ae;omega
     ·exact hN.1 a b a0 ab b1 ea eb
   refine⟨r,h1,?_⟩;refine Ev.step (fun k=>by rw[dL.l1]) ?_;rw[e1,e2,X4];exact Ev.pos ae (Ev.pos ae (Ev.pos ae (Ev.pos ae (Ev.pos ae (Ev.fix rfl (Ev.neg (by simpa using hc) h2))))))
theorem alB{l0:List Int}{n:Int}(hn:n≤1000)(d:Nat):∀(i:Int) (l:List Int),1≤i→i+d=n→(l.length:Int)=n→(∀v,v∈l↔v∈l0)→AZ l→(∀a b:Int,0≤a→a<b→b<i→rd l a<rd l b)→(l0.length:Int)=n→∃r,IW l0 r∧Ev (fun k=>dL.l0 k l 0 n i) r:=by
 induction d with
 |zero=>
  intro i l i0 hi hl hm hd ha h0;refine⟨l,⟨ae,hm,List.pairwise_iff_getElem.2 fun a b h1 h2 hab=>?_⟩,?_⟩
  ·have:=ha (a:Int) (b:Int) ae ae ae
   rwa [jY l a h1,jY l b h2] at this
  ·refine Ev.step (fun k=>by rw[dL.l0]) ?_;exact Ev.neg ae (Ev.done rfl)
 |succ d ih=>
  intro i l i0 hi hl hm hd ha h0
  obtain⟨r,h1,h2⟩:=alA (l0:=l0) hn (i:=i) ae ae (fun l hl hm hd ha=>ih (i+1) l ae ae hl hm hd (fun a b a0 ab b1=>ha a b a0 ab ae) h0) i.toNat i l ae ae hl hm hd
   ⟨fun a b a0 ab b1 na nb=>ha a b a0 ab ae,fun b ib b1=>ae⟩
  refine⟨r,h1,?_⟩;refine Ev.step (fun k=>by rw[dL.l0]) ?_;exact Ev.pos ae h2
theorem alC{l:List Int}(h9:l.length=9)(hd:l.Nodup):∃r,IW l r∧Ev (fun k=>xZ.f k l) r:=by
 have hD:AZ l:=fun a b a0 a1 b0 b1 hne e=>by
  rw[oS a0 a1,oS b0 b1] at e;have:=(List.getElem_inj hd).1 e;omega
 obtain⟨r,h1,h2⟩:=alB (l0:=l) (n:=9) ae 8 1 l ae ae ae (fun v=>Iff.rfl) hD (fun a b a0 ab b1=>ae) ae;refine⟨r,h1,?_⟩;unfold xZ.f;rw[show(l.length:Int)=9 by omega];refine Ev.fix (a:=4) (by unfold As.f;rw[show IntKind.u64.wrap 9=9 by decide];rfl) ?_;refine Ev.bind (a:=r) ?_ (Ev.done rfl);unfold AY.f;refine Ev.pos ae ?_;unfold dL.f;rw[show wrap64 (0+1)=1 from bI ae ae];exact h2
end X
namespace P
def lg.l0:Nat→List Int→List Int→Int→Option (List Int×Bool)
 |0,_,_,_=>none
 |k+1,x0,x4,x5=>if x5<9 then((yj.f k x0 x5).bind fun Qo=>(if Qo=true then(if x4.length<17592186044416 then(lg.l0 k x0 (x4++[x5]) (wrap64 (x5+1))) else none) else(lg.l0 k x0 x4 (wrap64 (x5+1))))) else(some (x4,true))
def lg.f(k:Nat)(l0:List Int):Option (List Int×Bool):=(some (([]:List Int):List Int)).bind fun Jj=>((cu.f k l0).bind fun Qp=>(if Qp=true then(lg.l0 k l0 Jj 0) else(some (Jj,false))))
theorem lg.calls(k:Nat)(A0:Option Addr)(c0:Nat)(l0:List Int)(r1:List Int)(r2:Bool)(w:World)(hr0:Kd.C (Kd.int .i64) w A0 l0.length l0)(hc0:l0.length≤c0)(h:lg.f k l0=some (r1,r2)):
  Calls Tryz.prog 101 #[.slice A0 l0.length c0] w fun e w'=> ∃bO:Value,e=.returned (.tuple #[bO,.bool r2])∧Kd.R (Kd.int .i64) 3 w' w.heap.size (fun _=>True) bO r1∧Below w.heap.size w w':=by
 have aj:=af.mk hr0;have ax:=af.mk hc0;clear hr0 hc0;have HB:=af.mk (Below.refl w.heap.size w);have H:=h;clear h;unfold lg.f at H;replace H:=lw H;obtain⟨Jj,Jk,H⟩:=H;replace H:=aA.mp H;obtain⟨Qp,cW,H⟩:=H;have A2:=af.mk cW;clear cW;by_cases c3:Qp=true
 case neg=>
  replace c3:=bU c3;subst c3;rw[ag bV] at H;simp only[Option.some.injEq,Prod.mk.injEq] at H;obtain⟨rfl,rfl⟩:=H;go_enter Tryz.func101,Tryz.ntmps101;go_wp2_with (first|((with_reducible refine db (N:=6) rfl ?_);refine Kd.dV (Kd.int .i64) _ 3 ?hg (N:=6) ?hd (xs:=([]:List Int)) (inner:=[]) (ok:=fun _=>True) (bp:=fun _=>True) ?hr ?hp (fun _ hk=>hk) trivial (Below.refl _ _) (aH _) bn ?_;(case hd=>rfl);(case hg=>rfl);(case hr=>first|(go_simp;done)|(go_simp;rfl));(case hp=>exact(aE.none _ _));intro ang ju lQ hb bq br;clear bq br;(first|rw[←Jk.o] at lQ|(simp only[Int.reduceToNat] at lQ;rw[←Jk.o] at lQ));have yk:=af.mk (Kd.cv lQ (aZ (ai HB)));replace HB:=aM HB hb;clear hb lQ)|(refine aY 8 Tryz.func118 #[.slice A0 l0.length c0] ?_;(with_reducible refine(cu.calls k _ _ l0 false _ ?_ ?_ A2.o).mono ?_);exact cG aj HB;exact ax.o;rintro e t_ ⟨rfl,hb⟩;refine⟨_,rfl,?_⟩;replace yk:=af.mk (Kd.dB (aX yk) hb);replace HB:=aM HB hb))
  go_ret2
  exact⟨_,bE,aX yk,ai HB⟩
 subst c3;rw[ah rfl] at H;have H':=af.mk H;clear H;go_enter Tryz.func101,Tryz.ntmps101;go_wp2_with (first|((with_reducible refine db (N:=6) rfl ?_);refine Kd.dV (Kd.int .i64) _ 3 ?hg (N:=6) ?hd (xs:=([]:List Int)) (inner:=[]) (ok:=fun _=>True) (bp:=fun _=>True) ?hr ?hp (fun _ hk=>hk) trivial (Below.refl _ _) (aH _) bn ?_;(case hd=>rfl);(case hg=>rfl);(case hr=>first|(go_simp;done)|(go_simp;rfl));(case hp=>exact(aE.none _ _));intro ang w4 dv hb bq br;clear bq br;(first|rw[←Jk.o] at dv|(simp only[Int.reduceToNat] at dv;rw[←Jk.o] at dv));have yk:=af.mk (Kd.cv dv (aZ (ai HB)));replace HB:=aM HB hb;clear hb dv)|(refine aY 8 Tryz.func118 #[.slice A0 l0.length c0] ?_;(with_reducible refine(cu.calls k _ _ l0 true _ ?_ ?_ A2.o).mono ?_);exact cG aj HB;exact ax.o;rintro e w6 ⟨rfl,hb⟩;refine⟨_,rfl,?_⟩;replace yk:=af.mk (Kd.dB (aX yk) hb);replace HB:=aM HB hb))
 go_loopg [4,5] k (fun kq v4 v5 w'=> ∃(bx:List Int) (aw:Int),v5=.int .i64 aw∧af (lg.l0 kq l0 bx aw=some (r1,r2))∧af (kq≤k)∧af (Kd.R (Kd.int .i64) 3 w' w.heap.size (fun _=>True) v4 bx)∧af (Below w.heap.size w w'))
 case atStart=>exact⟨(Jj),(0),ak,H',⟨aH _⟩,⟨aX yk⟩,⟨ai HB⟩⟩
 case round=>
  clear H';obtain⟨bx,aw,rfl,HA,aC,cE,HB⟩:=hrel;cases gk with
  |zero=>exact absurd HA.o (by simp[lg.l0])
  |succ k1=>
   have H:=HA.o;clear HA;simp only[lg.l0] at H;by_cases c7:aw<9
   case neg=>
    rw[ag c7] at H;have eN:=aD c7;clear c7;simp only[Option.some.injEq,Prod.mk.injEq] at H;obtain⟨rfl,rfl⟩:=H;go_wp2;go_ret2
    exact⟨_,bE,aX cE,ai HB⟩
   rw[ah c7] at H;have eN:=ap c7;clear c7;replace H:=aA.mp H;obtain⟨Qo,eG,H⟩:=H;have A8:=af.mk eG;clear eG;by_cases c9:Qo=true
   case neg=>
    replace c9:=bU c9;subst c9;rw[ag bV] at H;have H':=af.mk H;clear H;go_wp2_with ((refine aY 17 Tryz.func171 #[.slice A0 l0.length c0,.int .i64 aw] ?_;(with_reducible refine(yj.calls k1 _ _ l0 aw false _ ?_ ?_ A8.o).mono ?_);exact cG aj HB;exact ax.o;rintro e rk ⟨rfl,hb⟩;refine⟨_,rfl,?_⟩;replace cE:=af.mk (Kd.dB (aX cE) hb);replace HB:=aM HB hb))
    go_roundg k1
    case measure=>have:=aC.o;omega
    case rel=>exact⟨(bx),(wrap64 (aw+1)),ak,H',⟨by have:=aC.o;omega⟩,⟨aX cE⟩,⟨ai HB⟩⟩
   subst c9;rw[ah rfl] at H;by_cases c10:bx.length<17592186044416
   case neg=>
    rw[ag c10] at H;cases H
   rw[ah c10] at H;have wg:=af.mk c10;clear c10;generalize YZ:((bx++[aw]):List Int)=anh at H;have ani:=af.mk YZ.symm;clear YZ;have H':=af.mk H;clear H;go_wp2_with (first|(refine aY 17 Tryz.func171 #[.slice A0 l0.length c0,.int .i64 aw] ?_;(with_reducible refine(yj.calls k1 _ _ l0 aw true _ ?_ ?_ A8.o).mono ?_);exact cG aj HB;exact ax.o;rintro e mG ⟨rfl,hb⟩;refine⟨_,rfl,?_⟩;replace cE:=af.mk (Kd.dB (aX cE) hb);replace HB:=aM HB hb)|(at_builtin;refine Kd.jW (Kd.int .i64) (w0:=w) w.heap.size rfl (.tmp 18) (.tmp 20) 31 3 (.int .i64 0) 8 rfl Tryz.underlying31 info3 rfl ao ae u4 bx aw [.int .i64 aw] (fun _=>True) (fun _=>False) rfl rfl ?aP (fun _ hk=>hk.elim) ?aF ?aO ?aB ?aS ?aL ?_;(case aP=>exact rfl);(case aB=>exact(ai HB));(case aF=>exact(fun _ _=>trivial));(case aO=>exact(aX cE));(case aS=>exact(aZ (ai HB)));(case aL=>have:=wg.o;omega);intro as7 sS ho hb hg hat;rw[←ani.o] at ho;replace HB:=af.mk (hb);have anj:=af.mk (ho);clear cE;clear ho hb hg hat))
   go_roundg k1
   case measure=>have:=aC.o;omega
   case rel=>exact⟨(anh),(wrap64 (aw+1)),ak,H',⟨by have:=aC.o;omega⟩,⟨aX anj⟩,⟨ai HB⟩⟩
end P
end Go.Proofs.YtiobedekgnfjcaaGreatDoor
