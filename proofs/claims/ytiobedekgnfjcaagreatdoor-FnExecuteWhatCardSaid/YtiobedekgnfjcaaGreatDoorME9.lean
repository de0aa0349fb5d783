/- What both Executes come to: contracts and plain laws, for the laws on Execute. No conditions. (Part 10 of 28.) -/
import Derived.Test.YtiobedekgnfjcaaGreatDoorME3
import Derived.Test.YtiobedekgnfjcaaGreatDoorME4
import Derived.Test.YtiobedekgnfjcaaGreatDoorME5
import Derived.Test.YtiobedekgnfjcaaGreatDoorME6
set_option linter.unusedVariables false
set_option linter.unusedSimpArgs false
set_option maxHeartbeats 8000000
set_option maxRecDepth 100000
namespace Go.Proofs.YtiobedekgnfjcaaGreatDoorW.pK
open Go.RowKit Go.Proofs.YtiobedekgnfjcaaGreatDoorW.aq
namespace Kd
open Go.Proofs.YtiobedekgnfjcaaGreatDoorW.aq.Kd
end Kd
namespace Kd
open Go.Proofs.YtiobedekgnfjcaaGreatDoorW.aq.Kd
section
variable {α:Type} {d:Kd α} {e base g N:Nat} {ok:Nat→Prop} {W w1:World} {u v:Value} {xs:List α}
end
end Kd
end Go.Proofs.YtiobedekgnfjcaaGreatDoorW.pK
namespace Go.Proofs.YtiobedekgnfjcaaGreatDoorW.aq
open Go.RowKit
section
variable {P:Program} {ops:Array Oper} {rest:List Oper} {o:Oper} {a:Act} {Q:Exit→Act→World→Prop} {W:World}
end
namespace Kd
section
variable {α:Type} {d:Kd α} {e base:Nat} {ok:Nat→Prop} {W w1:World} {v:Value} {xs:List α}
end
section
variable {α:Type} {d:Kd α} {e base g n cap:Nat} {ok B5 bp:Nat→Prop} {W:World} {xs:List α} {i:Int} {c:List Value}
end
section
variable {α:Type} {d:Kd α} {e base b b' g N:Nat} {ok ok1:Nat→Prop} {W W2 w1:World} {u v:Value} {xs ys:List α} {S:Nat→Prop}
theorem SA(hE:d.E=[])(h:d.R e W base ok1 v xs)(hok:∀k,v.ownBlock=some k→ok k):d.R e W base ok v xs:=dq (tL hE h) (fun k hk=>hok k hk.symm)
end
end Kd
end Go.Proofs.YtiobedekgnfjcaaGreatDoorW.aq
namespace Go.Proofs.YtiobedekgnfjcaaGreatDoorW.aq
open Go.RowKit
namespace Kd
def V{α:Type}(d:Kd α)(_e:Nat)(W:World)(_base:Nat)(ok:Nat→Prop)(v:Value)(xs:List α):Prop:=∃A c,v=.slice A xs.length c∧xs.length≤c∧F d W ok A xs.length xs
section
variable {α β:Type} {d:Kd α} {e base base' n m c g N' lo hi:Nat} {ok ok' S:Nat→Prop} {w W w1:World} {A:Option Addr} {ad:Addr} {u v v1:Value} {xs:List α}
theorem zz(h:V d e W base ok v xs)(hF:∀A,F d W ok A xs.length xs→F d w1 ok' A xs.length xs):V d e w1 base' ok' v xs:=by
 obtain⟨A,c,hv,hl,hf⟩:=h;exact⟨A,c,hv,hl,hF A hf⟩
theorem vO(hl:xs.length≤c)(hf:F d W ok A xs.length xs):V d e W base ok (.slice A xs.length c) xs:=⟨A,c,rfl,hl,hf⟩
theorem tR(h:V d e W base ok (.slice A n c) xs):n=xs.length∧n≤c∧F d W ok A xs.length xs:=by
 obtain⟨A',c',hv,hl,hf⟩:=h;injection hv with ha hn hc
 subst ha;subst hc;exact⟨hn,by rw[hn];exact hl,hf⟩
theorem kQ(h:V d e W base ok (.slice A n c) xs):n=xs.length∧n≤c∧d.C W A xs.length xs:=⟨(tR h).1,(tR h).2.1,J9 (tR h).2.2⟩
theorem mA(h:V d e W base ok (.slice A n c) xs):F d W ok A n xs:=by
 obtain⟨hn,_,hf⟩:=tR h;rw[hn];exact hf
theorem qY(d:Kd α)(e:Nat)(W:World)(base:Nat)(ok:Nat→Prop):V d e W base ok (.slice none 0 0) []:=⟨none,0,rfl,Nat.le_refl _,acr d W ok⟩
theorem Ci(h:d.R e W base ok v xs):V d e W base' ok v xs:=by
 obtain⟨A,c,rfl⟩:=bJ h;exact⟨A,c,rfl,(bm h).2.1,Ch h⟩
theorem Cj(h:N d e W base ok v xs):V d e W base' ok v xs:=by
 obtain⟨A,c,rfl⟩:=nu h;exact⟨A,c,rfl,(vN h).2.1,Ki h⟩
theorem cK(h:V d e W base ok v xs)(hok:∀k,ok k→ok' k):V d e W base ok' v xs:=zz h (fun _ hf=>J_ hf hok)
theorem dX(h:V d e W base ok v xs)(o:Obj):V d e (W.alloc o) base ok v xs:=zz h (fun _ hf=>aco hf o)
theorem dJ(h:V d e W base ok v xs):V d e W.drew base ok v xs:=zz h (fun _ hf=>acp hf)
theorem dY(h:V d e W base ok v xs)(m:Nat):V d e (W.drewN m) base ok v xs:=zz h (fun _ hf=>acq hf m)
theorem acE(h:V d e W base (fun k=>ok k∧some k≠u.ownBlock) v xs)(hg:W.grownBy w1 u.ownBlock)(hat:v1.ownBlock=u.ownBlock∨∃b,v1.ownBlock=some b∧W.heap.size≤b):V d e w1 base (fun k=>ok k∧some k≠v1.ownBlock) v xs:=zz h (fun _ hf=>acu hf hg hat)
theorem d8(h:V d e W base (fun k=>ok k∧some k≠v.ownBlock) u xs)(hg:W.grownBy w1 v.ownBlock)(hat:v1.ownBlock=v.ownBlock∨∃b,v1.ownBlock=some b∧W.heap.size≤b):V d e w1 base (fun k=>ok k∧some k≠v1.ownBlock) u xs:=acE h hg hat
theorem nw(h:N d e W base (fun k=>ok k∧some k≠v.ownBlock) u xs)(hg:W.grownBy w1 v.ownBlock)(hat:v1.ownBlock=v.ownBlock∨∃b,v1.ownBlock=some b∧W.heap.size≤b):N d e w1 base (fun k=>ok k∧some k≠v1.ownBlock) u xs:=acy h hg hat
theorem d9(h:V d e W base ok v xs)(hbase:∀k,u.ownBlock=some k→W.heap.size≤k)(hb:Below W.heap.size W w1):V d e w1 base (fun k=>ok k∧some k≠u.ownBlock) v xs:=zz h (fun _ hf=>acs hf hbase hb)
theorem SB(h:V d e W base ok (.slice (some ad) n c) xs)(z:α)(i:Int)(h0:0≤i)(h1:i<n):
  ∃cs,cs.length=d.sz∧FK d W ok (xs.getD i.toNat z) cs∧∀j u,cs[j]?=some u→W.cell? (ad.add (i.toNat*d.sz+j))=some u:=by
 obtain⟨kp,cs,he,hcl,hK,hcc,_⟩:=Sr (mA h) z i h0 h1;injection he with he
 subst he;exact⟨cs,hcl,hK,hcc⟩
theorem SC(h:F d W ok A xs.length xs)(hm:m≤xs.length):F d W ok A (xs.take m).length (xs.take m):=Sp h (fun _ hC=>aaX hC hm)
theorem SD(h:F d W ok A xs.length xs)(hm:m≤xs.length)(hc:xs.length≤c):F d W ok (if c=m then A else A.map (·.add (m*d.sz))) (xs.drop m).length (xs.drop m):=Sp h (fun _ hC=>aaY hC hm hc)
theorem Kj{l:List α}{cs:List Value}(h:FK (Kd.slice e d) W ok l cs):∃A c,cs=[.slice A l.length c]∧l.length≤c∧F d W ok A l.length l:=by
 obtain⟨A,c,rfl,hl,_⟩:=pJ h;refine⟨A,c,rfl,hl,fun W' hW=>?_⟩;obtain⟨A',c',he,_,g'⟩:=h W' hW;injection he with he _
 injection he with ha _ _
 rw[ha];exact g'
theorem qZ{l:List α}(hl:l.length≤c)(hf:F d W ok A l.length l):FK (Kd.slice e d) W ok l [.slice A l.length c]:=fun W' hW=>⟨A,c,rfl,hl,hf W' hW⟩
theorem ra{M:Nat→Prop}(h:d.R e w1 W.heap.size ok v xs)(hle:w.heap.size≤W.heap.size)(hM:∀k,w.heap.size≤k→M k):d.R e w1 W.heap.size (fun k=>M k∧ok k) v xs:=dq (ix h) (fun k hk=>⟨hM k (Nat.le_trans hle hk.2.1),hk.1⟩)
end
end Kd
end Go.Proofs.YtiobedekgnfjcaaGreatDoorW.aq
namespace Go.Proofs.YtiobedekgnfjcaaGreatDoor
open Go.Proofs.YtiobedekgnfjcaaGreatDoorW.aq Go.Proofs.YtiobedekgnfjcaaGreatDoorW.ay Go.RowKit
namespace X
open Go.Proofs.YtiobedekgnfjcaaGreatDoor.P
theorem Ev.pos{α:Type}{c:Prop}[Decidable c]{f g:Nat→Option α}{r:α}(h:c)(k:Ev f r):Ev (fun n=>if c then f n else g n) r:=
 Ev.congr (fun _=>ah h) k
theorem Ev.neg{α:Type}{c:Prop}[Decidable c]{f g:Nat→Option α}{r:α}(h:¬c)(k:Ev g r):Ev (fun n=>if c then f n else g n) r:=
 Ev.congr (fun _=>ag h) k
theorem Ev.fix{α β:Type}{x:Option α}{f:Nat→α→Option β}{a:α}{r:β}(h:x=some a)(k:Ev (fun n=>f n a) r):Ev (fun n=>x.bind (f n)) r:=
 Ev.congr (fun n=>by rw[h];rfl) k
theorem Ev.done{α:Type}{x:Option α}{r:α}(h:x=some r):Ev (fun _=>x) r:=⟨0,fun _ _=>h⟩
theorem Ev.eq{α:Type}{f:Nat→Option α}{r s:α}(h:Ev f r)(e:r=s):Ev f s:=e▸h
theorem bI{x:Int}(h0: -9223372036854775808≤x)(h1:x≤9223372036854775807):wrap64 x=x:=by unfold wrap64;omega
theorem pO{a b:Int}(h:0≤a):Int.tdiv a b=a / b:=Int.tdiv_eq_ediv_of_nonneg h
theorem vX{a b:Int}(h:0≤a):Int.tmod a b=a%b:=Int.tmod_eq_emod_of_nonneg h
theorem Gq{a b:List Int}(hl:a.length=b.length)(h:∀i:Nat,i<a.length→rd a (i:Int)=rd b (i:Int)):a=b:=by
 apply List.ext_getElem hl;intro i h1 h2;rw[←jY a i h1, ←jY b i h2];exact h i h1
theorem Gr(g:Nat)(lb:Array Value)(eg:Eg g)(p:Int→Bool)(w:World)(hp:zg g lb w (fun x=>0≤x∧x<91) (fun x=>.bool (p x))):
  Calls Tryz.prog 165 #[.func (.func g) #[] lb] w fun e w'=> ∃v:Value,e=.returned v∧Kd.R (Kd.int .i64) 3 w' w.heap.size (fun _=>True) v (cH 91 p)∧Below w.heap.size w w':=by
 have HP:=af.mk hp;clear hp;unfold Eg at eg;go_enter Tryz.func165,Tryz.ntmps165;go_wp2_with ((with_reducible refine db (N:=5) rfl ?_);refine Kd.dV (Kd.int .i64) _ 3 ?hg (N:=5) ?hd (xs:=([]:List Int)) (inner:=[]) (ok:=fun _=>True) (bp:=fun _=>True) ?hr ?hp (fun _ hk=>hk) trivial (Below.refl _ _) (aH _) bn ?_;(case hd=>rfl);(case hg=>rfl);(case hr=>first|(go_simp;done)|(go_simp;rfl));(case hp=>exact(aE.none _ _));intro v0 w0 ho0 hb0 Ct Cu;have jD:=af.mk ho0;have fH:=af.mk hb0;clear ho0 hb0 Ct Cu)
 go_loopg [3,6] 91 (fun kq v3 v6 w'=> ∃i:Int,v6=.int .i64 i∧af (0≤i∧i≤91)∧af ((91:Int) - i≤kq)∧af (Kd.R (Kd.int .i64) 3 w' w.heap.size (fun _=>True) v3 (cH i.toNat p))∧af (Below w.heap.size w w'))
 case atStart=>exact⟨0,rfl,⟨ae⟩,⟨ae⟩,jD,fH⟩
 case round=>
  clear jD fH;obtain⟨i,rfl,HI,HK,HO,HB⟩:=hrel;have h0:0≤i:=HI.o.1;by_cases c6:i<91
  ·have hlen:(cH i.toNat p).length≤i.toNat:=kt _ _;have hcall:=HP.o wr i HB.o ⟨h0,c6⟩;dsimp only at hcall
   have hsucc:cH (i+1).toNat p=cH i.toNat p++(if p i=true then[i] else[]):=by
    rw[show(i+1).toNat=i.toNat+1 by omega,lW,Int.toNat_of_nonneg h0]
   have pP:=af.mk hsucc;have HL:=af.mk hlen;clear hlen hsucc;obtain⟨xs,hxs⟩:∃xs,cH i.toNat p=xs:=⟨_,rfl⟩;rw[hxs] at HO pP HL;clear hxs;by_cases hv:p i=true
   ·rw[hv] at hcall;have hz:cH (i+1).toNat p=xs++[i]:=by rw[pP.o,ah hv]
    have HZ:=af.mk hz;have HC:=af.mk hcall;clear hcall hz hv;go_wp2_with fail
    refine HC.o.mono ?_;rintro e w1 ⟨rfl,hb1⟩;have bF:=af.mk (aU HB.o hb1);have mE:=af.mk (Kd.dB HO.o hb1);clear hb1 HO HB;go_wp2_with (at_builtin;refine Kd.jW (Kd.int .i64) (w0:=w) w.heap.size rfl (.tmp 12) (.tmp 14) 31 3 (.int .i64 0) 8 rfl Tryz.underlying31 info3 rfl ao ae u3 xs i [.int .i64 i] (fun _=>True) (fun _=>False) rfl rfl ?aP (fun _ hk=>hk.elim) ?aF ?aO ?aB ?aS ?aL ?_;(case aP=>exact rfl);(case aB=>exact bF.o);(case aF=>exact(fun _ _=>trivial));(case aO=>exact mE.o);(case aS=>exact bF.o.size);(case aL=>have:=HL.o;omega);intro v1 w2 ho hb hg hat;have iC:=af.mk ho;have bK:=af.mk hb;clear ho hb hg hat)
    go_roundg (91 - (i.toNat+1))
    case measure=>have:=HK.o;omega
    case rel=>exact⟨i+1,rfl,⟨ae⟩,⟨ae⟩,⟨by rw[HZ.o];exact iC.o⟩,bK⟩
   ·have hv:=Bool.eq_false_iff.2 hv;rw[hv] at hcall;have hz:cH (i+1).toNat p=xs:=by rw[pP.o,ag (by rw[hv];simp),List.append_nil]
    have HZ:=af.mk hz;have HC:=af.mk hcall;clear hcall hz hv;go_wp2_with (go_at_fn g;refine HC.o.mono ?_;rintro e w1 ⟨rfl,hb1⟩)
    go_roundg (91 - (i.toNat+1))
    case measure=>have:=HK.o;omega
    case rel=>exact⟨i+1,rfl,⟨ae⟩,⟨ae⟩,⟨by rw[HZ.o];exact Kd.dB HO.o hb1⟩,⟨aU HB.o hb1⟩⟩
  ·go_wp2;go_ret;have hi:i=91:=by have:=HI.o;omega
   subst hi;exact⟨_,rfl,HO.o,HB.o⟩
theorem S4{l:List Int}{x:Int}(h:∀j:Nat,j<l.length→rd l (j:Int)≠x):decide (x∈l)=false:=by
 refine aD fun hx=>?_;obtain⟨j,hj,rfl⟩:=List.mem_iff_getElem.1 hx;exact h j hj (jY l j hj)
theorem adk(l:List Int)(hl:l.length≤1048576)(x:Int)(d:Nat):∀(i:Int),0≤i→i+d=l.length→(∀j:Nat,(j:Int)<i→rd l (j:Int)≠x)→∃v:Int,Ev (fun k=>lZ.l0 k l x (l.length:Int) i) v∧decide (v≥0)=decide (x∈l):=by
 induction d with
 |zero=>
  intro i h0 h1 h;refine⟨-1,Ev.step (fun k=>by rw[lZ.l0]) (Ev.neg ae (Ev.done rfl)),?_⟩;rw[S4 fun j hj=>h j ae];rfl
 |succ d ih=>
  intro i h0 h1 h;by_cases e:x=rd l i
  ·refine⟨i,Ev.step (fun k=>by rw[lZ.l0]) ?_,?_⟩
   ·exact Ev.pos ae (Ev.pos ae (Ev.pos ae (Ev.pos e (Ev.done rfl))))
   ·rw[ap (show x∈l by rw[e];exact iK ae h0)];simpa using h0
  ·obtain⟨v,hv,hd⟩:=ih (i+1) ae ae fun j hj=>by
    by_cases ej:(j:Int)=i
    ·rw[ej];exact fun h=>e h.symm
    ·exact h j ae
   refine⟨v,Ev.step (fun k=>by rw[lZ.l0]) ?_,hd⟩;simp(disch:=omega) only[bI];exact Ev.pos ae (Ev.pos ae (Ev.pos ae (Ev.neg e hv)))
theorem Gs(l:List Int)(hl:l.length≤1048576)(x:Int):Ev (fun k=>pQ.f k l x) (decide (x∈l)):=by
 obtain⟨v,hv,hd⟩:=adk l hl x l.length 0 ae ae (fun j h=>ae);unfold pQ.f lZ.f;exact Ev.bind hv (Ev.done (by rw[←hd]))
end X
end Go.Proofs.YtiobedekgnfjcaaGreatDoor
namespace Go.Proofs.YtiobedekgnfjcaaGreatDoorW.ay
section
variable {ops:Array Oper} {a:Act} {o og:Oper} {g:Nat} {t:Tmp} {u:Bool}
end
end Go.Proofs.YtiobedekgnfjcaaGreatDoorW.ay
namespace Go.Proofs.YtiobedekgnfjcaaGreatDoor
open Go.Proofs.YtiobedekgnfjcaaGreatDoorW.aq Go.Proofs.YtiobedekgnfjcaaGreatDoorW.ay Go.RowKit
namespace P
abbrev HH:=Option Addr×Nat
def fO(h:HH):Value:=.slice h.1 9 h.2
def mM:Kd HH:=Kd.scalar fO (fun _=>rfl)
def cO(l:List HH)(i:Int):HH:=dM ((none,0):HH) l i
theorem Am{w:World}{A:Option Addr}{n:Nat}{xs:List HH}(h:mM.C w A n xs)(i:Int)(h0:0≤i)(h1:i<n):∃ad,A=some ad∧w.cell? (ad.add i.toNat)=some (fO (cO xs i)):=
 iI.at_ (Kd.tG (enc:=fO) (d:=((none,0):HH)) (h1:=fun _=>rfl) h) i h0 h1
theorem sU{l:List HH}{i:Int}(h0:0≤i)(h1:i<l.length):cO l i∈l:=by
 unfold cO dM;rw[List.getD_eq_getElem?_getD,List.getElem?_eq_getElem ae];exact List.getElem_mem _
theorem Mx{l y z:List HH}{i j:Int}(i0:0≤i)(i1:i<l.length)(j0:0≤j)(j1:j<l.length)(hy:y=l.set i.toNat (cO l j))(hz:z=y.set j.toNat (cO l i)){v:HH}(hv:v∈z):v∈l:=by
 rw[hz] at hv;rcases List.mem_or_eq_of_mem_set hv with h|h
 ·rw[hy] at h;rcases List.mem_or_eq_of_mem_set h with h|h
  ·exact h
  ·rw[h];exact sU j0 j1
 ·rw[h];exact sU i0 i1
def My(lt:HH→HH→Bool)(a b:HH):Option Bool:=some (lt a b)
theorem U9{lt:HH→HH→Bool}{a b:HH}{v:Bool}(h:My lt a b=some v):lt a b=v:=au h
mutual
def lG(lt:HH→HH→Bool):Nat→List HH→Int→Int→Int→Option (List HH)
 |0,_,_,_,_=>none
 |k+1,x0,x1,x2,x6=>if x6<x2 then(nG lt k x0 x1 x2 x6 x6) else(some x0)
def nG(lt:HH→HH→Bool):Nat→List HH→Int→Int→Int→Int→Option (List HH)
 |0,_,_,_,_,_=>none
 |k+1,x0,x1,x2,x6,x7=>if x7>x1 then(if 0≤x7 then(if x7<(x0.length:Int) then(if 0≤(wrap64 (x7 - 1)) then(if(wrap64 (x7 - 1))<(x0.length:Int) then((My lt (cO x0 x7) (cO x0 (wrap64 (x7 - 1)))).bind fun agW=>(if agW=true then(nG lt k ((x0.set (x7:Int).toNat (cO x0 (wrap64 (x7 - 1)))).set ((wrap64 (x7 - 1)):Int).toNat (cO x0 x7)) x1 x2 x6 (wrap64 (x7 - 1))) else(lG lt k x0 x1 x2 (wrap64 (x6+1))))) else none) else none) else none) else none) else(lG lt k x0 x1 x2 (wrap64 (x6+1)))
end
section
variable {P:Program} {ops:Array Oper} {Q:Exit→Act→World→Prop}
theorem U_{oi:Oper}{N:Option Tmp}{a:Act}{w:World}{K:Act→World→Prop}{f:FuncId}{fn:Func}{c:Tmp}{ar:Array Operand}{ts:Array TypeId}(hf:P.funcs[f]?=some fn)(hname:(fn.name== "runtime.NumGoroutine")=false)(hb:fn.body.isSome=true)(args:Array Value)
  (hw:Region.wanted oi (yielded ops a.tmps)=true) (hN:oi.dst=N) (hop:oi.op=.call { callee:=.value (.tmp c),args:=ar,argTypes:=ts }) (hcl:a.tmps.getD c undef=.func (.func f) #[] #[]) (hargs:ar.map a.eval=args)
  (h:Calls P f args w fun e w'=> ∃v,e=.returned v∧K (a.put N v) w'):if Region.wanted oi (yielded ops a.tmps)=true then Oper.wp P oi a w K Q else K (a.put N undef) w:=by
 refine call_ f args hw hN ?_ h;have he:=JT hf hname hb args w;have hc:a.eval (.tmp c)=.func (.func f) #[] #[]:=hcl;unfold execOp;simp[hop,resolve,Deferred.ofValue,invoke,hc,hargs,he]
end
def jJ.T4:Bool×List (List Nat×List Nat):=(true,[([],[]),([],[]),([0,1],[0,1]),([2],[2]),([3],[3]),([3],[3]),([3],[3]),([5,6,3],[3,5,6]),([7,3],[3,7]),([3],[3]),([3],[3]),([10,3],[3,10]),([9,11,3],[3,9,11]),([12,3],[3,12]),([4,8,13,3,3],[3,4,8,13]),([14,3],[3,14]),([3,15],[3,15])])
def jJ.B4:List Nat:=[0,0,3,7,15,15,15,111,239,15,15,1039,3599,7695,16383,32767,65535]
theorem jJ.rA:fD .any (opsOf Tryz.f243 4)=jJ.T4:=by kernel_rfl
theorem jJ.rB:nj jJ.T4.2 jJ.B4=true:=by kernel_rfl
def jJ.T6:Bool×List (List Nat×List Nat):=(true,[([],[]),([],[]),([],[]),([],[]),([3],[3]),([],[]),([],[]),([6],[6]),([5,7],[5,7]),([8],[8]),([],[]),([],[]),([10,11],[10,11]),([12],[12]),([0,1,0,1,5,6,7,8,9,13],[0,1]),([14,9,0,1,5,6,7,8,9,13],[9,14]),([2,4,0,1,2,3,4,5,6,7,8,9,10,11,12,13,14,15],[2,4]),([16,13,15,0,1,2,3,4,5,6,7,8,9,10,11,12,13,14,15],[13,16])])
def jJ.B6:List Nat:=[0,0,0,0,8,0,0,64,224,480,0,0,3072,7168,16355,32739,65535,131071]
theorem jJ.Mz:fD .any (opsOf Tryz.f243 6)=jJ.T6:=by kernel_rfl
theorem jJ.MA:nj jJ.T6.2 jJ.B6=true:=by kernel_rfl
theorem agX(lt:HH→HH→Bool)(k:Nat)(aI:Nat→Prop)(gK:Value)(l0:List HH)(a1:Int)(a2:Int)(r:List HH)(w0 w:World)(hB:Below w0.heap.size w0 w)(ho0:Kd.R mM 31 w w0.heap.size aI gK l0)
  (rC:∀W:World,Kept w W (fun k_=>aI k_)→Below w0.heap.size w0 W→∀a b:HH,a∈l0→b∈l0→Calls Tryz.prog 145 #[fO a,fO b] W fun e w'=>(∃c:Int,e=.returned (.int .i64 c)∧decide (c<0)=lt a b)∧aG W w') (h:lG lt k l0 a1 a2 (wrap64 (a1+1))=some r):
  Calls Tryz.prog 243 #[gK,.int .i64 a1,.int .i64 a2,.func (.func 145) #[] #[]] w fun e w'=>e=.returned (.tuple #[])∧Kd.R mM 31 w' w0.heap.size (fun k_=>(aI k_∨w.heap.size≤k_)) gK r∧Below w0.heap.size w0 w'∧Kept w w' (fun k_=>aI k_):=by
 have jD:=af.mk (show Kd.R mM 31 w w0.heap.size (fun k_=>(aI k_∨w.heap.size≤k_)) gK l0 from Kd.dq ho0 (fun k_ hk=>(.inl hk)));have HK:=af.mk (Kept.refl w (fun k_=>aI k_));have ut:=af.mk hB.size;have HB:=af.mk hB;clear hB;have H:(lG lt k l0 a1 a2 (wrap64 (a1+1)))=some r:=h;clear h;have H':=af.mk H;clear H;go_enter Tryz.func243,Tryz.ntmps243;go_wp2;go_loopg [8] k (fun kq v6 w'=> ∃(gB:List HH) (bH:Int),v6=.int .i64 bH∧af (∀z,z∈gB→z∈l0)∧af (lG lt kq gB a1 a2 bH=some r)∧af (kq≤k)∧af (Kd.R mM 31 w' w0.heap.size (fun k_=>(aI k_∨w.heap.size≤k_)) gK gB)∧af (Kept w w' (fun k_=>aI k_))∧af (Below w0.heap.size w0 w'))
 case atStart=>exact⟨l0,(wrap64 (a1+1)),(by first|rfl|(simp;done)),⟨fun z hz=>hz⟩,H',⟨aH _⟩,⟨aX jD⟩,⟨by repeat(first|(with_reducible first|exact HK.o|apply Kept.alloc|apply Kept.drewN|apply Kept.drew)|exact HK.o)⟩,⟨by repeat(first|(with_reducible first|exact HB.o|apply cS|apply bb|apply bR)|exact HB.o)⟩⟩
 case round=>
  clear H';try clear c1
  try clear p2
  obtain⟨gB,bH,rfl,agY,HA,aC,bj,HK,HB⟩:=hrel;cases gk with
  |zero=>exact absurd HA.o (by simp[lG])
  |succ k1=>
   have H:=HA.o;clear HA;simp only[lG] at H;by_cases c4:bH<a2
   ·rw[ah c4] at H;have dK:decide (bH<a2)=true:=ap c4;clear c4;have H':=af.mk H;clear H;go_wp2;go_loopg [9] k1 (fun kq v7 w'=> ∃(bQ:List HH) (bf:Int),v7=.int .i64 bf∧af (∀z,z∈bQ→z∈l0)∧af (nG lt kq bQ a1 a2 bH bf=some r)∧af (kq≤k1)∧af (Kd.R mM 31 w' w0.heap.size (fun k_=>(aI k_∨w.heap.size≤k_)) gK bQ)∧af (Kept w w' (fun k_=>aI k_))∧af (Below w0.heap.size w0 w'))
    case atStart=>exact⟨(gB),(bH),(by first|rfl|(simp;done)),agY,H',⟨aH _⟩,⟨aX bj⟩,⟨by repeat(first|(with_reducible first|exact HK.o|apply Kept.alloc|apply Kept.drewN|apply Kept.drew)|exact HK.o)⟩,⟨by repeat(first|(with_reducible first|exact HB.o|apply cS|apply bb|apply bR)|exact HB.o)⟩⟩
    case round=>
     clear H';try clear c1
     try clear p2
     try clear c4
     try clear dK
     try clear p2
     obtain⟨bQ,bf,rfl,fm,HA,bw,bj,HK,HB⟩:=hrel;cases gk with
     |zero=>exact absurd HA.o (by simp[nG])
     |succ k2=>
      have H:=HA.o;clear HA;simp only[nG] at H;by_cases c5:bf>a1
      ·rw[ah c5] at H;have dC:decide (a1<bf)=true:=ap c5;clear c5;by_cases c6:0≤bf
       ·rw[ah c6] at H;have dU:decide (0≤bf)=true:=ap c6;clear c6;by_cases c7:bf<(bQ.length:Int)
        ·rw[ah c7] at H;have eN:decide (bf<(bQ.length:Int))=true:=ap c7;clear c7;obtain⟨cj,ov⟩:∃j_:Int,(wrap64 (bf - 1))=j_:=⟨_,rfl⟩;replace H:(if 0≤(cj) then(if(cj)<(bQ.length:Int) then((My lt (cO bQ bf) (cO bQ (cj))).bind fun Hc=>(if Hc=true then(nG lt k2 ((bQ.set (bf:Int).toNat (cO bQ (cj))).set ((cj):Int).toNat (cO bQ bf)) a1 a2 bH cj) else(lG lt k2 bQ a1 a2 (wrap64 (bH+1))))) else none) else none)=some r:=by first|(rw[ov] at H;exact H)|(simp only[ov] at H ⊢;exact H)
         have agZ:(IntKind.i64.wrap (bf - 1))=cj:=(dh _).trans ov;by_cases c9:0≤(cj)
         ·rw[ah c9] at H;have gU:decide (0≤(cj))=true:=ap c9;clear c9;by_cases c10:(cj)<(bQ.length:Int)
          ·rw[ah c10] at H;have gH:decide ((cj)<(bQ.length:Int))=true:=ap c10;clear c10;replace H:=aA.mp H;obtain⟨Hc,ka,H⟩:=H;replace H:(if Hc=true then(nG lt k2 ((bQ.set (bf:Int).toNat (cO bQ (cj))).set ((cj):Int).toNat (cO bQ bf)) a1 a2 bH cj) else(lG lt k2 bQ a1 a2 (wrap64 (bH+1))))=some r:=H;have jH:=af.mk ka;clear ka;by_cases c12:Hc=true
           ·subst c12;have H1:(nG lt k2 ((bQ.set (bf:Int).toNat (cO bQ (cj))).set ((cj):Int).toNat (cO bQ bf)) a1 a2 bH cj)=some r:=by rw[ah rfl] at H;exact H
            clear H;have H:=H1;clear H1;obtain⟨Va,Dm⟩:∃y_:List HH,y_=(bQ.set (bf:Int).toNat (cO bQ (cj))):=⟨_,rfl⟩;replace H:(nG lt k2 (Va.set ((cj):Int).toNat (cO bQ bf)) a1 a2 bH cj)=some r:=by first|(rw[Dm];with_reducible exact H)|(have wN:=(Option.bind_some _ _).symm.trans H;rw[Dm];with_reducible exact wN)|(have wN:=(Option.bind_some _ _).symm.trans H;with_reducible exact wN)|with_reducible exact H|(rw[Dm];exact H)|exact H
            have Vb:=af.mk Dm;clear Dm;obtain⟨Vc,Dn⟩:∃y_:List HH,y_=(Va.set ((cj):Int).toNat (cO bQ bf)):=⟨_,rfl⟩;replace H:(nG lt k2 Vc a1 a2 bH cj)=some r:=by first|(rw[Dn];with_reducible exact H)|(have wN:=(Option.bind_some _ _).symm.trans H;rw[Dn];with_reducible exact wN)|(have wN:=(Option.bind_some _ _).symm.trans H;with_reducible exact wN)|with_reducible exact H|(rw[Dn];exact H)|exact H
            have Vd:=af.mk Dn;clear Dn;have H':=af.mk H;clear H;try go_wp2
            have dz:=af.mk (Kd.fU bj.o);have dA:=af.mk (Kept.drew HK.o);have fP:=af.mk (bR HB.o);clear bj;clear HK;clear HB;have bj:=dz;have HK:=dA;have HB:=fP;clear dz dA fP;obtain⟨ag0,MB,Dp⟩:=Kd.bJ bj.o;(first|subst Dp|(injection Dp with lH qf lI;have qg:=lH.symm;have qh:=lI.symm;clear lH qf lI;subst qg;subst qh))
            have sV:0≤(bf:Int):=aJ;have sW:bf<(bQ.length:Int):=aJ;obtain⟨rD,MC,wO⟩:=Am (Kd.bm bj.o).2.2 bf sV sW;cases MC;replace sV:=av sV;replace sW:=av sW;have sX:0≤((cj):Int):=aJ;have sY:(cj)<(bQ.length:Int):=aJ;obtain⟨MD,ME,wP⟩:=Am (Kd.bm bj.o).2.2 (cj) sX sY;obtain rfl:rD=MD:=(by injection ME);replace sX:=av sX;replace sY:=av sY;refine jA (n:=17) (S:=fun w'=>w'.cell? (rD.add (bf).toNat)=some (fO (cO bQ bf))∧w'.cell? (rD.add ((cj)).toNat)=some (fO (cO bQ (cj)))) (ds:=[]) #[F_,F_,F_,F_,F_,F_,F_,F_,F_,F_,F_,F_,F_,F_,F_,F_,F_] am rfl rfl ⟨wO,wP⟩ (fun hHeld=>?_);refine nk jJ.rA jJ.rB (fun az gX=>?_);generalize wr.drew=hY at bj HK HB wO wP hHeld ⊢;refine p_ 0 18 (m_ 17 1) az.o ?_;refine p_ 1 19 (m_ 17 3) az.o ?_;refine p_ 2 20 (m_ 17 7) az.o ?_;refine p_ 3 21 (m_ 17 15) az.o ?_;refine p_ 4 22 (m_ 17 31) az.o ?_;refine p_ 5 23 (m_ 17 63) az.o ?_;refine p_ 6 24 (m_ 17 127) az.o ?_;refine p_ 7 25 (m_ 17 255) az.o ?_;refine p_ 9 27 (m_ 17 767) az.o ?_;refine p_ 10 28 (m_ 17 1791) az.o ?_;refine p_ 11 29 (m_ 17 3839) az.o ?_;refine p_ 12 30 (m_ 17 7935) az.o ?_;refine nn 8 26 (m_ 17 8191) az.o gX.o hHeld ?_;refine nn 13 31 (m_ 17 16383) az.o gX.o hHeld ?_;refine fa (i:=14) (N:=some 32) (m_ 17 32767) rfl rfl (gj az.o am) ao (fun K hK=>?_);refine U_ Tryz.func145 am rfl #[fO (cO bQ bf),fO (cO bQ (cj))] (by rfl) rfl rfl rfl (by(try simp only[List.map_toArray,List.map_cons,List.map_nil]);first|done|(simp only[ov];rfl)|rfl) ?_;refine(rC _ HK.o HB.o (cO bQ bf) (cO bQ (cj)) (fm.o _ (sU (of_eq_true sV) (of_eq_true sW))) (fm.o _ (sU (of_eq_true sX) (of_eq_true sY)))).mono ?_;rintro e w' ⟨⟨cc,rfl,hcc⟩,⟨nd,rfl⟩⟩;rw[U9 jH.o] at hcc;refine⟨_,rfl,?_⟩;refine hK.out _ _ ⟨hHeld.1,hHeld.2⟩ (fun hHeld=>?_);clear hK K;refine eE (a':=?_) ?_ ?_;rotate_left;(show Act.put _ (some 32) _=_;simp only[Act.put,List.setIfInBounds_toArray,List.set_cons_zero,List.set_cons_succ,dh,fb];rfl);refine p_ 15 33 (m_ 17 65535) az.o ?_;refine p_ 16 34 (m_ 17 131071) az.o ?_;refine jB (ni az.o am) ?_;try go_wp2
            (try(rw[vE hY];generalize fQ:World.drewN hY _=hY;have dz:af (Kd.R mM 31 hY w0.heap.size (fun k_=>(aI k_∨w.heap.size≤k_)) (.slice (some rD) bQ.length MB) bQ):=⟨by rw[←fQ];exact(aX bj)⟩;have dA:af (Kept w hY (fun k_=>aI k_)):=⟨by rw[←fQ];exact(by repeat(first|(with_reducible first|exact HK.o|apply Kept.alloc|apply Kept.drewN|apply Kept.drew)|exact HK.o))⟩;have fP:af (Below w0.heap.size w0 hY):=⟨by rw[←fQ];exact(ai HB)⟩;clear bj HK HB fQ;have bj:=dz;have HK:=dA;have HB:=fP;clear dz dA fP))
            have dz:=af.mk (Kd.fU bj.o);have dA:=af.mk (Kept.drew HK.o);have fP:=af.mk (bR HB.o);clear bj;clear HK;clear HB;have bj:=dz;have HK:=dA;have HB:=fP;clear dz dA fP;have MF:0≤((cj):Int):=aJ;have MG:(cj)<(bQ.length:Int):=aJ;obtain⟨ag1,ag2,MH⟩:=Am (Kd.bm bj.o).2.2 (cj) MF MG;obtain rfl:rD=ag1:=(by injection ag2);replace MF:=av MF;replace MG:=av MG;have MI:0≤(bf:Int):=aJ;have MJ:bf<(bQ.length:Int):=aJ;obtain⟨ag3,ag4,MK⟩:=Am (Kd.bm bj.o).2.2 bf MI MJ;obtain rfl:rD=ag3:=(by injection ag4);replace MI:=av MI;replace MJ:=av MJ;have uu:0≤(bf:Int):=aJ;have uv:(bf:Int)<((bQ.length:Int):Int):=aJ;obtain⟨sZ,S9,wd,Dq,ML,ag5,Dr⟩:=Kd.yX bj.o ae;(first|cases wd|(injection wd with eI lE lF;(first|subst eI|(injection eI with eI;subst eI));subst lF;clear lE))
            have Ds:=af.mk Dq;have MN:=af.mk Dr;clear Dq ML Dr;have Dt:=af.mk (show(aI sZ∨w.heap.size≤sZ) from(bj.o.1 _ rfl));(first|simp only[add_plain] at wO|skip)
            (first|simp only[add_plain] at wP|skip)
            (first|simp only[add_plain] at MH|skip)
            (first|simp only[add_plain] at MK|skip)
            obtain⟨MO,MP⟩:=Kd.sg ((none,0):HH) bj.o (bf:Int) uu uv;replace uu:=av uu;replace uv:=av uv;have wQ:=Kd.BO bj.o (bf:Int) (cO bQ (cj));rw[←Vb.o] at wQ;have wR:=af.mk wQ;clear wQ;have uw:0≤((cj):Int):=aJ;have ux:((cj):Int)<((bQ.length:Int):Int):=aJ;obtain⟨Hd,He⟩:=Kd.sg ((none,0):HH) wR.o ((cj):Int) uw ux;replace uw:=av uw;replace ux:=av ux;have wS:=Kd.BO wR.o ((cj):Int) (cO bQ bf);rw[←Vd.o] at wS;have Du:=af.mk wS;clear wS;refine jA (n:=18) (S:=fun w'=>w'.cell? ⟨sZ,((cj)).toNat,none⟩=some (fO (cO bQ (cj)))∧w'.cell? ⟨sZ,(bf).toNat,none⟩=some (fO (cO bQ bf))) (ds:=[15,17]) #[F_,F_,F_,F_,F_,F_,F_,F_,F_,F_,F_,F_,F_,F_,F_,F_,F_,F_] am rfl rfl ⟨MH,MK⟩ (fun hHeld=>?_);refine nk jJ.Mz jJ.MA (fun az gX=>?_);generalize hY.drew=wT at bj HK HB MN wR Du MP He MO Hd wO wP MH MK hHeld ⊢;refine p_ 0 37 (m_ 18 1) az.o ?_;refine p_ 1 38 (m_ 18 3) az.o ?_;refine p_ 2 39 (m_ 18 7) az.o ?_;refine p_ 3 40 (m_ 18 15) az.o ?_;refine p_ 4 41 (m_ 18 31) az.o ?_;refine p_ 5 42 (m_ 18 63) az.o ?_;refine p_ 6 43 (m_ 18 127) az.o ?_;refine p_ 7 44 (m_ 18 255) az.o ?_;refine p_ 8 45 (m_ 18 511) az.o ?_;refine p_ 10 47 (m_ 18 1535) az.o ?_;refine p_ 11 48 (m_ 18 3583) az.o ?_;refine p_ 12 49 (m_ 18 7679) az.o ?_;refine nn 9 46 (m_ 18 8191) az.o gX.o hHeld ?_;refine nn 13 50 (m_ 18 16383) az.o gX.o hHeld ?_;refine p_ 14 51 (m_ 18 32767) az.o ?_;refine oN (i:=15) (N:=none) (m_ 18 65535) rfl rfl (gj az.o am) ao (fun K hK=>?_);refine pD (w1:=?_) (by rfl) rfl ?_ ?_;rotate_left;(go_simp;(try simp only[fO]);(try go_simp);rfl);refine hK.out _ _ ?_;clear hK K;refine p_ 16 52 (m_ 18 131071) az.o ?_;refine oN (i:=17) (N:=none) (m_ 18 262143) rfl rfl (gj az.o am) ao (fun K hK=>?_);refine pD (w1:=?_) (by rfl) rfl ?_ ?_;rotate_left;(have ag6:=Hd;have ag7:=He;(try simp only[fO] at ag6);(try simp only[fO] at ag7);go_simp;(try simp only[fO]);(try go_simp);rfl);refine hK.out _ _ ?_;clear hK K;refine jB (ni az.o am) ?_;try go_wp2
            go_roundg k2
            case measure=>have:=aC.o;have:=bw.o;omega
            case rel=>exact⟨(Vc),(cj),(by first|rfl|(simp only[←ov]<;>(first|rfl|simp))),⟨fun z hz=>fm.o z (Mx (of_eq_true uu) (of_eq_true uv) (of_eq_true uw) (of_eq_true ux) Vb.o Vd.o hz)⟩,H',⟨by have:=aC.o;have:=bw.o;omega⟩,⟨aX Du⟩,⟨by repeat(first|(with_reducible first|exact HK.o|apply Kept.alloc|apply Kept.drewN|apply Kept.drew|refine Kept.setCell ?_ Dt.o _|refine Kept.setCell ?_ Dt.o _)|exact HK.o)⟩,⟨by repeat(first|(with_reducible first|exact HB.o|apply cS|apply bb|apply bR|refine mu ?_ Ds.o|refine mu ?_ Ds.o)|exact HB.o)⟩⟩
           ·replace c12:=bU c12;subst c12;have H1:(lG lt k2 bQ a1 a2 (wrap64 (bH+1)))=some r:=by rw[ag (show ¬(false=true) by decide)] at H;exact H
            clear H;have H:=H1;clear H1;have H':=af.mk H;clear H;try go_wp2
            have dz:=af.mk (Kd.fU bj.o);have dA:=af.mk (Kept.drew HK.o);have fP:=af.mk (bR HB.o);clear bj;clear HK;clear HB;have bj:=dz;have HK:=dA;have HB:=fP;clear dz dA fP;obtain⟨Dv,Dw,wU⟩:=Kd.bJ bj.o;(first|subst wU|(injection wU with lH qf lI;have qg:=lH.symm;have qh:=lI.symm;clear lH qf lI;subst qg;subst qh))
            have sV:0≤(bf:Int):=aJ;have sW:bf<(bQ.length:Int):=aJ;obtain⟨rD,MC,wO⟩:=Am (Kd.bm bj.o).2.2 bf sV sW;cases MC;replace sV:=av sV;replace sW:=av sW;have sX:0≤((cj):Int):=aJ;have sY:(cj)<(bQ.length:Int):=aJ;obtain⟨MD,ME,wP⟩:=Am (Kd.bm bj.o).2.2 (cj) sX sY;obtain rfl:rD=MD:=(by injection ME);replace sX:=av sX;replace sY:=av sY;refine jA (n:=17) (S:=fun w'=>w'.cell? (rD.add (bf).toNat)=some (fO (cO bQ bf))∧w'.cell? (rD.add ((cj)).toNat)=some (fO (cO bQ (cj)))) (ds:=[]) #[F_,F_,F_,F_,F_,F_,F_,F_,F_,F_,F_,F_,F_,F_,F_,F_,F_] am rfl rfl ⟨wO,wP⟩ (fun hHeld=>?_);refine nk jJ.rA jJ.rB (fun az gX=>?_);generalize wr.drew=Co at bj HK HB wO wP hHeld ⊢;refine p_ 0 18 (m_ 17 1) az.o ?_;refine p_ 1 19 (m_ 17 3) az.o ?_;refine p_ 2 20 (m_ 17 7) az.o ?_;refine p_ 3 21 (m_ 17 15) az.o ?_;refine p_ 4 22 (m_ 17 31) az.o ?_;refine p_ 5 23 (m_ 17 63) az.o ?_;refine p_ 6 24 (m_ 17 127) az.o ?_;refine p_ 7 25 (m_ 17 255) az.o ?_;refine p_ 9 27 (m_ 17 767) az.o ?_;refine p_ 10 28 (m_ 17 1791) az.o ?_;refine p_ 11 29 (m_ 17 3839) az.o ?_;refine p_ 12 30 (m_ 17 7935) az.o ?_;refine nn 8 26 (m_ 17 8191) az.o gX.o hHeld ?_;refine nn 13 31 (m_ 17 16383) az.o gX.o hHeld ?_;refine fa (i:=14) (N:=some 32) (m_ 17 32767) rfl rfl (gj az.o am) ao (fun K hK=>?_);refine U_ Tryz.func145 am rfl #[fO (cO bQ bf),fO (cO bQ (cj))] (by rfl) rfl rfl rfl (by(try simp only[List.map_toArray,List.map_cons,List.map_nil]);first|done|(simp only[ov];rfl)|rfl) ?_;refine(rC _ HK.o HB.o (cO bQ bf) (cO bQ (cj)) (fm.o _ (sU (of_eq_true sV) (of_eq_true sW))) (fm.o _ (sU (of_eq_true sX) (of_eq_true sY)))).mono ?_;rintro e w' ⟨⟨cc,rfl,hcc⟩,⟨nd,rfl⟩⟩;rw[U9 jH.o] at hcc;refine⟨_,rfl,?_⟩;refine hK.out _ _ ⟨hHeld.1,hHeld.2⟩ (fun hHeld=>?_);clear hK K;refine eE (a':=?_) ?_ ?_;rotate_left;(show Act.put _ (some 32) _=_;simp only[Act.put,List.setIfInBounds_toArray,List.set_cons_zero,List.set_cons_succ,dh,fb];rfl);refine p_ 15 33 (m_ 17 65535) az.o ?_;refine p_ 16 34 (m_ 17 131071) az.o ?_;refine jB (ni az.o am) ?_;try go_wp2
            go_roundg k2
            case measure=>have:=aC.o;have:=bw.o;omega
            case rel=>exact⟨(bQ),(wrap64 (bH+1)),(by first|rfl|(simp;done)),fm,H',⟨by have:=aC.o;have:=bw.o;omega⟩,⟨aX bj⟩,⟨by repeat(first|(with_reducible first|exact HK.o|apply Kept.alloc|apply Kept.drewN|apply Kept.drew)|exact HK.o)⟩,⟨by repeat(first|(with_reducible first|exact HB.o|apply cS|apply bb|apply bR)|exact HB.o)⟩⟩
          ·rw[ag c10] at H;exact absurd H bn
         ·rw[ag c9] at H;exact absurd H bn
        ·rw[ag c7] at H;exact absurd H bn
       ·rw[ag c6] at H;exact absurd H bn
      ·rw[ag c5] at H;have dC:decide (a1<bf)=false:=aD c5;clear c5;have H':=af.mk H;clear H;try go_wp2
       have dz:=af.mk (Kd.fU bj.o);have dA:=af.mk (Kept.drew HK.o);have fP:=af.mk (bR HB.o);clear bj;clear HK;clear HB;have bj:=dz;have HK:=dA;have HB:=fP;clear dz dA fP;refine jA (n:=17) (S:=fun w'=>True) (ds:=[]) #[F_,F_,F_,F_,F_,F_,F_,F_,F_,F_,F_,F_,F_,F_,F_,F_,F_] am rfl rfl trivial (fun hHeld=>?_);refine nk jJ.rA jJ.rB (fun az gX=>?_);generalize wr.drew=ny at bj HK HB hHeld ⊢;refine p_ 0 18 (m_ 17 1) az.o ?_;refine p_ 1 19 (m_ 17 3) az.o ?_;refine p_ 2 20 (m_ 17 7) az.o ?_;refine p_ 3 21 (m_ 17 15) az.o ?_;refine u_ 4 22 (m_ 17 31) az.o ?_;refine u_ 5 23 (m_ 17 63) az.o ?_;refine u_ 6 24 (m_ 17 127) az.o ?_;refine u_ 7 25 (m_ 17 255) az.o ?_;refine u_ 8 26 (m_ 17 511) az.o ?_;refine u_ 9 27 (m_ 17 1023) az.o ?_;refine u_ 10 28 (m_ 17 2047) az.o ?_;refine u_ 11 29 (m_ 17 4095) az.o ?_;refine u_ 12 30 (m_ 17 8191) az.o ?_;refine u_ 13 31 (m_ 17 16383) az.o ?_;refine u_ 14 32 (m_ 17 32767) az.o ?_;refine u_ 15 33 (m_ 17 65535) az.o ?_;refine p_ 16 34 (m_ 17 131071) az.o ?_;refine jB (ni az.o am) ?_;try go_wp2
       go_roundg k2
       case measure=>have:=aC.o;have:=bw.o;omega
       case rel=>exact⟨(bQ),(wrap64 (bH+1)),(by first|rfl|(simp;done)),fm,H',⟨by have:=aC.o;have:=bw.o;omega⟩,⟨aX bj⟩,⟨by repeat(first|(with_reducible first|exact HK.o|apply Kept.alloc|apply Kept.drewN|apply Kept.drew)|exact HK.o)⟩,⟨by repeat(first|(with_reducible first|exact HB.o|apply cS|apply bb|apply bR)|exact HB.o)⟩⟩
   ·rw[ag c4] at H;have dK:decide (bH<a2)=false:=aD c4;clear c4;obtain rfl:=au H;go_wp2;first|go_end0|((try simp only[Exit.inBlock,Exit.then]);refine bodyPost_ret (results_none rfl _ _ _) rfl ?_)
    exact⟨bE,by(with_reducible repeat(first|apply Kd.iJ|apply Kd.iy|apply Kd.fU));exact bj.o,ai HB,by repeat(first|(with_reducible first|exact HK.o|apply Kept.alloc|apply Kept.drewN|apply Kept.drew)|exact HK.o)⟩
end P
namespace P
abbrev MR(lt:HH→HH→Bool)(aI:Nat→Prop)(l0:List HH)(w0 w:World):Prop:=
 ∀W:World,Kept w W (fun k_=>aI k_)→Below w0.heap.size w0 W→∀a b:HH,a∈l0→b∈l0→Calls Tryz.prog 145 #[fO a,fO b] W fun e w'=>(∃c:Int,e=.returned (.int .i64 c)∧decide (c<0)=lt a b)∧aG W w'
theorem ag8(lt:HH→HH→Bool)(k:Nat)(aI:Nat→Prop)(gK:Value)(l0:List HH)(a1 a2 a3:Int)(r:List HH)(w0 w:World)(hB:Below w0.heap.size w0 w)(ho0:Kd.R mM 31 w w0.heap.size aI gK l0)(rC:MR lt aI l0 w0 w)
  (h0:0≤a1) (h1:a1≤a2) (h2:a2≤4611686018427387904) (h3:a2 - a1≤12) (h:lG lt k l0 a1 a2 (wrap64 (a1+1))=some r):
  Calls Tryz.prog 207 #[gK,.int .i64 a1,.int .i64 a2,.int .i64 a3,.func (.func 145) #[] #[]] w fun e w'=>e=.returned (.tuple #[])∧Kd.R mM 31 w' w0.heap.size (fun k_=>(aI k_∨w.heap.size≤k_)) gK r∧Below w0.heap.size w0 w'∧Kept w w' (fun k_=>aI k_):=by
 have HS:=af.mk (agX lt k aI gK l0 a1 a2 r w0 w hB ho0 rC h);clear hB ho0 h rC;go_enter Tryz.func207,Tryz.ntmps207;go_wp2;go_loopg [1,2,3] 1 (fun kq v1 v2 v3 w'=>v1=.int .i64 a1∧v2=.int .i64 a2∧v3=.int .i64 a3∧af (w'=w))
 case atStart=>exact⟨rfl,rfl,rfl,⟨rfl⟩⟩
 case round=>
  obtain⟨rfl,rfl,rfl,HW⟩:=hrel;have hw:=HW.o;subst hw;have e12:wrap64 (a2 - a1)=a2 - a1:=by unfold wrap64;omega
  have c12:decide (a2 - a1≤12)=true:=ap h3;go_wp2_with (go_at_call 243;refine HS.o.mono ?_;rintro e w' ⟨rfl,hr',hb',hk'⟩)
  first|go_end0|((try simp only[Exit.inBlock,Exit.then]);refine bodyPost_ret (results_none rfl _ _ _) rfl ?_)
  exact⟨rfl,hr',hb',hk'⟩
def bS(w0 W:World)(g:Nat)(f0:List Int)(f1:Int):Prop:=∃A0 c0,W.heap[g]?=some (.cells #[.slice A0 f0.length c0,.int .i64 f1] 56 (0,0))∧w0.heap.size≤g∧Kd.C (Kd.int .u8) w0 A0 f0.length f0
theorem bS.grown{w0 W:World}{g:Nat}{f0:List Int}{f1:Int}{W1:World}{row:Option Nat}(h:bS w0 W g f0 f1)(hw:W.grownBy W1 row)(hne:some g≠row):bS w0 W1 g f0 f1:=by
 obtain⟨A0,c0,hb,hg,hr0⟩:=h;exact⟨A0,c0,aaA hb hw hne,hg,hr0⟩
theorem bS.fresh{w0 W:World}{g:Nat}{f0:List Int}{f1:Int}(h:bS w0 W g f0 f1):∀k,W.heap.size≤k→k≠g:=by
 obtain⟨A0,c0,hb,hg,hr0⟩:=h;exact Kd.lT hb
theorem bS.kept{w0 W:World}{g:Nat}{f0:List Int}{f1:Int}{W1:World}{S:Nat→Prop}(h:bS w0 W g f0 f1)(hk:Kept W W1 S)(hne:¬S g):bS w0 W1 g f0 f1:=by
 obtain⟨A0,c0,hb,hg,hr0⟩:=h;exact⟨A0,c0,aci hb hk hne,hg,hr0⟩
theorem bS.below{w0 W:World}{g:Nat}{f0:List Int}{f1:Int}{W1:World}(h:bS w0 W g f0 f1)(hw:Below W.heap.size W W1):bS w0 W1 g f0 f1:=h.grown (Rs hw none) bn
theorem bS.alloc{w0 W:World}{g:Nat}{f0:List Int}{f1:Int}(h:bS w0 W g f0 f1)(o:Obj):bS w0 (W.alloc o) g f0 f1:=h.below (cS (Below.refl _ _) o)
theorem bS.drewN{w0 W:World}{g:Nat}{f0:List Int}{f1:Int}(h:bS w0 W g f0 f1)(m:Nat):bS w0 (W.drewN m) g f0 f1:=h
theorem bS.drew{w0 W:World}{g:Nat}{f0:List Int}{f1:Int}(h:bS w0 W g f0 f1):bS w0 W.drew g f0 f1:=h
theorem bS.at_{w0 W:World}{g:Nat}{f0:List Int}{f1:Int}{w':World}{m:Nat}(hq:W.drewN m=w')(h:bS w0 W g f0 f1):bS w0 w' g f0 f1:=by subst hq;exact bS.drewN h m
theorem bS.apart{w0 W:World}{g:Nat}{f0:List Int}{f1:Int}{α:Type}{d:Kd α}{e:Nat}{base:Nat}{ok:Nat→Prop}{v:Value}{xs:List α}(h:bS w0 W g f0 f1)(ho:d.R e W base ok v xs)(ht:∀q,q∈e::d.E→q≠56):d.R e W base (fun k=>ok k∧k≠g) v xs:=by
 obtain⟨A0,c0,hb,hg,hr0⟩:=h;exact Kd.RF ho hb ht
theorem bS.pA{w0 W:World}{g:Nat}{f0:List Int}{f1:Int}{α:Type}{d:Kd α}{e:Nat}{base:Nat}{ok:Nat→Prop}{v:Value}{xs:List α}(h:bS w0 W g f0 f1)(ho:d.R e W base ok v xs)(ht:e≠56):some g≠v.ownBlock:=by
 obtain⟨A0,c0,hb,hg,hr0⟩:=h;exact Kd.aaL ho hb ht
theorem bS.lt{w0 W:World}{g:Nat}{f0:List Int}{f1:Int}(h:bS w0 W g f0 f1):g<W.heap.size:=by
 obtain⟨A0,c0,hb,hg,hr0⟩:=h;exact yU hb
theorem bS.ge{w0 W:World}{g:Nat}{f0:List Int}{f1:Int}(h:bS w0 W g f0 f1):w0.heap.size≤g:=by
 obtain⟨A0,c0,hb,hg,hr0⟩:=h;exact hg
theorem bS.far{w0 W:World}{g:Nat}{f0:List Int}{f1:Int}{p:Addr}(h:bS w0 W g f0 f1)(hne:g≠p.block)(u:Value):bS w0 (W.setCell p u) g f0 f1:=by
 obtain⟨A0,c0,hb,hg,hr0⟩:=h;exact⟨A0,c0,aaz hb hne u,hg,hr0⟩
theorem Ig{W:World}{g:Nat}{A0:Option Addr}{c0:Nat}{f0:List Int}{f1:Int}(h:W.heap[g]?=some (.cells #[.slice A0 f0.length c0,.int .i64 f1] 56 (0,0))):W.cell? ⟨g,0,none⟩=some (.slice A0 f0.length c0):=(Rw h 0).trans rfl
theorem Ih{W:World}{g:Nat}{A0:Option Addr}{c0:Nat}{f0:List Int}{f1:Int}(h:W.heap[g]?=some (.cells #[.slice A0 f0.length c0,.int .i64 f1] 56 (0,0))):W.cell? ⟨g,1,none⟩=some (.int .i64 f1):=(Rw h 1).trans rfl
theorem bS.abI{w0 W:World}{g:Nat}{f0:List Int}{f1:Int}(h:bS w0 W g f0 f1)(x:Int):bS w0 (W.setCell ⟨g,1,none⟩ (.int .i64 x)) g f0 x:=by
 obtain⟨A0,c0,hb,hg,hr0⟩:=h;exact⟨A0,c0,by simpa using aay hb 1 (.int .i64 x),hg,hr0⟩
theorem bS.new(w0 W:World)(A0:Option Addr)(c0:Nat)(f0:List Int)(f1:Int)(hB:Below w0.heap.size w0 W)(hr0:Kd.C (Kd.int .u8) w0 A0 f0.length f0):bS w0 (W.alloc (.cells #[.slice A0 f0.length c0,.int .i64 f1] 56)) W.heap.size f0 f1:=⟨A0,c0,by simpa using heap_alloc_new W _,hB.size,hr0⟩
def xA.f(l0:List Int):Option (List Int×Int):=if(l0.length:Int)>2000 then(if 2000≤(l0.length:Int) then(some (l0.take 2000,0)) else none) else(some (l0,0))
theorem xA.calls(A0:Option Addr)(c0:Nat)(l0:List Int)(r1:List Int)(r2:Int)(w0 w:World)(hB:Below w0.heap.size w0 w)(hr0:Kd.C (Kd.int .u8) w0 A0 l0.length l0)(hc0:l0.length≤c0)(h:xA.f l0=some (r1,r2)):
  Calls Tryz.prog 23 #[.slice A0 l0.length c0] w fun e w'=> ∃g_:Nat,e=.returned (.pointer (some ⟨g_,0,none⟩))∧bS w0 w' g_ r1 r2∧Below w0.heap.size w0 w'∧Below w.heap.size w w':=by
 have arO:=Tryz.underlying56;have aj:=af.mk hr0;have ax:=af.mk hc0;clear hr0 hc0;have fG:=af.mk (Below.refl w.heap.size w);have ut:=af.mk hB.size;have HB:=af.mk hB;clear hB;have H:=h;clear h;unfold xA.f at H;by_cases c2:(l0.length:Int)>2000
 case neg=>
  rw[ag c2] at H;have eM:=aD c2;have mb:decide (2000<l0.length)=false:=aD ae;clear c2;simp only[Option.some.injEq,Prod.mk.injEq] at H;obtain⟨rfl,rfl⟩:=H;go_enter Tryz.func23,Tryz.ntmps23;go_wp2_with (((with_reducible refine db (N:=10) rfl ?_);refine RP ?hg (N:=10) ?hd (cs:=#[.slice A0 l0.length c0,.int .i64 0]) (t:=56) ?hr ?_;(case hd=>rfl);(case hg=>rfl);(case hr=>first|(go_simp;done)|(go_simp;rfl));intro Ii hg w6 Et hb;have dz:=af.mk (mr fG.o hb);have dA:=af.mk (mr (ai HB) hb);have fP:=af.mk (Et);have nK:=af.mk ((by rw[hg];exact(aZ (by repeat(first|(with_reducible first|exact fG.o|apply cS|apply bb|apply bR)|exact fG.o))):w.heap.size≤Ii));have nL:=af.mk ((Nat.le_trans ut.o (by rw[hg];exact(aZ (by repeat(first|(with_reducible first|exact fG.o|apply cS|apply bb|apply bR)|exact fG.o))):w.heap.size≤Ii):w0.heap.size≤Ii));clear fG;clear HB;have fG:=dz;have HB:=dA;have ajp:=fP;have ajq:=nK;have WO:=nL;clear dz dA fP nK nL;clear hb Et hg))
  go_ret;exact⟨_,rfl,(show bS w0 _ Ii l0 0 from⟨_,_,by(with_reducible repeat(first|refine RC ?_ _|refine RB ?_|refine RA ?_ _));exact ajp.o,WO.o,aj.o⟩),by repeat(first|(with_reducible first|exact HB.o|apply cS|apply bb|apply bR|refine mu ?_ WO.o)|exact HB.o),by repeat(first|(with_reducible first|exact fG.o|apply cS|apply bb|apply bR|refine mu ?_ ajq.o)|exact fG.o)⟩
 rw[ah c2] at H;have eM:=ap c2;have mb:decide (2000<l0.length)=true:=ap ae;clear c2;by_cases c3:2000≤(l0.length:Int)
 case neg=>
  rw[ag c3] at H;cases H
 rw[ah c3] at H;have eU:=av c3;have um:=ap c3;clear c3;simp only[Option.some.injEq,Prod.mk.injEq] at H;obtain⟨rfl,rfl⟩:=H;obtain⟨i04,WQ,_,WR,_⟩:=info_parts abl;obtain⟨arP,WS,WT⟩:=aaJ (P:=Tryz.prog) (Value.int .u8) 0 22 5 .i64 Tryz.underlying22 WQ WR A0 c0 l0 2000 ae (aJ) ax.o;have ajr:=af.mk (Kd.BJ (h1:=fun _=>rfl) (WS _ (Kd.tG aj.o)));have arQ:=af.mk WT;clear WS WT WQ WR;go_enter Tryz.func23,Tryz.ntmps23;go_wp2_with (((with_reducible refine db (N:=10) rfl ?_);refine RP ?hg (N:=10) ?hd (cs:=#[.slice A0 (l0.take 2000).length c0,.int .i64 0]) (t:=56) ?hr ?_;(case hd=>rfl);(case hg=>rfl);(case hr=>first|(go_simp;done)|(go_simp;rfl));intro Ij hg w5 Et hb;have dz:=af.mk (mr fG.o hb);have dA:=af.mk (mr (ai HB) hb);have fP:=af.mk (Et);have nK:=af.mk ((by rw[hg];exact(aZ (by repeat(first|(with_reducible first|exact fG.o|apply cS|apply bb|apply bR)|exact fG.o))):w.heap.size≤Ij));have nL:=af.mk ((Nat.le_trans ut.o (by rw[hg];exact(aZ (by repeat(first|(with_reducible first|exact fG.o|apply cS|apply bb|apply bR)|exact fG.o))):w.heap.size≤Ij):w0.heap.size≤Ij));clear fG;clear HB;have fG:=dz;have HB:=dA;have ajs:=fP;have ajt:=nK;have WU:=nL;clear dz dA fP nK nL;clear hb Et hg))
 go_ret;exact⟨_,rfl,(show bS w0 _ Ij (l0.take 2000) 0 from⟨_,_,by(with_reducible repeat(first|refine RC ?_ _|refine RB ?_|refine RA ?_ _));exact ajs.o,WU.o,ajr.o⟩),by repeat(first|(with_reducible first|exact HB.o|apply cS|apply bb|apply bR|refine mu ?_ WU.o)|exact HB.o),by repeat(first|(with_reducible first|exact fG.o|apply cS|apply bb|apply bR|refine mu ?_ ajt.o)|exact fG.o)⟩
def f7.j0:Nat→Int→Bool→List Int→Int→Option (Int×Int)
 |0,_,_,_,_=>none
 |k+1,x1,x24,x1000,i7=>if x24=true then(some (0,i7)) else(if(wrap64 (i7 - 1))<(x1000.length:Int) then(if 0≤(wrap64 (i7 - 1)) then(if x1=0 then none else(some (Int.tmod (wrap64 (rd x1000 (wrap64 (i7 - 1)))) x1,i7))) else none) else(if(x1000.length:Int)=0 then none else(if 0≤(Int.tmod (wrap64 (i7 - 1)) (x1000.length:Int)) then(if(Int.tmod (wrap64 (i7 - 1)) (x1000.length:Int))<(x1000.length:Int) then(if 0≤(Int.tmod (wrap64 ((wrap64 ((wrap64 (i7 - 1))*7))+3)) (x1000.length:Int)) then(if(Int.tmod (wrap64 ((wrap64 ((wrap64 (i7 - 1))*7))+3)) (x1000.length:Int))<(x1000.length:Int) then(if x1=0 then none else(some (Int.tmod (Go.bits .xor .i64 (wrap64 ((wrap64 ((wrap64 ((wrap64 ((wrap64 (rd x1000 (Int.tmod (wrap64 (i7 - 1)) (x1000.length:Int))))*131))+(wrap64 ((wrap64 (rd x1000 (Int.tmod (wrap64 ((wrap64 ((wrap64 (i7 - 1))*7))+3)) (x1000.length:Int))))*1117))))+(wrap64 ((wrap64 (i7 - 1))*29))))+(wrap64 ((wrap64 (Int.tdiv (wrap64 (i7 - 1)) (x1000.length:Int)))*53)))) (wrap64 (Int.tdiv (wrap64 ((wrap64 ((wrap64 ((wrap64 ((wrap64 (rd x1000 (Int.tmod (wrap64 (i7 - 1)) (x1000.length:Int))))*131))+(wrap64 ((wrap64 (rd x1000 (Int.tmod (wrap64 ((wrap64 ((wrap64 (i7 - 1))*7))+3)) (x1000.length:Int))))*1117))))+(wrap64 ((wrap64 (i7 - 1))*29))))+(wrap64 ((wrap64 (Int.tdiv (wrap64 (i7 - 1)) (x1000.length:Int)))*53)))) 64))) x1,i7))) else none) else none) else none) else none)))
def f7.f(k:Nat)(bZ:List Int)(eD:Int)(a1:Int):Option (Int×Int):=if a1<1 then(f7.j0 k a1 true bZ (wrap64 (eD+1))) else(f7.j0 k a1 ((bZ.length:Int)==0) bZ (wrap64 (eD+1)))
theorem f7.calls(k:Nat)(g:Nat)(bZ:List Int)(eD:Int)(a1:Int)(r1:Int)(r2:Int)(w0 w:World)(hI:bS w0 w g bZ eD)(hB:Below w0.heap.size w0 w)(h:f7.f k bZ eD a1=some (r1,r2)):
  Calls Tryz.prog 24 #[.pointer (some ⟨g,0,none⟩),.int .i64 a1] w fun e w'=>e=.returned (.int .i64 r1)∧bS w0 w' g bZ r2∧Below w0.heap.size w0 w'∧cF w w' g none:=by
 have HI0:=af.mk hI;have HK:=af.mk (cF.refl w g none);have HL:=af.mk hB.size;clear hI;have ut:=af.mk hB.size;have HB:=af.mk hB;clear hB;have H:=h;clear h;unfold f7.f at H;have ou:=af.mk H;clear H;obtain⟨arR,arS,Ik,aju,arT⟩:=HI0.o;have arU:=Ig Ik;have arV:=Ih Ik;have arW:=BI Ik 1;clear Ik aju;go_enter Tryz.func24,Tryz.ntmps24;go_upto_region 2 with(fail)
 repeat(go_quiet (fail);go_upto_region 2 with(fail))
 go_cut [24] (fun v24 wc=> ∃(kq:Nat) (Il:Bool),v24=.bool Il∧af (f7.j0 kq a1 Il bZ (wrap64 (eD+1))=some (r1,r2))∧af (kq≤k)∧af (bS w0 wc g bZ (wrap64 (eD+1)))∧af (cF w wc g none)∧af (Below w0.heap.size w0 wc))
 case first=>
  have H:=ou.o;clear ou;by_cases c5:a1<1
  case neg=>
   rw[ag c5] at H;have dC:=aD c5;clear c5;(first|rw[dC]|(simp only[dh,fb];rw[dC])|skip)
   have H':=af.mk H;clear H;obtain⟨arX,arY,Im,ajv,arZ⟩:=HI0.o;have ar0:=Ig Im;have ar1:=Ih Im;have ar2:=BI Im 1;clear Im ajv;go_wp2;repeat(go_quiet (fail);try go_wp2)
   go_meet;case rel=>exact⟨_,(((bZ.length:Int)==0)),ak,H',⟨np⟩,⟨dp HI0⟩,⟨dT HK⟩,⟨dO HB HI0⟩⟩
  rw[ah c5] at H;have dC:=ap c5;clear c5;(first|rw[dC]|(simp only[dh,fb];rw[dC])|skip)
  have H':=af.mk H;clear H;go_wp2;repeat(go_quiet (fail);try go_wp2)
  go_meet;case rel=>exact⟨_,(true),ak,H',⟨np⟩,⟨dp HI0⟩,⟨dT HK⟩,⟨dO HB HI0⟩⟩
 case rest=>
  clear ou;obtain⟨kq,Il,rfl,HA,rP,HI0,HK,HB⟩:=hcut;cases kq with
  |zero=>exact absurd HA.o (by simp[f7.j0])
  |succ AO=>
   have H:=HA.o;clear HA;simp only[f7.j0] at H;by_cases c7:Il=true
   case neg=>
    replace c7:=bU c7;subst c7;rw[ag bV] at H;by_cases c8:(wrap64 ((wrap64 (eD+1)) - 1))<(bZ.length:Int)
    case neg=>
     rw[ag c8] at H;have fF:=aD c8;clear c8;by_cases c13:(bZ.length:Int)=0
     case neg=>
      rw[ag c13] at H;have j6:=cV c13;have tS:=bne_iff_ne.mpr c13;have Ou:¬(bZ=[]):=fun h_=>c13 (by rw[h_];rfl);obtain⟨gy,oW⟩:∃j_:Int,(Int.tmod (wrap64 ((wrap64 (eD+1)) - 1)) (bZ.length:Int))=j_:=⟨_,rfl⟩;replace H:(if 0≤(gy) then(if(gy)<(bZ.length:Int) then(if 0≤(Int.tmod (wrap64 ((wrap64 ((wrap64 ((wrap64 (eD+1)) - 1))*7))+3)) (bZ.length:Int)) then(if(Int.tmod (wrap64 ((wrap64 ((wrap64 ((wrap64 (eD+1)) - 1))*7))+3)) (bZ.length:Int))<(bZ.length:Int) then(if a1=0 then none else(some (Int.tmod (Go.bits .xor .i64 (wrap64 ((wrap64 ((wrap64 ((wrap64 ((wrap64 (rd bZ (gy)))*131))+(wrap64 ((wrap64 (rd bZ (Int.tmod (wrap64 ((wrap64 ((wrap64 ((wrap64 (eD+1)) - 1))*7))+3)) (bZ.length:Int))))*1117))))+(wrap64 ((wrap64 ((wrap64 (eD+1)) - 1))*29))))+(wrap64 ((wrap64 (Int.tdiv (wrap64 ((wrap64 (eD+1)) - 1)) (bZ.length:Int)))*53)))) (wrap64 (Int.tdiv (wrap64 ((wrap64 ((wrap64 ((wrap64 ((wrap64 (rd bZ (gy)))*131))+(wrap64 ((wrap64 (rd bZ (Int.tmod (wrap64 ((wrap64 ((wrap64 ((wrap64 (eD+1)) - 1))*7))+3)) (bZ.length:Int))))*1117))))+(wrap64 ((wrap64 ((wrap64 (eD+1)) - 1))*29))))+(wrap64 ((wrap64 (Int.tdiv (wrap64 ((wrap64 (eD+1)) - 1)) (bZ.length:Int)))*53)))) 64))) a1,(wrap64 (eD+1))))) else none) else none) else none) else none)=some (r1,r2):=by first|(rw[oW] at H;exact H)|(simp only[oW] at H ⊢;exact H)
      by_cases c15:0≤(gy)
      case neg=>
       rw[ag c15] at H;cases H
      rw[ah c15] at H;have n4:=ap c15;clear c15;replace H:=bC H;obtain⟨oh,H⟩:=H;obtain⟨xB,Ov⟩:∃j_:Int,(Int.tmod (wrap64 ((wrap64 ((wrap64 ((wrap64 (eD+1)) - 1))*7))+3)) (bZ.length:Int))=j_:=⟨_,rfl⟩;replace H:(if 0≤(xB) then(if(xB)<(bZ.length:Int) then(if a1=0 then none else(some (Int.tmod (Go.bits .xor .i64 (wrap64 ((wrap64 ((wrap64 ((wrap64 ((wrap64 (rd bZ (gy)))*131))+(wrap64 ((wrap64 (rd bZ (xB)))*1117))))+(wrap64 ((wrap64 ((wrap64 (eD+1)) - 1))*29))))+(wrap64 ((wrap64 (Int.tdiv (wrap64 ((wrap64 (eD+1)) - 1)) (bZ.length:Int)))*53)))) (wrap64 (Int.tdiv (wrap64 ((wrap64 ((wrap64 ((wrap64 ((wrap64 (rd bZ (gy)))*131))+(wrap64 ((wrap64 (rd bZ (xB)))*1117))))+(wrap64 ((wrap64 ((wrap64 (eD+1)) - 1))*29))))+(wrap64 ((wrap64 (Int.tdiv (wrap64 ((wrap64 (eD+1)) - 1)) (bZ.length:Int)))*53)))) 64))) a1,(wrap64 (eD+1))))) else none) else none)=some (r1,r2):=by first|(rw[Ov] at H;exact H)|(simp only[Ov] at H ⊢;exact H)
      replace H:=bC H;obtain⟨rv,H⟩:=H;replace H:=bC H;obtain⟨wE,H⟩:=H;by_cases rQ:a1=0
      case neg=>
       rw[ag rQ] at H;have Ha:=cV rQ;have ajw:=bne_iff_ne.mpr rQ;simp only[Option.some.injEq,Prod.mk.injEq] at H;obtain⟨rfl,rfl⟩:=H;obtain⟨ar3,ar4,Io,ajx,WV⟩:=HI0.o;have ar5:=Ig Io;have ar6:=Ih Io;have ar7:=BI Io 1;clear Io ajx;have Ow:0≤((gy):Int):=aJ;have Ox:(gy)<(bZ.length:Int):=aJ;obtain⟨ajy,ajz,WW⟩:=Kd.ck WV (gy) Ow Ox;cases ajz;replace WW:=dH HB.o WW;replace Ow:=av Ow;replace Ox:=av Ox;have Oy:0≤((xB):Int):=aJ;have Oz:(xB)<(bZ.length:Int):=aJ;obtain⟨ajA,ajB,WX⟩:=Kd.ck WV (xB) Oy Oz;obtain rfl:ajy=ajA:=(by injection ajB);replace WX:=dH HB.o WX;replace Oy:=av Oy;replace Oz:=av Oz;go_wp2;repeat(go_quiet (fail);try go_wp2)
       go_ret;exact⟨by first|rfl|(simp[mv,mw]<;>rfl)|(simp only[←oW, ←Ov];first|rfl|(simp[mv,mw]<;>rfl))|(simp[*,mv,mw]<;>rfl),dp HI0,dO HB HI0,dT HK⟩
      rw[ah rQ] at H;cases H
     rw[ah c13] at H;cases H
    rw[ah c8] at H;have fF:=ap c8;clear c8;obtain⟨cN,ft⟩:∃j_:Int,(wrap64 ((wrap64 (eD+1)) - 1))=j_:=⟨_,rfl⟩;replace H:(if 0≤(cN) then(if a1=0 then none else(some (Int.tmod (wrap64 (rd bZ (cN))) a1,(wrap64 (eD+1))))) else none)=some (r1,r2):=by first|(rw[ft] at H;exact H)|(simp only[ft] at H ⊢;exact H)
    (try rw[ft] at fF)
    have Cw:(IntKind.i64.wrap ((wrap64 (eD+1)) - 1))=cN:=(dh _).trans ft;replace H:=bC H;obtain⟨gH,H⟩:=H;by_cases c11:a1=0
    case neg=>
     rw[ag c11] at H;have j5:=cV c11;have zT:=bne_iff_ne.mpr c11;simp only[Option.some.injEq,Prod.mk.injEq] at H;obtain⟨rfl,rfl⟩:=H;obtain⟨ar8,ar9,Ip,ajC,ajD⟩:=HI0.o;have ar_:=Ig Ip;have asa:=Ih Ip;have asb:=BI Ip 1;clear Ip ajC;have OA:0≤((cN):Int):=aJ;have OB:(cN)<(bZ.length:Int):=aJ;obtain⟨asc,ajE,WY⟩:=Kd.ck ajD (cN) OA OB;cases ajE;replace WY:=dH HB.o WY;replace OA:=av OA;replace OB:=av OB;go_wp2;repeat(go_quiet (fail);try go_wp2)
     go_ret;exact⟨by first|rfl|(simp[mv,mw]<;>rfl)|(simp only[←ft];first|rfl|(simp[mv,mw]<;>rfl))|(simp[*,mv,mw]<;>rfl),dp HI0,dO HB HI0,dT HK⟩
    rw[ah c11] at H;cases H
   subst c7;rw[ah rfl] at H;simp only[Option.some.injEq,Prod.mk.injEq] at H;obtain⟨rfl,rfl⟩:=H;go_wp2;repeat(go_quiet (fail);try go_wp2)
   go_ret;exact⟨bE,dp HI0,dO HB HI0,dT HK⟩
def yg.f(a0:Int)(a1:Int):Option (Int):=(jw.f a0).bind fun Qd=>(if Qd=true then((jw.f a1).bind fun Qe=>(if Qe=true then((mF.f a0 a1).bind fun Qf=>(some Qf)) else(some (-1)))) else(some (-1)))
theorem yg.calls(a0:Int)(a1:Int)(r:Int)(w:World)(h:yg.f a0 a1=some r):
  Calls Tryz.prog 16 #[.int .i64 a0,.int .i64 a1] w fun e w'=>e=.returned (.int .i64 r)∧aG w w':=by
 have H:=h;clear h;unfold yg.f at H;replace H:=aA.mp H;obtain⟨Qd,bW,H⟩:=H;have A3:=af.mk bW;clear bW;by_cases c4:Qd=true
 case neg=>
  replace c4:=bU c4;subst c4;rw[ag bV] at H;obtain rfl:=au H;go_enter Tryz.func16,Tryz.ntmps16;go_wp2_with ((refine cx 6 Tryz.func37 #[.int .i64 a0] (jw.calls a0 false _ A3.o) fun nd=>?_))
  go_ret;exact⟨ak,aQ⟩
 subst c4;rw[ah rfl] at H;replace H:=aA.mp H;obtain⟨Qe,cY,H⟩:=H;have A5:=af.mk cY;clear cY;by_cases c6:Qe=true
 case neg=>
  replace c6:=bU c6;subst c6;rw[ag bV] at H;obtain rfl:=au H;go_enter Tryz.func16,Tryz.ntmps16;go_wp2_with (first|(refine cx 6 Tryz.func37 #[.int .i64 a0] (jw.calls a0 true _ A3.o) fun nd=>?_)|(go_at_call 37;(with_reducible refine(jw.calls a1 false _ A5.o).mono ?_);rintro e w' ⟨rfl,⟨nd,rfl⟩⟩))
  go_ret;exact⟨ak,aQ⟩
 subst c6;rw[ah rfl] at H;replace H:=aA.mp H;obtain⟨Qf,dy,H⟩:=H;have A7:=af.mk dy;clear dy;obtain rfl:=au H;go_enter Tryz.func16,Tryz.ntmps16;go_wp2_with (first|(refine cx 6 Tryz.func37 #[.int .i64 a0] (jw.calls a0 true _ A3.o) fun nd=>?_)|(go_at_call 37;(with_reducible refine(jw.calls a1 true _ A5.o).mono ?_);rintro e w' ⟨rfl,⟨nd,rfl⟩⟩)|(refine cx 15 Tryz.func38 #[.int .i64 a0,.int .i64 a1] (mF.calls a0 a1 Qf _ A7.o) fun nd=>?_))
 go_ret;exact⟨ak,aQ⟩
def lh.l0:Nat→List Int→Int→Int→Option (Bool)
 |0,_,_,_=>none
 |k+1,x0,x1,x5=>if x5<9 then(if 0≤(wrap64 ((wrap64 (9*x1))+x5)) then(if(wrap64 ((wrap64 (9*x1))+x5))<(x0.length:Int) then(if 0≤(wrap64 ((wrap64 (9*x5))+x1)) then(if(wrap64 ((wrap64 (9*x5))+x1))<(x0.length:Int) then(if(rd x0 (wrap64 ((wrap64 (9*x1))+x5)))=(rd x0 (wrap64 ((wrap64 (9*x5))+x1))) then(lh.l0 k x0 x1 (wrap64 (x5+1))) else(some false)) else none) else none) else none) else none) else(some true)
def lh.f(k:Nat)(l0:List Int)(a1:Int):Option (Bool):=lh.l0 k l0 a1 0
theorem lh.calls(k:Nat)(A0:Option Addr)(c0:Nat)(l0:List Int)(a1:Int)(r:Bool)(w:World)(hr0:Kd.C (Kd.int .i64) w A0 l0.length l0)(hc0:l0.length≤c0)(h:lh.f k l0 a1=some r):
  Calls Tryz.prog 172 #[.slice A0 l0.length c0,.int .i64 a1] w fun e w'=>e=.returned (.bool r)∧aG w w':=by
 have aj:=af.mk hr0;have ax:=af.mk hc0;clear hr0 hc0;have H:=h;clear h;unfold lh.f at H;have H':=af.mk H;clear H;go_enter Tryz.func172,Tryz.ntmps172;go_wp2;repeat(go_quiet (fail);try go_wp2)
 go_loopg [5] k (fun kq v5 w'=> ∃(aw:Int),v5=.int .i64 aw∧af (lh.l0 kq l0 a1 aw=some r)∧af (kq≤k)∧aG w w')
 case atStart=>exact⟨(0),ak,H',⟨aH _⟩,aQ⟩
 case round=>
  clear H';obtain⟨aw,rfl,HA,aC,⟨m1,rfl⟩⟩:=hrel;cases gk with
  |zero=>exact absurd HA.o (by simp[lh.l0])
  |succ k1=>
   have H:=HA.o;clear HA;simp only[lh.l0] at H;by_cases c3:aw<9
   case neg=>
    rw[ag c3] at H;have eU:=aD c3;clear c3;obtain rfl:=au H;go_wp2;repeat(go_quiet (fail);try go_wp2)
    go_ret;exact⟨ak,aQ⟩
   rw[ah c3] at H;have eU:=ap c3;clear c3;obtain⟨vn,Jl⟩:∃j_:Int,(wrap64 ((wrap64 (9*a1))+aw))=j_:=⟨_,rfl⟩;replace H:(if 0≤(vn) then(if(vn)<(l0.length:Int) then(if 0≤(wrap64 ((wrap64 (9*aw))+a1)) then(if(wrap64 ((wrap64 (9*aw))+a1))<(l0.length:Int) then(if(rd l0 (vn))=(rd l0 (wrap64 ((wrap64 (9*aw))+a1))) then(lh.l0 k1 l0 a1 (wrap64 (aw+1))) else(some false)) else none) else none) else none) else none)=some r:=by first|(rw[Jl] at H;exact H)|(simp only[Jl] at H ⊢;exact H)
   have as8:(IntKind.i64.wrap ((wrap64 (9*a1))+aw))=vn:=(dh _).trans Jl;replace H:=bC H;obtain⟨dC,H⟩:=H;replace H:=bC H;obtain⟨dU,H⟩:=H;obtain⟨nP,tv⟩:∃j_:Int,(wrap64 ((wrap64 (9*aw))+a1))=j_:=⟨_,rfl⟩;replace H:(if 0≤(nP) then(if(nP)<(l0.length:Int) then(if(rd l0 (vn))=(rd l0 (nP)) then(lh.l0 k1 l0 a1 (wrap64 (aw+1))) else(some false)) else none) else none)=some r:=by first|(rw[tv] at H;exact H)|(simp only[tv] at H ⊢;exact H)
   have ank:(IntKind.i64.wrap ((wrap64 (9*aw))+a1))=nP:=(dh _).trans tv;replace H:=bC H;obtain⟨fF,H⟩:=H;replace H:=bC H;obtain⟨gU,H⟩:=H;by_cases c10:(rd l0 (vn))=(rd l0 (nP))
   case neg=>
    rw[ag c10] at H;have gH:=cV c10;have pS:=bne_iff_ne.mpr c10;obtain rfl:=au H;obtain⟨anl,rfl,anm,ano,anp⟩:=eu aj (vn);obtain⟨anq,anr,ans⟩:=fW aj (nP);go_wp2;repeat(go_quiet (fail);try go_wp2)
    go_ret;exact⟨by first|rfl|(simp;done)|(simp only[←Jl, ←tv]<;>(first|rfl|simp))|(simp[*];done),aQ⟩
   rw[ah c10] at H;have gH:=beq_iff_eq.mpr c10;have pS:=bne_eq_false_iff_eq.mpr c10;clear c10;have H':=af.mk H;clear H;obtain⟨anl,rfl,anm,ano,anp⟩:=eu aj (vn);obtain⟨anq,anr,ans⟩:=fW aj (nP);go_wp2;repeat(go_quiet (fail);try go_wp2)
   go_roundg k1
   case measure=>have:=aC.o;omega
   case rel=>exact⟨(wrap64 (aw+1)),ak,H',⟨by have:=aC.o;omega⟩,aQ⟩
def oG.f(a0:Bool):Option (ByteArray):=if a0=true then(some (⟨#[121,101,115,10]⟩:ByteArray)) else(some (⟨#[110,111,116,10]⟩:ByteArray))
theorem oG.calls(a0:Bool)(r:ByteArray)(w:World)(h:oG.f a0=some r):
  Calls Tryz.prog 103 #[.bool a0] w fun e w'=>e=.returned (.string r)∧aG w w':=by
 have H:=h;clear h;unfold oG.f at H;by_cases c2:a0=true
 case neg=>
  replace c2:=bU c2;subst c2;rw[ag bV] at H;obtain rfl:=au H;go_enter Tryz.func103,Tryz.ntmps103;go_wp2;go_ret;exact⟨ak,aQ⟩
 subst c2;rw[ah rfl] at H;obtain rfl:=au H;go_enter Tryz.func103,Tryz.ntmps103;go_wp2;go_ret;exact⟨ak,aQ⟩
end P
end Go.Proofs.YtiobedekgnfjcaaGreatDoor
