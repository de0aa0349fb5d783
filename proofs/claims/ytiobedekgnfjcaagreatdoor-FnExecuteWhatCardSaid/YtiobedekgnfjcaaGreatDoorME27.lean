/- What both Executes come to: contracts and plain laws, for the laws on Execute. No conditions. (Part 28 of 28.) -/
import Derived.Test.YtiobedekgnfjcaaGreatDoorME25
import Derived.Test.YtiobedekgnfjcaaGreatDoorME26
set_option linter.unusedVariables false
set_option linter.unusedSimpArgs false
namespace Go.Proofs.YtiobedekgnfjcaaGreatDoor
namespace P
end P
open Go.Proofs.YtiobedekgnfjcaaGreatDoor.P Go.Proofs.YtiobedekgnfjcaaGreatDoorW.aq Go.Proofs.YtiobedekgnfjcaaGreatDoorW.ay Go.RowKit
namespace X
structure Good(t p:List Int):Prop where
 kind:∃c:Int,0≤c∧c<5∧t=dS c
 pts:∀x∈p,bu x
 len:p.length≤10
abbrev StepT:=List Int→List Int→ByteArray→(List Int×List Int)×ByteArray
def f_:ByteArray:=⟨#[10]⟩
structure Bn(t p:List Int)(l:ByteArray)(r:(List Int×List Int)×ByteArray):Prop where
 good:Good r.1.1 r.1.2
 size:r.2.size≤300
 impl:Ev (fun k=>qx k t p l) r
 spec:Ev (fun k=>Bk k t p l) (r.1,r.2++f_)
def oH(f:StepT):Prop:=∀t p l,Good t p→l.size≤600→Bn t p l (f t p l)
theorem Ev.QO{α:Type}{g:Nat→Option α}{a b:α}(h:Ev g a)(k:Ev g b):a=b:=by
 obtain⟨m,hm⟩:=h;obtain⟨n,hn⟩:=k;exact au ((hm (m+n) ae).symm.trans (hn (m+n) ae))
theorem Bn.QO{t p:List Int}{l:ByteArray}{a b:(List Int×List Int)×ByteArray}(h:Bn t p l a)(k:Bn t p l b):a=b:=Ev.QO h.impl k.impl
theorem aoV(h:∀t p l,Good t p→l.size≤600→∃r,Bn t p l r):∃f,oH f:=by
 classical
 refine⟨fun t p l=>if h1:Good t p∧l.size≤600 then Classical.choose (h t p l h1.1 h1.2) else((t,p),l),fun t p l g s=>?_⟩;dsimp only;rw[dif_pos ⟨g,s⟩];exact Classical.choose_spec (h t p l g s)
abbrev St:=(List Int×List Int)×ByteArray
def kk(f:StepT):List ByteArray→St→St
 |[],s=>s
 |l::ls,s=>kk f ls ((f s.1.1 s.1.2 l).1,s.2++((f s.1.1 s.1.2 l).2++f_))
theorem Zs(f:StepT):∀(a b:List ByteArray) (s:St),kk f (a++b) s=kk f b (kk f a s)
 |[],_,_=>rfl
 |l::a,b,s=>Zs f a b _
theorem Zt{f:StepT}(hf:oH f):∀(ls:List ByteArray) (s:St),Good s.1.1 s.1.2→(∀l∈ls,l.size≤600)→Good (kk f ls s).1.1 (kk f ls s).1.2∧(kk f ls s).2.size≤s.2.size+301*ls.length
 |[],s,g,_=>⟨g,by simp[kk]⟩
 |l::ls,s,g,h=>by
  have r:=hf s.1.1 s.1.2 l g (h l (List.mem_cons_self ..));have k:=Zt hf ls ((f s.1.1 s.1.2 l).1,s.2++((f s.1.1 s.1.2 l).2++f_)) r.good (fun x hx=>h x (List.mem_cons_of_mem _ hx));refine⟨k.1,Nat.le_trans k.2 ?_⟩;have:=r.size;have e:f_.size=1:=rfl;simp only[ByteArray.size_append,List.length_cons,e];omega
theorem Zu{f:StepT}(hf:oH f):∀(ls:List ByteArray) (t p:List Int) (o:ByteArray),Good t p→(∀l∈ls,l.size≤600)→o.size+301*ls.length≤1000000→Ev (fun k=>vL (qx k) ls t p o) (kk f ls ((t,p),o))
 |[],t,p,o,_,_,_=>Ev.done rfl
 |l::ls,t,p,o,g,h,ho=>by
  have r:=hf t p l g (h l (List.mem_cons_self ..));have e:f_.size=1:=rfl;have hs:=r.size;simp only[List.length_cons] at ho;unfold vL;refine Ev.bind r.impl (Ev.pos ae ?_);exact Zu hf ls _ _ _ r.good (fun x hx=>h x (List.mem_cons_of_mem _ hx)) (by simp only[ByteArray.size_append,e,show(⟨#[10]⟩:ByteArray).size=1 from rfl];omega)
theorem QP{f:StepT}(hf:oH f){text:ByteArray}(h6:text.size≤600):∀(n i fr:Nat) (t p:List Int) (o:ByteArray),i+n=text.size→Good t p→o.size+301*n≤1000000→Ev (fun k=>u9 (Bk k) text n i fr t p o) (kk f (yy 10 text n i fr) ((t,p),o))
 |0,i,fr,t,p,o,_,_,_=>Ev.done rfl
 |n+1,i,fr,t,p,o,hn,g,ho=>by
  unfold u9 yy;by_cases hb:bt text i=10
  ·rw[ah hb];refine Ev.pos hb ?_;have r:=hf t p (text.extract fr i) g (by rw[ByteArray.size_extract];omega);have e:f_.size=1:=rfl;have hs:=r.size;refine Ev.bind r.spec (Ev.pos (by simp only[ByteArray.size_append,e];omega) ?_);exact QP hf h6 n (i+1) (i+1) _ _ _ ae r.good (by simp only[ByteArray.size_append,e];omega)
  ·rw[ag hb];refine Ev.neg hb ?_;exact QP hf h6 n (i+1) fr t p o ae g ae
theorem QQ:Good (dS 0) []:=⟨⟨0,ae,ae,rfl⟩,fun x h=>(by cases h),by simp⟩
def gg(f:StepT)(text:ByteArray):St:=kk f (gS text).dropLast ((dS 0,[]),⟨#[]⟩)
def oI(p:List Int):ByteArray:=(zq++(⟨(fV p.length).toArray⟩:ByteArray))++f_
def Zv:ByteArray:=⟨#[116,111,111,32,108,111,110,103,10]⟩
def py(f:StepT)(text:ByteArray):ByteArray:=if text.size≤600 then(gg f text).2++oI (gg f text).1.2 else Zv
theorem Fu{f:StepT}(hf:oH f){text:ByteArray}(h6:text.size≤600):Good (gg f text).1.1 (gg f text).1.2∧(gg f text).2.size≤301*600:=by
 have h:=Zt hf (gS text).dropLast ((dS 0,[]),⟨#[]⟩) QQ (fun l hl=>J5 text l (List.dropLast_subset _ hl) h6);refine⟨h.1,Nat.le_trans h.2 ?_⟩;have:=J4 text;rw[List.length_dropLast,show(⟨#[]⟩:ByteArray).size=0 from rfl];omega
theorem Zw{n:Nat}:(⟨(fV n).toArray⟩:ByteArray).size≤2:=by
 unfold fV
 split<;>simp[ByteArray.size]
theorem qD{f:StepT}(hf:oH f)(text:ByteArray):Ev (fun k=>fj.f k text) (py f text):=by
 unfold fj.f Gb py;by_cases h6:text.size≤600
 case neg=>rw[ag h6];exact Ev.neg h6 (Ev.done rfl)
 rw[ah h6];refine Ev.pos h6 (Ev.bind (Zr 0 ae ae) (Ev.bind (a:=gg f text) ?_ ?_))
 ·refine Zu hf _ _ _ _ QQ (fun l hl=>J5 text l (List.dropLast_subset _ hl) h6) ?_;have:=J4 text;rw[List.length_dropLast,show(⟨#[]⟩:ByteArray).size=0 from rfl];omega
 ·have g:=Fu hf h6;have gl:=g.1.len;refine Ev.fix (a:=⟨(fV (gg f text).1.2.length).toArray⟩) ?_ (Ev.pos ⟨ae,Zw⟩ (Ev.done ?_))
  ·unfold my.f;rw[ah ae];rfl
  ·unfold oI f_;simp only[ByteArray.append_assoc]
theorem Ju{f:StepT}(hf:oH f)(text:ByteArray):Ev (fun k=>jQ.f k text) (py f text):=by
 unfold jQ.f Jf py;by_cases h6:text.size≤600
 case neg=>rw[ag h6];exact Ev.neg h6 (Ev.done rfl)
 rw[ah h6];refine Ev.pos h6 (Ev.bind (W7 0 ae ae) (Ev.bind (a:=gg f text) ?_ ?_))
 ·unfold gg gS;rw[←an2];exact QP hf h6 _ _ _ _ _ _ ae QQ (by rw[show(⟨#[]⟩:ByteArray).size=0 from rfl];omega)
 ·have g:=Fu hf h6;have gl:=g.1.len;refine Ev.bind (Js (gg f text).1.2.length ae) (Ev.pos ⟨ae,Zw⟩ (Ev.done ?_));unfold oI f_ B;simp only[ByteArray.append_assoc]
structure Known(t p:List Int):Prop where
 sys:aW t=true
 QR:b9 t 81=true
 len:t.length=81
 pts:∀x∈p,bu x
 ten:p.length≤10
theorem Good.known{t p:List Int}(g:Good t p):Known t p:=by
 obtain⟨c,c0,c1,rfl⟩:=g.kind;have hn:=W8 c c0 c1;exact⟨aoU c c0 c1,hn,(hG.1 hn).1,g.pts,g.len⟩
structure Both(f g:Nat→Option ByteArray):Prop where
 o:∃r:ByteArray,r.size≤300∧Ev f r∧Ev g (r++f_)
theorem Both.of{f g:Nat→Option ByteArray}{r:ByteArray}(h:r.size≤300)(hf:Ev f r)(hg:Ev g (r++f_)):Both f g:=⟨r,h,hf,hg⟩
theorem QS{f g:Nat→Option (List Int×Bool)}{l:List Int}{ok:Bool}(hf:Ev f (l,ok))(hg:Ev g (l,ok))(h:ok=true→r8 l∧l.length≤91):Both (fun k=>(f k).bind fun r=>gx.f k r.1 r.2) (fun k=>(g k).bind fun r=>dr.f k r.1 r.2):=
 .of (Nat.le_trans (Ft fun e=>(h e).2) ae) (Ev.bind hf (QJ fun e=>⟨(h e).1,Nat.le_trans (h e).2 ae⟩)) (Ev.bind hg (r_ fun e=>⟨(h e).1,Nat.le_trans (h e).2 ae⟩))
theorem Zx{f g:Nat→Option (Int×Bool)}{n:Int}{ok:Bool}(hf:Ev f (n,ok))(hg:Ev g (n,ok))(h:ok=true→0≤n∧n<100):Both (fun k=>(f k).bind fun r=>jF.f k r.1 r.2) (fun k=>(g k).bind fun r=>dr.f k [r.1] r.2):=
 .of (Nat.le_trans (Ft (l:=[n]) fun e=>by simp) ae) (Ev.bind hf (QK h)) (Ev.bind hg (r_ (l:=[n]) fun e=>⟨fun x hx=>by rw[List.mem_singleton.1 hx];exact h e,by simp⟩))
theorem aoW{g:Nat→Option Bool}{b:Bool}(hg:Ev g b):Both (fun _=>some (l6 b)) (fun k=>(g k).bind fun b=>oG.f b):=
 .of (r:=l6 b) (by cases b<;>decide) (Ev.done rfl) (Ev.bind hg (Ev.done (by cases b<;>rfl)))
theorem Jv{l:List Int}(h:∀x∈l,0≤x∧x<91):r8 l:=fun x hx=>by have:=h x hx;omega
theorem aoX{t p:List Int}(g:Good t p)(w:ByteArray):Both (fun k=>Fb k t p w.data.toList) (fun k=>Fo k t p w):=by
 have K:=g.known;have hs:=K.sys;have hl:=K.len;have ht:t.length≤1048576:=ae;have hp:=K.ten;have hp':p.length≤1048576:=ae;unfold Fb Fo;simp only[ByteArray.toList_eq];by_cases h1:w.data.toList=[107,101,114,110,101,108]
 ·simp only[ah h1];exact QS (f:=fun _=>ud.f t) (Ev.done (aoF hs)) (aoE hs ht) fun _=>⟨Jv fun x hx=>by have:=pF.1 hx;omega,Nat.le_trans (kt _ _) ae⟩
 simp only[ag h1];by_cases h2:w.data.toList=[99,101,110,116,114,101]
 ·simp only[ah h2];exact QS (f:=fun _=>uc.f t) (Ev.done (aoJ hs)) (Zq hs ht) fun _=>⟨Jv fun x hx=>by have:=pF.1 hx;omega,Nat.le_trans (kt _ _) ae⟩
 simp only[ag h2];by_cases h3:w.data.toList=[98,114,97,99,107,101,116,115]
 ·simp only[ah h3];refine .of (r:=l6 (aW t&&nC t)) (by cases (aW t&&nC t)<;>decide) (Ev.done rfl) (Ev.bind (oX t ht) (Ev.pos (by rw[hs,K.QR];rfl) (Ev.done ?_)));cases (aW t&&nC t)<;>rfl
 simp only[ag h3];by_cases h4:w.data.toList=[98,111,116,104]
 ·simp only[ah h4];refine .of (r:=l6 (aW t&&l5 t)) (by cases (aW t&&l5 t)<;>decide) (Ev.done rfl) (Ev.bind (oX t ht) (Ev.pos (by rw[hs,K.QR];rfl) (Ev.done ?_)));cases (aW t&&l5 t)<;>rfl
 simp only[ag h4];by_cases h5:w.data.toList=[115,119,97,112,115]
 ·simp only[ah h5];obtain⟨c,c0,c1,rfl⟩:=g.kind;rw[hs,Bool.true_and];exact aoW (aoL c0 c1 hs ht)
 simp only[ag h5];by_cases h6:w.data.toList=[99,108,111,115,101,115]
 ·simp only[ah h6];have a1:=aos (t:=t) (x:=p) hp';have b1:=aot (t:=t) (x:=p) hs hp';have a2:=aou (t:=t) (x:=p) hs hp';have b2:=aov (t:=t) (x:=p) hs hp';by_cases e1:(fA t p&&K9 t p)=true
  ·exact .of (r:=⟨#[116,119,105,110]⟩) ao (Ev.bind a1 (Ev.pos e1 (Ev.done rfl))) (Ev.bind b1 (Ev.pos e1 (Ev.done rfl)))
  by_cases e2:(iE t p&&sL t p)=true
  ·exact .of (r:=⟨#[104,101,120]⟩) ao (Ev.bind a1 (Ev.neg e1 (Ev.bind a2 (Ev.done (by rw[ah e2]))))) (Ev.bind b1 (Ev.neg e1 (Ev.bind b2 (Ev.done (by rw[ah e2];rfl)))))
  ·exact .of (r:=⟨#[110,111,116]⟩) ao (Ev.bind a1 (Ev.neg e1 (Ev.bind a2 (Ev.done (by rw[ag e2]))))) (Ev.bind b1 (Ev.neg e1 (Ev.bind b2 (Ev.done (by rw[ag e2];rfl)))))
 simp only[ag h6];by_cases h7:w.data.toList=[113,117,97,100]
 ·simp only[ah h7];refine QS (l:=(o0 t p).1) (ok:=(o0 t p).2) (aox t p) (aoM hs) fun e=>?_;unfold o0 at e ⊢;by_cases hq:fM t p=true
  ·rw[ah hq];exact⟨Jv (afv hq),by simp[rn]⟩
  ·rw[ag hq] at e;cases e
 simp only[ag h7];by_cases h8:w.data.toList=[111,114,100,101,114]
 ·simp only[ah h8];exact Zx (n:=(kC t p).1) (ok:=(kC t p).2) (aoy hs p) (aoz hs p) aoN
 simp only[ag h8];by_cases h9:w.data.toList=[115,112,97,110]
 ·simp only[ah h9]
  have e:rz t p=(fw t (dm p),true):=by
   unfold rz qe;rw[hs,ap hp,List.all_eq_true.2 fun x hx=>eB.2 (K.pts x hx)];rfl
  have a:=aoB t ht p;rw[e] at a;have hn:=aoC t (dm p);refine .of (r:=pu [((fw t (dm p)).length:Int)] true) (Nat.le_trans (Ft fun _=>by simp) ae) (Ev.fix (show ur.f t p=some (fw t (dm p),true) by unfold ur.f;rw[e]) (QK (n:=((fw t (dm p)).length:Int)) fun _=>ae)) (Ev.bind a (r_ (l:=[((fw t (dm p)).length:Int)]) fun _=>⟨fun x hx=>by rw[List.mem_singleton.1 hx];omega,by simp⟩))
 simp only[ag h9];by_cases h10:w.data.toList=[100,101,114,105,118,101]
 ·simp only[ah h10];obtain⟨c,c0,c1,rfl⟩:=g.kind;have hsp:dk (il (dS c) 9)=true:=five (P:=fun c=>dk (il (dS c) 9)=true) aoO c c0 c1;have Zy:(m9 (il (dS c) 9)).2=dk (m9 (il (dS c) 9)).1:=five (P:=fun c=>(m9 (il (dS c) 9)).2=dk (m9 (il (dS c) 9)).1) aoP c c0 c1;have e1:xy.f (dS c)=some (il (dS c) 9):=ah hs;have e2:=aja ht;unfold On at e2;rw[ah hs] at e2;have e3:=alm (il (dS c) 9);have e4:yc.f (il (dS c) 9)=some (m9 (il (dS c) 9)):=rfl;obtain⟨b,q,Zz⟩:∃b q,m9 (il (dS c) 9)=(b,q):=⟨_,_,rfl⟩;rw[Zz] at Zy e3 e4;have hd:q=dk b:=Zy;obtain⟨s,hS⟩:∃s,il (dS c) 9=s:=⟨_,rfl⟩;rw[hS] at hsp e1 e2 e3 e4;have e5:=akS s b;have aoY:s.length=10:=(s8 hsp).1;have hr:=Pg s b 10
  have hall:(b.all fun x=>decide (x.length≤1099511627776))=true:=by
   cases hq:dk b with
   |true=>exact akT hq
   |false=>
    have Bo:=Zz;rw[hS] at Bo;unfold m9 at Bo;by_cases hc:dk s=true∧(ld s 10).length=6
    ·rw[ah hc] at Bo;have:q=true:=(Prod.mk.inj Bo).2.symm;rw[hd,hq] at this;cases this
    ·rw[ag hc] at Bo;obtain rfl:[]=b:=(Prod.mk.inj Bo).1;rfl
  have e6:=akV (a:=s) (b:=b) hall aoY;refine .of (r:=pu [ml s b 10] q) (Nat.le_trans (Ft fun _=>by simp) ae) (Ev.fix e1 (Ev.fix e4 (Ev.bind e6 (QK fun _=>ae)))) (Ev.bind e2 (Ev.bind e3 (Ev.bind e5 ?_)));unfold xO;rw[hsp, ←hd,Bool.true_and];cases q with
  |true=>
   rw[ah rfl];exact r_ (l:=[ml s b 10]) (ok:=true) fun _=>⟨fun x hx=>by rw[List.mem_singleton.1 hx];omega,by simp⟩
  |false=>
   refine Ev.eq (r_ (l:=[0]) (ok:=false) fun e=>by cases e) rfl
 simp only[ag h10];exact .of (r:=⟨#[119,104,97,116]⟩) ao (Ev.done rfl) (Ev.done rfl)
def Bp(p q:Int):Bool:=dE p&&(dE q&&!decide (p=q))
theorem lp{p q:Int}:Bp p q=true↔bu p∧bu q∧p≠q:=by
 unfold Bp;simp only[Bool.and_eq_true,Bool.not_eq_true',decide_eq_false_iff_not,eB]
def jR(t:List Int)(p q:Int):Int×Bool:=if Bp p q=true then(bh t p q,true) else(0,false)
def mR(t:List Int)(p q:Int):Int×Bool:=if Bp p q=true then(dx t p q,true) else(0,false)
theorem aoZ{t:List Int}(hs:aW t=true){p q:Int}(h:(jR t p q).2=true):0≤(jR t p q).1∧(jR t p q).1<100:=by
 unfold jR at h ⊢;by_cases e:Bp p q=true
 ·obtain⟨hp,hq,hne⟩:=lp.1 e;have:=iL hs hp.1 hp.2 hq.1 hq.2 hne;rw[ah e];exact⟨this.1,by have:=this.2.1;omega⟩
 ·rw[ag e] at h;cases h
theorem ao0{t:List Int}(hs:aW t=true){p q:Int}(h:(mR t p q).2=true):0≤(mR t p q).1∧(mR t p q).1<100:=by
 unfold mR at h ⊢;by_cases e:Bp p q=true
 ·obtain⟨hp,hq,hne⟩:=lp.1 e;have:=tV hs hp.1 hp.2 hq.1 hq.2 hne;rw[ah e];exact⟨this.1,by have:=this.2.1;omega⟩
 ·rw[ag e] at h;cases h
theorem ao1{t:List Int}(hs:aW t=true)(p q:Int):Ev (fun k=>t8.f k t p q) (jR t p q):=by
 unfold t8.f jR;refine Ev.fix (show fE.f t=some (aW t) from rfl) (Ev.pos hs (Ev.fix (zI p) ?_));by_cases hp:dE p=true
 case neg=>rw[ag (fun h=>hp (eB.2 (lp.1 h).1))];exact Ev.neg hp (Ev.done rfl)
 refine Ev.pos hp (Ev.fix (zI q) ?_);by_cases hq:dE q=true
 case neg=>rw[ag (fun h=>hq (eB.2 (lp.1 h).2.1))];exact Ev.neg hq (Ev.done rfl)
 refine Ev.pos hq ?_;by_cases e:p=q
 case pos=>rw[ag (fun h=>(lp.1 h).2.2 e)];exact Ev.pos e (Ev.done rfl)
 rw[ah (lp.2 ⟨eB.1 hp,eB.1 hq,e⟩)];exact Ev.neg e (Ev.bind (zJ (fq hs).1 (eB.1 hp) (eB.1 hq)) (Ev.done rfl))
theorem ao2{t:List Int}(hs:aW t=true)(p q:Int):Ev (fun k=>ua.f k t p q) (mR t p q):=by
 unfold ua.f mR;refine Ev.fix (show fE.f t=some (aW t) from rfl) (Ev.pos hs (Ev.fix (zI p) ?_));by_cases hp:dE p=true
 case neg=>rw[ag (fun h=>hp (eB.2 (lp.1 h).1))];exact Ev.neg hp (Ev.done rfl)
 refine Ev.pos hp (Ev.fix (zI q) ?_);by_cases hq:dE q=true
 case neg=>rw[ag (fun h=>hq (eB.2 (lp.1 h).2.1))];exact Ev.neg hq (Ev.done rfl)
 refine Ev.pos hq ?_;by_cases e:p=q
 case pos=>rw[ag (fun h=>(lp.1 h).2.2 e)];exact Ev.pos e (Ev.done rfl)
 rw[ah (lp.2 ⟨eB.1 hp,eB.1 hq,e⟩)];exact Ev.neg e (Ev.bind (GH (fq hs).1 (eB.1 hp) (eB.1 hq)) (Ev.done rfl))
theorem ao3{t:List Int}(hs:aW t=true)(ht:t.length≤1048576)(p q:Int):Ev (fun k=>yh.f k t p q) (jR t p q):=by
 unfold yh.f jR;refine Ev.bind (oX t ht) (Ev.pos hs (Ev.fix (sI p) ?_));by_cases hp:dE p=true
 case neg=>rw[ag (fun h=>hp (eB.2 (lp.1 h).1))];exact Ev.neg hp (Ev.done rfl)
 refine Ev.pos hp (Ev.fix (sI q) ?_);by_cases hq:dE q=true
 case neg=>rw[ag (fun h=>hq (eB.2 (lp.1 h).2.1))];exact Ev.neg hq (Ev.done rfl)
 refine Ev.pos hq ?_;by_cases e:p=q
 case pos=>rw[ag (fun h=>(lp.1 h).2.2 e)];exact Ev.pos e (Ev.done rfl)
 rw[ah (lp.2 ⟨eB.1 hp,eB.1 hq,e⟩)];exact Ev.neg e (Ev.bind (zP hs (eB.1 hp) (eB.1 hq) e) (Ev.done rfl))
theorem ao4{t:List Int}(hs:aW t=true)(ht:t.length≤1048576)(p q:Int):Ev (fun k=>yi.f k t p q) (mR t p q):=by
 unfold yi.f mR;refine Ev.bind (oX t ht) (Ev.pos hs (Ev.fix (sI p) ?_));by_cases hp:dE p=true
 case neg=>rw[ag (fun h=>hp (eB.2 (lp.1 h).1))];exact Ev.neg hp (Ev.done rfl)
 refine Ev.pos hp (Ev.fix (sI q) ?_);by_cases hq:dE q=true
 case neg=>rw[ag (fun h=>hq (eB.2 (lp.1 h).2.1))];exact Ev.neg hq (Ev.done rfl)
 refine Ev.pos hq ?_;by_cases e:p=q
 case pos=>rw[ag (fun h=>(lp.1 h).2.2 e)];exact Ev.pos e (Ev.done rfl)
 rw[ah (lp.2 ⟨eB.1 hp,eB.1 hq,e⟩)];exact Ev.neg e (Ev.bind (GG hs (eB.1 hp) (eB.1 hq) e) (Ev.done rfl))
def pR(t:List Int)(l:Int):List Int×Bool:=if dE l=true then(zD t l,true) else([],false)
theorem ao5{t:List Int}(hs:aW t=true)(l:Int):t7.f t l=some (pR t l):=by
 unfold t7.f pR;rw[show fE.f t=some (aW t) from rfl,Option.bind_some,ah hs,zI,Option.bind_some];by_cases hp:dE l=true
 ·rw[ah hp,ah hp,show zG.f t l=some (zD t l) from ah ⟨(fq hs).1,eB.1 hp⟩];rfl
 ·rw[ag hp,ag hp]
theorem ao6{t:List Int}(hs:aW t=true)(ht:t.length≤1048576)(l:Int):Ev (fun k=>ye.f k t l) (pR t l):=by
 unfold ye.f pR;refine Ev.bind (oX t ht) (Ev.pos hs (Ev.fix (sI l) ?_));by_cases hp:dE l=true
 ·rw[ah hp];exact Ev.pos hp (Ev.bind (aeB (fq hs).1 (eB.1 hp)) (Ev.done rfl))
 ·rw[ag hp];exact Ev.neg hp (Ev.done rfl)
theorem ao7(t:List Int)(l:Int):r8 (pR t l).1∧(pR t l).1.length≤91:=by
 unfold pR;by_cases hp:dE l=true
 ·rw[ah hp];exact⟨Jv fun x hx=>by have hx:x∈cH 91 fun p=>a8 t p l:=hx;have:=pF.1 hx;omega,show(cH 91 fun p=>a8 t p l).length≤91 from kt _ _⟩
 ·rw[ag hp];exact⟨fun x hx=>(List.not_mem_nil hx).elim,by simp⟩
theorem ao8(a b:Int):yg.f a b=some (if(cT a&&cT b)=true then bg a b else -1):=by
 unfold yg.f;rw[CN,Option.bind_some];by_cases ha:cT a=true
 ·rw[ah ha,CN,Option.bind_some,ha,Bool.true_and];by_cases hb:cT b=true
  ·rw[ah hb,ah hb,Cx a b (rW ha) (rW hb)];rfl
  ·rw[ag hb,ag hb]
 ·rw[ag ha,ag (by simp[ha])]
theorem ao9{t:List Int}(hl:t.length=81)(a b:Int):Jh t a b=some (if(cT a&&cT b)=true then rd t (9*a+b) else -1):=by
 unfold Jh;rw[CN,Option.bind_some];by_cases ha:cT a=true
 ·rw[ah ha,CN,Option.bind_some,ha,Bool.true_and];by_cases hb:cT b=true
  ·have h1:=rW ha;have h2:=rW hb;rw[ah hb,ah hb,ah (by unfold bP at h1 h2;omega)]
  ·rw[ag hb,ag hb]
 ·rw[ag ha,ag (by simp[ha])]
structure sb(f g:Nat→Option ((List Int×List Int)×ByteArray)):Prop where
 o:∃r:(List Int×List Int)×ByteArray,Good r.1.1 r.1.2∧r.2.size≤300∧Ev f r∧Ev g (r.1,r.2++f_)
theorem sb.of{f g:Nat→Option ((List Int×List Int)×ByteArray)}{t p:List Int}{r:ByteArray}(h0:Good t p)(h:r.size≤300)(hf:Ev f ((t,p),r))(hg:Ev g ((t,p),r++f_)):sb f g:=⟨((t,p),r),h0,h,hf,hg⟩
theorem Ev.map{α β:Type}{f:Nat→Option α}{a:α}(h:α→β)(hf:Ev f a):Ev (fun k=>(f k).map h) (h a):=by
 obtain⟨m,hm⟩:=hf;exact⟨m,fun k hk=>by show(f k).map h=_;rw[hm k hk];rfl⟩
theorem sb.same{f g:Nat→Option ByteArray}{t p:List Int}(h0:Good t p)(h:Both f g):sb (fun k=>(f k).map fun r=>((t,p),r)) (fun k=>(g k).map fun r=>((t,p),r)):=by
 obtain⟨r,h1,hf,hg⟩:=h.o;exact .of h0 h1 (Ev.map _ hf) (Ev.map _ hg)
theorem ao_(x:Int):tC [x]=fV x.toNat:=by simp[tC,tB,Lib.joinTail]
theorem ZA(x:Int):pu [x] true=B (fV x.toNat):=by unfold pu;rw[ah rfl,ao_]
theorem apa{t p:List Int}(g:Good t p)(w:List UInt8)(a b:Int)(hw:w∈tr):sb (fun k=>ph k t p w a b) (fun k=>(Bi k t w a b).map fun r=>((t,p),r)):=by
 have K:=g.known;have hs:=K.sys;have hl:=K.len;have ht:t.length≤1048576:=ae;unfold ph Bi;have nine:∀v:Int,0≤v∧v<9→(B (fV v.toNat)).size≤300:=fun v _=>by have:=vr v.toNat;rw[po];omega
 by_cases h1:w=[97,100,100]
 ·simp only[ah h1];rw[ao8];by_cases hn:(cT a&&cT b)=true
  ·have hr:=iA a b;refine .of g (nine _ hr) (Ev.pos hn (Ev.map _ (Ev.done (QI ⟨hr.1,ae⟩)))) (Ev.map _ (Ev.fix rfl ?_));rw[ah hn,ap (show bg a b≥0 from hr.1)];exact Ev.eq (r_ (l:=[bg a b]) fun _=>⟨fun x hx=>by rw[List.mem_singleton.1 hx];omega,by simp⟩) (by rw[ZA];rfl)
  ·refine .of (r:=iO) g ao (Ev.neg hn (Ev.done rfl)) (Ev.map _ (Ev.fix rfl ?_));rw[ag hn,aD (show ¬(-1:Int)≥0 by omega)];exact r_ (l:=[-1]) (ok:=false) fun e=>by cases e
 simp only[ag h1];by_cases h2:w=[116,105,109,101,115]
 ·simp only[ah h2];rw[ao9 hl];by_cases hn:(cT a&&cT b)=true
  ·obtain⟨na,nb⟩:=(Bool.and_eq_true _ _▸hn:cT a=true∧cT b=true);have ha:=rW na;have hb:=rW nb;unfold bP at ha hb;have hr:=gG K.QR (i:=9*a+b) ae ae;refine .of g (nine _ hr) (Ev.pos hn (Ev.pos hl (Ev.map _ (Ev.done (QI ⟨hr.1,ae⟩))))) (Ev.map _ (Ev.fix rfl ?_));rw[ah hn,ap (show rd t (9*a+b)≥0 from hr.1)];exact Ev.eq (r_ (l:=[rd t (9*a+b)]) fun _=>⟨fun x hx=>by rw[List.mem_singleton.1 hx];omega,by simp⟩) (by rw[ZA];rfl)
  ·refine .of (r:=iO) g ao (Ev.neg hn (Ev.done rfl)) (Ev.map _ (Ev.fix rfl ?_));rw[ag hn,aD (show ¬(-1:Int)≥0 by omega)];exact r_ (l:=[-1]) (ok:=false) fun e=>by cases e
 simp only[ag h2]
 have hb:∀(f g':Nat→Option (Int×Bool)) (r:Int×Bool),(r.2=true→0≤r.1∧r.1<100)→Ev f r→Ev g' r→sb (fun k=>(f k).bind fun r=>(jF.f k r.1 r.2).map fun s=>((t,p),s)) (fun k=>((g' k).bind fun r=>dr.f k [r.1] r.2).map fun r=>((t,p),r)):=fun f g' r hr hf hg=>by
  have B2:=Zx (f:=f) (g:=g') (n:=r.1) (ok:=r.2) hf hg hr;have:=sb.same g B2;obtain⟨x,x1,x2,x3,x4⟩:=this.o;refine⟨x,x1,x2,Ev.congr (fun k=>?_) x3,x4⟩;cases f k<;>rfl
 by_cases h3:w=[106,111,105,110]
 ·simp only[ah h3];exact hb _ _ (jR t a b) (aoZ hs) (ao1 hs a b) (ao3 hs ht a b)
 simp only[ag h3];exact hb _ _ (mR t a b) (ao0 hs) (ao2 hs a b) (ao4 hs ht a b)
theorem apb{t p:List Int}(g:Good t p)(w:List UInt8)(x:Int):sb (fun k=>rV k t p w x) (fun k=>Ff k t p w x):=by
 have K:=g.known;have hs:=K.sys;have hl:=K.len;have ht:t.length≤1048576:=ae;have hp:=K.ten;unfold rV Ff;by_cases h1:w=[107,105,110,100]
 ·simp only[ah h1];have a:=aoR x;have b:=aoS x;by_cases hx:0≤x∧x<5
  ·rw[ah hx] at a b;exact .of (t:=dS x) (p:=[]) (r:=okW) ⟨⟨x,hx.1,hx.2,rfl⟩,fun y hy=>(List.not_mem_nil hy).elim,by simp⟩ ao (Ev.bind a (Ev.done rfl)) (Ev.bind b (Ev.done rfl))
  ·rw[ag hx] at a b;exact .of (r:=iO) g ao (Ev.bind a (Ev.done rfl)) (Ev.bind b (Ev.done rfl))
 simp only[ag h1];by_cases h2:w=[108,105,110,101]
 ·simp only[ah h2];rw[ao5 hs];obtain⟨hn,hle⟩:=ao7 t x;refine .of (r:=pu (pR t x).1 (pR t x).2) g (Nat.le_trans (Ft fun _=>hle) ae) (Ev.fix rfl (Ev.map _ (QJ fun _=>⟨hn,Nat.le_trans hle ae⟩))) (Ev.bind (ao6 hs ht x) (Ev.map _ (r_ fun _=>⟨hn,Nat.le_trans hle ae⟩)))
 simp only[ag h2];rw[sI,Option.bind_some];by_cases h3:(!dE x||decide (p.length=10))=true
 ·have h3':dE x=false∨p.length=10:=by simpa using h3
  exact .of (r:=iO) g ao (Ev.pos h3 (Ev.done rfl)) (Ev.pos h3' (Ev.done rfl))
 ·have h3':¬(dE x=false∨p.length=10):=by simpa using h3
  have hx:dE x=true:=by
   cases e:dE x with
   |true=>rfl
   |false=>exact absurd (Or.inl e) h3'
  have h10:p.length≠10:=fun e=>h3' (Or.inr e);refine .of (t:=t) (p:=p++[x]) (r:=okW) ⟨g.kind,fun y hy=>?_,by simp;omega⟩ ao (Ev.neg h3 (Ev.pos ae (Ev.done rfl))) (Ev.neg h3' (Ev.pos hp (Ev.done rfl)));rcases List.mem_append.1 hy with hy|hy
  ·exact K.pts y hy
  ·rw[List.mem_singleton.1 hy];exact eB.1 hx
theorem ZB{w:List UInt8}(h:w∈tr):mI w=some 2:=by
 unfold tr at h;rcases List.mem_cons.1 h with rfl|h
 ·decide
 rcases List.mem_cons.1 h with rfl|h
 ·decide
 rcases List.mem_cons.1 h with rfl|h
 ·decide
 rw[List.mem_singleton.1 h];decide
theorem ZC{w:List UInt8}(h:w∈rY):mI w=some 1:=by
 unfold rY at h;rcases List.mem_cons.1 h with rfl|h
 ·decide
 rcases List.mem_cons.1 h with rfl|h
 ·decide
 rw[List.mem_singleton.1 h];decide
theorem apc{w:List UInt8}(h2:w∉tr)(h1:w∉rY):mI w=none:=by
 unfold tr at h2;unfold rY at h1;simp only[List.mem_cons,List.not_mem_nil,or_false,not_or] at h1 h2;unfold mI;rw[ag h1.1,ag h1.2.1,ag h1.2.2,ag h2.1,ag h2.2.1,ag h2.2.2.1,ag h2.2.2.2]
theorem apd{t p:List Int}(g:Good t p)(l:ByteArray)(hl:l.size≤600):sb (fun k=>qx k t p l) (fun k=>Bk k t p l):=by
 have hle:gZ l.data.toList≤l.size:=P6 l.data.toList;unfold qx Bk Jb;by_cases ha:gZ l.data.toList=l.size
 ·simp only[ah ha,an4 ha,if_true];exact sb.same g (aoX g (jO l))
 have ha':gZ l.data.toList<l.size:=ae;have hrest:(⟨(oF l).data.toList.toArray⟩:ByteArray)=oF l:=rfl;simp only[ag ha,an5 ha',ByteArray.toList_eq,Bool.true_eq_false,if_false,hrest];have hrs:(oF l).size≤600:=by unfold oF;rw[ByteArray.size_extract];omega
 by_cases h2:(jO l).data.toList∈tr
 ·simp only[ah h2,ZB h2,reduceCtorEq,if_false,Option.getD_some];unfold Ji;rcases Zp (oF l) hrs 2 with⟨xs,hx,hn,a,b⟩|⟨xs,ys,a,b⟩
  ·match xs,hx,a,b with
   |[x,y],_,a,b=>
    obtain⟨r,r1,r2,r3,r4⟩:=(apa g (jO l).data.toList x y h2).o;refine⟨r,r1,r2,Ev.bind a (Ev.neg bn ?_),?_⟩
    ·show Ev (fun k=>if mI (jO l).data.toList=some 2 then ph k t p (jO l).data.toList x y else none) r
     exact Ev.pos (ZB h2) r3
    ·obtain⟨m,hm⟩:=r4;obtain⟨n,hn'⟩:=b;refine⟨m+n,fun k hk=>?_⟩;have e1:eh.f k (oF l) 2=some ([x,y],true):=hn' k ae;have e2:(Bi k t (jO l).data.toList x y).map (fun r=>((t,p),r))=some (r.1,r.2++f_):=hm k ae;dsimp only;rw[e1,Option.bind_some,ag bn,ByteArray.toList_eq];exact e2
  ·refine .of (r:=iO) g ao (Ev.bind a (Ev.pos rfl (Ev.done rfl))) (Ev.map (fun r=>((t,p),r)) (a:=iO++f_) (Ev.bind b (Ev.pos rfl (Ev.done rfl))))
 simp only[ag h2];by_cases h1:(jO l).data.toList∉rY
 ·simp only[ah h1,apc h2 h1,if_true];exact .of (r:=Gv) g ao (Ev.done rfl) (Ev.done rfl)
 have h1':(jO l).data.toList∈rY:=Classical.byContradiction h1;simp only[ag h1,ZC h1',reduceCtorEq,if_false,Option.getD_some];rcases Zp (oF l) hrs 1 with⟨xs,hx,hn,a,b⟩|⟨xs,ys,a,b⟩
 ·match xs,hx,a,b with
  |[x],_,a,b=>
   obtain⟨r,r1,r2,r3,r4⟩:=(apb g (jO l).data.toList x).o;refine⟨r,r1,r2,Ev.bind a (Ev.neg bn ?_),Ev.bind b (Ev.neg bn r4)⟩
   show Ev (fun k=>if mI (jO l).data.toList=some 1 then rV k t p (jO l).data.toList x else none) r
   exact Ev.pos (ZC h1') r3
 ·exact .of (r:=iO) g ao (Ev.bind a (Ev.pos rfl (Ev.done rfl))) (Ev.bind b (Ev.pos rfl (Ev.done rfl)))
theorem ape(t p:List Int)(l:ByteArray)(g:Good t p)(hl:l.size≤600):∃r,Bn t p l r:=by
 obtain⟨r,r1,r2,r3,r4⟩:=(apd g l hl).o;exact⟨r,r1,r2,r3,r4⟩
theorem Jw:∃f,oH f:=aoV ape
end X
end Go.Proofs.YtiobedekgnfjcaaGreatDoor
