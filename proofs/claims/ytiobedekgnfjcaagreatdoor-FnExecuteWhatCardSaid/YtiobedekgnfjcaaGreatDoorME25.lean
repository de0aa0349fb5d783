/- What both Executes come to: contracts and plain laws, for the laws on Execute. No conditions. (Part 26 of 28.) -/
import Derived.Test.YtiobedekgnfjcaaGreatDoorME24
set_option linter.unusedVariables false
set_option linter.unusedSimpArgs false
set_option maxHeartbeats 1000000
namespace Go.Proofs.YtiobedekgnfjcaaGreatDoor
namespace P
end P
open Go.Proofs.YtiobedekgnfjcaaGreatDoor.P Go.Proofs.YtiobedekgnfjcaaGreatDoorW.aq Go.Proofs.YtiobedekgnfjcaaGreatDoorW.ay Go.RowKit
namespace X
def okW:ByteArray:=⟨#[111,107]⟩
def Fb(k:Nat)(t p:List Int)(w:List UInt8):Option ByteArray:=
 if w=[107,101,114,110,101,108] then(ud.f t).bind fun r=>gx.f k r.1 r.2
 else if w=[99,101,110,116,114,101] then(uc.f t).bind fun r=>gx.f k r.1 r.2
 else if w=[98,114,97,99,107,101,116,115] then some (l6 (aW t&&nC t))
 else if w=[98,111,116,104] then some (l6 (aW t&&l5 t))
 else if w=[115,119,97,112,115] then some (l6 (aW t&&ub t))
 else if w=[99,108,111,115,101,115] then(o3.f k t p).bind fun q=>if q=true then some ⟨#[116,119,105,110]⟩ else(sQ.f k t p).bind fun q=>some (if q=true then⟨#[104,101,120]⟩ else⟨#[110,111,116]⟩)
 else if w=[113,117,97,100] then(uo.f k t p).bind fun r=>gx.f k r.1 r.2
 else if w=[111,114,100,101,114] then(wM.f k t p).bind fun r=>jF.f k r.1 r.2
 else if w=[115,112,97,110] then(ur.f t p).bind fun r=>jF.f k (r.1.length:Int) r.2
 else if w=[100,101,114,105,118,101] then(xy.f t).bind fun s=>(yc.f s).bind fun r=>(k8.f k s r.1).bind fun n=>jF.f k n r.2
 else some ⟨#[119,104,97,116]⟩
def rV(k:Nat)(t p:List Int)(w:List UInt8)(x:Int):Option ((List Int×List Int)×ByteArray):=
 if w=[107,105,110,100] then(ri.f k x).bind fun r=>some (if r.2=true then((r.1,[]),okW) else((t,p),iO))
 else if w=[108,105,110,101] then(t7.f t x).bind fun r=>(gx.f k r.1 r.2).map fun s=>((t,p),s)
 else if(!dE x||decide (p.length=10))=true then some ((t,p),iO) else if p.length≤1048576 then some ((t,p++[x]),okW) else none
def ph(k:Nat)(t p:List Int)(w:List UInt8)(x y:Int):Option ((List Int×List Int)×ByteArray):=
 if w=[97,100,100] then(if(cT x&&cT y)=true then(my.f (bg x y)).map fun s=>((t,p),s) else some ((t,p),iO))
 else if w=[116,105,109,101,115] then(if(cT x&&cT y)=true then(if t.length=81 then(my.f (rd t (9*x+y))).map fun s=>((t,p),s) else none) else some ((t,p),iO))
 else if w=[106,111,105,110] then(t8.f k t x y).bind fun r=>(jF.f k r.1 r.2).map fun s=>((t,p),s)
 else(ua.f k t x y).bind fun r=>(jF.f k r.1 r.2).map fun s=>((t,p),s)
def nc(k:Nat)(t p:List Int)(w:List UInt8):List Int→Option ((List Int×List Int)×ByteArray)
 |[x]=>if mI w=some 1 then rV k t p w x else none
 |[x,y]=>if mI w=some 2 then ph k t p w x y else none
 |_=>none
def qx(k:Nat):qT:=fun t p l=>
 if(Lib.cut l.data.toList [32]).2.2=false then(Fb k t p (Lib.cut l.data.toList [32]).1).map fun r=>((t,p),r)
 else if mI (Lib.cut l.data.toList [32]).1=none then some ((t,p),Gv)
 else(cM.f k ⟨(Lib.cut l.data.toList [32]).2.1.toArray⟩ ((mI (Lib.cut l.data.toList [32]).1).getD 0)).bind fun n=>if n.2=false then some ((t,p),iO) else nc k t p (Lib.cut l.data.toList [32]).1 n.1
theorem rW{z:Int}(h:cT z=true):bP z:=by unfold cT at h;simp only[Bool.and_eq_true,decide_eq_true_eq] at h;exact h
theorem amC{w:List UInt8}(h:mI w≠none):w=[107,105,110,100]∨w=[108,105,110,101]∨w=[112,111,105,110,116]∨w=[97,100,100]∨w=[116,105,109,101,115]∨w=[106,111,105,110]∨w=[109,101,101,116]:=by
 unfold mI at h;by_cases h1:w=[107,105,110,100]
 ·exact .inl h1
 rw[ag h1] at h;by_cases h2:w=[108,105,110,101]
 ·exact .inr (.inl h2)
 rw[ag h2] at h;by_cases h3:w=[112,111,105,110,116]
 ·exact .inr (.inr (.inl h3))
 rw[ag h3] at h;by_cases h4:w=[97,100,100]
 ·exact .inr (.inr (.inr (.inl h4)))
 rw[ag h4] at h;by_cases h5:w=[116,105,109,101,115]
 ·exact .inr (.inr (.inr (.inr (.inl h5))))
 rw[ag h5] at h;by_cases h6:w=[106,111,105,110]
 ·exact .inr (.inr (.inr (.inr (.inr (.inl h6)))))
 rw[ag h6] at h;by_cases h7:w=[109,101,101,116]
 ·exact .inr (.inr (.inr (.inr (.inr (.inr (h7))))))
 rw[ag h7] at h;exact absurd rfl h
theorem amD(k:Nat){B b:Nat}{A:Option Addr}{c:Nat}{t:List Int}{vp:Value}{p:List Int}(W:World)(hd:dW W B b A c t vp p)(w:List UInt8)(r:ByteArray)(h:Fb k t p w=some r):
  Calls Tryz.prog 47 #[.pointer (some ⟨b,0,none⟩),.string ⟨w.toArray⟩] W fun e w'=>e=.returned (.string r)∧Below W.heap.size W w':=by
 unfold Fb at h;by_cases h1:w=[107,101,114,110,101,108]
 ·rw[ah h1] at h;subst h1;obtain⟨⟨l,ok⟩,h2,h⟩:=aA.1 h;exact amp W hd l ok h2 k r h
 rw[ag h1] at h;by_cases h2:w=[99,101,110,116,114,101]
 ·rw[ah h2] at h;subst h2;obtain⟨⟨l,ok⟩,h2,h⟩:=aA.1 h;exact amq W hd l ok h2 k r h
 rw[ag h2] at h;by_cases h3:w=[98,114,97,99,107,101,116,115]
 ·rw[ah h3] at h;subst h3;obtain rfl:=au h;exact amr W hd
 rw[ag h3] at h;by_cases h4:w=[98,111,116,104]
 ·rw[ah h4] at h;subst h4;obtain rfl:=au h;exact ad9 W hd
 rw[ag h4] at h;by_cases h5:w=[115,119,97,112,115]
 ·rw[ah h5] at h;subst h5;obtain rfl:=au h;exact ams W hd
 rw[ag h5] at h;by_cases h6:w=[99,108,111,115,101,115]
 ·rw[ah h6] at h;subst h6;obtain⟨q,h2,h⟩:=aA.1 h;cases q with
  |true=>
   obtain rfl:=au h;exact amt W hd k h2
  |false=>
   rw[ag ao] at h;obtain⟨q,h3,h⟩:=aA.1 h;cases q with
   |true=>
    obtain rfl:=au h;exact amu W hd k h2 k h3
   |false=>
    obtain rfl:=au h;exact amv W hd k h2 k h3
 rw[ag h6] at h;by_cases h7:w=[113,117,97,100]
 ·rw[ah h7] at h;subst h7;obtain⟨⟨l,ok⟩,h2,h⟩:=aA.1 h;exact amw W hd k l ok h2 k r h
 rw[ag h7] at h;by_cases h8:w=[111,114,100,101,114]
 ·rw[ah h8] at h;subst h8;obtain⟨⟨n,ok⟩,h2,h⟩:=aA.1 h;exact amx W hd k n ok h2 k r h
 rw[ag h8] at h;by_cases h9:w=[115,112,97,110]
 ·rw[ah h9] at h;subst h9;obtain⟨⟨l,ok⟩,h2,h⟩:=aA.1 h;exact amy W hd l ok h2 k r h
 rw[ag h9] at h;by_cases h10:w=[100,101,114,105,118,101]
 ·rw[ah h10] at h;subst h10;obtain⟨s,h2,h⟩:=aA.1 h;obtain⟨⟨s',ok⟩,h3,h⟩:=aA.1 h;obtain⟨n,h4,h⟩:=aA.1 h;exact amA W hd s s' ok h2 h3 k n h4 k r h
 rw[ag h10] at h;obtain rfl:=au h;exact amB b ⟨w.toArray⟩ W (by simp[PU,h1,h2,h3,h4,h5,h6,h7,h8,h9,h10])
theorem amE(k:Nat)(m:Int):Sk (qx k) m:=by
 intro W B b A c t vp p l r hd hm hl h;unfold qx at h;obtain⟨⟨cw,cr,ch⟩,hc⟩:∃q,Lib.cut l.data.toList [32]=q:=⟨_,rfl⟩;simp only[hc] at h;have hs:l.size<4294967281:=ae;cases ch with
 |false=>
  rw[ah rfl] at h;obtain⟨s,hp,he⟩:=Option.map_eq_some_iff.1 h;subst he;refine(ad8 b l ⟨cw.toArray⟩ ⟨cr.toArray⟩ m W hs hm hc s (fun w hw=>amD k w (hd.below hw) cw s hp)).mono ?_;rintro e w' ⟨rfl,hb⟩;exact⟨rfl,iU.same hd hb⟩
 |true=>
  rw[ag ao] at h;by_cases hw:mI cw=none
  ·rw[ah hw] at h;obtain rfl:=au h;refine(adL b l ⟨cw.toArray⟩ ⟨cr.toArray⟩ m W hs hm hc hw).mono ?_;rintro e w' ⟨rfl,hb⟩;exact⟨rfl,iU.same hd hb⟩
  ·rw[ag hw] at h;obtain⟨⟨n,ok⟩,hn,ho⟩:=aA.1 h;clear h;rcases amC hw with rfl|rfl|rfl|rfl|rfl|rfl|rfl
   ·have hn:cM.f k ⟨cr.toArray⟩ 1=some (n,ok):=hn;cases ok with
    |false=>
     obtain rfl:=au ho;refine(adE k l ⟨cr.toArray⟩ m W hd hs hm hc n hn).mono ?_;rintro e w' ⟨rfl,hb⟩;exact⟨rfl,iU.same hd hb⟩
    |true=>
     have ho:nc k t p [107,105,110,100] n=some r:=ho
     obtain⟨x,rfl,h1⟩:∃x,n=[x]∧rV k t p [107,105,110,100] x=some r:=by
      match n,ho with
      |[x],ho=>exact⟨x,rfl,ho⟩
      |[],ho=>cases ho
      |x::y::z::q,ho=>cases ho
      |[x,y],ho=>exact absurd ho (by simp only[nc];rw[ag ao];simp)
     clear ho;have ho:=h1;clear h1;unfold rV at ho;rw[ah rfl] at ho;obtain⟨⟨t',fine⟩,ht,ho⟩:=aA.1 ho;cases fine with
     |true=>
      obtain rfl:=au ho;exact acR k k l ⟨cr.toArray⟩ m W hd hs hm hc x hn t' ht
     |false=>
      obtain rfl:=au ho;refine(adM k l ⟨cr.toArray⟩ m W hd hs hm hc x hn k t' ht).mono ?_;rintro e w' ⟨rfl,hb⟩;exact⟨rfl,iU.same hd hb⟩
   ·have hn:cM.f k ⟨cr.toArray⟩ 1=some (n,ok):=hn;cases ok with
    |false=>
     obtain rfl:=au ho;refine(adF k l ⟨cr.toArray⟩ m W hd hs hm hc n hn).mono ?_;rintro e w' ⟨rfl,hb⟩;exact⟨rfl,iU.same hd hb⟩
    |true=>
     have ho:nc k t p [108,105,110,101] n=some r:=ho
     obtain⟨x,rfl,h1⟩:∃x,n=[x]∧rV k t p [108,105,110,101] x=some r:=by
      match n,ho with
      |[x],ho=>exact⟨x,rfl,ho⟩
      |[],ho=>cases ho
      |x::y::z::q,ho=>cases ho
      |[x,y],ho=>exact absurd ho (by simp only[nc];rw[ag ao];simp)
     clear ho;have ho:=h1;clear h1;unfold rV at ho;rw[ag ao,ah rfl] at ho;obtain⟨⟨q,ok⟩,h2,ho⟩:=aA.1 ho;obtain⟨s,h3,he⟩:=Option.map_eq_some_iff.1 ho;subst he;refine(adP k l ⟨cr.toArray⟩ m W hd hs hm hc x hn q ok h2 k s h3).mono ?_;rintro e w' ⟨rfl,hb⟩;exact⟨rfl,iU.same hd hb⟩
   ·have hn:cM.f k ⟨cr.toArray⟩ 1=some (n,ok):=hn;cases ok with
    |false=>
     obtain rfl:=au ho;refine(adG k l ⟨cr.toArray⟩ m W hd hs hm hc n hn).mono ?_;rintro e w' ⟨rfl,hb⟩;exact⟨rfl,iU.same hd hb⟩
    |true=>
     have ho:nc k t p [112,111,105,110,116] n=some r:=ho
     obtain⟨x,rfl,h1⟩:∃x,n=[x]∧rV k t p [112,111,105,110,116] x=some r:=by
      match n,ho with
      |[x],ho=>exact⟨x,rfl,ho⟩
      |[],ho=>cases ho
      |x::y::z::q,ho=>cases ho
      |[x,y],ho=>exact absurd ho (by simp only[nc];rw[ag ao];simp)
     clear ho;have ho:=h1;clear h1;unfold rV at ho;rw[ag ao,ag ao] at ho;by_cases hx:(!dE x||decide (p.length=10))=true
     ·rw[ah hx] at ho;obtain rfl:=au ho;refine(adS k l ⟨cr.toArray⟩ m W hd hs hm hc x hn hx).mono ?_;rintro e w' ⟨rfl,hb⟩;exact⟨rfl,iU.same hd hb⟩
     ·rw[ag hx] at ho;by_cases hpl:p.length≤1048576
      case neg=>rw[ag hpl] at ho;cases ho
      rw[ah hpl] at ho;obtain rfl:=au ho;simp only[Bool.or_eq_true,Bool.not_eq_true',decide_eq_true_eq,not_or,Bool.not_eq_false] at hx;exact adT k l ⟨cr.toArray⟩ m W hd hs hm hc x hn hx.1 hx.2 hpl
   ·have hn:cM.f k ⟨cr.toArray⟩ 2=some (n,ok):=hn;cases ok with
    |false=>
     obtain rfl:=au ho;refine(adH k l ⟨cr.toArray⟩ m W hd hs hm hc n hn).mono ?_;rintro e w' ⟨rfl,hb⟩;exact⟨rfl,iU.same hd hb⟩
    |true=>
     have ho:nc k t p [97,100,100] n=some r:=ho
     obtain⟨x,y,rfl,h1⟩:∃x y,n=[x,y]∧ph k t p [97,100,100] x y=some r:=by
      match n,ho with
      |[x,y],ho=>exact⟨x,y,rfl,ho⟩
      |[],ho=>cases ho
      |x::y::z::q,ho=>cases ho
      |[x],ho=>exact absurd ho (by simp only[nc];rw[ag ao];simp)
     clear ho;have ho:=h1;clear h1;unfold ph at ho;rw[ah rfl] at ho;by_cases hx:(cT x&&cT y)=true
     case neg=>
      rw[ag hx] at ho;obtain rfl:=au ho;refine(adN k l ⟨cr.toArray⟩ m W hd hs hm hc x y hn (Bool.eq_false_iff.2 hx)).mono ?_;rintro e w' ⟨rfl,hb⟩;exact⟨rfl,iU.same hd hb⟩
     rw[ah hx] at ho;simp only[Bool.and_eq_true] at hx;obtain⟨s,h3,he⟩:=Option.map_eq_some_iff.1 ho;subst he;refine(acP k b l ⟨cr.toArray⟩ m W hs hm hc x y hn (rW hx.1) (rW hx.2) s h3).mono ?_;rintro e w' ⟨rfl,hb⟩;exact⟨rfl,iU.same hd hb⟩
   ·have hn:cM.f k ⟨cr.toArray⟩ 2=some (n,ok):=hn;cases ok with
    |false=>
     obtain rfl:=au ho;refine(adI k l ⟨cr.toArray⟩ m W hd hs hm hc n hn).mono ?_;rintro e w' ⟨rfl,hb⟩;exact⟨rfl,iU.same hd hb⟩
    |true=>
     have ho:nc k t p [116,105,109,101,115] n=some r:=ho
     obtain⟨x,y,rfl,h1⟩:∃x y,n=[x,y]∧ph k t p [116,105,109,101,115] x y=some r:=by
      match n,ho with
      |[x,y],ho=>exact⟨x,y,rfl,ho⟩
      |[],ho=>cases ho
      |x::y::z::q,ho=>cases ho
      |[x],ho=>exact absurd ho (by simp only[nc];rw[ag ao];simp)
     clear ho;have ho:=h1;clear h1;unfold ph at ho;rw[ag ao,ah rfl] at ho;by_cases hx:(cT x&&cT y)=true
     case neg=>
      rw[ag hx] at ho;obtain rfl:=au ho;refine(adO k l ⟨cr.toArray⟩ m W hd hs hm hc x y hn (Bool.eq_false_iff.2 hx)).mono ?_;rintro e w' ⟨rfl,hb⟩;exact⟨rfl,iU.same hd hb⟩
     rw[ah hx] at ho;simp only[Bool.and_eq_true] at hx;by_cases ht:t.length=81
     case neg=>rw[ag ht] at ho;cases ho
     rw[ah ht] at ho;obtain⟨s,h3,he⟩:=Option.map_eq_some_iff.1 ho;subst he;refine(acS k l ⟨cr.toArray⟩ m W hd hs hm hc x y hn (rW hx.1) (rW hx.2) ht s h3).mono ?_;rintro e w' ⟨rfl,hb⟩;exact⟨rfl,iU.same hd hb⟩
   ·have hn:cM.f k ⟨cr.toArray⟩ 2=some (n,ok):=hn;cases ok with
    |false=>
     obtain rfl:=au ho;refine(adJ k l ⟨cr.toArray⟩ m W hd hs hm hc n hn).mono ?_;rintro e w' ⟨rfl,hb⟩;exact⟨rfl,iU.same hd hb⟩
    |true=>
     have ho:nc k t p [106,111,105,110] n=some r:=ho
     obtain⟨x,y,rfl,h1⟩:∃x y,n=[x,y]∧ph k t p [106,111,105,110] x y=some r:=by
      match n,ho with
      |[x,y],ho=>exact⟨x,y,rfl,ho⟩
      |[],ho=>cases ho
      |x::y::z::q,ho=>cases ho
      |[x],ho=>exact absurd ho (by simp only[nc];rw[ag ao];simp)
     clear ho;have ho:=h1;clear h1;unfold ph at ho;rw[ag ao,ag ao,ah rfl] at ho;obtain⟨⟨q,ok⟩,h2,ho⟩:=aA.1 ho;obtain⟨s,h3,he⟩:=Option.map_eq_some_iff.1 ho;subst he;refine(adQ k l ⟨cr.toArray⟩ m W hd hs hm hc x y hn k q ok h2 k s h3).mono ?_;rintro e w' ⟨rfl,hb⟩;exact⟨rfl,iU.same hd hb⟩
   ·have hn:cM.f k ⟨cr.toArray⟩ 2=some (n,ok):=hn;cases ok with
    |false=>
     obtain rfl:=au ho;refine(adK k l ⟨cr.toArray⟩ m W hd hs hm hc n hn).mono ?_;rintro e w' ⟨rfl,hb⟩;exact⟨rfl,iU.same hd hb⟩
    |true=>
     have ho:nc k t p [109,101,101,116] n=some r:=ho
     obtain⟨x,y,rfl,h1⟩:∃x y,n=[x,y]∧ph k t p [109,101,101,116] x y=some r:=by
      match n,ho with
      |[x,y],ho=>exact⟨x,y,rfl,ho⟩
      |[],ho=>cases ho
      |x::y::z::q,ho=>cases ho
      |[x],ho=>exact absurd ho (by simp only[nc];rw[ag ao];simp)
     clear ho;have ho:=h1;clear h1;unfold ph at ho;rw[ag ao,ag ao,ag ao] at ho;obtain⟨⟨q,ok⟩,h2,ho⟩:=aA.1 ho;obtain⟨s,h3,he⟩:=Option.map_eq_some_iff.1 ho;subst he;refine(adR k l ⟨cr.toArray⟩ m W hd hs hm hc x y hn k q ok h2 k s h3).mono ?_;rintro e w' ⟨rfl,hb⟩;exact⟨rfl,iU.same hd hb⟩
end X
namespace P
def fj.f(k:Nat)(a0:ByteArray):Option ByteArray:=X.Gb (X.qx k) k a0
theorem fj.calls(k:Nat)(a0:ByteArray)(r:ByteArray)(m:Int)(w:World)(hm:w.cell? ⟨0,0,none⟩=some (.int .i64 m))(h:fj.f k a0=some r):
  Calls Tryz.prog 10 #[.string a0] w fun e w'=>e=.returned (.string r)∧Below w.heap.size w w':=
 X.ab1 _ m (X.amE k m) k a0 r w hm h
end P
end Go.Proofs.YtiobedekgnfjcaaGreatDoor
