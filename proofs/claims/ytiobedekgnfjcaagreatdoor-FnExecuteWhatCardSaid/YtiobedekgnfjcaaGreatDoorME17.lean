/- What both Executes come to: contracts and plain laws, for the laws on Execute. No conditions. (Part 18 of 28.) -/
import Derived.Test.YtiobedekgnfjcaaGreatDoorME11
import Derived.Test.YtiobedekgnfjcaaGreatDoorME12
set_option linter.unusedVariables false
set_option linter.unusedSimpArgs false
namespace Go.Proofs.YtiobedekgnfjcaaGreatDoor
namespace P
end P
open Go.Proofs.YtiobedekgnfjcaaGreatDoor.P Go.Proofs.YtiobedekgnfjcaaGreatDoorW.aq Go.Proofs.YtiobedekgnfjcaaGreatDoorW.ay Go.RowKit
namespace X
def uq(t:List Int)(s:Nat→Bool)(l:Int)(p:Nat):Nat:=fL t (cH p fun p=>s p.toNat) l
theorem agH(t:List Int)(s:Nat→Bool)(l:Int)(p:Nat):uq t s l (p+1)=uq t s l p+(if s p=true∧a8 t (p:Int) l=true then 1 else 0):=by
 unfold uq fL;rw[lW,List.filter_append,List.length_append];have hz:((p:Int)).toNat=p:=ae;rw[hz];by_cases h1:s p=true
 ·by_cases h2:a8 t (p:Int) l=true
  ·rw[ah h1,ah ⟨h1,h2⟩];simp[h2]
  ·rw[ah h1,ag (fun h=>h2 h.2)];simp[h2]
 ·rw[ag h1,ag (fun h=>h1 h.1)];simp
theorem agI(t:List Int)(s:Nat→Bool)(l:Int)(p:Nat):uq t s l p≤p:=Nat.le_trans (C8 _ _ _) (kt _ _)
theorem agJ{t:List Int}(hn:b9 t 81=true)(s:Nat→Bool)(l:Nat)(hl:l<91)
  (hr:Ev (fun k=>f6.l0 k t (bL 91 s) (cH (l+1) fun l=>decide (1<(fL t (gJ s) l:Int))) ((l+1:Nat):Int)) (ce t s)) (d:Nat):
  ∀p:Nat,p+d=91→Ev (fun k=>f6.l1 k t (bL 91 s) (cH l fun l=>decide (1<(fL t (gJ s) l:Int))) (l:Int) (uq t s l p:Int) (p:Int)) (ce t s):=by
 have hlen:=kt l fun l=>decide (1<(fL t (gJ s) l:Int));have zl:wrap64 ((l:Int)+1)=((l+1:Nat):Int):=by rw[bI ae ae];rfl
 induction d with
 |zero=>
  intro p hp;have e:p=91:=ae;subst e;refine Ev.step (fun k=>by rw[f6.l1]) ?_;rw[zl];refine Ev.neg ae ?_;have hc:uq t s l 91=fL t (gJ s) l:=rfl;rw[lW] at hr;by_cases h:1<(fL t (gJ s) (l:Int):Int)
  ·rw[ap h,ah rfl] at hr;exact Ev.pos (by rw[hc];exact h) (Ev.pos ae hr)
  ·rw[aD h,ag ao,List.append_nil] at hr;exact Ev.neg (by rw[hc];exact h) hr
 |succ d ih=>
  intro p hp;have nx:=ih (p+1) ae;rw[agH] at nx;have hle:=agI t s l p;have zp:wrap64 ((p:Int)+1)=((p+1:Nat):Int):=by rw[bI ae ae];rfl
  have zc:wrap64 ((uq t s l p:Int)+1)=((uq t s l p+1:Nat):Int):=by rw[bI ae ae];rfl
  have hb:dM false (bL 91 s) (p:Int)=s p:=by rw[L4 _ ae ae];rfl
  refine Ev.step (fun k=>by rw[f6.l1]) ?_;rw[zp,zc,hb,Df];refine Ev.pos ae (Ev.pos ae (Ev.pos ae ?_));by_cases h1:s p=true
  ·refine Ev.pos h1 (Ev.fix (sJ hn (p:=(p:Int)) (l:=(l:Int)) ⟨ae,ae⟩ ⟨ae,ae⟩) ?_);by_cases h2:a8 t (p:Int) (l:Int)=true
   ·rw[ah ⟨h1,h2⟩] at nx;exact Ev.pos h2 nx
   ·rw[ag (fun h=>h2 h.2),Nat.add_zero] at nx;exact Ev.neg h2 nx
  ·rw[ag (fun h=>h1 h.1),Nat.add_zero] at nx;exact Ev.neg h1 nx
theorem agK{t:List Int}(hn:b9 t 81=true)(s:Nat→Bool)(d:Nat):∀l:Nat,l+d=91→Ev (fun k=>f6.l0 k t (bL 91 s) (cH l fun l=>decide (1<(fL t (gJ s) l:Int))) (l:Int)) (ce t s):=by
 induction d with
 |zero=>
  intro l hl;have e:l=91:=ae;subst e;refine Ev.step (fun k=>by rw[f6.l0]) ?_;exact Ev.neg ae (Ev.done rfl)
 |succ d ih=>
  intro l hl;refine Ev.step (fun k=>by rw[f6.l0]) ?_;exact Ev.pos ae (agJ hn s l ae (ih (l+1) ae) 91 0 ae)
theorem agL{t:List Int}(hn:b9 t 81=true)(s:Nat→Bool):Ev (fun k=>f6.f k t (bL 91 s)) (ce t s):=agK hn s 91 0 ae
theorem agM{t:List Int}(s:Nat→Bool)(c:Int)(r:List Int)(hr:Ev (fun k=>if((gJ s).length:Int)=c then some (gJ s) else cD.l1 k t (bL 91 s) ((gJ s).length:Int)) r)(d:Nat):
  ∀p:Nat,p+d=91→Ev (fun k=>cD.l4 k t (bL 91 s) c (cH p fun p=>s p.toNat) (p:Int)) r:=by
 induction d with
 |zero=>
  intro p hp;have e:p=91:=ae;subst e;refine Ev.step (fun k=>by rw[cD.l4]) ?_;exact Ev.neg ae hr
 |succ d ih=>
  intro p hp;have nx:=ih (p+1) ae;have hlen:=kt p fun p=>s p.toNat;rw[lW,show((p:Int)).toNat=p by omega] at nx;have zp:wrap64 ((p:Int)+1)=((p+1:Nat):Int):=by rw[bI ae ae];rfl
  have hb:dM false (bL 91 s) (p:Int)=s p:=by rw[L4 _ ae ae];rfl
  refine Ev.step (fun k=>by rw[cD.l4]) ?_;rw[zp,hb,Df];refine Ev.pos ae (Ev.pos ae (Ev.pos ae ?_));by_cases h1:s p=true
  ·rw[ah h1] at nx;exact Ev.pos h1 (Ev.pos ae nx)
  ·rw[ag h1,List.append_nil] at nx;exact Ev.neg h1 nx
theorem agN{t:List Int}(hs:aW t=true)(s:Nat→Bool)(c:Int)(r:List Int)(i:Int)(i0:0≤i)(i1:i<(ce t s).length)
  (hr:Ev (fun k=>cD.l2 k t (bL 91 (fB t (ce t s) s (i+1) 0)) c (ce t s) (i+1)) r) (d:Nat):
  ∀k:Int,0≤k→k+d=i→Ev (fun n=>cD.l3 n t (bL 91 (fB t (ce t s) s i k)) c (ce t s) i k) r:=by
 have TP:(ce t s).length≤91:=kt _ _
 induction d with
 |zero=>
  intro k k0 hk;have e:k=i:=ae;subst e;refine Ev.step (fun n=>by rw[cD.l3]) ?_;rw[bI (x:=k+1) ae ae];refine Ev.neg ae ?_;rw[rx fun x _=>(LA t (ce t s) s k0 x).symm];exact hr
 |succ d ih=>
  intro k k0 hk;obtain⟨p0,p1⟩:=TR hs k0 (by omega:k<i) i1;have hi:=zY (t:=t) (s:=s) i0 i1;have hkk:=zY (t:=t) (s:=s) k0 ae;have hlt:rd (ce t s) k<rd (ce t s) i:=SX k0 ae i1;have nx:=ih (k+1) ae ae;refine Ev.step (fun n=>by rw[cD.l3]) ?_;rw[bI (x:=k+1) ae ae,Df];refine Ev.pos ae (Ev.pos i0 (Ev.pos i1 (Ev.pos k0 (Ev.pos ae (Ev.bind (GG hs hi hkk ae) (Ev.pos p0 (Ev.pos p1 ?_)))))));rw[L5,rx fun x _=>(GL t (ce t s) s i k0 p0 rfl x).symm];exact nx
theorem agO{t:List Int}(hs:aW t=true)(s:Nat→Bool)(c:Int)(r:List Int)
  (hr:Ev (fun k=>cD.l4 k t (bL 91 (fZ t s)) c [] 0) r) (d:Nat):
  ∀i:Int,0≤i→i+d=(ce t s).length→Ev (fun k=>cD.l2 k t (bL 91 (fB t (ce t s) s i 0)) c (ce t s) i) r:=by
 induction d with
 |zero=>
  intro i i0 hi;have e:i=((ce t s).length:Int):=ae;subst e;refine Ev.step (fun k=>by rw[cD.l2]) ?_;refine Ev.neg ae ?_;rw[rx fun x _=>CZ t s x];exact hr
 |succ d ih=>
  intro i i0 hi;refine Ev.step (fun k=>by rw[cD.l2]) ?_;refine Ev.pos ae (agN hs s c r i i0 ae (ih (i+1) ae ae) i.toNat 0 ae ae)
theorem agP{t:List Int}(hs:aW t=true)(s0:Nat→Bool)(m:Nat):∀n c:Nat,n≤c→c≤iY (cZ t s0 n)→91 - c<m→Ev (fun k=>cD.l1 k t (bL 91 (cZ t s0 n)) (c:Int)) (fw t s0):=by
 induction m with
 |zero=>intro n c _ _ h;omega
 |succ m ih=>
  intro n c hn hc hm;have hsz:=uh (cZ t s0 n);refine Ev.step (fun k=>by rw[cD.l1]) ?_;refine Ev.bind (agL (fq hs).1 _) ?_;have e0:bL 91 (cZ t s0 n)=bL 91 (fB t (ce t (cZ t s0 n)) (cZ t s0 n) 0 0):=rx fun x _=>(Lz t _ _ x).symm;rw[show(fun k=>cD.l2 k t (bL 91 (cZ t s0 n)) (c:Int) (ce t (cZ t s0 n)) 0)=fun k=>cD.l2 k t (bL 91 (fB t (ce t (cZ t s0 n)) (cZ t s0 n) 0 0)) (c:Int) (ce t (cZ t s0 n)) 0 by rw[e0]];refine agO hs (cZ t s0 n) (c:Int) (fw t s0) ?_ (ce t (cZ t s0 n)).length 0 ae ae;refine agM (fZ t (cZ t s0 n)) (c:Int) (fw t s0) ?_ 91 0 ae;have hmono:iY (cZ t s0 n)≤iY (fZ t (cZ t s0 n)):=ae2 fun x _ h=>zX t _ x h;have aqW:=uh (fZ t (cZ t s0 n));have hlen:(gJ (fZ t (cZ t s0 n))).length=iY (fZ t (cZ t s0 n)):=rfl;by_cases h:iY (fZ t (cZ t s0 n))=c
  ·refine Ev.pos (by rw[hlen];omega) (Ev.done ?_);have heq:=ae3 (s:=cZ t s0 n) (s':=fZ t (cZ t s0 n)) (fun x _ h=>zX t _ x h) ae;rw[TN ae fun x hx=>(heq x hx).symm,LB heq]
  ·refine Ev.neg (by rw[hlen];omega) ?_;rw[hlen];exact ih (n+1) (iY (fZ t (cZ t s0 n))) ae (aH _) ae
theorem agQ{t:List Int}(hs:aW t=true){l:List Int}(hl:l.length≤10)(hp:∀x∈l,bu x)(d:Nat):∀i:Int,0≤i→i+d=l.length→Ev (fun k=>cD.l0 k t l (bL 91 (dm (l.take i.toNat))) 0 i) (fw t (dm l)):=by
 induction d with
 |zero=>
  intro i i0 hi;refine Ev.step (fun k=>by rw[cD.l0]) ?_;refine Ev.neg ae ?_;rw[List.take_of_length_le ae];have h1:=agP hs (dm l) 92 0 0 (aH 0) (Nat.zero_le (iY (cZ t (dm l) 0))) ao;have h2:cZ t (dm l) 0=dm l:=rfl;rw[h2] at h1;exact h1
 |succ d ih=>
  intro i i0 hi;obtain⟨p0,p1⟩:=hp _ (iK (i:=i) ae i0);refine Ev.step (fun k=>by rw[cD.l0]) ?_;rw[bI (x:=i+1) ae ae,Df];refine Ev.pos ae (Ev.pos i0 (Ev.pos p0 (Ev.pos p1 ?_)));rw[L5,rx fun x _=>(TQ i0 ae p0 x).symm];exact ih (i+1) ae ae
theorem U3{t:List Int}(hs:aW t=true){l:List Int}(hl:l.length≤10)(hp:∀x∈l,bu x):Ev (fun k=>cD.f k t l) (fw t (dm l)):=by
 unfold cD.f;refine Ev.pos ae ?_;have:=agQ hs hl hp l.length 0 ae ae;rw[show bL 91 (dm (l.take (0:Int).toNat))=bL 91 fun _=>false from rx fun x _=>by simp[dm]] at this;rw[Ut];exact this
theorem aoA{t:List Int}(hs:aW t=true){l:List Int}(hl:l.length≤10)(d:Nat):∀i:Int,0≤i→i+d=l.length→(∀j:Int,0≤j→j<i→dE (rd l j)=true)→Ev (fun k=>iq.l0 k t l i) (rz t l):=by
 induction d with
 |zero=>
  intro i i0 hi h
  have hall:l.all dE=true:=by
   rw[List.all_eq_true];intro x hx;obtain⟨j,hj,rfl⟩:=List.mem_iff_getElem.1 hx;have:=h (j:Int) ae ae
   rwa [jY l j hj] at this
  refine Ev.step (fun k=>by rw[iq.l0]) ?_;refine Ev.neg ae (Ev.bind (U3 hs hl fun x hx=>eB.1 (List.all_eq_true.1 hall x hx)) (Ev.done ?_));unfold rz;rw[ah (by unfold qe;rw[hs,hall,ap hl];rfl)]
 |succ d ih=>
  intro i i0 hi h;refine Ev.step (fun k=>by rw[iq.l0]) ?_;rw[bI (x:=i+1) ae ae];refine Ev.pos ae (Ev.pos i0 (Ev.fix (sI _) ?_));by_cases e:dE (rd l i)=true
  ·refine Ev.pos e (ih (i+1) ae ae fun j j0 j1=>?_);by_cases ej:j=i
   ·rw[ej];exact e
   ·exact h j j0 ae
  ·refine Ev.neg e (Ev.done ?_)
   have:l.all dE=false:=by
    cases ha:l.all dE with
    |false=>rfl
    |true=>exact absurd (List.all_eq_true.1 ha _ (iK (i:=i) ae i0)) e
   unfold rz;rw[ag (by unfold qe;rw[this];simp)]
theorem aoB(t:List Int)(ht:t.length≤1048576)(l:List Int):Ev (fun k=>iq.f k t l) (rz t l):=by
 unfold iq.f;refine Ev.bind (oX t ht) ?_;by_cases hs:aW t=true
 case neg=>
  have e:rz t l=([],false):=ag (by unfold qe;rw[Bool.eq_false_iff.2 hs];simp);rw[e];refine Ev.neg hs (Ev.step (fun k=>by rw[iq.j0]) ?_);exact Ev.pos rfl (Ev.done rfl)
 refine Ev.pos hs ?_;by_cases hl:l.length≤10
 case neg=>
  have e:rz t l=([],false):=ag (by unfold qe;rw[aD hl];simp);rw[e,ap (by omega:(l.length:Int)>10)];refine Ev.step (fun k=>by rw[iq.j0]) ?_;exact Ev.pos rfl (Ev.done rfl)
 rw[aD (by omega:¬(l.length:Int)>10)];refine Ev.step (fun k=>by rw[iq.j0]) ?_;exact Ev.neg ao (aoA hs hl l.length 0 ae ae fun j j0 j1=>ae)
theorem aoC(t:List Int)(s:Nat→Bool):(fw t s).length≤91:=by unfold fw;exact uh _
end X
end Go.Proofs.YtiobedekgnfjcaaGreatDoor
