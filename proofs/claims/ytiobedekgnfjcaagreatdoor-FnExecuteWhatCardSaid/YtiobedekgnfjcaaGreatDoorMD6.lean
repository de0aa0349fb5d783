/- The drawn script, and scripts put together. No conditions. (Part 7 of 7.) -/
import Derived.Test.YtiobedekgnfjcaaGreatDoorMD4
import Derived.Test.YtiobedekgnfjcaaGreatDoorME26
set_option linter.unusedVariables false
set_option linter.unusedSimpArgs false
namespace Go.Proofs.YtiobedekgnfjcaaGreatDoor
namespace P
end P
open Go.Proofs.YtiobedekgnfjcaaGreatDoor.P Go.Proofs.YtiobedekgnfjcaaGreatDoorW.aq Go.Proofs.YtiobedekgnfjcaaGreatDoorW.ay Go.RowKit
namespace X
theorem Rm(a:Array UInt8)(v:ByteArray):((⟨a⟩:ByteArray)++v).size=a.size+v.size:=ByteArray.size_append
def Got{α:Type}(Q:α→Prop)(f:Nat→Option α):Prop:=∃r,Q r∧Ev f r
theorem Got.done{α:Type}{Q:α→Prop}{r:α}(h:Q r):Got Q (fun _=>some r):=⟨r,h,Ev.done rfl⟩
theorem Got.ite{α:Type}{Q:α→Prop}{c:Prop}[Decidable c]{f g:Nat→Option α}(h:c→Got Q f)(k:¬c→Got Q g):Got Q (fun n=>if c then f n else g n):=by
 by_cases e:c
 ·obtain⟨r,q,v⟩:=h e;exact⟨r,q,Ev.pos e v⟩
 ·obtain⟨r,q,v⟩:=k e;exact⟨r,q,Ev.neg e v⟩
theorem Got.pos{α:Type}{Q:α→Prop}{c:Prop}[Decidable c]{f g:Nat→Option α}(e:c)(h:Got Q f):Got Q (fun n=>if c then f n else g n):=Got.ite (fun _=>h) (fun n=>absurd e n)
theorem Got.neg{α:Type}{Q:α→Prop}{c:Prop}[Decidable c]{f g:Nat→Option α}(e:¬c)(h:Got Q g):Got Q (fun n=>if c then f n else g n):=Got.ite (fun n=>absurd n e) (fun _=>h)
theorem Got.step{α:Type}{Q:α→Prop}{f g:Nat→Option α}(e:∀k,f (k+1)=g k)(h:Got Q g):Got Q f:=by
 obtain⟨r,q,v⟩:=h;exact⟨r,q,Ev.step e v⟩
theorem Got.pick{α:Type}{Q:α→Prop}{s:List Int}(hs:tn s){p:Int}(h0:0≤p)(h1:p≤1000000){n:Int}(n0:1≤n)(n1:n≤1000){f:Nat→Int×Int→Option α}(h:∀v,0≤v→v<n→Got Q (fun k=>f k (v,p+1))):Got Q (fun k=>(f7.f k s p n).bind (f k)):=by
 obtain⟨v,hv,ev⟩:=OT hs h0 ae n0 ae;obtain⟨r,q,e⟩:=h v hv.1 hv.2;exact⟨r,q,Ev.bind ev e⟩
theorem Got.dec{α:Type}{Q:α→Prop}{v:Int}(h0:0≤v)(h1:v<100){f:Nat→ByteArray→Option α}(h:∀t:ByteArray,t.size≤2→Got Q (fun k=>f k t)):Got Q (fun k=>(gq.f k v).bind (f k)):=by
 have hd:=Js v.toNat ae;rw[Int.toNat_of_nonneg h0] at hd;obtain⟨r,q,e⟩:=h (B (fV v.toNat)) (by rw[po];exact vr v.toNat);exact⟨r,q,Ev.bind hd e⟩
theorem Got.of{α:Type}{Q:α→Prop}{s:List Int}(hs:tn s){p:Int}(h0:0≤p)(h1:p≤1000000)(b:Nat){l:List ByteArray}(hl:1≤l.length∧l.length≤100)(hb:∀x∈l,x.size≤b){f:Nat→ByteArray×Int→Option α}(h:∀v:ByteArray,v.size≤b→Got Q (fun k=>f k (v,p+1))):Got Q (fun k=>(jT.f k s p l).bind (f k)):=by
 obtain⟨v,hv,ev⟩:=OT hs h0 ae (n:=(l.length:Int)) ae ae;have hlt:v.toNat<l.length:=ae
 have hm:dM ByteArray.empty l v∈l:=by
  unfold dM;rw[List.getD_eq_getElem?_getD,List.getElem?_eq_getElem hlt];exact List.getElem_mem hlt
 obtain⟨r,q,e⟩:=h _ (hb _ hm);refine⟨r,q,Ev.bind (a:=(dM ByteArray.empty l v,p+1)) ?_ e⟩;unfold jT.f;exact Ev.bind ev (Ev.pos hv.1 (Ev.pos hv.2 (Ev.done rfl)))
def aao(p:Int)(r:ByteArray×Int):Prop:=r.1.size≤50∧p≤r.2∧r.2≤p+3
theorem ap3{s:List Int}(hs:tn s){p:Int}(h0:0≤p)(h1:p≤900000)(c:Int)(q:Bool):Got (fun r=>r.1.size≤50∧p≤r.2∧r.2≤p+2) (fun k=>mo.j0 k c q s p):=by
 refine Got.step (fun k=>by rw[mo.j0]) ?_;refine Got.ite (fun _=>?_) (fun _=>Got.ite (fun _=>?_) (fun _=>Got.ite (fun _=>?_) (fun _=>?_)))
 ·refine Got.pick hs h0 ae ae ae fun v v0 v1=>Got.dec v0 ae fun t ht=>Got.pos ae (Got.done ⟨?_,by dsimp only;omega,by dsimp only;omega⟩);rw[Rm];simp only[List.size_toArray,List.length_cons,List.length_nil];omega
 ·refine Got.of hs h0 ae 20 ao ao fun v hv=>Got.pos (by dsimp only;omega) (Got.done ⟨?_,by dsimp only;omega,by dsimp only;omega⟩);rw[Rm];simp only[List.size_toArray,List.length_cons,List.length_nil];omega
 ·exact Got.of hs h0 ae 20 ao ao fun v hv=>Got.done ⟨by dsimp only;omega,by dsimp only;omega,by dsimp only;omega⟩
 ·exact Got.of hs h0 ae 20 ao ao fun v hv=>Got.done ⟨by dsimp only;omega,by dsimp only;omega,by dsimp only;omega⟩
theorem Got.mono{α:Type}{Q R:α→Prop}{f:Nat→Option α}(h:Got Q f)(k:∀r,Q r→R r):Got R f:=by
 obtain⟨r,q,e⟩:=h;exact⟨r,k r q,e⟩
theorem ap4{s:List Int}(hs:tn s){p:Int}(h0:0≤p)(h1:p≤800000):Got (aao p) (fun k=>mo.f k s p):=by
 unfold mo.f;refine Got.pick hs h0 ae ae ae fun c c0 c1=>Got.ite (fun _=>?_) (fun _=>Got.ite (fun _=>?_) (fun _=>Got.ite (fun _=>?_) (fun _=>?_)))
 ·refine Got.of hs (by dsimp only;omega) (by dsimp only;omega) 20 ao ao fun v hv=>Got.pos (by dsimp only;omega) (Got.done ⟨?_,by dsimp only;omega,by dsimp only;omega⟩);rw[Rm];simp only[List.size_toArray,List.length_cons,List.length_nil];omega
 ·refine Got.of hs (by dsimp only;omega) (by dsimp only;omega) 20 ao ao fun v hv=>Got.of hs (by dsimp only;omega) (by dsimp only;omega) 20 ao ao fun u hu=>Got.pos (by dsimp only;omega) (Got.done ⟨?_,by dsimp only;omega,by dsimp only;omega⟩);simp only[ByteArray.size_append];omega
 ·refine Got.of hs (by dsimp only;omega) (by dsimp only;omega) 20 ao ao fun v hv=>Got.of hs (by dsimp only;omega) (by dsimp only;omega) 20 ao ao fun u hu=>Got.pos (by dsimp only;omega) (Got.done ⟨?_,by dsimp only;omega,by dsimp only;omega⟩);simp only[ByteArray.size_append];omega
 ·have J:=fun q=>(ap3 hs (p:=p+1) ae ae c q).mono (R:=aao p) fun r h=>⟨h.1,by have:=h.2.1;omega,by have:=h.2.2;omega⟩;exact Got.ite (fun _=>J _) (fun _=>Got.ite (fun _=>J _) (fun _=>J _))
theorem aap{Q:ByteArray→Prop}{x o:ByteArray}{n:Int}(m:Int)(hn:n>0)(hr:Int.tmod n 2=1)(hm:wrap64 (Int.tdiv n 2)=m)(h1:o.size+x.size≤100000)(h2:x.size+x.size≤100000)(h:Got Q (fun k=>jS.l0 k (x++x) m (o++x))):Got Q (fun k=>jS.l0 k x n o):=by
 refine Got.step (fun k=>by rw[jS.l0]) (Got.pos hn (Got.pos hr (Got.pos ae (Got.pos ae ?_))));rw[hm];exact h
theorem Bz{Q:ByteArray→Prop}{x o:ByteArray}{n:Int}(m:Int)(hn:n>0)(hr:¬Int.tmod n 2=1)(hm:wrap64 (Int.tdiv n 2)=m)(h2:x.size+x.size≤100000)(h:Got Q (fun k=>jS.l0 k (x++x) m o)):Got Q (fun k=>jS.l0 k x n o):=by
 refine Got.step (fun k=>by rw[jS.l0]) (Got.pos hn (Got.neg hr (Got.pos ae ?_)));rw[hm];exact h
theorem ap5(x:ByteArray)(hx:x.size=5):Got (fun t=>t.size≤1000) (fun k=>jS.f k x 130):=by
 have he:(⟨#[]⟩:ByteArray).size=0:=rfl;unfold jS.f;refine Bz 65 ao ao (by decide+kernel) ae ?_;refine aap 32 ao ao (by decide+kernel) (by simp only[ByteArray.size_append];omega) (by simp only[ByteArray.size_append];omega) ?_;refine Bz 16 ao ao (by decide+kernel) (by simp only[ByteArray.size_append];omega) ?_;refine Bz 8 ao ao (by decide+kernel) (by simp only[ByteArray.size_append];omega) ?_;refine Bz 4 ao ao (by decide+kernel) (by simp only[ByteArray.size_append];omega) ?_;refine Bz 2 ao ao (by decide+kernel) (by simp only[ByteArray.size_append];omega) ?_;refine Bz 1 ao ao (by decide+kernel) (by simp only[ByteArray.size_append];omega) ?_;refine aap 0 ao ao (by decide+kernel) (by simp only[ByteArray.size_append];omega) (by simp only[ByteArray.size_append];omega) ?_;refine Got.step (fun k=>by rw[jS.l0]) (Got.neg ao (Got.done ?_));simp only[ByteArray.size_append];omega
theorem ap6{s:List Int}(hs:tn s)(n:Int)(hn:n≤100)(d:Nat):∀(i:Int) (x:ByteArray) (q:Int),0≤i→i+d=n→(x.size:Int)≤51*i→0≤q→q≤10+3*i→Got (fun t=>t.size≤100000) (fun k=>gR.l0 k x n i s q):=by
 induction d with
 |zero=>
  intro i x q i0 hi hx q0 hq;refine Got.step (fun k=>by rw[gR.l0]) (Got.neg ae (Got.pick hs q0 ae ae ae fun v v0 v1=>Got.ite (fun _=>?_) (fun _=>Got.ite (fun _=>?_) (fun _=>?_))))
  ·refine Got.pos ae (Got.done ?_);rw[ByteArray.size_append,show(⟨#[98,111,116,104]⟩:ByteArray).size=4 from rfl];omega
  ·obtain⟨t,ht,e⟩:=ap5 ⟨#[98,111,116,104,10]⟩ rfl;exact⟨x++t,show(x++t).size≤100000 by rw[ByteArray.size_append];omega,Ev.bind e (Ev.pos ae (Ev.done rfl))⟩
  ·exact Got.done ae
 |succ d ih=>
  intro i x q i0 hi hx q0 hq;obtain⟨⟨t,q'⟩,⟨h1,h2,h3⟩,e⟩:=ap4 hs q0 ae;dsimp only at h1 h2 h3;have hz:((x++t)++(⟨#[10]⟩:ByteArray)).size=x.size+t.size+1:=by simp only[ByteArray.size_append];rfl
  obtain⟨r,hr,er⟩:=ih (i+1) ((x++t)++(⟨#[10]⟩:ByteArray)) q' ae ae ae ae ae;refine⟨r,hr,Ev.step (fun k=>by rw[gR.l0]) (Ev.pos ae (Ev.bind e ?_))⟩;dsimp only;have h5:(x++t).size+1≤9223372036854775807:=by rw[ByteArray.size_append];omega
  refine Ev.pos ae (Ev.pos h5 ?_);rw[bI ae ae];exact er
theorem Rn(l:List Int)(h:∀x∈l,(Lit.int .u8 x).wf=true):∃t,t.size≤100000∧Ev (fun k=>gR.f k l) t:=by
 obtain⟨s,hs,eo⟩:=ajK l h;obtain⟨v,hv,ev⟩:=OT hs (p:=0) ae ae (n:=9) ae ae;obtain⟨t,ht,et⟩:=ap6 hs v ae v.toNat 0 ⟨#[]⟩ (0+1) ae ae ao ae ae;unfold gR.f;exact⟨t,ht,Ev.fix eo (Ev.bind ev et)⟩
end X
end Go.Proofs.YtiobedekgnfjcaaGreatDoor
