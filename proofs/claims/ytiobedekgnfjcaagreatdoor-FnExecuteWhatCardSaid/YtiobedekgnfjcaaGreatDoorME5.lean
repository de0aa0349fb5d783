/- What both Executes come to: contracts and plain laws, for the laws on Execute. No conditions. (Part 6 of 28.) -/
import Derived.Test.YtiobedekgnfjcaaGreatDoorME1
import Derived.Test.YtiobedekgnfjcaaGreatDoorME2
namespace Go.Proofs.YtiobedekgnfjcaaGreatDoorW.aq
open Go.RowKit
namespace Kd
def tag{α:Type}(f:Nat→Nat)(d:Kd α):Kd (α×Nat) where
 sz:=d.sz
 E:=d.E
 K:=fun w x cs=>d.K w x.1 cs
 M:=fun w base ok x cs=>d.M w base (fun k=>ok k∧f k=x.2) x.1 cs
 jV:=fun h=>d.jV h
 jz:=fun h=>d.jz h
 nR:=fun hb h=>d.nR hb h
 iT:=fun h=>d.iT h
 gE:=fun hok h=>d.gE (fun k hk=>⟨hok k hk.1,hk.2⟩) h
 kr:=fun h=>d.gE (fun _ hk=>⟨⟨hk.1.1,hk.2⟩,hk.1.2⟩) (d.kr h)
 lq:=fun hm h=>d.lq (fun k hk=>hm k hk.1) h
 nS:=fun hb h=>d.nS hb h
def bare{α:Type}(d:Kd α):Kd α where
 sz:=d.sz
 E:=d.E
 K:=d.K
 M:=fun w base _ x cs=>d.M w base (fun _=>False) x cs
 jV:=fun h=>d.jV h
 jz:=fun h=>d.jz h
 nR:=fun hb h=>d.nR hb h
 iT:=fun h=>d.iT h
 gE:=fun _ h=>h
 kr:=fun h=>h
 lq:=fun _ h=>d.lq (fun _ hk=>hk.elim) h
 nS:=fun hb h=>d.nS hb h
def raw(sz:Nat):Kd (List Value) where
 sz:=sz
 E:=[]
 K:=fun _ x cs=>cs=x∧cs.length=sz∧∀u∈cs,u.oneCell'=true
 M:=fun _ _ _ x cs=>cs=x∧cs.length=sz∧∀u∈cs,u.oneCell'=true
 jV:=fun h=>h.2.1
 jz:=fun h=>h.2.2
 nR:=fun _ h=>h
 iT:=fun h=>h
 gE:=fun _ h=>h
 kr:=fun h=>h
 lq:=fun _ h=>h
 nS:=fun _ h=>h
def S{α:Type}(d:Kd α)(e:Nat)(w:World)(base:Nat)(ok:Nat→Prop)(v:Value)(xs:List α):Prop:=∃f,(tag f d).R e w base ok v xs.zipIdx
section
variable {α β:Type} {d:Kd α} {d':Kd β} {e e':Nat} {w w1 W:World} {base b:Nat} {ok ok' yW RH:Nat→Prop} {u v:Value} {xs:List α} {ys:List β}
theorem R7{xs:List α}{j:Nat}{p:α}(h:xs[j]?=some p):xs.zipIdx[j]?=some (p,j):=by rw[List.getElem?_zipIdx,h,Nat.zero_add];rfl
theorem B3(h:S d e w base ok v xs):d.R e w base ok v xs:=by
 obtain⟨f,h0,inner,ho,hr⟩:=h;rw[List.length_zipIdx] at ho;exact⟨h0,inner,ho,by have:=hr.1;rw[List.length_zipIdx] at this;exact this,fun j p hj=>d.gE (fun _ hk=>hk.1) (hr.2 j (p,j) (R7 hj))⟩
theorem abz{ad:Addr}{n cap:Nat}(h:d.R e w base ok (.slice (some ad) n cap) xs):∃g,ad=⟨g,0,none⟩:=by
 obtain⟨_,inner,ho,hr⟩:=h;rcases ho.2 with⟨hv,_⟩|⟨g,cap',cur,hv,_⟩
 ·cases hv
 ·injection hv with ha _ _
  injection ha with ha
  exact⟨g,ha⟩
theorem tL(hE:d.E=[])(h:d.R e w base ok v xs):d.R e w base (fun k=>some k=v.ownBlock) v xs:=by
 obtain⟨h0,inner,ho,hr⟩:=h;refine⟨fun k hk=>hk.symm,inner,ho,hr.ko (fun p c hp=>d.gE (fun k hk=>?_) (d.kr hp))⟩;obtain⟨_,_,_,q,hq,_⟩:=hk;rw[hE] at hq;cases hq
theorem oP(d:Kd α)(e:Nat)(w:World)(base:Nat)(ok:Nat→Prop):S d e w base ok (.slice none 0 0) []:=⟨fun _=>0,kJ _ _ _ _ _⟩
theorem zh(h:S d e w base ok v xs)(hok:∀k,ok k→ok' k):S d e w base ok' v xs:=by
 obtain⟨f,h⟩:=h;exact⟨f,dq h hok⟩
theorem F9(h:S d e w base ok v xs):S d e w base (fun k=>ok k∧base≤k∧k<w.heap.size∧∃q,q∈e::d.E∧∃cells,w.heap[k]?=some (.cells cells q (0,0))) v xs:=by
 obtain⟨f,h⟩:=h;exact⟨f,ix h⟩
theorem abA(h:S d e w base ok v xs)(hm:∀k,ok k→w1.heap[k]?=w.heap[k]?):S d e w1 base ok v xs:=by
 obtain⟨f,h⟩:=h;exact⟨f,vy h hm⟩
theorem R8{base':Nat}(h:S d e w base ok v xs)(hb:base'≤base):S d e w base' ok v xs:=by
 obtain⟨f,h⟩:=h;exact⟨f,cv h hb⟩
theorem R9(h:S d e w base ok v xs)(hm:∀k,ok k→k<w.heap.size→w1.heap[k]?=w.heap[k]?):S d e w1 base ok v xs:=
 zh (abA (F9 h) (fun k hk=>hm k hk.1 hk.2.2.1)) (fun _ hk=>hk.1)
theorem vI(h:S d e w base ok v xs)(hb:Below w.heap.size w w1):S d e w1 base ok v xs:=R9 h (fun k _ hk=>hb.block k hk)
theorem abB(h:S d e w base ok v xs){row:Option Nat}(hg:w.grownBy w1 row)(hok:∀k,ok k→some k≠row):S d e w1 base ok v xs:=R9 h (fun k ho hk=>hg.block k hk (hok k ho))
theorem abC(h:S d e w base ok v xs):∀k,v.ownBlock=some k→∃cells,w.heap[k]?=some (.cells cells e (0,0)):=BK (B3 h)
theorem J0(h:S d e w base ok v xs):∀k,v.ownBlock=some k→k<w.heap.size:=sd (B3 h)
theorem abD{f f':Nat→Nat}{zs:List (α×Nat)}(h:(tag f d).R e w base ok v zs)(hf:∀k,ok k→k<w.heap.size→f' k=f k):(tag f' d).R e w base ok v zs:=by
 obtain⟨h0,inner,ho,hr⟩:=ix h;exact⟨fun k hk=>(h0 k hk).1,inner,ho,hr.1,fun j p hj=>d.gE (fun k hk=>⟨⟨hk.1.1.1,hk.1.2⟩,(hf k hk.1.1.1 hk.1.1.2.2.1).trans hk.2⟩) (hr.2 j p hj)⟩
end
section
variable {α β:Type} {d:Kd α} {d':Kd β} {e e' g:Nat} {w w1 W:World} {base b:Nat} {ok ok' yW RH:Nat→Prop} {u v:Value} {xs:List α} {ys:List β}
theorem zk(h:S d e w base ok v xs):∃A c,v=.slice A xs.length c:=bJ (B3 h)
theorem abE(xs:List α)(p:α):(xs++[p]).zipIdx=xs.zipIdx++[(p,xs.length)]:=by rw[List.zipIdx_append];simp
end
section
open Classical in
theorem abF{α:Type}{d:Kd α}{e base:Nat}{yW:Nat→Prop}{w:World}{v:Value}{xs:List α}(h:S d e w base yW v xs)(m:Nat)(bp:Nat→Prop)(hap:∀k,bp k→¬yW k):∃f,(∀k,bp k→f k=m)∧(tag f d).R e w base yW v xs.zipIdx:=by
 obtain⟨f,h⟩:=h;exact⟨fun k=>if bp k then m else f k,fun k hk=>if_pos hk,abD h (fun k hk _=>if_neg (fun h2=>hap k h2 hk))⟩
variable {P:Program} {ops:Array Oper} {rest:List Oper} {o:Oper} {a:Act} {Q:Exit→Act→World→Prop} {Kc:Act→World→Prop} {α:Type}
theorem J1(d:Kd α){w0 W:World}(base:Nat)(hgd:o.guard=none)(s x:Operand)(t e:TypeId)(z:Value)(bytes:Nat)
  (ho:o.op=.call { callee:=.builtin .append,args:=#[s,x],argTypes:=#[t,t] })
  (ht:P.underlying t=some (.slice e)) (hinfo:(P.info? e).map (fun i=>(i.zero,i.size,i.bytes))=some (some z,d.sz,bytes)) (hz:z.cells.size=d.sz) (hs0:0<d.sz) (hb0:0<bytes)
  (v:Value) (xs:List α) (p:α) (cs:List Value) (ok bp:Nat→Prop) (hs:a.eval s=v) (hx:a.eval x=.slice (some ⟨W.heap.size,0,none⟩) 1 1) (hp:d.M W base bp p cs) (lr:∀k,bp k→ok k∧some k≠v.ownBlock) (hfresh:∀k,W.heap.size≤k→ok k)
  (HO:S d e W base (fun k=>ok k∧¬bp k) v xs) (HB:Below base w0 W) (hbase:base≤W.heap.size) (hl:(xs.length+1)*bytes≤140737488355328)
  (h:∀v1 w1,S d e w1 base ok v1 (xs++[p])→Below base w0 w1→W.grownBy w1 v.ownBlock→(v1.ownBlock=v.ownBlock∨∃b,v1.ownBlock=some b∧W.heap.size≤b)→wpList P ops Q rest (a.put o.dst v1) w1):
  wpList P ops Q (o::rest) a (W.alloc (.cells cs.toArray e)):=by
 obtain⟨f,hf,hR⟩:=abF HO xs.length bp (fun _ hk h2=>h2.2 hk);refine jW (tag f d) base hgd s x t e z bytes ho ht hinfo hz hs0 hb0 v xs.zipIdx (p,xs.length) cs ok bp hs hx (d.gE (fun k hk=>⟨hk,hf k hk⟩) hp) lr hfresh (dq hR (fun _ hk=>hk.1)) HB hbase (by rw[List.length_zipIdx];exact hl) ?_;intro v1 w1 hr;rw[←abE] at hr;exact h v1 w1 ⟨f,hr⟩
theorem abG{d:Kd α}{w:World}{base:Nat}{ok:Nat→Prop}{xs:List α}{inner:List Value}(oQ:Nat→Nat→Prop)(hap:∀i j k,oQ i k→oQ j k→i=j)(hok:∀j k,oQ j k→ok k)
  (hl:inner.length=xs.length*d.sz) (hrep:∀j x,xs[j]?=some x→d.M w base (oQ j) x ((inner.drop (j*d.sz)).take d.sz)):∃f,aE ((tag f d).M w base ok) d.sz xs.zipIdx inner:=by
 refine⟨fun k=>open Classical in if h:∃j,oQ j k then h.choose else 0,by rw[List.length_zipIdx];exact hl,fun j p hj=>?_⟩;rw[List.getElem?_zipIdx,Nat.zero_add] at hj;obtain⟨x,hx,rfl⟩:=Option.map_eq_some_iff.1 hj;refine d.gE (fun k hk=>⟨hok j k hk,?_⟩) (hrep j x hx);have h:∃j,oQ j k:=⟨j,hk⟩;exact(dif_pos h).trans (hap _ _ k h.choose_spec hk)
theorem R_(d:Kd α){w0 W:World}(base e:Nat)(hgd:o.guard=none){N:Tmp}(tH:o.dst=some N){xs:List α}{inner:List Value}{ok:Nat→Prop}(oQ:Nat→Nat→Prop)
  (hrun:(execOp a.eval o).run P W=.ok (.value (.slice (some ⟨W.heap.size,0,none⟩) xs.length xs.length)) (W.alloc (.cells inner.toArray e)))
  (hl:inner.length=xs.length*d.sz) (hrep:∀j x,xs[j]?=some x→d.M W base (oQ j) x ((inner.drop (j*d.sz)).take d.sz)) (hap:∀i j k,oQ i k→oQ j k→i=j) (hok:∀j k,oQ j k→ok k) (hfresh:ok W.heap.size) (HB:Below base w0 W) (hbase:base≤W.heap.size) (hm:xs.length≤9223372036854775807)
  (h:∀v1 w1,S d e w1 base ok v1 xs→Below base w0 w1→W.grownBy w1 none→(∃b,v1.ownBlock=some b∧W.heap.size≤b)→wpList P ops Q rest (a.put o.dst v1) w1):wpList P ops Q (o::rest) a W:=by
 obtain⟨f,hr⟩:=abG (d:=d) (w:=W) (base:=base) (ok:=ok) oQ hap hok hl hrep;refine dV (tag f d) base e hgd tH (xs:=xs.zipIdx) (inner:=inner) (ok:=ok) (bp:=ok) (by rw[List.length_zipIdx];exact hrun) hr (fun _ hk=>hk) hfresh HB hbase (by rw[List.length_zipIdx];exact hm) ?_;intro v1 w1 hr;exact h v1 w1 ⟨f,hr⟩
end
def gap{α:Type}(f:Nat→Nat)(d:Kd α)(i:Nat)(c:List Value):Kd (α×Nat) where
 sz:=d.sz
 E:=d.E
 K:=fun w x cs=>(x.2=i→cs=c∧cs.length=d.sz∧∀u∈cs,u.oneCell'=true)∧(x.2≠i→d.K w x.1 cs)
 M:=fun w base ok x cs=>(x.2=i→cs=c∧cs.length=d.sz∧∀u∈cs,u.oneCell'=true)∧(x.2≠i→d.M w base (fun k=>ok k∧f k=x.2) x.1 cs)
 jV:=fun {w x cs} h=>by
  by_cases hx:x.2=i
  ·exact(h.1 hx).2.1
  ·exact d.jV (h.2 hx)
 jz:=fun {w x cs} h=>by
  by_cases hx:x.2=i
  ·exact(h.1 hx).2.2
  ·exact d.jz (h.2 hx)
 nR:=fun hb h=>⟨h.1,fun hx=>d.nR hb (h.2 hx)⟩
 iT:=fun h=>⟨h.1,fun hx=>d.iT (h.2 hx)⟩
 gE:=fun hok h=>⟨h.1,fun hx=>d.gE (fun k hk=>⟨hok k hk.1,hk.2⟩) (h.2 hx)⟩
 kr:=fun h=>⟨h.1,fun hx=>d.gE (fun _ hk=>⟨⟨hk.1.1,hk.2⟩,hk.1.2⟩) (d.kr (h.2 hx))⟩
 lq:=fun hm h=>⟨h.1,fun hx=>d.lq (fun k hk=>hm k hk.1) (h.2 hx)⟩
 nS:=fun hb h=>⟨h.1,fun hx=>d.nS hb (h.2 hx)⟩
def H{α:Type}(d:Kd α)(e:Nat)(w:World)(base:Nat)(ok:Nat→Prop)(v:Value)(xs:List α)(i:Int)(B5:Nat→Prop)(c:List Value):Prop:=
 (∀k,B5 k→ok k)∧∃f,(gap f d i.toNat c).R e w base (fun k=>ok k∧¬B5 k) v xs.zipIdx
section
variable {α β:Type} {d:Kd α} {e e' g n cap:Nat} {w w1 W:World} {base:Nat} {ok ok' B5 bp:Nat→Prop} {u v:Value} {xs:List α} {i:Int} {c:List Value}
end
section
variable {P:Program} {ops:Array Oper} {rest:List Oper} {o:Oper} {a:Act} {Q:Exit→Act→World→Prop} {α:Type}
end
end Kd
end Go.Proofs.YtiobedekgnfjcaaGreatDoorW.aq
namespace Go.Proofs.YtiobedekgnfjcaaGreatDoorW.aq
open Go.RowKit
namespace Kd
structure Heap{α:Type}(d:Kd α):Prop where
 K:∀{w w1:World} {x:α} {cs:List Value},(∀k,k<w.heap.size→w1.heap[k]?=w.heap[k]?)→d.K w x cs→d.K w1 x cs
theorem ach{w w1:World}(hb:∀k,k<w.heap.size→w1.heap[k]?=w.heap[k]?){a:Addr}{v:Value}(h:w.cell? a=some v):w1.cell? a=some v:=by
 have:=hb a.block (World.block_lt_of_cell? w a h)
 simpa [World.cell?,this] using h
theorem Heap.C{α:Type}{d:Kd α}(hd:Heap d){w w1:World}{A:Option Addr}{n:Nat}{xs:List α}(hb:∀k,k<w.heap.size→w1.heap[k]?=w.heap[k]?)(h:d.C w A n xs):d.C w1 A n xs:=
 ⟨h.1,h.2.1,fun hn=>by
  obtain⟨ad,e,hc⟩:=h.2.2 hn;refine⟨ad,e,fun j p hj=>?_⟩;obtain⟨c,hs,hr,hcell⟩:=hc j p hj;exact⟨c,hs,hd.K hb hr,fun i u hu=>ach hb (hcell i u hu)⟩⟩
section
variable {α:Type} {d:Kd α} {e base g n c:Nat} {ok:Nat→Prop} {w w0 W:World} {A:Option Addr} {xs:List α}
end
end Kd
end Go.Proofs.YtiobedekgnfjcaaGreatDoorW.aq
namespace Go.Proofs.YtiobedekgnfjcaaGreatDoorW.aq
open Go.RowKit
def Kept(w W:World)(S:Nat→Prop):Prop:=w.heap.size≤W.heap.size∧∀i,i<w.heap.size→¬S i→W.heap[i]?=w.heap[i]?
section
variable {w W W2:World} {S S2 S':Nat→Prop}
theorem Kept.refl(w:World)(S:Nat→Prop):Kept w w S:=⟨Nat.le_refl _,fun _ _ _=>rfl⟩
theorem Kept.pB(h:Below w.heap.size w W)(S:Nat→Prop):Kept w W S:=⟨h.size,fun i hi _=>h.block i hi⟩
theorem Kept.mono(h:Kept w W S)(hs:∀k,S k→S' k):Kept w W S':=⟨h.1,fun i hi hn=>h.2 i hi (fun hk=>hn (hs i hk))⟩
theorem Kept.then_(h:Kept w W S)(k:Kept W W2 S2)(hs:∀k,S2 k→S k∨w.heap.size≤k):Kept w W2 S:=
 ⟨Nat.le_trans h.1 k.1,fun i hi hn=>(k.2 i (Nat.lt_of_lt_of_le hi h.1) (fun h2=>(hs i h2).elim hn (fun h3=>by omega))).trans (h.2 i hi hn)⟩
theorem Kept.Rx{row:Option Nat}(hg:W.grownBy W2 row)(h:Kept w W S)(hr:∀k,row=some k→S k∨w.heap.size≤k):Kept w W2 S:=
 h.then_ (S2:=fun k=>row=some k) ⟨hg.size,fun i hi hn=>hg.block i hi (fun he=>hn he.symm)⟩ hr
theorem Kept.below(h:Kept w W S)(hb:Below W.heap.size W W2):Kept w W2 S:=h.then_ (Kept.pB hb (fun _=>False)) (fun _ hk=>hk.elim)
theorem Kept.alloc(h:Kept w W S)(o:Obj):Kept w (W.alloc o) S:=h.below (cS (Below.refl _ _) o)
theorem Kept.drew(h:Kept w W S):Kept w W.drew S:=h
theorem Kept.drewN(h:Kept w W S)(m:Nat):Kept w (W.drewN m) S:=h
theorem Kept.setCell(h:Kept w W S){p:Addr}(hp:S p.block∨w.heap.size≤p.block)(u:Value):Kept w (W.setCell p u) S:=
 h.then_ (S2:=fun k=>k=p.block) ⟨by simp[World.setCell],fun i _ hn=>Below.heap_setCell W p u i hn⟩ (fun k hk=>by rw[hk];exact hp)
theorem aci{g:Nat}{o:Obj}(hb:W.heap[g]?=some o)(hk:Kept W W2 S)(hne:¬S g):W2.heap[g]?=some o:=(hk.2 g (yU hb) hne).trans hb
end
namespace Kd
section
variable {α:Type} {d:Kd α} {e base n c:Nat} {ok B5 S S2:Nat→Prop} {w w0 W W1 W2:World} {v:Value} {A:Option Addr} {xs:List α} {i:Int} {cs:List Value}
end
end Kd
end Go.Proofs.YtiobedekgnfjcaaGreatDoorW.aq
namespace Go.Proofs.YtiobedekgnfjcaaGreatDoorW.aq
open Go.RowKit
def hJ(P:World→Prop)(W:World)(ok:Nat→Prop):Prop:=∀W':World,(∀k,ok k→k<W.heap.size→W'.heap[k]?=W.heap[k]?)→P W'
theorem acj{W W1:World}{k:Nat}(h:W1.heap[k]?=W.heap[k]?)(hlt:k<W.heap.size):k<W1.heap.size:=by
 rw[Array.getElem?_eq_getElem hlt] at h;exact(Array.getElem?_eq_some_iff.1 h).1
namespace hJ
variable {P Q:World→Prop} {W W1:World} {ok ok':Nat→Prop}
theorem now(h:hJ P W ok):P W:=h W (fun _ _ _=>rfl)
theorem mono(h:hJ P W ok)(hok:∀k,ok k→ok' k):hJ P W ok':=fun W' hW=>h W' (fun k hk hlt=>hW k (hok k hk) hlt)
theorem bound(h:hJ P W ok):hJ P W (fun k=>ok k∧k<W.heap.size):=fun W' hW=>h W' (fun k hk hlt=>hW k ⟨hk,hlt⟩ hlt)
theorem step(h:hJ P W ok)(hm:∀k,ok k→k<W.heap.size→W1.heap[k]?=W.heap[k]?):hJ P W1 ok:=fun W' hW=>h W' (fun k hk hlt=>(hW k hk (acj (hm k hk hlt) hlt)).trans (hm k hk hlt))
theorem imp(h:hJ P W ok)(hi:∀W',P W'→Q W'):hJ Q W ok:=fun W' hW=>hi W' (h W' hW)
theorem old(h:hJ P W ok)(hb:Below W.heap.size W W1):hJ P W1 (fun k=>ok k∧k<W.heap.size):=(h.bound).step (fun k _ hlt=>hb.block k hlt)
end hJ
namespace Kd
def F{α:Type}(d:Kd α)(W:World)(ok:Nat→Prop)(A:Option Addr)(n:Nat)(xs:List α):Prop:=hJ (fun W=>d.C W A n xs) W ok
def FK{α:Type}(d:Kd α)(W:World)(ok:Nat→Prop)(x:α)(c:List Value):Prop:=hJ (fun W=>d.K W x c) W ok
section
variable {α β:Type} {d:Kd α} {e base n n' cc g N:Nat} {ok ok' bp S:Nat→Prop} {w w0 w1 W W1:World} {A A':Option Addr} {u v v1:Value} {xs:List α} {xs':List β} {d':Kd β} {x:α} {c:List Value}
theorem J9(h:F d W ok A n xs):d.C W A n xs:=hJ.now h
theorem J_(h:F d W ok A n xs)(hok:∀k,ok k→ok' k):F d W ok' A n xs:=hJ.mono h hok
theorem ack(h:F d W ok A n xs):F d W (fun k=>ok k∧k<W.heap.size) A n xs:=hJ.bound h
theorem acn(h:F d W ok A n xs)(hm:∀k,ok k→k<W.heap.size→W1.heap[k]?=W.heap[k]?):F d W1 ok A n xs:=hJ.step h hm
theorem Sp(h:F d W ok A n xs)(hi:∀W',d.C W' A n xs→d'.C W' A' n' xs'):F d' W ok A' n' xs':=hJ.imp h hi
theorem Ka(h:F d W ok A n xs)(hb:Below W.heap.size W W1):F d W1 ok A n xs:=acn h (fun k _ hlt=>hb.block k hlt)
theorem aco(h:F d W ok A n xs)(o:Obj):F d (W.alloc o) ok A n xs:=Ka h (cS (Below.refl _ _) o)
theorem acp(h:F d W ok A n xs):F d W.drew ok A n xs:=Ka h (oL (Below.refl _ _))
theorem acq(h:F d W ok A n xs)(m:Nat):F d (W.drewN m) ok A n xs:=Ka h (bb (Below.refl _ _) m)
theorem acr(d:Kd α)(W:World)(ok:Nat→Prop):F d W ok none ([]:List α).length []:=fun W' _=>aaP d W'
theorem acs(h:F d W ok A n xs)(hbase:∀k,v.ownBlock=some k→W.heap.size≤k)(hb:Below W.heap.size W W1):F d W1 (fun k=>ok k∧some k≠v.ownBlock) A n xs:=
 J_ (hJ.old h hb) (fun k hk=>⟨hk.1,fun he=>by have:=hbase k he.symm;have:=hk.2;omega⟩)
theorem acu(h:F d W (fun k=>ok k∧some k≠v.ownBlock) A n xs)(hg:W.grownBy W1 v.ownBlock)(hat:v1.ownBlock=v.ownBlock∨∃b,v1.ownBlock=some b∧W.heap.size≤b):F d W1 (fun k=>ok k∧some k≠v1.ownBlock) A n xs:=by
 refine J_ (hJ.step (ack h) (fun k hk hlt=>hg.block k hlt hk.1.2)) (fun k hk=>⟨hk.1.1,?_⟩);rcases hat with hat|⟨b,hb,hle⟩
 ·rw[hat];exact hk.1.2
 ·rw[hb];intro he;injection he with he
  have:=hk.2;omega
theorem Ch(h:d.R e W base ok (.slice A n cc) xs):F d W ok A n xs:=fun W' hW=>by
 have h2:=bm (yV h hW);rw[h2.1];exact h2.2.2
theorem pJ(h:FK d W ok x c):d.K W x c:=hJ.now h
theorem zx(h:FK d W ok x c)(hok:∀k,ok k→ok' k):FK d W ok' x c:=hJ.mono h hok
theorem Ke(h:FK d W ok x c):FK d W (fun k=>ok k∧k<W.heap.size) x c:=hJ.bound h
theorem Gf(h:FK d W ok x c)(hm:∀k,ok k→k<W.heap.size→W1.heap[k]?=W.heap[k]?):FK d W1 ok x c:=hJ.step h hm
theorem Sq(h:d.M W base ok x c):FK d W ok x c:=fun _ hW=>d.iT (RD h hW)
theorem emptied(W:World)(g:Nat):∃W':World,(∀k,k≠g→W'.heap[k]?=W.heap[k]?)∧∀a:Addr,a.block=g→W'.cell? a=none:=by
 refine⟨{ W with heap:=W.heap.setIfInBounds g (.cells #[] 0) },fun k hk=>by simp[Ne.symm hk],fun a ha=>?_⟩;subst ha;by_cases hlt:a.block<W.heap.size
 ·simp[World.cell?,hlt]
 ·simp[World.cell?,hlt]
end
end Kd
end Go.Proofs.YtiobedekgnfjcaaGreatDoorW.aq
namespace Go.Proofs.YtiobedekgnfjcaaGreatDoorW.aq
open Go.RowKit
section
variable {P:Program}
end
namespace Kd
section
variable {P:Program} {ops:Array Oper} {rest:List Oper} {o:Oper} {a:Act} {Q:Exit→Act→World→Prop} {Kc:Act→World→Prop} {α:Type}
end
section
variable {α:Type} {d:Kd α} {e:Nat} {w:World} {base:Nat} {ok:Nat→Prop} {v:Value} {xs:List α}
end
section
variable {P:Program} {ops:Array Oper} {rest:List Oper} {o:Oper} {a:Act} {Q:Exit→Act→World→Prop} {Kc:Act→World→Prop} {α:Type}
end
end Kd
end Go.Proofs.YtiobedekgnfjcaaGreatDoorW.aq
namespace Go.Proofs.YtiobedekgnfjcaaGreatDoorW.aq
open Go.RowKit
namespace Kd
def chunks(sz:Nat)(n:Nat)(inner:List Value):List (List Value):=(List.range n).map fun j=>(inner.drop (j*sz)).take sz
theorem nt(sz n:Nat)(inner:List Value):(chunks sz n inner).length=n:=by simp[chunks]
theorem acv{sz n:Nat}{inner:List Value}{j:Nat}(hj:j<n):(chunks sz n inner)[j]?=some ((inner.drop (j*sz)).take sz):=by simp[chunks,hj]
theorem zy{sz n:Nat}{inner:List Value}{j:Nat}{c:List Value}(h:(chunks sz n inner)[j]?=some c):c=(inner.drop (j*sz)).take sz:=by
 have hj:j<n:=by have:=(List.getElem?_eq_some_iff.1 h).1;rwa [nt] at this
 rw[acv hj] at h;injection h with h
 exact h.symm
theorem Kf{α:Type}{Rr:α→List Value→Prop}{sz:Nat}{xs:List α}{inner:List Value}(h:aE Rr sz xs inner)(hR:∀x c,Rr x c→c.length=sz∧∀u∈c,u.oneCell'=true):aE (fun x cs=>cs=x∧cs.length=sz∧∀u∈cs,u.oneCell'=true) sz (chunks sz xs.length inner) inner:=by
 refine⟨by rw[nt];exact h.1,fun j p hj=>?_⟩;have hjl:j<xs.length:=by have:=(List.getElem?_eq_some_iff.1 hj).1;rwa [nt] at this
 have hp:=zy hj;exact⟨hp.symm,hR _ _ (h.2 j _ (List.getElem?_eq_getElem hjl))⟩
section
variable {α:Type} {d:Kd α} {e base n cc g:Nat} {ok ok' bp S:Nat→Prop} {w w1 W W1:World} {A:Option Addr} {u v v1:Value} {xs:List α} {x:α} {c:List Value}
theorem Sr(h:F d W ok A n xs)(z:α)(i:Int)(h0:0≤i)(h1:i<n):
  ∃ad c,A=some ad∧c.length=d.sz∧FK d W ok (xs.getD i.toNat z) c∧(∀j u,c[j]?=some u→W.cell? (ad.add (i.toNat*d.sz+j))=some u)∧(0<d.sz→ok ad.block):=by
 obtain⟨ad,c,rfl,hcl,hK,hcc⟩:=FR (J9 h) z i h0 h1
 have hin:0<d.sz→ok ad.block:=by
  intro hs;by_cases hk:ok ad.block
  ·exact hk
  ·obtain⟨W',h2,h3⟩:=emptied W ad.block;obtain⟨kp,c',he,acw,_,Kg⟩:=FR (h W' (fun k hk' _=>h2 k (fun e=>hk (e▸hk')))) z i h0 h1;injection he with he
   subst he;have h4:=Kg 0 _ (List.getElem?_eq_getElem (by omega));rw[h3 _ (FW _ _)] at h4;cases h4
 refine⟨ad,c,rfl,hcl,fun W' hW=>?_,hcc,hin⟩;obtain⟨kp,c',he,acw,hK',Kg⟩:=FR (h W' hW) z i h0 h1;injection he with he
 subst he
 have hc:c=c':=by
  apply List.ext_getElem?;intro j;by_cases hj:j<d.sz
  ·have hb:W'.heap[ad.block]?=W.heap[ad.block]?:=by
    have h5:=hcc j _ (List.getElem?_eq_getElem (by omega));have h6:=World.block_lt_of_cell? W _ h5;rw[FW] at h6;exact hW _ (hin (by omega)) h6
   have h5:=hcc j _ (List.getElem?_eq_getElem (by omega));have h6:=Kg j _ (List.getElem?_eq_getElem (by omega));have h7:W'.cell? (ad.add (i.toNat*d.sz+j))=W.cell? (ad.add (i.toNat*d.sz+j)):=by simp[World.cell?,FW,hb]
   rw[h7,h5] at h6;rw[List.getElem?_eq_getElem (by omega),List.getElem?_eq_getElem (by omega)];exact h6
  ·rw[List.getElem?_eq_none (by omega),List.getElem?_eq_none (by omega)]
 rw[hc];exact hK'
theorem acx(h:F d W ok A n xs):jU (fun x c=>FK d W ok x c) d.sz W A n xs:=by
 obtain⟨hl,hm,hn⟩:=J9 h;refine⟨hl,hm,fun hp=>?_⟩;obtain⟨ad,rfl,_⟩:=hn hp;refine⟨ad,rfl,fun j p hj=>?_⟩;obtain⟨hjl,hjp⟩:=List.getElem?_eq_some_iff.1 hj;obtain⟨kp,c,he,hcl,hK,hcc,_⟩:=Sr h p (j:Int) (by omega) (by omega);injection he with he
 subst he;simp only[Int.toNat_natCast] at hK hcc;rw[List.getD_eq_getElem?_getD,hj] at hK;exact⟨c,hcl,hK,hcc⟩
def N{α:Type}(d:Kd α)(e:Nat)(w:World)(base:Nat)(ok:Nat→Prop)(v:Value)(xs:List α):Prop:=
 (∀k,v.ownBlock=some k→ok k)∧∃rows:List (List Value),rows.length=xs.length∧(raw d.sz).R e w base (fun k=>some k=v.ownBlock) v rows∧∀(j:Nat) (x:α) (c:List Value),xs[j]?=some x→rows[j]?=some c→FK d w (fun k=>ok k∧some k≠v.ownBlock) x c
theorem Ss{sz:Nat}{rows:List (List Value)}(h:(raw sz).R e w base ok v rows):(raw sz).R e w base (fun k=>some k=v.ownBlock) v rows:=tL rfl h
theorem Sv{sz:Nat}{rows:List (List Value)}(h:(raw sz).R e w base ok v rows):(raw sz).R e w base (fun _=>True) v rows:=dq h (fun _ _=>trivial)
theorem R_N(h:d.R e w base ok v xs):N d e w base ok v xs:=by
 obtain⟨h0,inner,ho,hr⟩:=h;refine⟨h0,chunks d.sz xs.length inner,nt _ _ _,⟨fun k hk=>hk.symm,inner,by rw[nt];exact ho,Kf hr (fun x c hp=>⟨d.jV (d.iT hp),d.jz (d.iT hp)⟩)⟩,fun j x c hx hc=>?_⟩;rw[zy hc];exact Sq (hr.2 j x hx)
theorem qU(d:Kd α)(e:Nat)(w:World)(base:Nat)(ok:Nat→Prop):N d e w base ok (.slice none 0 0) []:=R_N (kJ _ _ _ _ _)
theorem kP(h:N d e w base ok v xs)(hok:∀k,ok k→ok' k):N d e w base ok' v xs:=by
 obtain⟨h0,rows,hl,hR,hf⟩:=h;exact⟨fun k hk=>hok k (h0 k hk),rows,hl,hR,fun j x c hx hc=>zx (hf j x c hx hc) (fun k hk=>⟨hok k hk.1,hk.2⟩)⟩
theorem ku(h:N d e w base ok v xs):∀k,v.ownBlock=some k→k<w.heap.size:=by
 obtain⟨_,rows,_,hR,_⟩:=h;exact sd hR
theorem cQ(h:N d e w base ok v xs):∀k,v.ownBlock=some k→base≤k:=by
 obtain⟨_,rows,_,hR,_⟩:=h;exact kK hR
theorem jt(h:N d e w base ok v xs):∀k,v.ownBlock=some k→∃cells,w.heap[k]?=some (.cells cells e (0,0)):=by
 obtain⟨_,rows,_,hR,_⟩:=h;exact BK hR
theorem Sw(h:N d e w base ok v xs):N d e w base (fun k=>ok k∧k<w.heap.size) v xs:=by
 have hlt:=ku h;obtain⟨h0,rows,hl,hR,hf⟩:=h;exact⟨fun k hk=>⟨h0 k hk,hlt k hk⟩,rows,hl,hR,fun j x c hx hc=>zx (Ke (hf j x c hx hc)) (fun k hk=>⟨⟨hk.1.1,hk.2⟩,hk.1.2⟩)⟩
theorem hO{base':Nat}(h:N d e w base ok v xs)(hb:base'≤base):N d e w base' ok v xs:=by
 obtain⟨h0,rows,hl,hR,hf⟩:=h;exact⟨h0,rows,hl,cv hR hb,hf⟩
theorem Kh(h:N d e w base ok v xs)(hm:∀k,ok k→k<w.heap.size→w1.heap[k]?=w.heap[k]?):N d e w1 base ok v xs:=by
 obtain⟨h0,rows,hl,hR,hf⟩:=h;exact⟨h0,rows,hl,yV hR (fun k hk hlt=>hm k (h0 k hk.symm) hlt),fun j x c hx hc=>Gf (hf j x c hx hc) (fun k hk hlt=>hm k hk.1 hlt)⟩
theorem Gg(h:N d e w base ok v xs)(hb:Below w.heap.size w w1):N d e w1 base ok v xs:=Kh h (fun k _ hk=>hb.block k hk)
theorem tM(h:N d e w base ok v xs)(o:Obj):N d e (w.alloc o) base ok v xs:=Gg h (cS (Below.refl _ _) o)
theorem tO(h:N d e w base ok v xs):N d e w.drew base ok v xs:=Gg h (oL (Below.refl _ _))
theorem tN(h:N d e w base ok v xs)(m:Nat):N d e (w.drewN m) base ok v xs:=Gg h (bb (Below.refl _ _) m)
theorem fY(h:N d e W base ok v xs)(hbase:∀k,u.ownBlock=some k→W.heap.size≤k)(hb:Below W.heap.size W w1):N d e w1 base (fun k=>ok k∧some k≠u.ownBlock) v xs:=
 kP (Gg (Sw h) hb) (fun k hk=>⟨hk.1,fun he=>by have:=hbase k he.symm;have:=hk.2;omega⟩)
theorem acy(h:N d e W base (fun k=>ok k∧some k≠u.ownBlock) v xs){u1:Value}(hg:W.grownBy w1 u.ownBlock)(hat:u1.ownBlock=u.ownBlock∨∃b,u1.ownBlock=some b∧W.heap.size≤b):N d e w1 base (fun k=>ok k∧some k≠u1.ownBlock) v xs:=by
 refine kP (Kh (Sw h) (fun k hk hlt=>hg.block k hlt hk.1.2)) (fun k hk=>⟨hk.1.1,?_⟩);rcases hat with hat|⟨b,hb,hle⟩
 ·rw[hat];exact hk.1.2
 ·rw[hb];intro he;injection he with he
  have:=hk.2;omega
theorem nu(h:N d e w base ok v xs):∃A c,v=.slice A xs.length c:=by
 obtain⟨_,rows,hl,hR,_⟩:=h;obtain⟨A,c,he⟩:=bJ hR;exact⟨A,c,by rw[he,hl]⟩
theorem vN{n c:Nat}(h:N d e w base ok (.slice A n c) xs):n=xs.length∧n≤c∧d.C w A xs.length xs:=by
 obtain⟨_,rows,hl,hR,hf⟩:=h;obtain⟨hn,hc,hC⟩:=bm hR;refine⟨by omega,hc,?_⟩;rw[hl] at hC;refine⟨rfl,hC.2.1,fun hp=>?_⟩;obtain⟨ad,he,hcell⟩:=hC.2.2 hp;refine⟨ad,he,fun j p hj=>?_⟩;have hjl:j<rows.length:=by have:=(List.getElem?_eq_some_iff.1 hj).1;omega
 obtain⟨c',hcl,hK,hcc⟩:=hcell j _ (List.getElem?_eq_getElem hjl);have hk:=pJ (hf j p _ hj (List.getElem?_eq_getElem hjl));refine⟨c',hcl,?_,hcc⟩;rw[show c'=rows[j] from hK.1];exact hk
theorem Ki{n:Nat}(h:N d e w base ok (.slice A n cc) xs):F d w ok A n xs:=fun W' hW=>by
 have h2:=vN (Kh h hW);rw[h2.1];exact h2.2.2
theorem acz{n cap:Nat}(h:N d e W base ok (.slice (some ⟨g,0,none⟩) n cap) xs)(z:α)(i:Int)(h0:0≤i)(h1:i<n):
  ∃c,c.length=d.sz∧FK d W (fun k=>ok k∧k≠g) (xs.getD i.toNat z) c∧(∀j u,c[j]?=some u→W.cell? ⟨g,i.toNat*d.sz+j,none⟩=some u)∧∀j,W.frozen? ⟨g,i.toNat*d.sz+j,none⟩=false:=by
 obtain⟨_,rows,hl,hR,hf⟩:=h;have hn:=(bm hR).1;obtain⟨c,hcl,hM,hcc,hfr⟩:=aaW hR [] i h0 h1;have tE:i.toNat<rows.length:=by omega
 have Sx:i.toNat<xs.length:=by omega
 have hc:c=rows[i.toNat]:=by
  have h2:=hM.1
  rwa [List.getD_eq_getElem?_getD,List.getElem?_eq_getElem tE] at h2
 refine⟨c,hcl,?_,hcc,hfr⟩;rw[List.getD_eq_getElem?_getD,List.getElem?_eq_getElem Sx];exact zx (hf _ _ _ (List.getElem?_eq_getElem Sx) (by rw[hc];exact List.getElem?_eq_getElem tE)) (fun k hk=>⟨hk.1,fun he=>hk.2 (by rw[he];simp[Value.ownBlock])⟩)
theorem acA{ad:Addr}{n cap:Nat}(h:N d e W base ok (.slice (some ad) n cap) xs)(z:α)(i:Int)(h0:0≤i)(h1:i<n):
  ∃c,c.length=d.sz∧FK d W (fun k=>ok k∧some k≠(Value.slice (some ad) n cap).ownBlock) (xs.getD i.toNat z) c∧∀j u,c[j]?=some u→W.cell? (ad.add (i.toNat*d.sz+j))=some u:=by
 obtain⟨g,rfl⟩:∃g,ad=⟨g,0,none⟩:=by
  obtain⟨_,rows,_,hR,_⟩:=h;exact abz hR
 obtain⟨c,hcl,hM,hcc,_⟩:=acz h z i h0 h1;refine⟨c,hcl,zx hM (fun k hk=>⟨hk.1,fun he=>hk.2 (by simpa [Value.ownBlock] using he)⟩),fun j u hu=>?_⟩;rw[aaU,Nat.zero_add];exact hcc j u hu
end
end Kd
end Go.Proofs.YtiobedekgnfjcaaGreatDoorW.aq
namespace Go.Proofs.YtiobedekgnfjcaaGreatDoorW.aq
open Go.RowKit
namespace Kd
section
variable {α:Type} {d:Kd α} {e base n cap g:Nat} {ok ok' bp:Nat→Prop} {w w1 W:World} {v v1:Value} {xs ys:List α}
theorem Sy{rows news:List (List Value)}(h0:∀k,v.ownBlock=some k→ok k)(hl:rows.length=xs.length)(hf:∀(j:Nat) (x:α) (c:List Value),xs[j]?=some x→rows[j]?=some c→FK d W (fun k=>ok k∧some k≠v.ownBlock) x c)
  (hl2:news.length=ys.length) (hf2:∀(j:Nat) (x:α) (c:List Value),ys[j]?=some x→news[j]?=some c→FK d W bp x c) (lr:∀k,bp k→ok k∧some k≠v.ownBlock) (hfresh:∀k,W.heap.size≤k→ok k)
  (hR:(raw d.sz).R e w1 base (fun _=>True) v1 (rows++news)) (hg:W.grownBy w1 v.ownBlock) (hat:v1.ownBlock=v.ownBlock∨∃b,v1.ownBlock=some b∧W.heap.size≤b):N d e w1 base ok v1 (xs++ys):=by
 have hne:∀k,some k≠v.ownBlock→k<W.heap.size→some k≠v1.ownBlock:=by
  intro k hk hlt;rcases hat with hat|⟨b,hb,hle⟩
  ·rw[hat];exact hk
  ·rw[hb];intro he;injection he with he
   omega
 have step:∀{x:α} {c:List Value} {o:Nat→Prop},FK d W o x c→(∀k,o k→ok k∧some k≠v.ownBlock)→FK d w1 (fun k=>ok k∧some k≠v1.ownBlock) x c:=by
  intro x c o hq ho;exact zx (Gf (Ke hq) (fun k hk hlt=>hg.block k hlt (ho k hk.1).2)) (fun k hk=>⟨(ho k hk.1).1,hne k (ho k hk.1).2 hk.2⟩)
 refine⟨fun k hk=>?_,rows++news,by rw[List.length_append,List.length_append,hl,hl2],Ss hR,fun j x c hx hc=>?_⟩
 ·rcases hat with hat|⟨b,hb,hle⟩
  ·exact h0 k (hat▸hk)
  ·rw[hb] at hk;injection hk with hk
   exact hfresh k (by omega)
 ·rcases Nat.lt_or_ge j xs.length with hlt|hge
  ·rw[List.getElem?_append_left hlt] at hx;rw[List.getElem?_append_left (by omega)] at hc;exact step (hf j x c hx hc) (fun _ hk=>hk)
  ·rw[List.getElem?_append_right hge] at hx;rw[List.getElem?_append_right (by omega),hl] at hc;exact step (hf2 _ x c hx hc) lr
theorem acB{x:α}{c:List Value}(h:FK d W ok x c):c=c∧c.length=d.sz∧∀u∈c,u.oneCell'=true:=⟨rfl,d.jV (pJ h),d.jz (pJ h)⟩
theorem Sz{rows:List (List Value)}(hR:(raw d.sz).R e w1 base (fun k=>k=W.heap.size) v1 rows)(hg:W.grownBy w1 none)(hat:∃b,v1.ownBlock=some b∧W.heap.size≤b)(hl:rows.length=xs.length)(hf:∀(j:Nat) (x:α) (c:List Value),xs[j]?=some x→rows[j]?=some c→FK d W bp x c)
  (hok:∀k,bp k→ok k) (hfresh:ok W.heap.size):N d e w1 base ok v1 xs:=by
 obtain⟨b,hb,hle⟩:=hat;refine⟨fun k hk=>by rw[hR.1 k hk];exact hfresh,rows,hl,Ss hR,fun j x c hx hc=>?_⟩;refine zx (Gf (Ke (hf j x c hx hc)) (fun k hk hlt=>hg.block k hlt (by simp))) (fun k hk=>⟨hok k hk.1,fun he=>?_⟩);rw[hb] at he;injection he with he
 have:=hk.2;omega
theorem acC{Rr:α→List Value→Prop}{sz m:Nat}{A:Option Addr}(h:jU Rr sz W A m ys)(hR:∀x c,Rr x c→c.length=sz∧∀u∈c,u.oneCell'=true):
  ∃news:List (List Value),news.length=ys.length∧jU (fun x cs=>cs=x∧cs.length=sz∧∀u∈cs,u.oneCell'=true) sz W A m news∧∀(j:Nat) (x:α) (c:List Value),ys[j]?=some x→news[j]?=some c→Rr x c:=by
 rcases Nat.eq_zero_or_pos m with h0|hp
 ·have hy:ys=[]:=List.eq_nil_of_length_eq_zero (h.1.trans h0);subst hy;exact⟨[],rfl,⟨h0▸rfl,h.2.1,fun hp=>by omega⟩,fun j x c hx=>by simp at hx⟩
 ·obtain⟨ad,rfl,_⟩:=h.2.2 hp;obtain⟨inner,hr,hc⟩:=jU.JJ h;refine⟨chunks sz ys.length inner,nt _ _ _,⟨by rw[nt];exact h.1,h.2.1,fun _=>⟨ad,rfl,fun j p hj=>?_⟩⟩,fun j x c hx hcc=>?_⟩
  ·have hjl:j<ys.length:=by have:=(List.getElem?_eq_some_iff.1 hj).1;rwa [nt] at this
   have hpe:=zy hj;have hq:=hR _ _ (hr.2 j _ (List.getElem?_eq_getElem hjl));rw[←hpe] at hq;refine⟨p,hq.1,⟨rfl,hq⟩,fun i u hu=>?_⟩
   have nZ:inner[j*sz+i]?=some u:=by
    rw[hpe,List.getElem?_take] at hu
    split at hu
    ·rw[List.getElem?_drop] at hu;exact hu
    ·cases hu
   exact hc _ u nZ
  ·rw[zy hcc];exact hr.2 j x hx
end
section
variable {P:Program} {ops:Array Oper} {rest:List Oper} {o:Oper} {a:Act} {Q:Exit→Act→World→Prop} {Kc:Act→World→Prop} {α:Type}
theorem acD(d:Kd α){w0 W:World}(base:Nat)(hgd:o.guard=none)(s x:Operand)(t e:TypeId)(z:Value)(bytes:Nat)
  (ho:o.op=.call { callee:=.builtin .append,args:=#[s,x],argTypes:=#[t,t] })
  (ht:P.underlying t=some (.slice e)) (hinfo:(P.info? e).map (fun i=>(i.zero,i.size,i.bytes))=some (some z,d.sz,bytes)) (hz:z.cells.size=d.sz) (hs0:0<d.sz) (hb0:0<bytes)
  (v:Value) (xs:List α) (p:α) (cs:List Value) (ok bp:Nat→Prop) (hs:a.eval s=v) (hx:a.eval x=.slice (some ⟨W.heap.size,0,none⟩) 1 1) (hp:FK d W bp p cs) (lr:∀k,bp k→ok k∧some k≠v.ownBlock) (hfresh:∀k,W.heap.size≤k→ok k)
  (HO:N d e W base ok v xs) (HB:Below base w0 W) (hbase:base≤W.heap.size) (hl:(xs.length+1)*bytes≤140737488355328)
  (h:∀v1 w1,N d e w1 base ok v1 (xs++[p])→Below base w0 w1→W.grownBy w1 v.ownBlock→(v1.ownBlock=v.ownBlock∨∃b,v1.ownBlock=some b∧W.heap.size≤b)→wpList P ops Q rest (a.put o.dst v1) w1):
  wpList P ops Q (o::rest) a (W.alloc (.cells cs.toArray e)):=by
 obtain⟨h0,rows,hlr,hR,hf⟩:=HO;refine jW (raw d.sz) base hgd s x t e z bytes ho ht hinfo hz hs0 hb0 v rows cs cs (fun _=>True) (fun _=>False) hs hx (acB hp) (fun _ hk=>hk.elim) (fun _ _=>trivial) (Sv hR) HB hbase (by rw[hlr];exact hl) ?_;intro v1 w1 hr hb hg hat
 exact h v1 w1 (Sy h0 hlr hf (ys:=[p]) (news:=[cs]) rfl (fun j y c hy hc=>by
  rcases j with _|j
  ·simp only[List.getElem?_cons_zero,Option.some.injEq] at hy hc;rw[←hy, ←hc];exact hp
  ·simp at hy) lr hfresh hr hg hat) hb hg hat
theorem qV(d:Kd α){w0 W:World}(base:Nat)(hw:Region.wanted o (yielded ops a.tmps)=true)(s x:Operand)(t e:TypeId)(z:Value)(bytes:Nat)
  (ho:o.op=.call { callee:=.builtin .append,args:=#[s,x],argTypes:=#[t,t] })
  (ht:P.underlying t=some (.slice e)) (hinfo:(P.info? e).map (fun i=>(i.zero,i.size,i.bytes))=some (some z,d.sz,bytes)) (hz:z.cells.size=d.sz) (hs0:0<d.sz) (hb0:0<bytes)
  (v:Value) (xs ys:List α) (A:Option Addr) (m c:Nat) (ok bp:Nat→Prop) (hs:a.eval s=v) (hx:a.eval x=.slice A m c)
  (HO:N d e W base ok v xs) (HR:F d W bp A m ys) (lr:∀k,bp k→ok k∧some k≠v.ownBlock) (hfresh:∀k,W.heap.size≤k→ok k)
  (HB:Below base w0 W) (hbase:base≤W.heap.size) (hl:(xs.length+m)*bytes≤140737488355328)
  (h:∀v1 w1,N d e w1 base ok v1 (xs++ys)→Below base w0 w1→W.grownBy w1 v.ownBlock→(v1.ownBlock=v.ownBlock∨∃b,v1.ownBlock=some b∧W.heap.size≤b)→Kc (a.put o.dst v1) w1):
  if Region.wanted o (yielded ops a.tmps)=true then Oper.wp P o a W Kc Q else Kc (a.put o.dst undef) W:=by
 obtain⟨h0,rows,hlr,hR,hf⟩:=HO;obtain⟨news,Gh,BN,hnf⟩:=acC (acx HR) (fun y c hk=>⟨d.jV (pJ hk),d.jz (pJ hk)⟩);refine BR (raw d.sz) base hw s x t e z bytes ho ht hinfo hz hs0 hb0 v rows news A m c (fun _=>True) (fun _=>False) hs hx (Sv hR) BN (fun _ _ hk=>hk) (fun _ hk=>hk.elim) (fun _ _=>trivial) HB hbase (by rw[hlr];exact hl) ?_;intro v1 w1 hr hb hg hat;exact h v1 w1 (Sy h0 hlr hf Gh hnf lr hfresh hr hg hat) hb hg hat
theorem qW(d:Kd α){w0 W:World}(base e:Nat)(hgd:o.guard=none){N':Tmp}(tH:o.dst=some N'){xs:List α}{inner:List Value}{ok bp:Nat→Prop}
  (hrun:(execOp a.eval o).run P W=.ok (.value (.slice (some ⟨W.heap.size,0,none⟩) xs.length xs.length)) (W.alloc (.cells inner.toArray e)))
  (hrep:aE (FK d W bp) d.sz xs inner) (hok:∀k,bp k→ok k) (hfresh:ok W.heap.size) (HB:Below base w0 W) (hbase:base≤W.heap.size) (hm:xs.length≤9223372036854775807)
  (h:∀v1 w1,N d e w1 base ok v1 xs→Below base w0 w1→W.grownBy w1 none→(∃b,v1.ownBlock=some b∧W.heap.size≤b)→wpList P ops Q rest (a.put o.dst v1) w1):
  wpList P ops Q (o::rest) a W:=by
 refine dV (raw d.sz) base e hgd tH (xs:=chunks d.sz xs.length inner) (inner:=inner) (ok:=fun k=>k=W.heap.size) (bp:=fun _=>False) (by rw[nt];exact hrun) (Kf hrep (fun y c hk=>⟨d.jV (pJ hk),d.jz (pJ hk)⟩)) (fun _ hk=>hk.elim) rfl HB hbase (by rw[nt];exact hm) ?_;intro v1 w1 hr hb hg hat;exact h v1 w1 (Sz hr hg hat (nt _ _ _) (fun j y c hy hc=>by rw[zy hc];exact hrep.2 j y hy) hok hfresh) hb hg hat
theorem qX(d:Kd α){w0 W:World}(base e:Nat)(hw:Region.wanted o (yielded ops a.tmps)=true){N':Tmp}(tH:o.dst=some N'){xs:List α}{inner:List Value}{ok bp:Nat→Prop}
  (hrun:(execOp a.eval o).run P W=.ok (.value (.slice (some ⟨W.heap.size,0,none⟩) xs.length xs.length)) (W.alloc (.cells inner.toArray e)))
  (hrep:aE (FK d W bp) d.sz xs inner) (hok:∀k,bp k→ok k) (hfresh:ok W.heap.size) (HB:Below base w0 W) (hbase:base≤W.heap.size) (hm:xs.length≤9223372036854775807)
  (h:∀v1 w1,N d e w1 base ok v1 xs→Below base w0 w1→W.grownBy w1 none→(∃b,v1.ownBlock=some b∧W.heap.size≤b)→Kc (a.put o.dst v1) w1):
  if Region.wanted o (yielded ops a.tmps)=true then Oper.wp P o a W Kc Q else Kc (a.put o.dst undef) W:=by
 refine BQ (raw d.sz) base e hw tH (xs:=chunks d.sz xs.length inner) (inner:=inner) (ok:=fun k=>k=W.heap.size) (bp:=fun _=>False) (by rw[nt];exact hrun) (Kf hrep (fun y c hk=>⟨d.jV (pJ hk),d.jz (pJ hk)⟩)) (fun _ hk=>hk.elim) rfl HB hbase (by rw[nt];exact hm) ?_;intro v1 w1 hr hb hg hat;exact h v1 w1 (Sz hr hg hat (nt _ _ _) (fun j y c hy hc=>by rw[zy hc];exact hrep.2 j y hy) hok hfresh) hb hg hat
end
end Kd
end Go.Proofs.YtiobedekgnfjcaaGreatDoorW.aq
namespace Go.Proofs.YtiobedekgnfjcaaGreatDoorW.aq
open Go.RowKit
namespace Kd
section
variable {α:Type} {d:Kd α} {W:World} {g n:Nat} {S ok:Nat→Prop} {A:Option Addr} {ad:Addr} {xs:List α}
end
end Kd
end Go.Proofs.YtiobedekgnfjcaaGreatDoorW.aq
namespace Go.Proofs.YtiobedekgnfjcaaGreatDoorW.aq
open Go.RowKit
section
variable {w w' u:World} {m B g:Nat} {o:Obj} {row:Option Nat} {S:Nat→Prop} {a:Addr} {v:Value}
theorem Vt(hq:w.drewN m=w')(h:Below B u w):Below B u w':=by subst hq;exact bb h m
end
namespace Kd
section
variable {α:Type} {d:Kd α} {e base n m:Nat} {ok:Nat→Prop} {w w':World} {v:Value} {A:Option Addr} {xs:List α}
theorem Vu(hq:w.drewN m=w')(h:d.R e w base ok v xs):d.R e w' base ok v xs:=by subst hq;exact iy h m
end
end Kd
end Go.Proofs.YtiobedekgnfjcaaGreatDoorW.aq
