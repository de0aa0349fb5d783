/- What both Executes come to: contracts and plain laws, for the laws on Execute. No conditions. (Part 19 of 28.) -/
import Derived.Test.YtiobedekgnfjcaaGreatDoorME11
import Derived.Test.YtiobedekgnfjcaaGreatDoorME13
import Derived.Test.YtiobedekgnfjcaaGreatDoorME14
set_option linter.unusedVariables false
set_option linter.unusedSimpArgs false
set_option maxHeartbeats 8000000
set_option maxRecDepth 100000
namespace Go.Proofs.YtiobedekgnfjcaaGreatDoor
namespace P
end P
open Go.Proofs.YtiobedekgnfjcaaGreatDoor.P Go.Proofs.YtiobedekgnfjcaaGreatDoorW.aq Go.Proofs.YtiobedekgnfjcaaGreatDoorW.ay Go.RowKit
namespace X
def gN:List (List Int)→List Int→List (List Int)
 |[],x=>[x]
 |a::r,x=>if dR a x=true then a::gN r x else x::a::r
theorem H8(l:List (List Int))(x:List Int):(gN l x).length=l.length+1:=by
 induction l with
 |nil=>rfl
 |cons a r ih=>
  unfold gN;by_cases h:dR a x=true
  ·rw[ah h,List.length_cons,ih,List.length_cons]
  ·rw[ag h];rfl
theorem AK{l:List (List Int)}{x y:List Int}:y∈gN l x↔y=x∨y∈l:=by
 induction l with
 |nil=>unfold gN;simp
 |cons a r ih=>
  unfold gN;by_cases h:dR a x=true
  ·rw[ah h,List.mem_cons,ih,List.mem_cons];exact⟨fun h=>h.elim (fun h=>.inr (.inl h)) fun h=>h.elim .inl fun h=>.inr (.inr h),fun h=>h.elim (fun h=>.inr (.inl h)) fun h=>h.elim .inl fun h=>.inr (.inr h)⟩
  ·rw[ag h];simp
theorem Wv(x:List Int):∀(n:Nat) (l:List (List Int)),n≤l.length→(∀j:Nat,j<n→dR (aT l (j:Int)) x=true)→gN l x=l.take n++gN (l.drop n) x:=by
 intro n
 induction n with
 |zero=>intro l _ _;simp
 |succ n ih=>
  intro l hl h
  match l with
  |[]=>simp at hl
  |a::r=>
   have h0:=h 0 ae;have ea:aT (a::r) ((0:Nat):Int)=a:=by rw[uD _ 0 bn];rfl
   rw[ea] at h0
   have:=ih r (by simp at hl;omega) fun j hj=>by
    have:=h (j+1) ae;rw[uD _ (j+1) (by simp at hl ⊢;omega)] at this;rw[uD _ j (by simp at hl;omega)];exact this
   show(if dR a x=true then a::gN r x else x::a::r)=_
   rw[ah h0,this];rfl
theorem aiT{l:List (List Int)}{x:List Int}{n:Nat}(hn:n<l.length)(h:¬dR (aT l (n:Int)) x=true):gN (l.drop n) x=x::l.drop n:=by
 rw[List.drop_eq_getElem_cons hn]
 show(if dR l[n] x=true then _ else _)=_
 rw[uD l n hn] at h;rw[ag h]
theorem aiU{l:List (List Int)}{x:List Int}(h9:∀a∈l,a.length=9)(hx:x.length=9)(hl:l.length≤1000)(d:Nat):∀i:Int,0≤i→i+d=l.length→(∀j:Nat,(j:Int)<i→dR (aT l (j:Int)) x=true)→Ev (fun k=>fR.l0 k l x i) (gN l x):=by
 induction d with
 |zero=>
  intro i i0 i1 h;have e:=Wv x i.toNat l ae fun j hj=>h j ae;rw[e,show l.drop i.toNat=[] from List.drop_eq_nil_of_le ae];have hlt:(l.take i.toNat).length≤1000:=by rw[List.length_take];omega
  refine Ev.step (fun k=>by rw[fR.l0]) ?_;refine Ev.neg ae (Ev.fix rfl (Ev.pos i0 (Ev.pos ae (Ev.fix rfl (Ev.pos (by rw[List.length_nil];omega) ?_)))));refine Ev.fix rfl (Ev.fix rfl (Ev.pos (by rw[List.nil_append,List.length_singleton];omega) (Ev.fix rfl (Ev.fix rfl (Ev.pos ?_ (Ev.done ?_))))))
  ·rw[List.nil_append,List.length_append,List.length_singleton,List.length_drop];omega
  ·rw[show l.drop i.toNat=[] from List.drop_eq_nil_of_le ae];simp[gN]
 |succ d ih=>
  intro i i0 i1 h;have hm:aT l i∈l:=Nk i0 ae;have hlt:(l.take i.toNat).length≤1000:=by rw[List.length_take];omega
  refine Ev.step (fun k=>by rw[fR.l0]) ?_;rw[bI (x:=i+1) ae ae];refine Ev.pos ae (Ev.pos i0 (Ev.bind (DS _ _ (h9 _ hm) hx) ?_));by_cases hc:dR (aT l i) x=true
  ·refine Ev.pos hc (ih (i+1) ae ae fun j hj=>?_);by_cases ej:(j:Int)=i
   ·rw[ej];exact hc
   ·exact h j ae
  ·have e:=Wv x i.toNat l ae fun j hj=>h j ae;rw[e,aiT ae (by rw[Int.toNat_of_nonneg i0];exact hc)];refine Ev.neg hc (Ev.fix rfl (Ev.pos ae (Ev.fix rfl (Ev.pos (by rw[List.length_nil];omega) ?_))));refine Ev.fix rfl (Ev.fix rfl (Ev.pos (by rw[List.nil_append,List.length_singleton];omega) (Ev.fix rfl (Ev.fix rfl (Ev.pos ?_ (Ev.done ?_))))))
   ·rw[List.nil_append,List.length_append,List.length_singleton,List.length_drop];omega
   ·simp
theorem Oi{l:List (List Int)}{x:List Int}(h9:∀a∈l,a.length=9)(hx:x.length=9)(hl:l.length≤1000):Ev (fun k=>fR.f k l x) (gN l x):=aiU h9 hx hl l.length 0 ae ae fun j hj=>by omega
theorem H9{l:List (List Int)}{x:List Int}(h9:∀a∈l,a.length=9)(hx:x.length=9):∀a∈gN l x,a.length=9:=fun a ha=>(AK.1 ha).elim (fun e=>by rw[e];exact hx) (h9 a)
def rO:List Int:=[0,1,2,3,4,5,6,7,8]
def Ib(t:List Int)(m x:Int):Int:=9*x+rd t (9*x+m)
def qu(t:List Int)(m:Int):List Int:=mz 9 (Ib t m)
def il(t:List Int):Nat→List (List Int)
 |0=>[rO]
 |n+1=>gN (il t n) (qu t (n:Int))
def On(t:List Int):List (List Int)×Bool:=if aW t=true then(il t 9,true) else([],false)
theorem Ic(t:List Int)(m:Int):(qu t m).length=9:=JZ _ _
theorem ai8(t:List Int)(n:Nat):(il t n).length=n+1:=by
 induction n with
 |zero=>rfl
 |succ n ih=>show(gN _ _).length=_;rw[H8,ih]
theorem WJ(t:List Int)(n:Nat):∀a∈il t n,a.length=9:=by
 induction n with
 |zero=>intro a ha;rw[List.mem_singleton.1 ha];rfl
 |succ n ih=>exact H9 ih (Ic t n)
theorem ai9{t:List Int}(hn:b9 t 81=true)(L:List (List Int))(h9:∀a∈L,a.length=9)(hL:L.length≤100){m:Nat}(hm:m<9){r:List (List Int)×Bool}(hr:Ev (fun k=>gO.l0 k t (gN L (qu t (m:Int))) ((m:Int)+1)) r)(d:Nat):
  ∀x:Nat,x+d=9→Ev (fun k=>gO.l1 k t L (m:Int) (mz x (Ib t (m:Int))) (x:Int)) r:=by
 have ht:=(hG.1 hn).1
 induction d with
 |zero=>
  intro x hx;obtain rfl:x=9:=ae;refine Ev.step (fun k=>by rw[gO.l1]) ?_;refine Ev.neg ae (Ev.bind (Oi h9 (Ic t m) ae) ?_);rw[bI (x:=(m:Int)+1) ae ae];exact hr
 |succ d ih=>
  intro x hx;have nx:=ih (x+1) ae;rw[R1] at nx;have hv:=gG hn (i:=9*(x:Int)+m) ae ae;have hml:(mz x (Ib t (m:Int))).length=x:=JZ _ _;refine Ev.step (fun k=>by rw[gO.l1]) ?_;rw[bI (x:=9*(x:Int)) ae ae,bI (x:=9*(x:Int)+m) ae ae,bI (x:=9*(x:Int)+rd t (9*(x:Int)+m)) ae ae,bI (x:=(x:Int)+1) ae ae];exact Ev.pos ae (Ev.pos ae (Ev.pos ae (Ev.pos ae nx)))
theorem ai_{t:List Int}(hn:b9 t 81=true)(d:Nat):∀m:Nat,m+d=9→Ev (fun k=>gO.l0 k t (il t m) (m:Int)) (il t 9,true):=by
 induction d with
 |zero=>
  intro m hm;obtain rfl:m=9:=ae;refine Ev.step (fun k=>by rw[gO.l0]) ?_;exact Ev.neg ae (Ev.done rfl)
 |succ d ih=>
  intro m hm;refine Ev.step (fun k=>by rw[gO.l0]) ?_;exact Ev.pos ae (ai9 hn _ (WJ t m) (by rw[ai8];omega) ae (ih (m+1) ae) 9 0 ae)
theorem aja{t:List Int}(ht:t.length≤1048576):Ev (fun k=>gO.f k t) (On t):=by
 unfold gO.f On;refine Ev.bind (oX t ht) ?_;by_cases hs:aW t=true
 ·rw[ah hs];exact Ev.pos hs (ai_ (fq hs).1 9 0 ae)
 ·rw[ag hs];exact Ev.neg hs (Ev.done rfl)
theorem Oo:∀(l:List (List Int)) (x:List Int),nI l→(∀a∈l,a.length=9)→x.length=9→x∉l→nI (gN l x):=by
 intro l
 induction l with
 |nil=>intro x _ _ _ _;exact List.pairwise_singleton _ _
 |cons y l ih=>
  intro x ha h9 hx hn;have ha2:=List.pairwise_cons.1 ha;have hxy:x≠y:=fun e=>hn (e▸List.mem_cons_self);have h9y:=h9 y List.mem_cons_self;by_cases h:dR y x=true
  ·have e:gN (y::l) x=y::gN l x:=by simp[gN,h]
   rw[e];refine List.pairwise_cons.2 ⟨fun z hz=>?_,ih x ha2.2 (fun a h=>h9 a (List.mem_cons_of_mem _ h)) hx (fun h=>hn (List.mem_cons_of_mem _ h))⟩;rcases AK.1 hz with rfl|hz
   ·exact h
   ·exact ha2.1 z hz
  ·have e:gN (y::l) x=x::y::l:=by simp[gN,h]
   rw[e];have hlt:dR x y=true:=(VO hx h9y hxy).elim id fun h2=>absurd h2 h;refine List.pairwise_cons.2 ⟨fun z hz=>?_,ha⟩;rcases List.mem_cons.1 hz with rfl|hz
   ·exact hlt
   ·exact NN hlt (ha2.1 z hz)
theorem ajb:∀a b:List Int,a.Pairwise (·<·)→b.Pairwise (·<·)→(∀x,x∈a↔x∈b)→a=b:=by
 intro a
 induction a with
 |nil=>
  intro b _ _ h;cases b with
  |nil=>rfl
  |cons y b=>exact absurd ((h y).2 List.mem_cons_self) bn
 |cons x a ih=>
  intro b ha hb h;cases b with
  |nil=>exact absurd ((h x).1 List.mem_cons_self) bn
  |cons y b=>
   have ha:=List.pairwise_cons.1 ha;have hb:=List.pairwise_cons.1 hb
   have e:x=y:=by
    rcases List.mem_cons.1 ((h x).1 List.mem_cons_self) with e|e
    ·exact e
    ·rcases List.mem_cons.1 ((h y).2 List.mem_cons_self) with e2|e2
     ·exact e2.symm
     ·have:=hb.1 x e;have:=ha.1 y e2;omega
   subst e;rw[ih b ha.2 hb.2 fun z=>⟨fun hz=>?_,fun hz=>?_⟩]
   ·rcases List.mem_cons.1 ((h z).1 (List.mem_cons_of_mem _ hz)) with e|e
    ·have:=ha.1 z hz;omega
    ·exact e
   ·rcases List.mem_cons.1 ((h z).2 (List.mem_cons_of_mem _ hz)) with e|e
    ·have:=hb.1 z hz;omega
    ·exact e
theorem ajc{f:Int→Int}(hf:∀x:Int,0≤x→x<9→0≤f x∧f x<9):cH 81 (fun i=>i%9==f (i / 9))=mz 9 fun x=>9*x+f x:=by
 refine ajb _ _ (Kw _ _) ?_ fun i=>?_
 ·unfold mz;rw[List.pairwise_map];refine List.pairwise_lt_range.imp_of_mem fun {a b} ha hb hab=>?_;have:=hf a ae (by have:=List.mem_range.1 ha;omega);have:=hf b ae (by have:=List.mem_range.1 hb;omega)
  show 9*(a:Int)+f a<9*(b:Int)+f b
  omega
 ·rw[pF];unfold mz;rw[List.mem_map]
  constructor
  ·rintro⟨i0,i1,h⟩;have h:i%9=f (i / 9):=by simpa using h
   exact⟨(i / 9).toNat,List.mem_range.2 ae,by rw[Int.toNat_of_nonneg ae];show 9*(i / 9)+f (i / 9)=i;omega⟩
  ·rintro⟨x,hx,rfl⟩;have hx:=List.mem_range.1 hx;have:=hf x ae ae;have e1:(9*(x:Int)+f x) / 9=x:=ae;have e2:(9*(x:Int)+f x)%9=f x:=ae
   show 0≤9*(x:Int)+f x∧9*(x:Int)+f x<(81:Nat)∧((9*(x:Int)+f x)%9==f ((9*(x:Int)+f x) / 9))=true
   refine⟨ae,ae,?_⟩;rw[e1,e2];simp
theorem ajd{t:List Int}(hn:b9 t 81=true){m:Int}(m0:0≤m)(m1:m<9):cH 81 (fun i=>i%9==rd t (9*(i / 9)+m))=qu t m:=
 ajc (f:=fun x=>rd t (9*x+m)) fun x x0 x1=>gG hn ae ae
theorem aje:cH 81 (fun i=>i / 9==0)=rO:=by decide+kernel
def me(t:List Int)(n:Nat):List (List Int):=rO::(List.range n).map fun(m:Nat)=>qu t (m:Int)
theorem Oq(t:List Int)(n:Nat):me t (n+1)=me t n++[qu t (n:Int)]:=by unfold me;rw[List.range_succ,List.map_append];rfl
theorem WK(t:List Int)(n:Nat):(me t n).length=n+1:=by unfold me;simp
theorem ajf(t:List Int)(n:Nat):∀x∈me t n,x.length=9:=fun x hx=>by
 rcases List.mem_cons.1 hx with rfl|hx
 ·rfl
 ·obtain⟨m,_,rfl⟩:=List.mem_map.1 hx;exact Ic t m
theorem WL(t:List Int)(n:Nat)(x:List Int):x∈me t n↔x∈il t n:=by
 induction n with
 |zero=>rfl
 |succ n ih=>
  rw[Oq,List.mem_append,List.mem_singleton,ih]
  show _↔x∈gN _ _
  rw[AK,or_comm]
theorem WM{t:List Int}(h:aW t=true){m:Int}(m0:0≤m)(m1:m<9):rd (qu t m) 1=9+m:=by
 unfold qu Ib;rw[abr ae ae];have:=(Kv h m0 m1).2.2.1;rw[show(9:Int)*1+m=9+m by omega,this];omega
theorem WN{t:List Int}(h:aW t=true){n:Nat}(hn:n<9):qu t (n:Int)∉me t n:=fun hm=>by
 have e:=WM h (m:=(n:Int)) ae ae;rcases List.mem_cons.1 hm with e2|hm
 ·rw[e2] at e;have:rd rO 1=1:=rfl;omega
 ·obtain⟨m,hm,e2⟩:=List.mem_map.1 hm;have hm:=List.mem_range.1 hm;have e3:=WM h (m:=(m:Int)) ae ae;rw[e2] at e3;omega
theorem ajg{t:List Int}(h:aW t=true)(n:Nat)(hn:n≤9):(me t n).Nodup:=by
 induction n with
 |zero=>exact List.nodup_cons.2 ⟨by simp,List.nodup_nil⟩
 |succ n ih=>
  rw[Oq];refine List.nodup_append.2 ⟨ih ae,List.nodup_cons.2 ⟨by simp,List.nodup_nil⟩,fun a ha b hb e=>?_⟩;rw[List.mem_singleton.1 hb] at e;rw[e] at ha;exact WN h ae ha
theorem ajh{t:List Int}(h:aW t=true)(n:Nat)(hn:n≤9):nI (il t n):=by
 induction n with
 |zero=>exact List.pairwise_singleton _ _
 |succ n ih=>exact Oo _ _ (ih ae) (WJ t n) (Ic t n) fun hm=>WN h ae ((WL t n _).2 hm)
theorem aji{t:List Int}(h:aW t=true){r:List (List Int)}(hm:∀x,x∈r↔x∈me t 9)(ha:nI r):r=il t 9:=
 VP _ _ ha (ajh h 9 ae) fun x=>(hm x).trans (WL t 9 x)
theorem ajj(w:World)(x y:Int):
  Calls Tryz.prog 142 #[.int .i64 x,.int .i64 y] w fun e w'=>e=.returned (.bool (x==0))∧Below w.heap.size w w':=by
 go_enter Tryz.func142,Tryz.ntmps142;go_wp2;go_ret;exact⟨rfl,Below.refl _ _⟩
theorem ajk(b bk:Nat)(A0:Option Addr)(c0:Nat)(s:List Int)(w:World)(hb:dZ w b A0 c0 s)(hn:b9 s 81=true)(k:Int)(hK:bP k)
  (hk:w.cell? ⟨bk,0,none⟩=some (.int .i64 k)) (x y:Int) (hx:bP x):
  Calls Tryz.prog 143 #[.int .i64 x,.int .i64 y,.pointer (some ⟨b,0,none⟩),.pointer (some ⟨bk,0,none⟩)] w fun e w'=>e=.returned (.bool (y==rd s (9*x+k)))∧Below w.heap.size w w':=by
 obtain⟨hl,_⟩:=hG.1 hn;obtain⟨ad,rfl⟩:=hb.some ae;obtain⟨x0,x1⟩:=hx;obtain⟨k0,k1⟩:=hK;have hcc:=hb.cell;have g1:=hb.at (9*x+k) ae ae;have hlen:81≤s.length:=ae;clear hb hn hl;go_enter Tryz.func143,Tryz.ntmps143;go_wp2;go_ret;exact⟨rfl,Below.refl _ _⟩
theorem ajl:Eg 142:=enters_of Tryz.func142 am rfl
theorem ajm:Eg 143:=enters_of Tryz.func143 am rfl
theorem ajn{w:World}{base:Nat}{A:Option Addr}{c:Nat}{y:List Int}{bp:Nat→Prop}(h:Kd.R (Kd.int .i64) 3 w base bp (.slice A y.length c) y):∀(j:Nat) (x:List Int),([y]:List (List Int))[j]?=some x→LK.M w base (fun k=>j=0∧bp k) x (([Value.slice A y.length c].drop (j*LK.sz)).take LK.sz):=fun j x hx=>by
 rcases j with _|j
 ·obtain rfl:=au hx;exact⟨_,rfl,Kd.dq h (fun k hk=>⟨rfl,hk⟩)⟩
 ·simp at hx
theorem ajo(A0:Option Addr)(c0:Nat)(t:List Int)(w:World)(hr:Kd.C (Kd.int .i64) w A0 t.length t)(hs:aW t=true):
  Calls Tryz.prog 87 #[.slice A0 t.length c0] w fun e w'=> ∃bO:Value,e=.returned bO∧Kd.S LK 31 w' w.heap.size (fun _=>True) bO (il t 9)∧Below w.heap.size w w':=by
 have pN:∀(fn:Fn) (first cap:Array Value) (w:World),(Instr.makeFunc fn first cap).run Tryz.prog w=.ok (.func fn first cap) w:=fun _ _ _ _=>rfl;have hn:=(fq hs).1;have HX:=af.mk (dZ.alloc (c0:=c0) hr);have HA:=af.mk ((Below.refl w.heap.size w).alloc (aH _) (.cells #[.slice A0 t.length c0] 31));have HC:=af.mk (Ot 142 #[] ajl (fun x _=>x==0) (fun i=>i / 9==0) (fun _ _ _=>rfl) (w.alloc (.cells #[.slice A0 t.length c0] 31)) (fun W x y _ _=>ajj W x y));have HS:=af.mk hs;have HN:=af.mk hn;rw[aje] at HC;clear hr hs hn;go_enter Tryz.func87,Tryz.ntmps87;go_wp2_with fail
 refine HC.o.mono ?_;rintro e w1 ⟨v,rfl,ho,hb⟩;obtain⟨Ao,co,eo⟩:=Kd.bJ ho;subst eo;have HO:=af.mk (Kd.dq (ok':=fun k_=>(w.alloc (.cells #[.slice A0 t.length c0] 31)).heap.size≤k_) (Kd.ix ho) (fun k hk=>hk.2.1));have bF:=af.mk hb;clear ho hb HC;go_wp2_with ((with_reducible refine db (N:=6) rfl ?_);refine Kd.R_ LK (w0:=(w.alloc (.cells #[.slice A0 t.length c0] 31))) (w.alloc (.cells #[.slice A0 t.length c0] 31)).heap.size 31 ?hg (N:=6) ?hd (xs:=[rO]) (inner:=[.slice Ao rO.length co]) (ok:=(fun k_=>((w.alloc (.cells #[.slice A0 t.length c0] 31)).heap.size≤k_))) (fun j k=>j=0∧(w.alloc (.cells #[.slice A0 t.length c0] 31)).heap.size≤k) ?hr rfl ?hp (fun i j k h1 h2=>h1.1.trans h2.1.symm) (fun j k h=>h.2) bF.o.size bF.o bF.o.size bn ?_;(case hd=>rfl);(case hg=>rfl);(case hr=>first|(go_simp;done)|(go_simp;rfl));(case hp=>exact ajn HO.o);intro arM w4 dv hb bq br;have iC:=af.mk dv;have bK:=af.mk hb;clear bq br dv hb)
 go_loopg [3,7] 9 (fun kq v3 v7 w'=> ∃i:Int,v7=.int .i64 i∧af (0≤i∧i≤9)∧af ((9:Int) - i≤kq)∧af (Kd.S LK 31 w' (w.alloc (.cells #[.slice A0 t.length c0] 31)).heap.size (fun k_=>(w.alloc (.cells #[.slice A0 t.length c0] 31)).heap.size≤k_) v3 (me t i.toNat))∧af (Below (w.alloc (.cells #[.slice A0 t.length c0] 31)).heap.size (w.alloc (.cells #[.slice A0 t.length c0] 31)) w'))
 case atStart=>exact⟨0,rfl,⟨ae⟩,⟨ae⟩,iC,bK⟩
 case round=>
  clear iC bK HO bF;obtain⟨i,rfl,HI,HK,HO,HB⟩:=hrel;have h0:0≤i:=HI.o.1;by_cases c6:i<9
  ·have vU:=(Below.refl wr.heap.size wr).alloc (aH _) (.cells #[.int .i64 i] 3);have vV:=af.mk (aU HB.o vU);have Gp:=af.mk (HX.o.below vV.o);have vW:(wr.alloc (.cells #[.int .i64 i] 3)).cell? ⟨wr.heap.size,0,none⟩=some (.int .i64 i):=World.cell?_alloc_at _ _ _ _ rfl
   have hp2:R4 143 #[.pointer (some ⟨w.heap.size,0,none⟩),.pointer (some ⟨wr.heap.size,0,none⟩)] (wr.alloc (.cells #[.int .i64 i] 3)) (fun x y=>(0≤x∧x<9)∧0≤y∧y<9) (fun x y=>.bool (y==rd t (9*x+i))):=
    fun W x y hW hx=>ajk w.heap.size wr.heap.size A0 c0 t W (Gp.o.below hW) HN.o i ⟨h0,c6⟩ ((hW.cell (World.block_lt_of_cell? _ _ vW)).trans vW) x y hx.1
   have hcall:=Ot 143 #[.pointer (some ⟨w.heap.size,0,none⟩),.pointer (some ⟨wr.heap.size,0,none⟩)] ajm (fun x y=>y==rd t (9*x+i)) (fun j=>j%9==rd t (9*(j / 9)+i)) (fun _ _ _=>rfl) _ hp2;rw[ajd HN.o h0 c6] at hcall;have uQ:=af.mk (Kd.vI (Kd.zh (ok':=fun k_=>(w.alloc (.cells #[.slice A0 t.length c0] 31)).heap.size≤k_∧¬wr.heap.size≤k_) (Kd.F9 HO.o) (fun k hk=>⟨hk.1,by have:=hk.2.2.1;omega⟩)) vU);have HU:=af.mk (Kd.J0 HO.o);have HC:=af.mk hcall;have hz:me t (i+1).toNat=me t i.toNat++[qu t i]:=by rw[show(i+1).toNat=i.toNat+1 by omega,Oq,Int.toNat_of_nonneg h0]
   have HZ:=af.mk hz;have hl:(me t i.toNat).length=i.toNat+1:=WK _ _;have HL:=af.mk hl;obtain⟨y,hy⟩:∃y,qu t i=y:=⟨_,rfl⟩;rw[hy] at HC HZ;obtain⟨xs,hxs⟩:∃xs,me t i.toNat=xs:=⟨_,rfl⟩;rw[hxs] at HZ uQ HL;clear hp2 hcall vW vU hz hl HO hy hxs;go_wp2_with fail
   refine HC.o.mono ?_;rintro e w2 ⟨v,rfl,ho,hb⟩;obtain⟨Ao,co,eo⟩:=Kd.bJ ho;subst eo;have mE:=af.mk (Kd.cv (Kd.dq (ok':=fun k_=>wr.heap.size≤k_) (Kd.ix ho) (fun k hk=>Nat.le_trans bn hk.2.1)) vV.o.size);have Ie:=af.mk (Kd.vI uQ.o hb);have bF:=af.mk (aU vV.o hb);clear ho hb HC uQ vV;go_wp2_with (at_builtin;refine Kd.J1 LK (w0:=(w.alloc (.cells #[.slice A0 t.length c0] 31))) (w.alloc (.cells #[.slice A0 t.length c0] 31)).heap.size rfl (.tmp 10) (.tmp 13) 80 31 (.slice none 0 0) 24 rfl Tryz.underlying80 kL rfl ao ae u3 xs y [.slice Ao y.length co] (fun k_=>((w.alloc (.cells #[.slice A0 t.length c0] 31)).heap.size≤k_)) (fun k_=>wr.heap.size≤k_) rfl rfl ?aP ?aK ?aF ?aO ?aB ?aS ?aL ?_;(case aP=>exact⟨_,rfl,mE.o⟩);(case aK=>exact(fun k_ hk=>⟨Nat.le_trans HB.o.size hk,fun e=>Nat.lt_irrefl _ (Nat.lt_of_lt_of_le (HU.o k_ e.symm) hk)⟩));(case aB=>exact bF.o);(case aF=>exact(fun k_ hk=>(Nat.le_trans bF.o.size hk)));(case aO=>exact Ie.o);(case aS=>exact bF.o.size);(case aL=>have:=HL.o;omega);intro arN ju ho hb hg hat;have sD:=af.mk ho;have cI:=af.mk hb;clear ho hb hg hat)
   go_roundg (9 - (i.toNat+1))
   case measure=>have:=HK.o;omega
   case rel=>exact⟨i+1,rfl,⟨ae⟩,⟨ae⟩,⟨by rw[HZ.o];exact sD.o⟩,cI⟩
  ·have hi:i=9:=by have:=HI.o;omega
   subst hi;obtain⟨Ar,cr,er⟩:=Kd.zk HO.o;have er:u3=.slice Ar 10 cr:=er;subst er;have HC:=af.mk (fun w1 hB hN=>V1 (me t 9) (WK t 9) (ajf t 9) (ajg HS.o 9 ae) Ar cr (w.alloc (.cells #[.slice A0 t.length c0] 31)) w1 (fun k_=>(w.alloc (.cells #[.slice A0 t.length c0] 31)).heap.size≤k_) hB hN);go_wp2_with (go_at_call 144;refine(HC.o _ HB.o HO.o).mono ?_;rintro e w' ⟨rfl,r,⟨hl,hm,ha⟩,hN,hb⟩)
   go_ret;refine⟨_,rfl,?_,HA.o.trans (hb.mono bn)⟩;rw[←aji HS.o hm ha];exact Kd.zh (Kd.R8 hN bn) (fun _ _=>trivial)
end X
namespace P
def xy.f(l0:List Int):Option (List (List Int)):=if X.aW l0=true then some (X.il l0 9) else none
theorem xy.calls(A0:Option Addr)(c0:Nat)(l0:List Int)(r:List (List Int))(w:World)(hr0:Kd.C (Kd.int .i64) w A0 l0.length l0)(hc0:l0.length≤c0)(h:xy.f l0=some r):
  Calls Tryz.prog 87 #[.slice A0 l0.length c0] w fun e w'=> ∃bO:Value,e=.returned bO∧Kd.S (Kd.slice 3 (Kd.int .i64)) 31 w' w.heap.size (fun _=>True) bO r∧Below w.heap.size w w':=by
 unfold xy.f at h;by_cases hc:X.aW l0=true
 ·rw[ah hc] at h;obtain rfl:=au h;exact X.ajo A0 c0 l0 w hr0 hc
 ·rw[ag hc] at h;exact absurd h bn
end P
namespace X
def mg:List (List Int):=(ff.f 300).getD []
def iH(x:Int):List Int:=(dG.f 300 x).getD []
theorem akg:ff.f 300=some mg:=by decide+kernel
theorem akh:mg.length=4∧∀i:Fin 4,(aT mg (i.val:Int)).length=9:=by decide+kernel
theorem aki:∀i:Fin 9,dG.f 300 (i.val:Int)=some (iH (i.val:Int)):=by decide+kernel
theorem akj:∀i:Fin 9,i≠0→(iH (i.val:Int)).length=9:=by decide+kernel
theorem akk:Ev (fun k=>ff.f k) mg:=Ev.of (fun k=>ff.mono k) akg
theorem akl(x:Int)(h0:0≤x)(h1:x<9):Ev (fun k=>dG.f k x) (iH x):=
 Ev.of (fun k=>dG.mono x k) (nU (P:=fun x=>dG.f 300 x=some (iH x)) aki x h0 h1)
theorem O2(x:Int)(h0:0<x)(h1:x<9):(iH x).length=9:=by
 have:=akj ⟨x.toNat,ae⟩ (fun h=>by have:=Fin.ext_iff.1 h;have h2:x.toNat=0:=this;omega);have e:((⟨x.toNat,ae⟩:Fin 9).val:Int)=x:=by show((x.toNat:Nat):Int)=x;omega
 rwa [e] at this
end X
end Go.Proofs.YtiobedekgnfjcaaGreatDoor
