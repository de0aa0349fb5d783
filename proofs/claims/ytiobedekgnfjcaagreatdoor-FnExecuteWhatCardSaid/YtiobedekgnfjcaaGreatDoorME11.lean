/- What both Executes come to: contracts and plain laws, for the laws on Execute. No conditions. (Part 12 of 28.) -/
import Derived.Test.YtiobedekgnfjcaaGreatDoorME10
import Derived.Test.YtiobedekgnfjcaaGreatDoorME7
import Derived.Test.YtiobedekgnfjcaaGreatDoorME8
import Derived.Test.YtiobedekgnfjcaaGreatDoorME9
set_option linter.unusedVariables false
set_option linter.unusedSimpArgs false
set_option maxHeartbeats 8000000
set_option maxRecDepth 100000
namespace Go.Proofs.YtiobedekgnfjcaaGreatDoor
namespace P
end P
open Go.Proofs.YtiobedekgnfjcaaGreatDoorW.aq Go.Proofs.YtiobedekgnfjcaaGreatDoorW.ay Go.RowKit Go.Proofs.YtiobedekgnfjcaaGreatDoor.P
namespace P
open Go.Proofs.YtiobedekgnfjcaaGreatDoorW.pK
def ri.f(k:Nat)(a0:Int):Option (List Int×Bool):=if a0<0 then(some (([]:List Int),false)) else(if a0≥5 then(some (([]:List Int),false)) else((eT.f k a0).bind fun Kr=>(some (Kr,true))))
theorem ri.calls(k:Nat)(a0:Int)(r1:List Int)(r2:Bool)(w:World)(h:ri.f k a0=some (r1,r2)):
  Calls Tryz.prog 19 #[.int .i64 a0] w fun e w'=> ∃bO:Value,e=.returned (.tuple #[bO,.bool r2])∧Kd.R (Kd.int .i64) 3 w' w.heap.size (fun _=>True) bO r1∧Below w.heap.size w w':=by
 have HB:=af.mk (Below.refl w.heap.size w);have H:=h;clear h;unfold ri.f at H;by_cases c2:a0<0
 case neg=>
  rw[ag c2] at H;have eM:=aD c2;clear c2;by_cases c3:a0≥5
  case neg=>
   rw[ag c3] at H;have eU:=aD c3;clear c3;replace H:=aA.mp H;obtain⟨Kr,cX,H⟩:=H;have A4:=af.mk cX;clear cX;simp only[Option.some.injEq,Prod.mk.injEq] at H;obtain⟨rfl,rfl⟩:=H;go_enter Tryz.func19,Tryz.ntmps19;go_wp2_with ((refine aY 11 Tryz.func27 #[.int .i64 a0] ?_;(with_reducible refine(eT.calls k a0 Kr _ A4.o).mono ?_);rintro e w5 ⟨aqi,rfl,ho0,hb⟩;refine⟨_,rfl,?_⟩;have acQ:=af.mk (Kd.cv ho0 (aZ (ai HB)));replace HB:=aM HB hb))
   go_ret2
   exact⟨_,bE,aX acQ,ai HB⟩
  rw[ah c3] at H;have eU:=ap c3;clear c3;simp only[Option.some.injEq,Prod.mk.injEq] at H;obtain⟨rfl,rfl⟩:=H;go_enter Tryz.func19,Tryz.ntmps19;go_wp2;go_ret2
  exact⟨_,bE,by first|exact Kd.kJ _ _ _ _ _|exact Kd.qU _ _ _ _ _|exact Kd.qY _ _ _ _ _|exact Kd.qO _ _ _ _ _|exact Kd.oP _ _ _ _ _,ai HB⟩
 rw[ah c2] at H;have eM:=ap c2;clear c2;simp only[Option.some.injEq,Prod.mk.injEq] at H;obtain⟨rfl,rfl⟩:=H;go_enter Tryz.func19,Tryz.ntmps19;go_wp2;go_ret2
 exact⟨_,bE,by first|exact Kd.kJ _ _ _ _ _|exact Kd.qU _ _ _ _ _|exact Kd.qY _ _ _ _ _|exact Kd.qO _ _ _ _ _|exact Kd.oP _ _ _ _ _,ai HB⟩
end P
namespace X
theorem Lh(a b c:Int):fJ.f a b c=some (decide (b≤a)&&decide (a≤c)):=by
 unfold fJ.f;by_cases h:a≥b
 ·rw[ah h,ap h];simp
 ·rw[ag h,aD h];simp
theorem CN(a:Int):jw.f a=some (cT a):=by
 unfold jw.f cT;rw[Lh]
 show some _=_
 rw[show decide (a≤8)=decide (a<9) from decide_eq_decide.2 ae]
theorem aen(l:List Int)(hl:l.length≤1048576)(d:Nat):∀(i:Int),0≤i→i+d=l.length→(∀j:Nat,(j:Int)<i→cT (rd l j)=true)→Ev (fun k=>lA.l0 k l i) (b9 l 81):=by
 induction d with
 |zero=>
  intro i h0 h1 h;refine Ev.step (fun k=>by rw[lA.l0]) ?_;refine Ev.neg ae (Ev.done ?_)
  have ha:l.all cT=true:=by
   rw[List.all_eq_true];intro x hx;obtain⟨j,hj,rfl⟩:=List.mem_iff_getElem.1 hx;rw[←jY l j hj];exact h j ae
  unfold b9;rw[ha,Bool.and_true]
  congr 1
  rw[Bool.eq_iff_iff];simp;omega
 |succ d ih=>
  intro i h0 h1 h;refine Ev.step (fun k=>by rw[lA.l0]) ?_;simp(disch:=omega) only[bI,CN,Option.bind_some];refine Ev.pos ae (Ev.pos ae ?_);by_cases e:cT (rd l i)=true
  ·refine Ev.pos e (ih (i+1) ae ae fun j hj=>?_);by_cases ej:(j:Int)=i
   ·rw[ej];exact e
   ·exact h j ae
  ·refine Ev.neg e (Ev.done ?_)
   have:l.all cT=false:=by
    rw[List.all_eq_false];exact⟨rd l i,iK ae h0,e⟩
   unfold b9;rw[this,Bool.and_false]
theorem aeo(l:List Int)(hl:l.length≤1048576):Ev (fun k=>lA.f k l) (b9 l 81):=
 aen l hl l.length 0 ae ae (fun j h=>ae)
theorem aep(t:List Int)(hl:t.length=81)(d:Nat):∀(i:Int),0≤i→i+d=9→(∀x:Int,0≤x→x<i→tW t x=true)→Ev (fun k=>kA.l0 k t i) (qS t):=by
 induction d with
 |zero=>
  intro i h0 h1 h;refine Ev.step (fun k=>by rw[kA.l0]) ?_;refine Ev.neg ae (Ev.done ?_);rw[Ky.2 fun x x0 x1=>h x x0 ae]
 |succ d ih=>
  intro i h0 h1 h;have hu:tW t i=(decide (rd t i=0)&&decide (rd t (9*i)=0)&&decide (rd t (9+i)=i)&&decide (rd t (9*i+1)=i)):=rfl;refine Ev.step (fun k=>by rw[kA.l0]) ?_;have z1:wrap64 (9*i)=9*i:=bI ae ae;have z2:wrap64 (9+i)=9+i:=bI ae ae;have z3:wrap64 (9*i+1)=9*i+1:=bI ae ae;have z4:wrap64 (i+1)=i+1:=bI ae ae;simp only[z1,z2,z3,z4];refine Ev.pos ae (Ev.pos ae (Ev.pos ae ?_));by_cases e1:rd t i=0
  case neg=>exact Ev.neg e1 (Ev.done (by rw[Cr h0 ae (by rw[hu,aD e1];rfl)]))
  refine Ev.pos e1 (Ev.pos ae (Ev.pos ae ?_));by_cases e2:rd t (9*i)=0
  case neg=>exact Ev.neg e2 (Ev.done (by rw[Cr h0 ae (by rw[hu,aD e2,Bool.and_false];rfl)]))
  refine Ev.pos e2 (Ev.pos ae (Ev.pos ae ?_));by_cases e3:rd t (9+i)=i
  case neg=>exact Ev.neg e3 (Ev.done (by rw[Cr h0 ae (by rw[hu,aD e3,Bool.and_false];rfl)]))
  refine Ev.pos e3 (Ev.pos ae (Ev.pos ae ?_));by_cases e4:rd t (9*i+1)=i
  case neg=>exact Ev.neg e4 (Ev.done (by rw[Cr h0 ae (by rw[hu,aD e4,Bool.and_false])]))
  refine Ev.pos e4 (ih (i+1) ae ae fun x x0 x1=>?_);by_cases e:x=i
  ·rw[e,hu,ap e1,ap e2,ap e3,ap e4];rfl
  ·exact h x x0 ae
theorem aeq(t:List Int)(hl:t.length=81):Ev (fun k=>kA.f k t) (qS t):=
 aep t hl 9 0 ae ae (fun x h0 h1=>ae)
theorem aer(t:List Int)(hn:b9 t 81=true)(c:Int)(hc:bP c)(hr:(∀d:Int,0≤d→d<c→kO t c d=true)→Ev (fun k=>cu.l0 k t (c+1)) (pG t))(n:Nat):
  ∀(d:Int),0≤d→d+n=c→(∀x:Int,0≤x→x<d→kO t c x=true)→Ev (fun k=>cu.l1 k t c d) (pG t):=by
 obtain⟨c0,c1⟩:=hc
 induction n with
 |zero=>
  intro d h0 h1 h;refine Ev.step (fun k=>by rw[cu.l1]) ?_;simp(disch:=omega) only[bI];exact Ev.neg ae (hr fun x x0 x1=>h x x0 ae)
 |succ n ih=>
  intro d h0 h1 h;refine Ev.step (fun k=>by rw[cu.l1]) ?_;have hs:t6.f t c d=some (kO t c d):=by unfold t6.f;exact ah ⟨hn,⟨c0,c1⟩,⟨h0,ae⟩⟩
  simp(disch:=omega) only[bI,hs,Option.bind_some];refine Ev.pos ae ?_;by_cases e:kO t c d=true
  ·refine Ev.pos e (ih (d+1) ae ae fun x x0 x1=>?_);by_cases ex:x=d
   ·rw[ex];exact e
   ·exact h x x0 ae
  ·refine Ev.neg e (Ev.done ?_);rw[SZ h0 ae c1 (Bool.eq_false_iff.2 e)]
theorem aes(t:List Int)(hn:b9 t 81=true)(n:Nat):∀(c:Int),0≤c→c+n=9→(∀x y:Int,0≤y→y<x→x<c→kO t x y=true)→Ev (fun k=>cu.l0 k t c) (pG t):=by
 induction n with
 |zero=>
  intro c h0 h1 h;refine Ev.step (fun k=>by rw[cu.l0]) ?_;refine Ev.neg ae (Ev.done ?_);rw[S0 fun x y y0 yx x9=>h x y y0 yx ae]
 |succ n ih=>
  intro c h0 h1 h;refine Ev.step (fun k=>by rw[cu.l0]) ?_;refine Ev.pos ae ?_;refine aer t hn c ⟨h0,ae⟩ (fun hg=>ih (c+1) ae ae fun x y y0 yx x1=>?_) c.toNat 0 ae ae (fun x x0 x1=>ae);by_cases e:x=c
  ·subst e;exact hg y y0 yx
  ·exact h x y y0 yx ae
theorem oX(t:List Int)(hl:t.length≤1048576):Ev (fun k=>cu.f k t) (aW t):=by
 unfold cu.f;refine Ev.bind (aeo t hl) ?_;by_cases hn:b9 t 81=true
 case neg=>
  refine Ev.neg hn (Ev.step (fun k=>by rw[cu.j0]) (Ev.pos rfl (Ev.done ?_)));unfold aW;rw[Bool.eq_false_iff.2 hn];rfl
 refine Ev.pos hn (Ev.bind (aeq t (hG.1 hn).1) ?_);by_cases hu:qS t=true
 case neg=>
  refine Ev.neg hu (Ev.step (fun k=>by rw[cu.j0]) (Ev.pos rfl (Ev.done ?_)));rw[Kz hn,Bool.eq_false_iff.2 hu];rfl
 have hs:vZ.f t=some (nV t):=by unfold vZ.f;exact ah hn
 refine Ev.pos hu (Ev.fix hs ?_);rw[Kz hn,hu];by_cases h:nV t=true
 ·rw[h];refine Ev.step (fun k=>by rw[cu.j0]) ?_;refine Ev.neg bn ?_;exact aes t hn 9 0 ae ae (fun x y h0 h1 h2=>ae)
 ·rw[Bool.eq_false_iff.2 h];refine Ev.step (fun k=>by rw[cu.j0]) ?_;exact Ev.pos rfl (Ev.done rfl)
theorem sI(p:Int):eH.f p=some (dE p):=by
 unfold eH.f dE;rw[Lh]
 show some _=_
 rw[show decide (p≤90)=decide (p<91) from decide_eq_decide.2 ae]
theorem sJ{t:List Int}(hn:b9 t 81=true){p l:Int}(hp:bu p)(hl:bu l):gA.f t p l=some (a8 t p l):=by
 obtain⟨p0,p1⟩:=hp;obtain⟨l0,l1⟩:=hl;have hlen:=(hG.1 hn).1;unfold gA.f a8;by_cases sy:l=90
 ·rw[ah sy,ah sy]
 rw[ag sy,ag sy];by_cases sA:l≥81
 ·rw[ah sA,ah sA];by_cases sB:p=90
  ·rw[ah sB,ap sB];rfl
  ·rw[ag sB,aD sB,Bool.false_or];by_cases n8:p<81
   ·rw[ah n8,ap n8,Bool.true_and];simp(disch:=omega) only[bI,pO];rfl
   ·rw[ag n8,aD n8,Bool.false_and]
 ·rw[ag sA,ag sA];by_cases hpf:p≥81
  ·rw[ah hpf,ah hpf];simp(disch:=omega) only[bI,pO];refine congrArg some ?_;rw[show decide (p=81+l / 9)=decide (p - 81=l / 9) from decide_eq_decide.2 ae];rfl
  ·rw[ag hpf,ag hpf];have hr:=gG hn (i:=9*(p / 9)+l / 9) ae ae;have ha:=Cx (rd t (9*(p / 9)+l / 9)) (l%9) hr ⟨ae,ae⟩;simp(disch:=omega) only[bI,pO,vX];rw[show p / 9*9=9*(p / 9) by omega,ah ae,ah ae,ha];rfl
theorem aeA{t:List Int}(hn:b9 t 81=true){l:Int}(hl:bu l)(d:Nat):∀(i:Nat),i+d=91→Ev (fun k=>l8.l0 k t l (cH i fun p=>a8 t p l) (i:Int)) (zD t l):=by
 induction d with
 |zero=>
  intro i h1;have e:i=91:=ae;subst e;refine Ev.step (fun k=>by rw[l8.l0]) ?_;exact Ev.neg ae (Ev.done rfl)
 |succ d ih=>
  intro i h1;have hlen:=kt i fun p=>a8 t p l;have e1:=sJ hn (p:=(i:Int)) ⟨ae,ae⟩ hl;have nx:=ih (i+1) ae;rw[lW] at nx;have z:wrap64 ((i:Int)+1)=((i+1:Nat):Int):=by rw[bI ae ae];rfl
  refine Ev.step (fun k=>by rw[l8.l0]) ?_;rw[z];refine Ev.pos ae (Ev.fix e1 ?_);by_cases a:a8 t (i:Int) l=true
  ·rw[ah a] at nx;exact Ev.pos a (Ev.pos ae nx)
  ·rw[ag a,List.append_nil] at nx;exact Ev.neg a nx
theorem aeB{t:List Int}(hn:b9 t 81=true){l:Int}(hl:bu l):Ev (fun k=>l8.f k t l) (zD t l):=
 aeA hn hl 91 0 ae
theorem aeC{t:List Int}(hn:b9 t 81=true){p q:Int}(hp:bu p)(hq:bu q)(hj:∃l:Int,0≤l∧l<91∧a8 t p l=true∧a8 t q l=true)(d:Nat):∀(i:Int),0≤i→i+d=91→(∀l:Int,0≤l→l<i→(a8 t p l&&a8 t q l)=false)→Ev (fun k=>iX.l0 k t p q i) (bh t p q):=by
 induction d with
 |zero=>
  intro i h0 h1 h;obtain⟨l,l0,l1,a,b⟩:=hj;have:=h l l0 ae;rw[a,b] at this;exact absurd this ao
 |succ d ih=>
  intro i h0 h1 h;have e1:=sJ hn hp (l:=i) ⟨h0,ae⟩;have e2:=sJ hn hq (l:=i) ⟨h0,ae⟩;refine Ev.step (fun k=>by rw[iX.l0]) ?_;simp(disch:=omega) only[bI,e1,e2,Option.bind_some];refine Ev.pos ae ?_
  have next:(a8 t p i&&a8 t q i)=false→Ev (fun k=>iX.l0 k t p q (i+1)) (bh t p q):=fun hb=>ih (i+1) ae ae fun l l0 l1=>by
   by_cases e:l=i
   ·rw[e];exact hb
   ·exact h l l0 ae
  by_cases a:a8 t p i=true
  ·refine Ev.pos a ?_;by_cases b:a8 t q i=true
   ·refine Ev.pos b (Ev.done ?_);unfold bh;rw[vR i h0 ae (by rw[a,b];rfl) h]
   ·exact Ev.neg b (next (by rw[Bool.eq_false_iff.2 b,Bool.and_false]))
  ·exact Ev.neg a (next (by rw[Bool.eq_false_iff.2 a,Bool.false_and]))
theorem zP{t:List Int}(h:aW t=true){p q:Int}(hp:bu p)(hq:bu q)(hne:p≠q):Ev (fun k=>iX.f k t p q) (bh t p q):=
 aeC (fq h).1 hp hq (SU h hp.1 hp.2 hq.1 hq.2 hne) 91 0 ae ae (fun l h0 h1=>ae)
theorem aeD{t:List Int}(hn:b9 t 81=true){l m:Int}(hl:bu l)(hm:bu m)(hj:∃p:Int,0≤p∧p<91∧a8 t p l=true∧a8 t p m=true)(d:Nat):∀(i:Int),0≤i→i+d=91→(∀p:Int,0≤p→p<i→(a8 t p l&&a8 t p m)=false)→Ev (fun k=>jI.l0 k t l m i) (dx t l m):=by
 induction d with
 |zero=>
  intro i h0 h1 h;obtain⟨p,p0,p1,a,b⟩:=hj;have:=h p p0 ae;rw[a,b] at this;exact absurd this ao
 |succ d ih=>
  intro i h0 h1 h;have e1:=sJ hn (p:=i) ⟨h0,ae⟩ hl;have e2:=sJ hn (p:=i) ⟨h0,ae⟩ hm;refine Ev.step (fun k=>by rw[jI.l0]) ?_;simp(disch:=omega) only[bI,e1,e2,Option.bind_some];refine Ev.pos ae ?_
  have next:(a8 t i l&&a8 t i m)=false→Ev (fun k=>jI.l0 k t l m (i+1)) (dx t l m):=fun hb=>ih (i+1) ae ae fun p p0 p1=>by
   by_cases e:p=i
   ·rw[e];exact hb
   ·exact h p p0 ae
  by_cases a:a8 t i l=true
  ·refine Ev.pos a ?_;by_cases b:a8 t i m=true
   ·refine Ev.pos b (Ev.done ?_);unfold dx;rw[vR i h0 ae (by rw[a,b];rfl) h]
   ·exact Ev.neg b (next (by rw[Bool.eq_false_iff.2 b,Bool.and_false]))
  ·exact Ev.neg a (next (by rw[Bool.eq_false_iff.2 a,Bool.false_and]))
theorem GG{t:List Int}(h:aW t=true){l m:Int}(hl:bu l)(hm:bu m)(hne:l≠m):Ev (fun k=>jI.f k t l m) (dx t l m):=
 aeD (fq h).1 hl hm (SW h hl.1 hl.2 hm.1 hm.2 hne) 91 0 ae ae (fun p h0 h1=>ae)
theorem aeS{l:List Int}(hl:l.length≤1048576){i:Int}(i0:0≤i)(i1:i<l.length){r:Bool}(hr:(∀j:Int,0≤j→j<i→rd l j≠rd l i)→Ev (fun n=>iF.l0 n l (i+1)) r)(hf:∀j:Int,0≤j→j<i→rd l j=rd l i→r=false)(d:Nat):
  ∀j:Int,0≤j→j+d=i→(∀y:Int,0≤y→y<j→rd l y≠rd l i)→Ev (fun n=>iF.l1 n l i j) r:=by
 induction d with
 |zero=>
  intro j j0 j1 h;refine Ev.step (fun n=>by rw[iF.l1]) ?_;rw[bI (x:=i+1) ae ae];exact Ev.neg ae (hr fun y y0 y1=>h y y0 ae)
 |succ d ih=>
  intro j j0 j1 h;refine Ev.step (fun n=>by rw[iF.l1]) ?_;rw[bI (x:=j+1) ae ae];refine Ev.pos ae (Ev.pos ae (Ev.pos ae (Ev.pos ae (Ev.pos ae ?_))));by_cases e:rd l j=rd l i
  ·exact Ev.pos e (Ev.done (by rw[hf j j0 ae e]))
  ·refine Ev.neg e (ih (j+1) ae ae fun y y0 y1=>?_);by_cases ey:y=j
   ·rw[ey];exact e
   ·exact h y y0 ae
theorem aeT{l:List Int}(hl:l.length≤1048576)(d:Nat):∀i:Int,0≤i→i+d=l.length→(∀x:Int,0≤x→x<i→pM l x=true)→Ev (fun n=>iF.l0 n l i) (gw l):=by
 induction d with
 |zero=>
  intro i i0 i1 h;refine Ev.step (fun n=>by rw[iF.l0]) ?_;exact Ev.neg ae (Ev.done (by rw[Kx fun x x0 x1=>h x x0 ae]))
 |succ d ih=>
  intro i i0 i1 h;refine Ev.step (fun n=>by rw[iF.l0]) ?_;refine Ev.pos ae (Ev.pos i0 (Ev.fix (sI (rd l i)) ?_));by_cases e:dE (rd l i)=true
  case neg=>exact Ev.neg e (Ev.done (by rw[zE i0 ae (by unfold pM;rw[Bool.eq_false_iff.2 e];rfl)]))
  refine Ev.pos e (aeS hl i0 ae (fun hp=>ih (i+1) ae ae fun x x0 x1=>?_) (fun j j0 ji he=>?_) i.toNat 0 ae ae (fun y y0 y1=>ae))
  ·by_cases ex:x=i
   ·rw[ex];exact(Cq i0 ae).2 ⟨eB.1 e,hp⟩
   ·exact h x x0 ae
  ·exact zE i0 ae (Bool.eq_false_iff.2 fun hn=>((Cq i0 ae).1 hn).2 j j0 ji he)
theorem TE{l:List Int}(hl:l.length≤1048576):Ev (fun n=>iF.f n l) (gw l):=aeT hl l.length 0 ae ae (fun x x0 x1=>ae)
def bL(n:Nat)(s:Nat→Bool):List Bool:=(List.range n).map s
theorem Df(n:Nat)(s:Nat→Bool):(bL n s).length=n:=by simp[bL]
theorem Ut(n:Nat):List.replicate n false=bL n (fun _=>false):=by
 unfold bL;rw[List.map_const'];simp
theorem L4{n:Nat}{s:Nat→Bool}(v:Int)(h0:0≤v)(h1:v<n):dM false (bL n s) v=s v.toNat:=by
 unfold dM bL;rw[List.getD_eq_getElem?_getD,List.getElem?_map,List.getElem?_range ae];rfl
theorem L5{n:Nat}{s:Nat→Bool}(v:Int)(b:Bool):(bL n s).set v.toNat b=bL n (fun x=>if x=v.toNat then b else s x):=by
 apply List.ext_getElem?;intro i;rw[List.getElem?_set];by_cases hi:i<n
 ·by_cases hj:v.toNat=i
  ·subst hj;simp[bL,hi]
  ·simp[bL,hi,hj,Ne.symm hj]
 ·by_cases hj:v.toNat=i
  ·subst hj;simp[bL,hi]
  ·simp[bL,hi,hj]
theorem rx{n:Nat}{s s':Nat→Bool}(h:∀j,j<n→s j=s' j):bL n s=bL n s':=by
 unfold bL;exact List.map_congr_left fun j hj=>h j (List.mem_range.1 hj)
def mS(p:Int):Bool:=decide (0≤p)&&decide (p<81)
theorem DB{p:Int}:mS p=true↔0≤p∧p<81:=by simp[mS]
def s6(p q:Int):Int:=9*bg (p / 9) (q / 9)+bg (p%9) (q%9)
def kd(l:List Int)(i:Int):Bool:=mS (rd l i)&&(!decide (0<i)||decide (rd l (i - 1)<rd l i))
def mT(l:List Int)(i k:Int):Bool:=decide (s6 (rd l i) (rd l k)∈l)
def eW(l:List Int):Bool:=decide (l.length=9)&&(allI 9 (kd l)&&allI 9 fun i=>allI 9 fun k=>mT l i k)
theorem Hf{l:List Int}{i:Int}(h0:0≤i)(h1:i<9)(h:kd l i=false):eW l=false:=by
 have:allI 9 (kd l)=false:=by
  cases e:allI 9 (kd l) with
  |false=>rfl
  |true=>have:=gF e i h0 h1;rw[h] at this;exact absurd this ao
 unfold eW;rw[this,Bool.false_and,Bool.and_false]
theorem Vf{l:List Int}{i k:Int}(h0:0≤i)(h1:i<9)(k0:0≤k)(k1:k<9)(h:mT l i k=false):eW l=false:=by
 have:(allI 9 fun i=>allI 9 fun k=>mT l i k)=false:=by
  cases e:(allI 9 fun i=>allI 9 fun k=>mT l i k) with
  |false=>rfl
  |true=>have:=gF (gF e i h0 h1) k k0 k1;rw[h] at this;exact absurd this ao
 unfold eW;rw[this,Bool.and_false,Bool.and_false]
theorem Vg{l:List Int}(hl:l.length=9)(h1:∀i:Int,0≤i→i<9→kd l i=true)(h2:∀i k:Int,0≤i→i<9→0≤k→k<9→mT l i k=true):eW l=true:=by
 unfold eW;rw[ap hl,jr.2 h1,jr.2 fun i i0 i1=>jr.2 fun k k0 k1=>h2 i k i0 i1 k0 k1];rfl
theorem ahn(l:List Int)(hl:l.length≤1048576)(x:Int)(d:Nat):∀(i:Int),0≤i→i+d=l.length→(∀j:Nat,(j:Int)<i→rd l (j:Int)≠x)→Ev (fun k=>kU.l0 k l x i) (decide (x∈l)):=by
 induction d with
 |zero=>
  intro i h0 h1 h;refine Ev.step (fun k=>by rw[kU.l0]) ?_;refine Ev.neg ae (Ev.done ?_);rw[S4 fun j hj=>h j ae]
 |succ d ih=>
  intro i h0 h1 h;refine Ev.step (fun k=>by rw[kU.l0]) ?_;simp(disch:=omega) only[bI];refine Ev.pos ae (Ev.pos ae ?_);by_cases e:rd l i=x
  ·refine Ev.pos e (Ev.done ?_);rw[ap (e▸iK ae h0)]
  ·refine Ev.neg e (ih (i+1) ae ae fun j hj=>?_);by_cases ej:(j:Int)=i
   ·rw[ej];exact e
   ·exact h j ae
theorem aho(l:List Int)(hl:l.length≤1048576)(x:Int):Ev (fun k=>kU.f k l x) (decide (x∈l)):=
 ahn l hl x l.length 0 ae ae (fun j h=>ae)
theorem ahp{p q:Int}(hp:mS p=true)(hq:mS q=true):rE.f p q=some (s6 p q):=by
 obtain⟨p0,p1⟩:=DB.1 hp;obtain⟨q0,q1⟩:=DB.1 hq;have h1:=Cx (p / 9) (q / 9) ⟨ae,ae⟩ ⟨ae,ae⟩;have h2:=Cx (p%9) (q%9) ⟨ae,ae⟩ ⟨ae,ae⟩;obtain⟨r0,r1⟩:=iA (p / 9) (q / 9);obtain⟨s0,s1⟩:=iA (p%9) (q%9);unfold rE.f s6;simp(disch:=omega) only[bI,pO,vX,h1,h2,Option.bind_some]
theorem ahq{p q:Int}(hp:mS p=true)(hq:mS q=true):uz.f p q=some (s6 p q):=by
 obtain⟨p0,p1⟩:=DB.1 hp;obtain⟨q0,q1⟩:=DB.1 hq;have h1:=Ge (p / 9) (q / 9) ⟨ae,ae⟩ ⟨ae,ae⟩;have h2:=Ge (p%9) (q%9) ⟨ae,ae⟩ ⟨ae,ae⟩;obtain⟨r0,r1⟩:=iA (p / 9) (q / 9);obtain⟨s0,s1⟩:=iA (p%9) (q%9);unfold uz.f s6;simp(disch:=omega) only[bI,pO,vX,h1,h2,Option.bind_some]
theorem ahr(p:Int):rG.f p=some (mS p):=by
 unfold rG.f mS;by_cases h:p≥0
 ·rw[ah h,ap h];simp
 ·rw[ag h,aD h];simp
theorem ahs(p:Int):fJ.f p 0 80=some (mS p):=by
 unfold fJ.f mS;by_cases h:p≥0
 ·rw[ah h,ap h,Bool.true_and,show decide (p≤80)=decide (p<81) from decide_eq_decide.2 ae]
 ·rw[ag h,aD h];simp
theorem aht(l:List Int)(hl:l.length=9)(hs:∀i:Int,0≤i→i<9→kd l i=true)(i:Int)(i0:0≤i)(i1:i<9)(hr:(∀k:Int,0≤k→k<9→mT l i k=true)→Ev (fun n=>ew.l1 n l (i+1)) (eW l))(d:Nat):
  ∀(j:Int),0≤j→j+d=9→(∀k:Int,0≤k→k<j→mT l i k=true)→Ev (fun n=>ew.l2 n l i j) (eW l):=by
 induction d with
 |zero=>
  intro j h0 h1 h;refine Ev.step (fun k=>by rw[ew.l2]) ?_;simp(disch:=omega) only[bI];exact Ev.neg ae (hr fun k k0 k1=>h k k0 ae)
 |succ d ih=>
  intro j h0 h1 h;have n1:=hs i i0 i1;have n2:=hs j h0 ae;unfold kd at n1 n2;have ha:=ahp (Bool.and_eq_true _ _▸n1).1 (Bool.and_eq_true _ _▸n2).1;refine Ev.step (fun k=>by rw[ew.l2]) ?_;simp(disch:=omega) only[bI,ha,Option.bind_some];refine Ev.pos ae (Ev.pos ae (Ev.pos ae (Ev.pos ae (Ev.pos ae (Ev.bind (aho l ae _) ?_)))));by_cases e:mT l i j=true
  ·refine Ev.pos e (ih (j+1) ae ae fun k k0 k1=>?_);by_cases ek:k=j
   ·rw[ek];exact e
   ·exact h k k0 ae
  ·refine Ev.neg e (Ev.done ?_);rw[Vf i0 i1 h0 ae (Bool.eq_false_iff.2 e)]
theorem ahu(l:List Int)(hl:l.length=9)(hs:∀i:Int,0≤i→i<9→kd l i=true)(d:Nat):∀(i:Int),0≤i→i+d=9→(∀x k:Int,0≤x→x<i→0≤k→k<9→mT l x k=true)→Ev (fun n=>ew.l1 n l i) (eW l):=by
 induction d with
 |zero=>
  intro i h0 h1 h;refine Ev.step (fun k=>by rw[ew.l1]) ?_;refine Ev.neg ae (Ev.done ?_);rw[Vg hl hs fun x k x0 x1 k0 k1=>h x k x0 ae k0 k1]
 |succ d ih=>
  intro i h0 h1 h;refine Ev.step (fun k=>by rw[ew.l1]) ?_;refine Ev.pos ae ?_;refine aht l hl hs i h0 ae (fun hk=>ih (i+1) ae ae fun x k x0 x1 k0 k1=>?_) 9 0 ae ae (fun k h0 h1=>ae);by_cases e:x=i
  ·rw[e];exact hk k k0 k1
  ·exact h x k x0 ae k0 k1
theorem ahv(l:List Int)(hl:l.length=9)(d:Nat):∀(i:Int),0≤i→i+d=9→(∀x:Int,0≤x→x<i→kd l x=true)→Ev (fun n=>ew.l0 n l i) (eW l):=by
 induction d with
 |zero=>
  intro i h0 h1 h;refine Ev.step (fun k=>by rw[ew.l0]) ?_;refine Ev.neg ae ?_;exact ahu l hl (fun x x0 x1=>h x x0 ae) 9 0 ae ae (fun x k h0 h1=>ae)
 |succ d ih=>
  intro i h0 h1 h;have hst:kd l i=(mS (rd l i)&&(!decide (0<i)||decide (rd l (i - 1)<rd l i))):=rfl;refine Ev.step (fun k=>by rw[ew.l0]) ?_;simp(disch:=omega) only[bI,ahs,Option.bind_some];refine Ev.pos ae (Ev.pos ae (Ev.pos ae ?_));by_cases e1:mS (rd l i)=true
  case neg=>exact Ev.neg e1 (Ev.done (by rw[Hf h0 ae (by rw[hst,Bool.eq_false_iff.2 e1];rfl)]))
  refine Ev.pos e1 ?_
  have next:kd l i=true→Ev (fun n=>ew.l0 n l (i+1)) (eW l):=fun hs=>ih (i+1) ae ae fun x x0 x1=>by
   by_cases e:x=i
   ·rw[e];exact hs
   ·exact h x x0 ae
  by_cases hi:i>0
  ·refine Ev.pos hi (Ev.pos ae (Ev.pos ae ?_));by_cases e2:rd l i≤rd l (i - 1)
   ·refine Ev.pos e2 (Ev.done ?_);rw[Hf h0 ae (by rw[hst,ap hi,aD ae];simp)]
   ·refine Ev.neg e2 (next ?_);rw[hst,e1,ap (show rd l (i - 1)<rd l i by omega)];simp
  ·refine Ev.neg hi (next ?_);rw[hst,e1,aD (show ¬0<i by omega)];rfl
theorem ahw(l:List Int):Ev (fun k=>ew.f k l) (eW l):=by
 unfold ew.f;by_cases hl:l.length=9
 ·exact Ev.pos ae (ahv l hl 9 0 ae ae (fun x h0 h1=>ae))
 ·refine Ev.neg ae (Ev.done ?_);unfold eW;rw[aD hl];rfl
theorem ahx(l:List Int)(hl:l.length=9)(hs:∀i:Int,0≤i→i<9→kd l i=true)(i:Int)(i0:0≤i)(i1:i<9)(hr:(∀k:Int,0≤k→k<9→mT l i k=true)→Ev (fun n=>fe.l1 n l l (l.length:Int) (i+1)) (eW l))(d:Nat):
  ∀(j:Int),0≤j→j+d=9→(∀k:Int,0≤k→k<j→mT l i k=true)→Ev (fun n=>fe.l2 n l (rd l i) l (l.length:Int) i l (l.length:Int) j) (eW l):=by
 induction d with
 |zero=>
  intro j h0 h1 h;refine Ev.step (fun k=>by rw[fe.l2]) ?_;simp(disch:=omega) only[bI];exact Ev.neg ae (hr fun k k0 k1=>h k k0 ae)
 |succ d ih=>
  intro j h0 h1 h;have n1:=hs i i0 i1;have n2:=hs j h0 ae;unfold kd at n1 n2;have ha:=ahq (Bool.and_eq_true _ _▸n1).1 (Bool.and_eq_true _ _▸n2).1;refine Ev.step (fun k=>by rw[fe.l2]) ?_;simp(disch:=omega) only[bI,ha,Option.bind_some];refine Ev.pos ae (Ev.pos ae (Ev.pos ae (Ev.bind (Gs l ae _) ?_)));by_cases e:mT l i j=true
  ·refine Ev.pos e (ih (j+1) ae ae fun k k0 k1=>?_);by_cases ek:k=j
   ·rw[ek];exact e
   ·exact h k k0 ae
  ·refine Ev.neg e (Ev.done ?_);rw[Vf i0 i1 h0 ae (Bool.eq_false_iff.2 e)]
theorem ahy(l:List Int)(hl:l.length=9)(hs:∀i:Int,0≤i→i<9→kd l i=true)(d:Nat):∀(i:Int),0≤i→i+d=9→(∀x k:Int,0≤x→x<i→0≤k→k<9→mT l x k=true)→Ev (fun n=>fe.l1 n l l (l.length:Int) i) (eW l):=by
 induction d with
 |zero=>
  intro i h0 h1 h;refine Ev.step (fun k=>by rw[fe.l1]) ?_;refine Ev.neg ae (Ev.done ?_);rw[Vg hl hs fun x k x0 x1 k0 k1=>h x k x0 ae k0 k1]
 |succ d ih=>
  intro i h0 h1 h;refine Ev.step (fun k=>by rw[fe.l1]) ?_;refine Ev.pos ae (Ev.pos ae (Ev.pos ae ?_));refine ahx l hl hs i h0 ae (fun hk=>ih (i+1) ae ae fun x k x0 x1 k0 k1=>?_) 9 0 ae ae (fun k h0 h1=>ae);by_cases e:x=i
  ·rw[e];exact hk k k0 k1
  ·exact h x k x0 ae k0 k1
theorem ahz(l:List Int)(hl:l.length=9)(d:Nat):∀(i:Int),0≤i→i+d=9→(∀x:Int,0≤x→x<i→kd l x=true)→Ev (fun n=>fe.l0 n l l (l.length:Int) i) (eW l):=by
 induction d with
 |zero=>
  intro i h0 h1 h;refine Ev.step (fun k=>by rw[fe.l0]) ?_;refine Ev.neg ae ?_;exact ahy l hl (fun x x0 x1=>h x x0 ae) 9 0 ae ae (fun x k h0 h1=>ae)
 |succ d ih=>
  intro i h0 h1 h;have hst:kd l i=(mS (rd l i)&&(!decide (0<i)||decide (rd l (i - 1)<rd l i))):=rfl;refine Ev.step (fun k=>by rw[fe.l0]) ?_;simp(disch:=omega) only[bI,ahr,Option.bind_some];refine Ev.pos ae (Ev.pos ae (Ev.pos ae ?_));by_cases e1:mS (rd l i)=true
  case neg=>exact Ev.neg e1 (Ev.done (by rw[Hf h0 ae (by rw[hst,Bool.eq_false_iff.2 e1];rfl)]))
  refine Ev.pos e1 ?_
  have next:kd l i=true→Ev (fun n=>fe.l0 n l l (l.length:Int) (i+1)) (eW l):=fun hs=>ih (i+1) ae ae fun x x0 x1=>by
   by_cases e:x=i
   ·rw[e];exact hs
   ·exact h x x0 ae
  by_cases hi:i>0
  ·refine Ev.pos hi (Ev.pos ae (Ev.pos ae ?_));by_cases e2:rd l (i - 1)≥rd l i
   ·refine Ev.pos e2 (Ev.done ?_);rw[Hf h0 ae (by rw[hst,ap hi,aD ae];simp)]
   ·refine Ev.neg e2 (next ?_);rw[hst,e1,ap (show rd l (i - 1)<rd l i by omega)];simp
  ·refine Ev.neg hi (next ?_);rw[hst,e1,aD (show ¬0<i by omega)];rfl
theorem ahA(l:List Int):Ev (fun k=>fe.f k l) (eW l):=by
 unfold fe.f;by_cases hl:l.length=9
 ·exact Ev.pos ae (ahz l hl 9 0 ae ae (fun x h0 h1=>ae))
 ·refine Ev.neg ae (Ev.done ?_);unfold eW;rw[aD hl];rfl
def eC(a b:List Int):Int:=mD 9 fun i=>rd a i !=rd b i
def dR(a b:List Int):Bool:=decide (0≤eC a b)&&decide (rd a (eC a b)<rd b (eC a b))
def s7(a b:List Int):Int:=if eC a b<0 then 0 else if rd a (eC a b)<rd b (eC a b) then -1 else 1
theorem ahF(a b:List Int): -1≤eC a b:=by
 unfold eC;by_cases h:∃i:Int,0≤i∧i<9∧(rd a i !=rd b i)=true
 ·obtain⟨i,h0,h1,h2⟩:=h;have:=vS (n:=9) (p:=fun i=>rd a i !=rd b i) i h0 h1 h2;omega
 ·rw[vQ fun i h0 h1=>Bool.eq_false_iff.2 fun h2=>h ⟨i,h0,h1,h2⟩];omega
theorem Vl{a b:List Int}:decide (s7 a b≥0)=!dR a b:=by
 unfold s7 dR;have:=ahF a b;by_cases h:eC a b<0
 ·rw[ah h,aD (by omega:¬0≤eC a b)];rfl
 ·rw[ag h,ap (by omega:0≤eC a b)];by_cases h2:rd a (eC a b)<rd b (eC a b)
  ·rw[ah h2,ap h2];rfl
  ·rw[ag h2,aD h2];rfl
theorem Vm(x:Int):gY.f x=some false:=by
 unfold gY.f;simp
theorem ahG(x y:Int):uC.f x y=some (if x<y then -1 else if x>y then 1 else 0):=by
 unfold uC.f;rw[Vm,Vm];simp only[Option.bind_some,Bool.false_eq_true,if_false]
 split<;>(try split)<;>rfl
theorem ahH(a b:List Int)(ha:a.length=9)(hb:b.length=9)(d:Nat):∀i:Int,0≤i→i+d=9→(∀j:Int,0≤j→j<i→rd a j=rd b j)→Ev (fun k=>mU.l0 k a b a 9 i) (s7 a b):=by
 induction d with
 |zero=>
  intro i h0 h1 h;refine Ev.step (fun k=>by rw[mU.l0]) ?_;refine Ev.neg ae (Ev.neg ae (Ev.done ?_));have:eC a b= -1:=vQ fun j j0 j1=>by rw[h j j0 ae];simp
  unfold s7;rw[this];rfl
 |succ d ih=>
  intro i h0 h1 h;refine Ev.step (fun k=>by rw[mU.l0]) ?_;rw[bI (x:=i+1) ae ae,ahG];refine Ev.pos ae (Ev.pos h0 (Ev.pos ae (Ev.neg ae (Ev.pos ae (Ev.fix rfl ?_)))));have gap:rd a i≠rd b i→eC a b=i:=fun hne=>vR i h0 ae (by simpa using hne) fun j j0 j1=>by rw[h j j0 j1];simp
  by_cases c1:rd a i<rd b i
  ·rw[ah c1];refine Ev.neg ao (Ev.done ?_);unfold s7;rw[gap ae,ag ae,ah c1]
  ·rw[ag c1];by_cases c2:rd a i>rd b i
   ·rw[ah c2];refine Ev.neg ao (Ev.done ?_);unfold s7;rw[gap ae,ag ae,ag c1]
   ·rw[ag c2];refine Ev.pos rfl (ih (i+1) ae ae fun j j0 j1=>?_);by_cases e:j=i
    ·rw[e];omega
    ·exact h j j0 ae
theorem ahI(a b:List Int)(ha:a.length=9)(hb:b.length=9):Ev (fun k=>mU.f k a b) (s7 a b):=by
 unfold mU.f;rw[show(a.length:Int)=9 by omega];exact ahH a b ha hb 9 0 ae ae (fun j j0 j1=>ae)
theorem ke{l:List Int}(h:eW l=true):l.length=9∧(∀i:Int,0≤i→i<9→kd l i=true)∧(∀i k:Int,0≤i→i<9→0≤k→k<9→mT l i k=true):=by
 unfold eW at h;simp only[Bool.and_eq_true,decide_eq_true_eq] at h;exact⟨h.1,fun i i0 i1=>gF h.2.1 i i0 i1,fun i k i0 i1 k0 k1=>gF (gF h.2.2 i i0 i1) k k0 k1⟩
theorem Nf{l:List Int}(h:eW l=true){i:Int}(i0:0≤i)(i1:i<9):0≤rd l i∧rd l i<81:=by
 have:=(ke h).2.1 i i0 i1;unfold kd at this;exact DB.1 (Bool.and_eq_true _ _▸this).1
theorem Vn{l:List Int}(h:eW l=true){i:Int}(i0:0<i)(i1:i<9):rd l (i - 1)<rd l i:=by
 have:=(ke h).2.1 i ae i1;unfold kd at this;have:=(Bool.and_eq_true _ _▸this).2;rw[ap i0] at this
 simpa using this
theorem ahJ{l:List Int}(h:eW l=true)(d:Nat):∀i:Int,0≤i→i+1+d<9→rd l i<rd l (i+1+d):=by
 induction d with
 |zero=>
  intro i i0 i1;have:=Vn h (i:=i+1) ae ae;rw[show i+1 - 1=i by omega] at this
  simpa using this
 |succ d ih=>
  intro i i0 i1;have h1:=ih i i0 ae;have h2:=Vn h (i:=i+1+((d+1:Nat):Int)) ae ae;rw[show i+1+((d+1:Nat):Int) - 1=i+1+(d:Int) by omega] at h2;omega
theorem Ng{l:List Int}(h:eW l=true){i j:Int}(i0:0≤i)(ij:i<j)(j1:j<9):rd l i<rd l j:=by
 have:=ahJ h (j - i - 1).toNat i i0 ae
 rwa [show i+1+((j - i - 1).toNat:Int)=j by omega] at this
theorem DE{l:List Int}{v:Int}(h:v∈l):∃i:Int,0≤i∧i<l.length∧rd l i=v:=by
 obtain⟨i,hi,e⟩:=List.mem_iff_getElem.1 h;exact⟨i,ae,ae,by rw[jY l i hi,e]⟩
theorem ahK(x:Int)(h0:0≤x)(h1:x<81):s6 (s6 x x) x=0:=by
 have k:∀u:Int,0≤u→u<9→bg (bg u u) u=0:=fun u u0 u1=>nU (P:=fun u=>bg (bg u u) u=0) (by decide+kernel) u u0 u1;have r1:=iA (x / 9) (x / 9);have r2:=iA (x%9) (x%9);have e1:=k (x / 9) ae ae;have e2:=k (x%9) ae ae;unfold s6;rw[show(9*bg (x / 9) (x / 9)+bg (x%9) (x%9)) / 9=bg (x / 9) (x / 9) by omega,show(9*bg (x / 9) (x / 9)+bg (x%9) (x%9))%9=bg (x%9) (x%9) by omega,e1,e2];rfl
theorem Vo{l:List Int}(h:eW l=true){x y:Int}(hx:x∈l)(hy:y∈l):s6 x y∈l:=by
 have hl:=(ke h).1;obtain⟨i,i0,i1,rfl⟩:=DE hx;obtain⟨j,j0,j1,rfl⟩:=DE hy;have:=(ke h).2.2 i j i0 ae j0 ae;unfold mT at this;exact of_decide_eq_true this
theorem Nh{l:List Int}(h:eW l=true):rd l 0=0:=by
 have hl:=(ke h).1;have hm:rd l 0∈l:=iK ae ae;have hn:=Nf h (i:=0) ae ae;have hz:=Vo h (Vo h hm hm) hm;rw[ahK _ hn.1 hn.2] at hz;obtain⟨i,i0,i1,e⟩:=DE hz;by_cases e0:i=0
 ·rw[e0] at e;exact e
 ·have:=Ng h (i:=0) (j:=i) ae ae ae;omega
theorem Vp{l:List Int}(h:eW l=true){i:Int}(i0:0<i)(i1:i<9):0<rd l i:=by
 have:=Ng h (i:=0) (j:=i) ae i0 i1;have:=Nh h;omega
theorem Vq{l:List Int}(h:eW l=true){i:Int}(i0:0≤i)(i1:i<9):rd l i∉l.take i.toNat:=by
 intro hm;obtain⟨j,hj,e⟩:=List.mem_take_iff_getElem.1 hm;have:=Ng h (i:=(j:Int)) (j:=i) ae ae i1;rw[jY l j ae,e] at this;omega
def gC(l:List (List Int))(i p:Int):Bool:=(List.range i.toNat).any fun(j:Nat)=>decide (p∈aT l (j:Int))
theorem ahL(l:List (List Int))(p:Int):gC l 0 p=false:=rfl
theorem Vr(l:List (List Int)){i:Int}(h0:0≤i)(p:Int):gC l (i+1) p=(gC l i p||decide (p∈aT l i)):=by
 unfold gC;rw[show(i+1).toNat=i.toNat+1 by omega,List.range_succ,List.any_append];simp[Int.toNat_of_nonneg h0]
def lT(l:List (List Int))(i:Int):Bool:=(aT l i).all fun p=>decide (p≤0)||!gC l i p
def nH(l:List (List Int))(i:Int):Bool:=decide (i≤0)||dR (aT l (i - 1)) (aT l i)
def kV(l:List (List Int))(i:Int):Bool:=eW (aT l i)&&(nH l i&&lT l i)
def dk(l:List (List Int)):Bool:=decide (l.length=10)&&allI 10 (kV l)
theorem Av{l:List (List Int)}{i:Int}(h0:0≤i)(h1:i<10)(h:kV l i=false):dk l=false:=by
 cases e:dk l with
 |false=>rfl
 |true=>
  unfold dk at e;have:=gF (Bool.and_eq_true _ _▸e).2 i h0 h1;rw[h] at this;exact absurd this ao
theorem Vs{l:List (List Int)}(hl:l.length=10)(h:∀i:Int,0≤i→i<10→kV l i=true):dk l=true:=by
 unfold dk;rw[ap hl,jr.2 h];rfl
theorem s8{l:List (List Int)}(h:dk l=true):l.length=10∧∀i:Int,0≤i→i<10→kV l i=true:=by
 unfold dk at h;simp only[Bool.and_eq_true,decide_eq_true_eq] at h;exact⟨h.1,fun i i0 i1=>gF h.2 i i0 i1⟩
theorem DF{l:List (List Int)}{i:Int}(h:kV l i=true):eW (aT l i)=true∧nH l i=true∧lT l i=true:=by
 unfold kV at h;simp only[Bool.and_eq_true] at h;exact h
theorem aib(a b:List Int)(ha:a.length=9)(hb:b.length=9)(d:Nat):∀i:Int,0≤i→i+d=9→(∀j:Int,0≤j→j<i→rd a j=rd b j)→Ev (fun k=>iG.l0 k a b i) (dR a b):=by
 induction d with
 |zero=>
  intro i h0 h1 h;refine Ev.step (fun k=>by rw[iG.l0]) ?_;refine Ev.neg ae (Ev.done ?_);have:eC a b= -1:=vQ fun j j0 j1=>by rw[h j j0 ae];simp
  unfold dR;rw[this];rfl
 |succ d ih=>
  intro i h0 h1 h;refine Ev.step (fun k=>by rw[iG.l0]) ?_;rw[bI (x:=i+1) ae ae];refine Ev.pos ae (Ev.pos h0 (Ev.pos ae (Ev.pos ae ?_)));by_cases e:rd a i=rd b i
  ·refine Ev.pos e (ih (i+1) ae ae fun j j0 j1=>?_);by_cases ej:j=i
   ·rw[ej];exact e
   ·exact h j j0 ae
  ·refine Ev.neg e (Ev.done ?_);have:eC a b=i:=vR i h0 ae (by simpa using e) fun j j0 j1=>by rw[h j j0 j1];simp
   unfold dR;rw[this,ap h0,Bool.true_and]
theorem DS(a b:List Int)(ha:a.length=9)(hb:b.length=9):Ev (fun k=>iG.f k a b) (dR a b):=
 aib a b ha hb 9 0 ae ae (fun j j0 j1=>ae)
theorem aic{l:List (List Int)}{i p:Int}:gC l i p=true↔ ∃j:Nat,(j:Int)<i∧p∈aT l (j:Int):=by
 unfold gC;simp only[List.any_eq_true,List.mem_range,decide_eq_true_eq]
 constructor
 ·rintro⟨j,hj,h⟩;exact⟨j,ae,h⟩
 ·rintro⟨j,hj,h⟩;exact⟨j,ae,h⟩
theorem VM{l:List (List Int)}{i:Int}(h:lT l i=true){p:Int}(hp:p∈aT l i)(h0:0<p):gC l i p=false:=by
 unfold lT at h;have:=List.all_eq_true.1 h p hp;rw[aD ae,Bool.false_or,Bool.not_eq_true'] at this;exact this
theorem NK{l:List (List Int)}(h:dk l=true){i j p:Int}(i0:0≤i)(ij:i<j)(j1:j<10)(h0:0<p)(hi:p∈aT l i)(hj:p∈aT l j):False:=by
 have:=VM (DF ((s8 h).2 j ae j1)).2.2 hj h0;have h2:=aic.2 ⟨i.toNat,(by omega:(i.toNat:Int)<j),(by rw[Int.toNat_of_nonneg i0];exact hi:p∈aT l (i.toNat:Int))⟩;rw[this] at h2;exact absurd h2 ao
theorem uK{l:List (List Int)}(h:dk l=true){i:Int}(i0:0≤i)(i1:i<10):eW (aT l i)=true:=(DF ((s8 h).2 i i0 i1)).1
def rI(l:List (List Int))(i k:Int)(p:Nat):Bool:=decide (0<(p:Int))&&(gC l i (p:Int)||decide ((p:Int)∈(aT l i).take k.toNat))
theorem aid(l:List (List Int))(hl:l.length=10)(i:Int)(i0:0≤i)(i1:i<10)(hlf:eW (aT l i)=true)(hor:nH l i=true)
  (hr:kV l i=true→Ev (fun k=>dN.l0 k l (bL 81 fun p=>decide (0<(p:Int))&&gC l (i+1) (p:Int)) (i+1)) (dk l)) (d:Nat):
  ∀k:Int,1≤k→k+d=9→(∀j:Int,0≤j→j<k→(decide (rd (aT l i) j≤0)||!gC l i (rd (aT l i) j))=true)→Ev (fun n=>dN.l1 n l (bL 81 (rI l i k)) i k) (dk l):=by
 have hl9:=(ke hlf).1
 induction d with
 |zero=>
  intro k k0 k1 h;have e9:k=9:=ae;subst e9;refine Ev.step (fun n=>by rw[dN.l1]) ?_;rw[bI (x:=i+1) ae ae]
  have hfr:lT l i=true:=by
   unfold lT;rw[List.all_eq_true];intro p hp;obtain⟨j,j0,j1,rfl⟩:=DE hp;exact h j j0 ae
  have hb:bL 81 (rI l i 9)=bL 81 fun p=>decide (0<(p:Int))&&gC l (i+1) (p:Int):=rx fun j hj=>by
   unfold rI;rw[Vr l i0,List.take_of_length_le ae]
  rw[hb];exact Ev.neg ae (hr (by unfold kV;rw[hlf,hor,hfr];rfl))
 |succ d ih=>
  intro k k0 k1 h;obtain⟨p0,p1⟩:=Nf hlf (i:=k) ae ae;have pp:=Vp hlf (i:=k) ae ae;have hnt:=Vq hlf (i:=k) ae ae
  have hbit:dM false (bL 81 (rI l i k)) (rd (aT l i) k)=gC l i (rd (aT l i) k):=by
   rw[L4 _ p0 p1];unfold rI;rw[Int.toNat_of_nonneg p0,ap pp,aD hnt,Bool.or_false,Bool.true_and]
  have hset:(bL 81 (rI l i k)).set (rd (aT l i) k).toNat true=bL 81 (rI l i (k+1)):=by
   rw[L5];refine rx fun j hj=>?_;unfold rI;rw[show(k+1).toNat=k.toNat+1 by omega,List.take_add_one,List.getElem?_eq_getElem ae,Option.toList_some];have e2:(aT l i)[k.toNat]'ae=rd (aT l i) k:=(oS ae ae).symm;rw[e2];by_cases e:j=(rd (aT l i) k).toNat
   ·rw[ah e,ap (by omega:(0:Int)<j)];have:(j:Int)∈(aT l i).take k.toNat++[rd (aT l i) k]:=by rw[List.mem_append];right;rw[List.mem_singleton];omega
    rw[ap this,Bool.or_true];rfl
   ·rw[ag e]
    congr 2
    refine decide_eq_decide.2 ?_;rw[List.mem_append,List.mem_singleton];exact⟨fun h=>.inl h,fun h=>h.elim id fun h=>absurd h ae⟩
  refine Ev.step (fun n=>by rw[dN.l1]) ?_;rw[hbit,hset,Df,bI (x:=k+1) ae ae];refine Ev.pos ae (Ev.pos i0 (Ev.pos ae (Ev.pos ae (Ev.pos ae (Ev.pos p0 (Ev.pos p1 ?_))))));by_cases hs:gC l i (rd (aT l i) k)=true
  ·refine Ev.pos hs (Ev.done ?_)
   have hfr:lT l i=false:=by
    cases e:lT l i with
    |false=>rfl
    |true=>
     have:=VM e (iK (i:=k) ae ae) pp;rw[hs] at this;exact absurd this ao
   rw[Av i0 i1 (by unfold kV;rw[hfr,Bool.and_false,Bool.and_false])]
  ·refine Ev.neg hs (ih (k+1) ae ae fun j j0 j1=>?_);by_cases e:j=k
   ·rw[e,Bool.eq_false_iff.2 hs,Bool.not_false,Bool.or_true]
   ·exact h j j0 ae
theorem aie(l:List (List Int))(hl:l.length=10)(d:Nat):∀i:Int,0≤i→i+d=10→(∀j:Int,0≤j→j<i→kV l j=true)→Ev (fun k=>dN.l0 k l (bL 81 fun p=>decide (0<(p:Int))&&gC l i (p:Int)) i) (dk l):=by
 induction d with
 |zero=>
  intro i h0 h1 h;refine Ev.step (fun k=>by rw[dN.l0]) ?_;refine Ev.neg ae (Ev.done ?_);rw[Vs hl fun j j0 j1=>h j j0 ae]
 |succ d ih=>
  intro i h0 h1 h;refine Ev.step (fun k=>by rw[dN.l0]) ?_;refine Ev.pos ae (Ev.pos h0 (Ev.pos ae (Ev.bind (ahw _) ?_)));by_cases hlf:eW (aT l i)=true
  case neg=>
   refine Ev.neg hlf (Ev.step (fun k=>by rw[dN.j1]) (Ev.pos rfl (Ev.done ?_)));rw[Av h0 ae (by unfold kV;rw[Bool.eq_false_iff.2 hlf];rfl)]
  refine Ev.pos hlf ?_
  have hz:(bL 81 fun p=>decide (0<(p:Int))&&gC l i (p:Int))=bL 81 (rI l i 1):=rx fun j hj=>by
   unfold rI;have hl9:=(ke hlf).1
   have ht:(aT l i).take (1:Int).toNat=[0]:=by
    rw[show(1:Int).toNat=0+1 by rfl,List.take_add_one,List.getElem?_eq_getElem ae,Option.toList_some];have:=Nh hlf;rw[oS ae ae] at this;have e3:(aT l i)[0]'ae=0:=this;rw[e3];rfl
   rw[ht];by_cases e:0<(j:Int)
   ·rw[ap e,aD (by rw[List.mem_singleton];omega),Bool.or_false]
   ·rw[aD e];rfl
  have tail:nH l i=true→Ev (fun k=>dN.j1 k l (bL 81 fun p=>decide (0<(p:Int))&&gC l i (p:Int)) i false) (dk l):=fun hor=>by
   refine Ev.step (fun k=>by rw[dN.j1]) (Ev.neg ao ?_);rw[hz];refine aid l hl i h0 ae hlf hor (fun hok=>ih (i+1) ae ae fun j j0 j1=>?_) 8 1 ae ae fun j j0 j1=>?_
   ·by_cases e:j=i
    ·rw[e];exact hok
    ·exact h j j0 ae
   ·rw[show j=0 by omega,Nh hlf];rfl
  by_cases hi:i>0
  ·have DT:=(DF (h (i - 1) ae ae)).1;have hor:nH l i=dR (aT l (i - 1)) (aT l i):=by unfold nH;rw[aD ae,Bool.false_or]
   rw[bI (x:=i - 1) ae ae];refine Ev.pos hi (Ev.pos ae (Ev.pos ae (Ev.bind (DS _ _ (ke DT).1 (ke hlf).1) ?_)));rw[←hor];by_cases ho:nH l i=true
   ·rw[ho];exact tail ho
   ·have ho:=Bool.eq_false_iff.2 ho;rw[ho];refine Ev.step (fun k=>by rw[dN.j1]) ?_;refine Ev.pos rfl (Ev.done ?_);rw[Av h0 ae (by unfold kV;rw[ho,Bool.false_and,Bool.and_false])]
  ·exact Ev.neg hi (tail (by unfold nH;rw[ap ae];rfl))
theorem NL(l:List (List Int)):Ev (fun k=>dN.f k l) (dk l):=by
 unfold dN.f;by_cases hl:l.length=10
 ·refine Ev.pos ae (Ev.pos ae ?_);rw[Ut];have:=aie l hl 10 0 ae ae (fun j j0 j1=>ae);have e:(bL 81 fun p=>decide (0<(p:Int))&&gC l 0 (p:Int))=bL 81 fun _=>false:=rx fun j hj=>by rw[ahL,Bool.and_false]
  rwa [e] at this
 ·refine Ev.neg ae (Ev.done ?_);unfold dk;rw[aD hl];rfl
theorem VN(a b:List Int):eC b a=eC a b:=by
 unfold eC;exact congrArg (mD 9) (funext fun i=>by rw[bne_comm])
theorem DU{a b:List Int}(h:dR a b=true)(h2:dR b a=true):False:=by
 unfold dR at h h2;rw[VN a b] at h2;simp only[Bool.and_eq_true,decide_eq_true_eq] at h h2;omega
theorem NM{a b:List Int}:dR a b=true↔ ∃i:Int,0≤i∧i<9∧rd a i<rd b i∧∀j:Int,0≤j→j<i→rd a j=rd b j:=by
 constructor
 ·intro h;unfold dR at h;simp only[Bool.and_eq_true,decide_eq_true_eq] at h;obtain⟨h0,h1⟩:=h;by_cases hx:∃i:Int,0≤i∧i<9∧(rd a i !=rd b i)=true
  ·obtain⟨i,i0,i1,i2⟩:=hx;have s:=vS (n:=9) (p:=fun i=>rd a i !=rd b i) i i0 i1 i2;refine⟨eC a b,h0,s.2.1,h1,fun j j0 j1=>?_⟩;apply Classical.byContradiction;intro hne;have s2:=vS (n:=9) (p:=fun i=>rd a i !=rd b i) j j0 (by have:=s.2.1;unfold eC at j1;omega) (by simpa using hne);have:eC a b≤j:=s2.2.2.2;omega
  ·have:eC a b= -1:=vQ fun i i0 i1=>Bool.eq_false_iff.2 fun h=>hx ⟨i,i0,i1,h⟩;omega
 ·rintro⟨i,i0,i1,hlt,heq⟩;have:eC a b=i:=vR i i0 i1 (by simp;omega) fun j j0 j1=>by rw[heq j j0 j1];simp
  unfold dR;rw[this,ap i0,ap hlt];rfl
theorem NN{a b c:List Int}(h:dR a b=true)(h2:dR b c=true):dR a c=true:=by
 obtain⟨i,i0,i1,hi,ei⟩:=NM.1 h;obtain⟨j,j0,j1,hj,ej⟩:=NM.1 h2;refine NM.2 ?_;rcases Int.lt_trichotomy i j with hlt|rfl|hgt
 ·exact⟨i,i0,i1,by rw[←ej i i0 hlt];exact hi,fun k k0 k1=>(ei k k0 k1).trans (ej k k0 ae)⟩
 ·exact⟨i,i0,i1,ae,fun k k0 k1=>(ei k k0 k1).trans (ej k k0 k1)⟩
 ·exact⟨j,j0,j1,by rw[ei j j0 hgt];exact hj,fun k k0 k1=>(ei k k0 ae).trans (ej k k0 k1)⟩
theorem VO{a b:List Int}(ha:a.length=9)(hb:b.length=9)(hne:a≠b):dR a b=true∨dR b a=true:=by
 by_cases hx:∃i:Int,0≤i∧i<9∧(rd a i !=rd b i)=true
 ·obtain⟨i,i0,i1,i2⟩:=hx;have s:=vS (n:=9) (p:=fun i=>rd a i !=rd b i) i i0 i1 i2;have hg:0≤eC a b:=s.1;have hd:rd a (eC a b)≠rd b (eC a b):=by have:=s.2.2.1;simpa [eC] using this
  unfold dR;rw[VN a b,ap hg];rcases Int.lt_or_gt_of_ne hd with h|h
  ·left;rw[ap h];rfl
  ·right;rw[ap h];rfl
 ·exfalso
  apply hne;refine Gq ae fun i hi=>?_;apply Classical.byContradiction;intro h;exact hx ⟨(i:Int),ae,ae,by simpa using h⟩
def nI(l:List (List Int)):Prop:=l.Pairwise fun a b=>dR a b=true
theorem VP:∀a b:List (List Int),nI a→nI b→(∀x,x∈a↔x∈b)→a=b:=by
 intro a
 induction a with
 |nil=>
  intro b _ _ h;cases b with
  |nil=>rfl
  |cons y b=>exact absurd ((h y).2 List.mem_cons_self) bn
 |cons x a ih=>
  intro b ha hb h;cases b with
  |nil=>exact absurd ((h x).1 List.mem_cons_self) bn
  |cons y b=>
   have ha:=List.pairwise_cons.1 ha;have hb:=List.pairwise_cons.1 hb
   have e:x=y:=by
    rcases List.mem_cons.1 ((h x).1 List.mem_cons_self) with e|e
    ·exact e
    ·rcases List.mem_cons.1 ((h y).2 List.mem_cons_self) with e2|e2
     ·exact e2.symm
     ·exact absurd (DU (hb.1 x e) (ha.1 y e2)) id
   subst e;rw[ih b ha.2 hb.2 fun z=>⟨fun hz=>?_,fun hz=>?_⟩]
   ·rcases List.mem_cons.1 ((h z).1 (List.mem_cons_of_mem _ hz)) with e|e
    ·exact absurd (DU (ha.1 z hz) (by rw[e] at hz ⊢;exact ha.1 _ hz)) id
    ·exact e
   ·rcases List.mem_cons.1 ((h z).2 (List.mem_cons_of_mem _ hz)) with e|e
    ·exact absurd (DU (hb.1 z hz) (by rw[e] at hz ⊢;exact hb.1 _ hz)) id
    ·exact e
theorem aif{l:List (List Int)}(h:dk l=true)(d:Nat):∀i:Int,0≤i→i+1+d<10→dR (aT l i) (aT l (i+1+d))=true:=by
 have step:∀i:Int,0<i→i<10→dR (aT l (i - 1)) (aT l i)=true:=fun i i0 i1=>by
  have:=(DF ((s8 h).2 i ae i1)).2.1;unfold nH at this;rw[aD (by omega:¬i≤0)] at this
  simpa using this
 induction d with
 |zero=>
  intro i i0 i1;have:=step (i+1) ae ae;rw[show i+1 - 1=i by omega] at this
  simpa using this
 |succ d ih=>
  intro i i0 i1;have h1:=ih i i0 ae;have h2:=step (i+1+((d+1:Nat):Int)) ae ae;rw[show i+1+((d+1:Nat):Int) - 1=i+1+(d:Int) by omega] at h2;exact NN h1 h2
def ox(j a:Int):Int:=if a=j then j - 1 else if a=j - 1 then j else a
def xn(l:List HH)(j:Int):List HH:=(l.set j.toNat (cO l (j - 1))).set (j - 1).toNat (cO l j)
theorem VQ{l:List HH}{i j:Int}{v:HH}(i0:0≤i)(i1:i<l.length)(j0:0≤j):cO (l.set i.toNat v) j=if j=i then v else cO l j:=by
 unfold cO dM;rw[List.getD_eq_getElem?_getD,List.getD_eq_getElem?_getD,List.getElem?_set];by_cases e:j=i
 ·rw[ah e,ah ae,ah ae];rfl
 ·rw[ag e,ag ae]
theorem DV{l:List HH}{j:Int}(j0:0<j)(j1:j<l.length){a:Int}(a0:0≤a):cO (xn l j) a=cO l (ox j a):=by
 unfold xn ox;rw[VQ ae (by rw[List.length_set];omega) a0,VQ ae j1 a0];by_cases e1:a=j - 1
 ·rw[ah e1,ag ae,ah e1]
 ·by_cases e2:a=j
  ·rw[ag e1,ah e2,ah e2]
  ·rw[ag e1,ag e2,ag e2,ag e1]
theorem Hn(l:List HH)(j:Int):(xn l j).length=l.length:=by unfold xn;rw[List.length_set,List.length_set]
theorem VR{l:List HH}{v:HH}:v∈l↔ ∃i:Int,0≤i∧i<l.length∧cO l i=v:=by
 constructor
 ·intro h;obtain⟨i,hi,e⟩:=List.mem_iff_getElem.1 h;exact⟨i,ae,ae,by unfold cO dM;rw[List.getD_eq_getElem?_getD,List.getElem?_eq_getElem ae];exact e⟩
 ·rintro⟨i,i0,i1,e⟩;rw[←e];exact sU i0 i1
theorem Mx{l:List HH}{j:Int}(j0:0<j)(j1:j<l.length){v:HH}:v∈xn l j↔v∈l:=by
 rw[VR,VR];have rng:∀a:Int,0≤a→a<l.length→0≤ox j a∧ox j a<l.length:=fun a a0 a1=>by unfold ox;split<;>(try split)<;>omega
 have inv:∀a:Int,ox j (ox j a)=a:=fun a=>by unfold ox;split<;>(try split)<;>(try split)<;>omega
 constructor
 ·rintro⟨a,a0,a1,e⟩;rw[Hn] at a1;rw[DV j0 j1 a0] at e;exact⟨ox j a,(rng a a0 a1).1,(rng a a0 a1).2,e⟩
 ·rintro⟨a,a0,a1,e⟩;refine⟨ox j a,(rng a a0 a1).1,by rw[Hn];exact(rng a a0 a1).2,?_⟩;rw[DV j0 j1 (rng a a0 a1).1,inv];exact e
def AB(val:HH→List Int)(l:List HH):Prop:=∀a b:Int,0≤a→a<l.length→0≤b→b<l.length→a≠b→val (cO l a)≠val (cO l b)
theorem aih{val:HH→List Int}{l:List HH}(h:AB val l){j:Int}(j0:0<j)(j1:j<l.length):AB val (xn l j):=by
 intro a b a0 a1 b0 b1 hne;rw[Hn] at a1 b1;rw[DV j0 j1 a0,DV j0 j1 b0];refine h _ _ ?_ ?_ ?_ ?_ ?_<;>(unfold ox;split<;>(try split)<;>(try split)<;>(try split)<;>omega)
def oy(val:HH→List Int)(a b:HH):Bool:=dR (val a) (val b)
def aii(val:HH→List Int)(l:List HH)(i j:Int):Prop:=(∀a b:Int,0≤a→a<b→b≤i→a≠j→b≠j→oy val (cO l a) (cO l b)=true)∧∀b:Int,j<b→b≤i→oy val (cO l j) (cO l b)=true
def DW(val:HH→List Int)(l r:List HH):Prop:=r.length=l.length∧(∀v,v∈r↔v∈l)∧r.Pairwise (fun a b=>oy val a b=true)
theorem aij{val:HH→List Int}{l0:List HH}(h9:∀a∈l0,(val a).length=9){n:Int}(hn:n≤1000){i:Int}(i0:0≤i)(i1:i<n)(hr:∀l:List HH,(l.length:Int)=n→(∀v,v∈l↔v∈l0)→AB val l→(∀a b:Int,0≤a→a<b→b≤i→oy val (cO l a) (cO l b)=true)→∃r,DW val l0 r∧Ev (fun k=>lG (oy val) k l 0 n (i+1)) r)(d:Nat):
  ∀(j:Int) (l:List HH),j=d→j≤i→(l.length:Int)=n→(∀v,v∈l↔v∈l0)→AB val l→aii val l i j→∃r,DW val l0 r∧Ev (fun k=>nG (oy val) k l 0 n i j) r:=by
 induction d with
 |zero=>
  intro j l hj ji hl hm hd hN;have hj:j=0:=hj;subst hj
  obtain⟨r,h1,h2⟩:=hr l hl hm hd fun a b a0 ab b1=>by
   by_cases e:a=0
   ·subst e;exact hN.2 b ae b1
   ·exact hN.1 a b a0 ab b1 e ae
  refine⟨r,h1,?_⟩;refine Ev.step (fun k=>by rw[nG]) ?_;rw[bI (x:=i+1) ae ae];exact Ev.neg ae h2
 |succ d ih=>
  intro j l hj ji hl hm hd hN;have e1:wrap64 (j - 1)=j - 1:=bI ae ae;have e2:wrap64 (i+1)=i+1:=bI ae ae;by_cases hc:oy val (cO l j) (cO l (j - 1))=true
  ·have hlen:=Hn l j;have R:=fun(a:Int) (a0:0≤a)=>DV (l:=l) (j:=j) ae ae a0
   obtain⟨r,h1,h2⟩:=ih (j - 1) (xn l j) ae ae (by rw[hlen];exact hl) (fun v=>(Mx ae ae).trans (hm v)) (aih hd ae ae) ⟨fun a b a0 ab b1 na nb=>by
     rw[R a a0,R b ae];unfold ox;by_cases ea:a=j
     ·rw[ah ea,ag ae,ag nb];exact hN.1 (j - 1) b ae ae b1 ae ae
     ·rw[ag ea,ag na];by_cases eb:b=j
      ·rw[ah eb];exact hN.1 a (j - 1) a0 ae ae ea ae
      ·rw[ag eb,ag nb];exact hN.1 a b a0 ab b1 ea eb,fun b jb b1=>by
     rw[R (j - 1) ae,R b ae];unfold ox;rw[ag ae,ah rfl];by_cases eb:b=j
     ·rw[ah eb];exact hc
     ·rw[ag eb,ag ae];exact hN.2 b ae b1⟩
   refine⟨r,h1,?_⟩;refine Ev.step (fun k=>by rw[nG]) ?_;rw[e1,e2];exact Ev.pos ae (Ev.pos ae (Ev.pos ae (Ev.pos ae (Ev.pos ae (Ev.fix (congrArg some hc) (Ev.pos rfl h2))))))
  ·have hlt:oy val (cO l (j - 1)) (cO l j)=true:=by
    have hne:=hd (j - 1) j ae ae ae ae ae;have m1:cO l (j - 1)∈l0:=(hm _).1 (sU ae ae);have m2:cO l j∈l0:=(hm _).1 (sU ae ae);rcases VO (h9 _ m1) (h9 _ m2) hne with h|h
    ·exact h
    ·exact absurd h hc
   obtain⟨r,h1,h2⟩:=hr l hl hm hd fun a b a0 ab b1=>by
    by_cases ea:a=j
    ·subst ea;exact hN.2 b ab b1
    ·by_cases eb:b=j
     ·subst eb;by_cases e:a=b - 1
      ·rw[e];exact hlt
      ·exact NN (hN.1 a (b - 1) a0 ae ae ea ae) hlt
     ·exact hN.1 a b a0 ab b1 ea eb
   refine⟨r,h1,?_⟩;refine Ev.step (fun k=>by rw[nG]) ?_;rw[e1,e2];exact Ev.pos ae (Ev.pos ae (Ev.pos ae (Ev.pos ae (Ev.pos ae (Ev.fix (congrArg some (Bool.eq_false_iff.2 hc)) (Ev.neg ao h2))))))
theorem aik{val:HH→List Int}{l0:List HH}(h9:∀a∈l0,(val a).length=9){n:Int}(hn:n≤1000)(d:Nat):∀(i:Int) (l:List HH),1≤i→i+d=n→(l.length:Int)=n→(∀v,v∈l↔v∈l0)→AB val l→(∀a b:Int,0≤a→a<b→b<i→oy val (cO l a) (cO l b)=true)→(l0.length:Int)=n→∃r,DW val l0 r∧Ev (fun k=>lG (oy val) k l 0 n i) r:=by
 induction d with
 |zero=>
  intro i l i0 hi hl hm hd ha h0;refine⟨l,⟨ae,hm,List.pairwise_iff_getElem.2 fun a b h1 h2 hab=>?_⟩,?_⟩
  ·have:=ha (a:Int) (b:Int) ae ae ae
   have e:∀c:Nat,(hc:c<l.length)→cO l (c:Int)=l[c]:=fun c hc=>by
    unfold cO dM;rw[Int.toNat_natCast,List.getD_eq_getElem?_getD,List.getElem?_eq_getElem hc];rfl
   rwa [e a h1,e b h2] at this
  ·refine Ev.step (fun k=>by rw[lG]) ?_;exact Ev.neg ae (Ev.done rfl)
 |succ d ih=>
  intro i l i0 hi hl hm hd ha h0
  obtain⟨r,h1,h2⟩:=aij (val:=val) (l0:=l0) h9 hn (i:=i) ae ae (fun l hl hm hd ha=>ih (i+1) l ae ae hl hm hd (fun a b a0 ab b1=>ha a b a0 ab ae) h0) i.toNat i l ae ae hl hm hd
   ⟨fun a b a0 ab b1 na nb=>ha a b a0 ab ae,fun b ib b1=>ae⟩
  refine⟨r,h1,?_⟩;refine Ev.step (fun k=>by rw[lG]) ?_;exact Ev.pos ae h2
theorem ail{val:HH→List Int}{l:List HH}(h9:∀a∈l,(val a).length=9)(hn:(l.map val).Nodup)(h0:0<l.length)(h1:l.length≤12):∃r,DW val l r∧Ev (fun k=>lG (oy val) k l 0 (l.length:Int) (wrap64 (0+1))) r:=by
 have hD:AB val l:=fun a b a0 a1 b0 b1 hne e=>by
  have g:∀c:Int,(c0:0≤c)→(hc:c<l.length)→val (cO l c)=(l.map val)[c.toNat]'(by rw[List.length_map];omega):=fun c c0 hc=>by
   unfold cO dM;rw[List.getD_eq_getElem?_getD,List.getElem?_eq_getElem ae,List.getElem_map];rfl
  rw[g a a0 a1,g b b0 b1] at e;have:=(List.getElem_inj hn).1 e;omega
 rw[show wrap64 (0+1)=1 from bI ae ae];exact aik h9 ae (l.length - 1) 1 l ae ae rfl (fun v=>Iff.rfl) hD (fun a b a0 ab b1=>ae) rfl
theorem aim(A0:Option Addr)(c0:Nat)(l:List Int)(w:World)(hr:Kd.C (Kd.int .i64) w A0 l.length l)(hc:l.length≤c0):
  Calls Tryz.prog 210 #[.slice A0 l.length c0] w fun e w'=>e=.returned (.bool (eW l))∧aG w w':=by
 obtain⟨k,hk⟩:=(ahA l).rounds;exact fe.calls k A0 c0 l _ w hr hc hk
theorem VT(A0:Option Addr)(c0:Nat)(a:List Int)(A1:Option Addr)(c1:Nat)(b:List Int)(ha:a.length=9)(hb:b.length=9)(w:World)(hr:Kd.C (Kd.int .i64) w A0 a.length a)(hc:a.length≤c0)(hr1:Kd.C (Kd.int .i64) w A1 b.length b)(hc1:b.length≤c1):
  Calls Tryz.prog 145 #[.slice A0 a.length c0,.slice A1 b.length c1] w fun e w'=>e=.returned (.int .i64 (s7 a b))∧aG w w':=by
 obtain⟨k,hk⟩:=(ahI a b ha hb).rounds;exact mU.calls k A0 c0 a A1 c1 b _ w hr hc hr1 hc1 hk
theorem ain{l:List (List Int)}{i:Int}(hl:(aT l i).length=9)(h:∀j:Int,0≤j→j<9→(decide (rd (aT l i) j≤0)||!gC l i (rd (aT l i) j))=true):lT l i=true:=by
 unfold lT;rw[List.all_eq_true];intro p hp;obtain⟨j,j0,j1,rfl⟩:=DE hp;exact h j j0 ae
theorem aio{l:List (List Int)}{i j:Int}(hl:(aT l i).length=9)(j0:0≤j)(j1:j<9)(h:(decide (rd (aT l i) j≤0)||!gC l i (rd (aT l i) j))=false):lT l i=false:=by
 cases e:lT l i with
 |false=>rfl
 |true=>
  unfold lT at e;have:=List.all_eq_true.1 e _ (iK (i:=j) ae j0);rw[h] at this;exact absurd this ao
theorem VU(A0:Option Addr)(c0:Nat)(l:List (List Int))(w:World)(hr:Kd.C (Kd.slice 3 (Kd.int .i64)) w A0 l.length l):
  Calls Tryz.prog 146 #[.slice A0 l.length c0] w fun e w'=>e=.returned (.bool (dk l))∧Below w.heap.size w w':=by
 have hz:∀w,Sem.run Tryz.prog (zeroValue 144) w=.ok (.agg (bA 81 (fun _=>false))) w:=fun _=>by kernel_rfl
 have hst:=fun w=>Sm (P:=Tryz.prog) 144 81 (fun _=>false) am w;have HR:=af.mk hr;clear hr;by_cases hl:l.length=10
 case neg=>
  have e:dk l=false:=by unfold dk;rw[aD hl];rfl
  have E:=af.mk e;have l1:((l.length:Int)==10)=false:=beq_eq_false_iff_ne.2 ae;have l2:((l.length:Int) !=10)=true:=by rw[bne,l1];rfl
  clear e hl;go_enter Tryz.func146,Tryz.ntmps146;go_wp2;go_ret;exact⟨by rw[E.o];rfl,Below.refl _ _⟩
 case pos=>
 have l1:((l.length:Int)==10)=true:=beq_iff_eq.2 ae;have l2:((l.length:Int) !=10)=false:=by rw[bne,l1];rfl
 have HL:=af.mk hl;have HS:=af.mk (fX.alloc w 144 81 (fun _=>false));have du:=af.mk ((Below.refl w.heap.size w).alloc (aH _) (.cells (bA 81 (fun _=>false)) 144));clear hl;go_enter Tryz.func146,Tryz.ntmps146;go_wp2;go_loopg [14] 10 (fun kq Dz w'=> ∃i:Int,Dz=.int .i64 i∧af (0≤i∧i≤10)∧af ((10:Int) - i≤kq)∧af (∀j:Int,0≤j→j<i→kV l j=true)∧af (fX w' w.heap.size 144 81 (fun p=>gC l i (p:Int)))∧af (Below w.heap.size w w'))
 case atStart=>exact⟨0,rfl,⟨ae⟩,⟨ae⟩,⟨fun x h0 h1=>ae⟩,⟨HS.o.congr (fun j hj=>rfl)⟩,du⟩
 case round=>
  clear HS du hz hst;obtain⟨i,rfl,HI,HK,HA,HS,HB⟩:=hrel;have h0:0≤i:=HI.o.1;by_cases c6:i<(l.length:Int)
  case neg=>
   go_wp2;go_ret;have hall:dk l=true:=Vs HL.o fun j j0 j1=>HA.o j j0 (by have:=HI.o;have:=HL.o;omega);exact⟨by rw[hall];rfl,HB.o⟩
  case pos=>
  have c10:i<10:=by have:=HL.o;omega
  obtain⟨ad,A1,c1,e1,hx,hcap,hin⟩:=g8 HR.o i h0 c6;cases e1;replace hx:=dH HB.o hx;have DX:=af.mk hin;have NP:=af.mk hcap;have hcall:=aim A1 c1 (aT l i) wr (Kd.aN hin HB.o) hcap;have Ho:eW (aT l i)=false→dk l=false:=fun h=>Av h0 c10 (by unfold kV;rw[h];rfl);have qn:nH l i=false→dk l=false:=fun h=>Av h0 c10 (by unfold kV;rw[h,Bool.false_and,Bool.and_false]);have VW:=af.mk qn;clear hin hcap qn;obtain⟨L,hL⟩:∃L,aT l i=L:=⟨_,rfl⟩;have xo:=af.mk hL;rw[hL] at hcall hx DX NP Ho;clear hL;by_cases hlf:eW L=true
  case neg=>
   have hlf:=Bool.eq_false_iff.2 hlf;have E:=af.mk (Ho hlf);rw[hlf] at hcall;have HC:=af.mk hcall;clear hcall Ho hlf;go_wp2_with (go_at_call 210;refine HC.o.mono ?_;rintro e w' ⟨rfl,⟨nd,rfl⟩⟩)
   go_ret;exact⟨by rw[E.o];rfl,bb HB.o _⟩
  case pos=>
  rw[hlf] at hcall;have HC:=af.mk hcall;have DY:=af.mk hlf;clear hcall Ho hlf;go_upto_region 7 with(fail)
  go_cut [35] (fun v35 wc=>v35=.bool (!nH l i)∧af (aG wr wc))
  case first=>
   by_cases ci:i=0
   ·subst ci;go_wp2_with (go_at_call 210;refine HC.o.mono ?_;rintro e w' ⟨rfl,⟨nd,rfl⟩⟩)
    go_meet;case rel=>exact⟨rfl,⟨⟨_,rfl⟩⟩⟩
   ·have hpos:decide (0<i)=true:=ap ae;have zw:IntKind.i64.wrap (i - 1)=i - 1:=by rw[IntKind.wrap_i64];omega
    have i1:(0:Int)≤i - 1:=ae;have i2:i - 1<(l.length:Int):=ae;obtain⟨ad2,A2,c2,e1,hx2,NQ,NR⟩:=g8 HR.o (i - 1) i1 i2;cases e1;have DT:=(DF (HA.o (i - 1) i1 ae)).1;have ho:nH l i=dR (aT l (i - 1)) L:=by unfold nH;rw[aD (by omega:¬i≤0),xo.o];rfl
    obtain⟨P,hP⟩:∃P,aT l (i - 1)=P:=⟨_,rfl⟩;rw[hP] at hx2 NQ NR DT ho;replace hx2:=dH HB.o hx2;rw[show(i - 1).toNat=i.toNat - 1 by omega] at hx2;have i3:(1:Int)≤i:=ae;have i4:i<(l.length:Int)+1:=ae;have iB:=af.mk (fun n=>VT A2 c2 P A1 c1 L (ke DT).1 (ke DY.o).1 (wr.drewN n) (Kd.e8 (Kd.aN NR HB.o) n) NQ (Kd.e8 (Kd.aN DX.o HB.o) n) NP.o);have hge:=Vl (a:=P) (b:=L);obtain⟨c,hc⟩:∃c,s7 P L=c:=⟨_,rfl⟩;rw[hc] at iB hge;have aip:decide (0≤c)=!dR P L:=hge;obtain⟨o,VX⟩:∃o,dR P L=o:=⟨_,rfl⟩;rw[VX] at hge aip ho;have HOE:=af.mk ho;clear hP NR DT ho hc VX NQ ci;go_wp2_with (first|(go_at_call 210;refine HC.o.mono ?_;rintro e w' ⟨rfl,⟨nd,rfl⟩⟩)|(go_at_call 145;refine(iB.o _).mono ?_;rintro e w' ⟨rfl,⟨Gu,rfl⟩⟩))
    go_meet;case rel=>(rw[HOE.o];exact⟨rfl,⟨⟨_,by first|exact World.drewN_drewN ..|rfl⟩⟩⟩)
  case rest=>
   clear HC hx;obtain⟨rfl,HD⟩:=hcut;have zF:=af.mk (HB.o.trans (HD.o.below.mono HB.o.size));have VY:=af.mk (HS.o.below HD.o.below);clear HD HS HB;by_cases qn:nH l i=true
   case neg=>
    have qn:=Bool.eq_false_iff.2 qn;have E:=af.mk (VW.o qn);rw[qn];clear qn;go_wp2;go_ret;exact⟨by rw[E.o];rfl,zF.o⟩
   case pos=>
   have HO:=af.mk qn;have DZ:=af.mk (ke DY.o).1;rw[qn];clear qn VW;go_wp2;go_loopg [38] 9 (fun kq M7 w'=> ∃k:Int,M7=.int .i64 k∧af (0≤k∧k≤9)∧af ((9:Int) - k≤kq)∧af (∀j:Int,0≤j→j<k→(decide (rd L j≤0)||!gC l i (rd L j))=true)∧af (fX w' w.heap.size 144 81 (fun p=>gC l i (p:Int)||decide ((p:Int)∈L.take k.toNat)))∧af (Below w.heap.size w w'))
   case atStart=>exact⟨0,rfl,⟨ae⟩,⟨ae⟩,⟨fun x h0 h1=>ae⟩,⟨VY.o.congr (fun j hj=>by simp)⟩,zF⟩
   case round=>
    clear VY zF;obtain⟨k,rfl,KI,KK,KA,KS,KB⟩:=hrel;have k0:0≤k:=KI.o.1;by_cases c9:k<(L.length:Int)
    case neg=>
     have hk:k=9:=by have:=KI.o;have:=DZ.o;omega
     have hfr:lT l i=true:=ain (by rw[xo.o];exact DZ.o) fun j j0 j1=>by rw[xo.o];exact KA.o j j0 ae
     have HOK:=af.mk (show kV l i=true by unfold kV;rw[xo.o,DY.o,HO.o,hfr];rfl);have HTK:=af.mk (show L.take k.toNat=L from List.take_of_length_le (by have:=DZ.o;omega));have zw:IntKind.i64.wrap (i+1)=i+1:=by rw[IntKind.wrap_i64];omega
     clear hfr hk;go_wp2;go_roundg (10 - (i.toNat+1))
     case measure=>have:=HK.o;omega
     case rel=>
      refine⟨i+1,rfl,⟨ae⟩,⟨ae⟩,⟨fun j j0 j1=>?_⟩,⟨KS.o.congr fun j hj=>?_⟩,KB⟩
      ·by_cases e:j=i
       ·rw[e];exact HOK.o
       ·exact HA.o j j0 ae
      ·rw[Vr l h0,xo.o,HTK.o]
    case pos=>
    have k9:k<9:=by have:=DZ.o;omega
    obtain⟨a1,e1,g1⟩:=Kd.ck (Kd.aN DX.o KB.o) k k0 c9;subst e1;obtain⟨p0,p1⟩:=Nf DY.o k0 k9;have hnt:=Vq DY.o k0 k9
    have hkey:(gC l i ((rd L k).toNat:Int)||decide (((rd L k).toNat:Int)∈L.take k.toNat))=gC l i (rd L k):=by
     rw[Int.toNat_of_nonneg p0,aD hnt,Bool.or_false]
    have hcl:=KS.o.cell (rd L k).toNat ae;rw[hkey] at hcl;have hf:=KS.o.frozen (rd L k).toNat
    have hhit:(decide (rd L k≤0)||!gC l i (rd L k))=false→dk l=false:=fun h=>Av h0 c10 (by
     unfold kV;rw[aio (by rw[xo.o];exact DZ.o) k0 k9 (by rw[xo.o];exact h),Bool.and_false,Bool.and_false])
    have VZ:=af.mk hhit;have NS:=af.mk (KS.o.set (rd L k).toNat true);have NT:=af.mk (KB.o.setCell (p:=⟨w.heap.size,(rd L k).toNat,none⟩) (aH _) (.bool true))
    have NU:=af.mk (show ∀j:Nat,(if j=(rd L k).toNat then true else(gC l i (j:Int)||decide ((j:Int)∈L.take k.toNat)))=(gC l i (j:Int)||decide ((j:Int)∈L.take (k+1).toNat)) from fun j=>by
     rw[show(k+1).toNat=k.toNat+1 by omega,List.take_add_one,List.getElem?_eq_getElem ae,Option.toList_some];have e2:L[k.toNat]'ae=rd L k:=(oS k0 c9).symm;rw[e2];by_cases e:j=(rd L k).toNat
     ·rw[ah e];have:(j:Int)∈L.take k.toNat++[rd L k]:=by rw[List.mem_append];right;rw[List.mem_singleton];omega
      rw[ap this,Bool.or_true]
     ·rw[ag e]
      congr 1
      refine decide_eq_decide.2 ?_;rw[List.mem_append,List.mem_singleton];exact⟨fun h=>.inl h,fun h=>h.elim id fun h=>absurd h ae⟩)
    clear hhit hkey hnt;obtain⟨p,hp⟩:∃p,rd L k=p:=⟨_,rfl⟩;rw[hp] at g1 p0 p1 hcl hf VZ NS NT NU;have HP:=af.mk hp;have zw:IntKind.i64.wrap (k+1)=k+1:=by rw[IntKind.wrap_i64];omega
    have p81:p<81:=p1;clear hp;by_cases V0:0<p
    case neg=>
     have d0:decide (0<p)=false:=aD V0;go_wp2;go_roundg (9 - (k.toNat+1))
     case measure=>have:=KK.o;omega
     case rel=>
      refine⟨k+1,rfl,⟨ae⟩,⟨ae⟩,⟨fun j j0 j1=>?_⟩,⟨NS.o.congr fun j hj=>NU.o j⟩,NT⟩;by_cases e:j=k
      ·rw[e,HP.o,ap (by omega:p≤0)];rfl
      ·exact KA.o j j0 ae
    case pos=>
     have d0:decide (0<p)=true:=ap V0;by_cases hs:gC l i p=true
     case pos=>
      rw[hs] at hcl;have E:=af.mk (VZ.o (by rw[hs,aD (by omega:¬p≤0)];rfl));clear hs;go_wp2;go_ret;exact⟨by rw[E.o];rfl,KB.o⟩
     case neg=>
      have hs:=Bool.eq_false_iff.2 hs;rw[hs] at hcl;have HF:=af.mk hs;clear hs;go_wp2;go_roundg (9 - (k.toNat+1))
      case measure=>have:=KK.o;omega
      case rel=>
       refine⟨k+1,rfl,⟨ae⟩,⟨ae⟩,⟨fun j j0 j1=>?_⟩,⟨NS.o.congr fun j hj=>NU.o j⟩,NT⟩;by_cases e:j=k
       ·rw[e,HP.o,HF.o,Bool.not_false,Bool.or_true]
       ·exact KA.o j j0 ae
theorem aiq(w:World):Calls Tryz.prog 226 #[.int .u64 10] w fun e w'=>e=.returned (.int .i64 4)∧aG w w':=by
 go_enter Tryz.func226,Tryz.ntmps226;go_wp2;go_ret;exact⟨by kernel_rfl,aG.refl _⟩
theorem air(w:World):Calls Tryz.prog 208 #[.int .u64 10] w fun e w'=>e=.returned (.int .i64 4)∧aG w w':=by
 go_enter Tryz.func208,Tryz.ntmps208;go_wp2_with (go_at_call 226;refine(aiq _).mono ?_;rintro e w' ⟨rfl,⟨nd,rfl⟩⟩)
 go_ret;exact⟨rfl,by repeat(first|exact aG.refl _|apply aG.step)⟩
theorem ais(lt:HH→HH→Bool)(k:Nat)(aI:Nat→Prop)(A0:Option Addr)(c0:Nat)(l0:List HH)(r:List HH)(w0 w:World)(hB:Below w0.heap.size w0 w)(ho0:Kd.R mM 31 w w0.heap.size aI (.slice A0 10 c0) l0)(rC:MR lt aI l0 w0 w)
  (h:lG lt k l0 0 10 (wrap64 (0+1))=some r):
  Calls Tryz.prog 144 #[.slice A0 10 c0,.func (.func 145) #[] #[]] w fun e w'=>e=.returned (.tuple #[])∧Kd.R mM 31 w' w0.heap.size (fun k_=>(aI k_∨w.heap.size≤k_)) (.slice A0 10 c0) r∧Below w0.heap.size w0 w'∧Kept w w' (fun k_=>aI k_):=by
 have HS:=af.mk (fun(a3:Int) (w1:World) (hB:Below w0.heap.size w0 w1) (ho0:Kd.R mM 31 w1 w0.heap.size aI (.slice A0 10 c0) l0) (rC:MR lt aI l0 w0 w1)=>ag8 lt k aI (.slice A0 10 c0) l0 0 10 a3 r w0 w1 hB ho0 rC ae ae ae ae h);have HO:=af.mk ho0;have HB:=af.mk hB;have HC:=af.mk rC;clear hB ho0 h rC;go_enter Tryz.func144,Tryz.ntmps144;go_wp2_with (first|(go_at_call 208;refine(air _).mono ?_;rintro e w' ⟨rfl,⟨nd,rfl⟩⟩)|(go_at_call 207;refine(HS.o 4 _ ?s1 ?s2 ?s3).mono ?_;(case s1=>exact bb HB.o _);(case s2=>exact Kd.iy HO.o _);(case s3=>exact HC.o);rintro e w' ⟨rfl,hr',hb',hk'⟩))
 first|go_end0|((try simp only[Exit.inBlock,Exit.then]);refine bodyPost_ret (results_none rfl _ _ _) rfl ?_)
 exact⟨rfl,hr',hb',hk'⟩
abbrev LK:Kd (List Int):=Kd.slice 3 (Kd.int .i64)
def toH:List Value→HH
 |[.slice A _ c]=>(A,c)
 |_=>(none,0)
theorem ait{w:World}{A:Option Addr}{x y:List Int}(hx:(Kd.int .i64).C w A x.length x)(hy:(Kd.int .i64).C w A y.length y)(h:x.length=y.length):x=y:=by
 refine Gq h fun i hi=>?_;obtain⟨ad,e1,h1⟩:=iI.at_ (Kd.tG (enc:=Value.int .i64) (d:=(0:Int)) (h1:=fun _=>rfl) hx) (i:Int) ae ae;obtain⟨kp,e2,h2⟩:=iI.at_ (Kd.tG (enc:=Value.int .i64) (d:=(0:Int)) (h1:=fun _=>rfl) hy) (i:Int) ae ae;rw[e1] at e2;injection e2 with e2
 subst e2;rw[h1] at h2;injection h2 with h2
 injection h2 with _ h2
theorem Hp{w:World}{ok:Nat→Prop}{x:List Int}{a:HH}(h:Kd.FK LK w ok x [fO a])(h9:x.length=9):x.length≤a.2∧(Kd.int .i64).C w a.1 x.length x:=by
 obtain⟨A,c',e,h1,h2⟩:=Kd.pJ h;injection e with e
 injection e with e1 e2 e3
 subst e1;subst e3;exact⟨h1,h2⟩
open Classical in
noncomputable def nJ (xs:List (List Int)) (hs:List HH) (h:HH):List Int:=if hh:∃x,∃j:Nat,xs[j]?=some x∧hs[j]?=some h then Classical.choose hh else[]
theorem aiu(xs:List (List Int))(hs:List HH)(h10:xs.length=10)(AE:hs.length=10)(h9:∀x∈xs,x.length=9)(hn:xs.Nodup)(A0:Option Addr)(c0:Nat)(w0 w:World)(ok:Nat→Prop)(hB:Below w0.heap.size w0 w)(hH:Kd.R mM 31 w w0.heap.size (fun k=>some k=(Value.slice A0 10 c0).ownBlock) (.slice A0 10 c0) hs)
  (D7:∀(j:Nat) (x:List Int) (a:HH),xs[j]?=some x→hs[j]?=some a→Kd.FK LK w (fun k=>ok k∧some k≠(Value.slice A0 10 c0).ownBlock) x [fO a]):
  Calls Tryz.prog 144 #[.slice A0 10 c0,.func (.func 145) #[] #[]] w fun e w'=>e=.returned (.tuple #[])∧∃(val:HH→List Int) (rh:List HH),(∀(j:Nat) (x:List Int) (a:HH),xs[j]?=some x→hs[j]?=some a→val a=x)∧DW val hs rh∧Kd.R mM 31 w' w0.heap.size (fun k=>some k=(Value.slice A0 10 c0).ownBlock∨w.heap.size≤k) (.slice A0 10 c0) rh∧Below w0.heap.size w0 w'∧Kept w w' (fun k=>some k=(Value.slice A0 10 c0).ownBlock):=by
 have hval:∀(j:Nat) (x:List Int) (a:HH),xs[j]?=some x→hs[j]?=some a→nJ xs hs a=x:=fun j x a hx ha=>by
  have hh:∃x,∃j:Nat,xs[j]?=some x∧hs[j]?=some a:=⟨x,j,hx,ha⟩;unfold nJ;rw[dif_pos hh];obtain⟨j',h1,h2⟩:=Classical.choose_spec hh;have a1:=Hp (D7 j' _ a h1 h2) (h9 _ (List.mem_of_getElem? h1));have a2:=Hp (D7 j _ a hx ha) (h9 _ (List.mem_of_getElem? hx));exact ait a1.2 a2.2 ((h9 _ (List.mem_of_getElem? h1)).trans (h9 _ (List.mem_of_getElem? hx)).symm)
 have Hq:∀a∈hs,(nJ xs hs a).length=9∧Kd.FK LK w (fun k=>ok k∧some k≠(Value.slice A0 10 c0).ownBlock) (nJ xs hs a) [fO a]:=fun a ha=>by
  obtain⟨j,hj,e⟩:=List.mem_iff_getElem.1 ha;have hx:j<xs.length:=ae;have e1:xs[j]?=some xs[j]:=List.getElem?_eq_getElem hx;have e2:hs[j]?=some a:=by rw[List.getElem?_eq_getElem hj,e]
  rw[hval j _ a e1 e2];exact⟨h9 _ (List.getElem_mem hx),D7 j _ a e1 e2⟩
 have hmap:hs.map (nJ xs hs)=xs:=by
  refine List.ext_getElem (by rw[List.length_map];omega) fun j h1 h2=>?_;rw[List.length_map] at h1;rw[List.getElem_map];exact hval j _ _ (List.getElem?_eq_getElem h2) (List.getElem?_eq_getElem h1)
 obtain⟨rh,AF,hev⟩:=ail (val:=nJ xs hs) (l:=hs) (fun a ha=>(Hq a ha).1) (by rw[hmap];exact hn) ae ae;obtain⟨k,hk⟩:=hev.rounds;rw[AE] at hk;refine(ais (oy (nJ xs hs)) k (fun k=>some k=(Value.slice A0 10 c0).ownBlock) A0 c0 hs rh w0 w hB hH ?_ hk).mono ?_
 ·intro W hkp hb a b ha hb';have move:=fun(a:HH) (ha:a∈hs)=>Kd.Gf (W1:=W) (Hq a ha).2 (fun k hk hlt=>hkp.2 k hlt hk.2);have la:=(Hq a ha).1;have lb:=(Hq b hb').1;have ga:=Hp (move a ha) la;have gb:=Hp (move b hb') lb;have hc:=VT a.1 a.2 (nJ xs hs a) b.1 b.2 (nJ xs hs b) la lb W ga.2 ga.1 gb.2 gb.1;rw[la,lb] at hc;refine hc.mono ?_;rintro e w' ⟨rfl,hd⟩;refine⟨⟨_,rfl,?_⟩,hd⟩;have e:=Vl (a:=nJ xs hs a) (b:=nJ xs hs b);unfold oy;cases hl:dR (nJ xs hs a) (nJ xs hs b) with
  |true=>rw[hl] at e;have:=of_decide_eq_false e;exact ap ae
  |false=>rw[hl] at e;have:=of_decide_eq_true e;exact aD ae
 ·rintro e w' ⟨rfl,hr',hb',hk'⟩;exact⟨rfl,nJ xs hs,rh,hval,AF,hr',hb',hk'⟩
open Classical in
noncomputable def NV (rh:List HH) (k:Nat):Nat:=if h:∃j:Nat,∃a,rh[j]?=some a∧(fO a).ownBlock=some k then Classical.choose h else 0
theorem V1(xs:List (List Int))(h10:xs.length=10)(h9:∀x∈xs,x.length=9)(hn:xs.Nodup)(A0:Option Addr)(c0:Nat)(w0 w:World)(ok:Nat→Prop)(hB:Below w0.heap.size w0 w)(hS:Kd.S LK 31 w w0.heap.size ok (.slice A0 10 c0) xs):
  Calls Tryz.prog 144 #[.slice A0 10 c0,.func (.func 145) #[] #[]] w fun e w'=>e=.returned (.tuple #[])∧∃r,(r.length=10∧(∀x,x∈r↔x∈xs)∧nI r)∧Kd.S LK 31 w' w0.heap.size ok (.slice A0 10 c0) r∧Below w0.heap.size w0 w':=by
 obtain⟨f,h0,inner,ho,hr⟩:=hS;have ho:w.ownsRow w0.heap.size 31 1 (.slice A0 10 c0) xs.zipIdx.length inner:=ho;rw[List.length_zipIdx,h10] at ho;have hlen:inner.length=10:=by have:=hr.1;rw[List.length_zipIdx,h10] at this;exact this
 have hrow:∀(j:Nat) (x:List Int),xs[j]?=some x→∃v,(inner.drop (j*1)).take 1=[v]∧Kd.R (Kd.int .i64) 3 w w0.heap.size (fun k=>(ok k∧some k≠(Value.slice A0 10 c0).ownBlock)∧f k=j) v x:=fun j x hx=>hr.2 j (x,j) (Kd.R7 hx);obtain⟨hs,V2⟩:∃hs,((List.range 10).map fun j=>toH ((inner.drop (j*1)).take 1))=hs:=⟨_,rfl⟩;have AE:hs.length=10:=by rw[←V2];simp
 have hat:∀(j:Nat) (x:List Int) (a:HH),xs[j]?=some x→hs[j]?=some a→(inner.drop (j*1)).take 1=[fO a]∧Kd.R (Kd.int .i64) 3 w w0.heap.size (fun k=>(ok k∧some k≠(Value.slice A0 10 c0).ownBlock)∧f k=j) (fO a) x:=fun j x a hx ha=>by
  obtain⟨v,e,hR⟩:=hrow j x hx;obtain⟨A,c,ev⟩:=Kd.bJ hR;rw[h9 x (List.mem_of_getElem? hx)] at ev;subst ev;have hj:j<10:=by have:=(List.getElem?_eq_some_iff.1 hx).1;omega
  rw[←V2,List.getElem?_map,List.getElem?_range hj,Option.map_some,e] at ha;obtain rfl:=au ha;exact⟨e,hR⟩
 have hxs:∀(j:Nat) (a:HH),hs[j]?=some a→∃x,xs[j]?=some x:=fun j a ha=>by
  have hj:=(List.getElem?_eq_some_iff.1 ha).1;exact⟨_,List.getElem?_eq_getElem ae⟩
 have hH:Kd.R mM 31 w w0.heap.size (fun k=>some k=(Value.slice A0 10 c0).ownBlock) (.slice A0 10 c0) hs:=by
  refine⟨fun k hk=>hk.symm,inner,by rw[AE];exact ho,⟨by rw[AE];exact hlen,fun j a ha=>?_⟩⟩;obtain⟨x,hx⟩:=hxs j a ha;exact(hat j x a hx ha).1
 have D7:∀(j:Nat) (x:List Int) (a:HH),xs[j]?=some x→hs[j]?=some a→Kd.FK LK w (fun k=>ok k∧some k≠(Value.slice A0 10 c0).ownBlock) x [fO a]:=fun j x a hx ha=>by
  have hR:=Kd.dq (ok':=fun k=>ok k∧some k≠(Value.slice A0 10 c0).ownBlock) (hat j x a hx ha).2 (fun k hk=>hk.1);have l9:=h9 x (List.mem_of_getElem? hx);exact Kd.Sq (base:=w0.heap.size) (show LK.M w w0.heap.size _ x [fO a] from⟨_,rfl,hR⟩)
 refine(aiu xs hs h10 AE h9 hn A0 c0 w0 w ok hB hH D7).mono ?_;rintro e w' ⟨rfl,val,rh,hval,AF,hr',hb',hk'⟩;have hmem:∀a,a∈rh↔a∈hs:=AF.2.1
 have hmap:hs.map val=xs:=by
  refine List.ext_getElem (by rw[List.length_map];omega) fun j h1 h2=>?_;rw[List.length_map] at h1;rw[List.getElem_map];exact hval j _ _ (List.getElem?_eq_getElem h2) (List.getElem?_eq_getElem h1)
 have hnd:rh.Nodup:=AF.2.2.imp fun {a b} h e=>by rw[e] at h;exact DU h h
 have hhd:∀a∈rh,∃j:Nat,hs[j]?=some a∧xs[j]?=some (val a):=fun a ha=>by
  obtain⟨j,hj,e⟩:=List.mem_iff_getElem.1 ((hmem a).1 ha);have e2:hs[j]?=some a:=by rw[List.getElem?_eq_getElem hj,e]
  obtain⟨x,hx⟩:=hxs j a e2;exact⟨j,e2,by rw[hval j x a hx e2];exact hx⟩
 have hown:∀(j:Nat) (a:HH) (k:Nat),rh[j]?=some a→(fO a).ownBlock=some k→NV rh k=j:=fun j a k ha hk=>by
  have hh:∃j:Nat,∃a,rh[j]?=some a∧(fO a).ownBlock=some k:=⟨j,a,ha,hk⟩;unfold NV;rw[dif_pos hh];obtain⟨b,hb,zC⟩:=Classical.choose_spec hh;obtain⟨j1,s1,x1⟩:=hhd a (List.mem_of_getElem? ha);obtain⟨j2,s2,x2⟩:=hhd b (List.mem_of_getElem? hb);have f1:f k=j1:=((hat j1 _ a x1 s1).2.1 k hk).2;have f2:f k=j2:=((hat j2 _ b x2 s2).2.1 k zC).2;have e:j1=j2:=f1.symm.trans f2;subst e;rw[s1] at s2;obtain rfl:=au s2;obtain⟨g1,e1⟩:=List.getElem?_eq_some_iff.1 ha;obtain⟨g2,e2⟩:=List.getElem?_eq_some_iff.1 hb;exact(List.getElem_inj hnd).1 (e2.trans e1.symm)
 obtain⟨_,aiv,ho',V3⟩:=hr';refine⟨rfl,rh.map val,⟨by rw[List.length_map,AF.1,AE],fun x=>?_,?_⟩,⟨NV rh,h0,aiv,by rw[List.length_zipIdx,List.length_map];exact ho',⟨by rw[List.length_zipIdx,List.length_map];exact V3.1,fun j p hp=>?_⟩⟩,hb'⟩
 ·rw[List.mem_map]
  constructor
  ·rintro⟨a,ha,rfl⟩;have:val a∈hs.map val:=List.mem_map.2 ⟨a,(hmem a).1 ha,rfl⟩
   rwa [hmap] at this
  ·intro hx;have hx:x∈hs.map val:=by rw[hmap];exact hx
   rw[List.mem_map] at hx;obtain⟨a,ha,e⟩:=hx;exact⟨a,(hmem a).2 ha,e⟩
 ·unfold nI;rw[List.pairwise_map];exact AF.2.2
 ·rw[List.getElem?_zipIdx,Nat.zero_add,List.getElem?_map] at hp;obtain⟨x,hx,rfl⟩:=Option.map_eq_some_iff.1 hp;obtain⟨a,ha,rfl⟩:=Option.map_eq_some_iff.1 hx;obtain⟨j1,s1,x1⟩:=hhd a (List.mem_of_getElem? ha);have hR:=(hat j1 _ a x1 s1).2;have s9:=Kd.yV (w1:=w') hR (fun k hk hlt=>hk'.2 k hlt hk.1.2);refine⟨fO a,V3.2 j a ha,Kd.SA rfl s9 (fun k hk=>⟨(hR.1 k hk).1,hown j a k ha hk⟩)⟩
def tn(s:List Int):Prop:=s.length≤2000∧∀x∈s,0≤x∧x≤255
theorem W4{x:Int}(h:(Lit.int .u8 x).wf=true):0≤x∧x≤255:=by
 simp[Lit.wf,IntKind.min,IntKind.max,IntKind.signed,IntKind.bits] at h;omega
theorem ajK(l:List Int)(h:∀x∈l,(Lit.int .u8 x).wf=true):∃s,tn s∧xA.f l=some (s,0):=by
 unfold xA.f;by_cases hl:(l.length:Int)>2000
 ·rw[ah hl,ah ae];exact⟨_,⟨by rw[List.length_take];omega,fun x hx=>W4 (h x (List.mem_of_mem_take hx))⟩,rfl⟩
 ·rw[ag hl];exact⟨_,⟨ae,fun x hx=>W4 (h x hx)⟩,rfl⟩
theorem ajL{a b:Int}(h0:0≤a)(h1:a<9223372036854775808)(h2:0≤b)(h3:b<9223372036854775808):0≤Go.bits .xor .i64 a b:=by
 obtain⟨x,rfl⟩:=Int.eq_ofNat_of_zero_le h0;obtain⟨y,rfl⟩:=Int.eq_ofNat_of_zero_le h2;have hx:x ^^^ y<2 ^ 63:=Nat.xor_lt_two_pow ae ae
 have e1:(BitVec.ofInt 64 (x:Int)).toNat=x:=by
  rw[BitVec.ofInt_natCast,BitVec.toNat_ofNat];exact Nat.mod_eq_of_lt ae
 have e2:(BitVec.ofInt 64 (y:Int)).toNat=y:=by
  rw[BitVec.ofInt_natCast,BitVec.toNat_ofNat];exact Nat.mod_eq_of_lt ae
 have e:Go.bits .xor .i64 (x:Int) (y:Int)=IntKind.i64.wrap ((BitVec.ofInt 64 (x:Int) ^^^ BitVec.ofInt 64 (y:Int)).toNat:Int):=rfl;rw[e,BitVec.toNat_xor,e1,e2];generalize x ^^^ y=z at hx;simp[IntKind.wrap,IntKind.bits,IntKind.signed];omega
theorem W5{a n:Int}(h:0≤a)(hn:1≤n):0≤Int.tmod a n∧Int.tmod a n<n:=by
 rw[vX h];exact⟨Int.emod_nonneg _ ae,Int.emod_lt_of_pos _ ae⟩
theorem Iw{s:List Int}(hs:tn s){i:Int}(h0:0≤i)(h1:i<s.length):0≤rd s i∧rd s i≤255:=hs.2 _ (iK h1 h0)
theorem ajM(s:List Int)(hs:tn s)(p:Int)(h0:0≤p)(h1:p≤1099511627776)(n:Int)(n0:1≤n)(n1:n≤1000000):
  ∃v,(0≤v∧v<n)∧Ev (fun k=>f7.j0 k n ((s.length:Int)==0) s (p+1)) (v,p+1):=by
 have hl:=hs.1;by_cases e:s.length=0
 ·refine⟨0,ae,?_⟩;refine Ev.step (fun k=>by rw[f7.j0]) ?_;refine Ev.pos (by rw[e];rfl) (Ev.done rfl)
 have ez:wrap64 (p+1 - 1)=p:=by rw[bI ae ae];omega
 have er:∀i:Int,0≤i→i<s.length→wrap64 (rd s i)=rd s i:=fun i i0 i1=>by
  have:=Iw hs i0 i1;exact bI ae ae
 by_cases hp:p<s.length
 ·obtain⟨b0,b1⟩:=Iw hs h0 hp;refine⟨Int.tmod (rd s p) n,W5 b0 n0,?_⟩;refine Ev.step (fun k=>by rw[f7.j0]) ?_;rw[ez];refine Ev.neg (by simp;intro hh;apply e;simp[hh]) (Ev.pos hp (Ev.pos h0 (Ev.neg ae ?_)));rw[er p h0 hp];exact Ev.done rfl
 ·have hL:(1:Int)≤s.length:=ae;have ha:0≤p%(s.length:Int)∧p%(s.length:Int)<s.length:=⟨Int.emod_nonneg _ ae,Int.emod_lt_of_pos _ ae⟩;have hb:0≤(p*7+3)%(s.length:Int)∧(p*7+3)%(s.length:Int)<s.length:=⟨Int.emod_nonneg _ ae,Int.emod_lt_of_pos _ ae⟩;have hd:0≤p / (s.length:Int)∧p / (s.length:Int)≤p:=⟨Int.ediv_nonneg h0 ae,Int.ediv_le_self _ h0⟩;obtain⟨a0,a1⟩:=Iw hs ha.1 ha.2;obtain⟨b0,b1⟩:=Iw hs hb.1 hb.2;have ea:=er _ ha.1 ha.2;have eb:=er _ hb.1 hb.2;have e7:wrap64 (wrap64 (p*7)+3)=p*7+3:=by rw[bI (x:=p*7) ae ae,bI ae ae]
  have em:Int.tmod p (s.length:Int)=p%(s.length:Int):=vX h0;have en:Int.tmod (p*7+3) (s.length:Int)=(p*7+3)%(s.length:Int):=vX ae;have ed:Int.tdiv p (s.length:Int)=p / (s.length:Int):=pO h0;generalize hA:rd s (p%(s.length:Int))=A at*;generalize hB:rd s ((p*7+3)%(s.length:Int))=B at*;generalize hD:p / (s.length:Int)=D at*
  have eX:wrap64 (wrap64 (wrap64 (wrap64 (A*131)+wrap64 (B*1117))+wrap64 (p*29))+wrap64 (wrap64 D*53))=A*131+B*1117+p*29+D*53:=by
   rw[bI (x:=A*131) ae ae,bI (x:=B*1117) ae ae,bI (x:=A*131+B*1117) ae ae,bI (x:=p*29) ae ae,bI (x:=D) ae ae,bI (x:=D*53) ae ae,bI (x:=A*131+B*1117+p*29) ae ae,bI ae ae]
  have W6:0≤A*131+B*1117+p*29+D*53:=ae;have hX1:A*131+B*1117+p*29+D*53≤9223372036854775807:=ae;generalize A*131+B*1117+p*29+D*53=X at*;have eY:wrap64 (Int.tdiv X 64)=X / 64:=by rw[pO W6];exact bI ae ae
  refine⟨Int.tmod (Go.bits .xor .i64 X (X / 64)) n,W5 (ajL W6 ae ae ae) n0,?_⟩;refine Ev.step (fun k=>by rw[f7.j0]) ?_;rw[ez];refine Ev.neg (by simp;intro hh;apply e;simp[hh]) (Ev.neg hp (Ev.neg ae ?_));rw[e7,em,en,ed,hA,hB,ea,eb,eX,eY];exact Ev.pos ha.1 (Ev.pos ha.2 (Ev.pos hb.1 (Ev.pos hb.2 (Ev.neg ae (Ev.done rfl)))))
theorem OT{s:List Int}(hs:tn s){p:Int}(h0:0≤p)(h1:p≤1099511627776){n:Int}(n0:1≤n)(n1:n≤1000000):
  ∃v,(0≤v∧v<n)∧Ev (fun k=>f7.f k s p n) (v,p+1):=by
 obtain⟨v,hv,he⟩:=ajM s hs p h0 h1 n n0 n1;refine⟨v,hv,?_⟩;unfold f7.f;rw[bI ae ae];exact Ev.neg ae he
def dS(c:Int):List Int:=(eQ.f 300 c).getD []
theorem five{P:Int→Prop}(h:∀i:Fin 5,P (i.val:Int))(a:Int)(h0:0≤a)(h1:a<5):P a:=by
 have:=h ⟨a.toNat,ae⟩
 simpa [Int.toNat_of_nonneg h0] using this
theorem ajN:∀i:Fin 5,eQ.f 300 (i.val:Int)=some (dS (i.val:Int)):=by decide+kernel
theorem ajO:∀i:Fin 5,b9 (dS (i.val:Int)) 81=true:=by decide+kernel
theorem W7(c:Int)(h0:0≤c)(h1:c<5):Ev (fun k=>eQ.f k c) (dS c):=
 Ev.of (fun k=>eQ.mono c k) (five (P:=fun c=>eQ.f 300 c=some (dS c)) ajN c h0 h1)
theorem W8(c:Int)(h0:0≤c)(h1:c<5):b9 (dS c) 81=true:=five (P:=fun c=>b9 (dS c) 81=true) ajO c h0 h1
def W9(t:List Int):Prop:=∃c:Int,0≤c∧c<5∧(t=dS c∨(∃i v:Int,0≤i∧i<81∧0≤v∧v<9∧t=(dS c).set i.toNat v)∨t=(dS c).take 80)
theorem W9.len{t:List Int}(h:W9 t):t.length≤81:=by
 obtain⟨c,c0,c1,h⟩:=h;have hl:=(hG.1 (W8 c c0 c1)).1;rcases h with rfl|⟨i,v,_,_,_,_,rfl⟩|rfl
 ·omega
 ·rw[List.length_set];omega
 ·rw[List.length_take];omega
def Xu(g:Nat)(lb:Array Value)(w:World)(D:List Int→Prop)(p:List Int→Bool):Prop:=
 ∀(W:World) (A:Option Addr) (c:Nat) (x:List Int),Below w.heap.size w W→D x→Kd.C (Kd.int .i64) W A x.length x→x.length≤c→Calls Tryz.prog g (#[.slice A x.length c]++lb) W fun e W'=>e=.returned (.bool (p x))∧Below W.heap.size W W'
def xG(p:List Int→Bool)(l:List (List Int)):Int:=match l.findIdx? p with|some i=>i|none=> -1
theorem O4{l:List (List Int)}{j:Nat}(h:j<l.length):aT l (j:Int)=l[j]:=by
 unfold aT;rw[List.getD_eq_getElem?_getD];simp[h]
theorem akv{p:List Int→Bool}{l:List (List Int)}(h:∀j:Nat,(j:Int)<l.length→p (aT l j)=false):xG p l= -1:=by
 have:l.findIdx? p=none:=by
  rw[List.findIdx?_eq_none_iff];intro x hx;obtain⟨j,hj,rfl⟩:=List.mem_iff_getElem.1 hx;have:=h j ae
  rwa [O4 hj] at this
 unfold xG;rw[this]
theorem akw{p:List Int→Bool}{l:List (List Int)}(i:Int)(h0:0≤i)(h1:i<l.length)(hp:p (aT l i)=true)(h:∀j:Nat,(j:Int)<i→p (aT l j)=false):xG p l=i:=by
 have:l.findIdx? p=some i.toNat:=by
  rw[List.findIdx?_eq_some_iff_getElem];refine⟨ae,?_,?_⟩
  ·rw[←O4 ae,Int.toNat_of_nonneg h0];exact hp
  ·intro j hj;have:=h j ae;rw[O4 ae] at this;rw[this];decide
 unfold xG;rw[this];show((i.toNat:Nat):Int)=i;omega
theorem akx(p:List Int→Bool)(l:List (List Int)):decide (0≤xG p l)=l.any p:=by
 unfold xG;cases h:l.findIdx? p with
 |none=>
  rw[List.findIdx?_eq_none_iff] at h;have:l.any p=false:=by rw[List.any_eq_false];intro x hx;simp[h x hx]
  rw[this];rfl
 |some i=>
  obtain⟨hi,hp,_⟩:=List.findIdx?_eq_some_iff_getElem.1 h;have:l.any p=true:=List.any_eq_true.2 ⟨_,List.getElem_mem hi,hp⟩;rw[this];simp
theorem aky{l:List (List Int)}{i:Int}(h1:i<l.length)(h0:0≤i):aT l i∈l:=by
 unfold aT;rw[List.getD_eq_getElem?_getD,List.getElem?_eq_getElem ae];exact List.getElem_mem _
theorem akz(g:Nat)(lb:Array Value)(eg:Eg g)(p:List Int→Bool)(A0:Option Addr)(c0:Nat)(l:List (List Int))(w:World)(hr:Kd.C (Kd.slice 3 (Kd.int .i64)) w A0 l.length l)(hp:Xu g lb w (fun x=>x∈l) p):
  Calls Tryz.prog 255 #[.slice A0 l.length c0,.func (.func g) #[] lb] w fun e w'=>e=.returned (.int .i64 (xG p l))∧Below w.heap.size w w':=by
 have aj:=af.mk hr;have HP:=af.mk hp;have hm:l.length≤9223372036854775807:=hr.2.1;clear hr hp;unfold Eg at eg;go_enter Tryz.func255,Tryz.ntmps255;go_wp2;go_loopg [8] l.length (fun kq v8 w'=> ∃i:Int,v8=.int .i64 i∧af (0≤i∧i≤l.length)∧af ((l.length:Int) - i≤kq)∧af (∀j:Nat,(j:Int)<i→p (aT l j)=false)∧af (Below w.heap.size w w'))
 case atStart=>exact⟨0,rfl,⟨ae⟩,⟨ae⟩,⟨fun j hj=>ae⟩,⟨Below.refl _ _⟩⟩
 case round=>
  obtain⟨i,rfl,HI,HK,HA,HB⟩:=hrel;have h0:0≤i:=HI.o.1;by_cases c6:i<(l.length:Int)
  ·obtain⟨ad,A1,c1,e1,hx,hcap,hin⟩:=g8 aj.o i h0 c6;cases e1;replace hx:=dH HB.o hx;have hcall:=HP.o wr A1 c1 (aT l i) HB.o (aky c6 h0) (Kd.aN hin HB.o) hcap;clear hin hcap;by_cases hv:p (aT l i)=true
   ·rw[hv] at hcall;have HV:=af.mk hv;have HC:=af.mk hcall;clear hcall hv;go_wp2_with (go_at_fn g;refine HC.o.mono ?_;rintro e w' ⟨rfl,hb'⟩)
    go_ret;exact⟨by rw[akw i h0 c6 HV.o HA.o];rfl,aU HB.o hb'⟩
   ·have hv:=Bool.eq_false_iff.2 hv;rw[hv] at hcall;have HV:=af.mk hv;have HC:=af.mk hcall;clear hcall hv;go_wp2_with (go_at_fn g;refine HC.o.mono ?_;rintro e w' ⟨rfl,hb'⟩)
    go_roundg (l.length - (i.toNat+1))
    case measure=>have:=HK.o;omega
    case rel=>
     refine⟨i+1,rfl,⟨ae⟩,⟨ae⟩,⟨fun j hj=>?_⟩,⟨aU HB.o hb'⟩⟩;by_cases e:(j:Int)=i
     ·rw[e];exact HV.o
     ·exact HA.o j ae
  ·go_wp2;go_ret;have hi:i=l.length:=by have:=HI.o;omega
   exact⟨by rw[akv (fun j hj=>HA.o j ae)];rfl,HB.o⟩
theorem akA(g:Nat)(lb:Array Value)(eg:Eg g)(p:List Int→Bool)(A0:Option Addr)(c0:Nat)(l:List (List Int))(w:World)(hr:Kd.C (Kd.slice 3 (Kd.int .i64)) w A0 l.length l)(hp:Xu g lb w (fun x=>x∈l) p):
  Calls Tryz.prog 211 #[.slice A0 l.length c0,.func (.func g) #[] lb] w fun e w'=>e=.returned (.bool (l.any p))∧Below w.heap.size w w':=by
 have HC:=af.mk (akz g lb eg p A0 c0 l w hr hp);rw[←akx];clear hr hp;go_enter Tryz.func211,Tryz.ntmps211;go_wp2_with (go_at_call 255;refine HC.o.mono ?_;rintro e w' ⟨rfl,hb'⟩)
 go_ret;exact⟨rfl,hb'⟩
theorem akB(a b:List Int)(hl:a.length≤1099511627776)(hab:a.length=b.length)(d:Nat):∀(i:Int),0≤i→i+d=a.length→(∀j:Nat,(j:Int)<i→rd a (j:Int)=rd b (j:Int))→Ev (fun k=>m5.l0 k a b (a.length:Int) i) (decide (a=b)):=by
 induction d with
 |zero=>
  intro i h0 h1 h;refine Ev.step (fun k=>by rw[m5.l0]) ?_;refine Ev.neg ae (Ev.done ?_);rw[ap (Gq hab fun j hj=>h j ae)]
 |succ d ih=>
  intro i h0 h1 h;refine Ev.step (fun k=>by rw[m5.l0]) ?_;rw[bI (x:=i+1) ae ae];refine Ev.pos ae (Ev.pos ae (Ev.pos ae (Ev.pos ae ?_)));by_cases e:rd a i=rd b i
  ·refine Ev.pos e (ih (i+1) ae ae fun j hj=>?_);by_cases ej:(j:Int)=i
   ·rw[ej];exact e
   ·exact h j ae
  ·refine Ev.neg e (Ev.done ?_);rw[aD (fun hab=>e (by rw[hab]))]
theorem akC(a b:List Int)(hl:a.length≤1099511627776):Ev (fun k=>m5.f k a b) (decide (a=b)):=by
 unfold m5.f;by_cases h:a.length=b.length
 ·exact Ev.pos ae (akB a b hl h a.length 0 ae ae fun j hj=>ae)
 ·refine Ev.neg ae (Ev.done ?_);rw[aD (fun hab=>h (by rw[hab]))]
theorem akD(b:Nat)(A0:Option Addr)(c0:Nat)(t:List Int)(w:World)(hb:dZ w b A0 c0 t)(hc0:t.length≤c0)(A:Option Addr)(c:Nat)(x:List Int)(hl:x.length≤1099511627776)(hx:Kd.C (Kd.int .i64) w A x.length x)(hc:x.length≤c):
  Calls Tryz.prog 212 #[.slice A x.length c,.pointer (some ⟨b,0,none⟩)] w fun e w'=>e=.returned (.bool (decide (x=t)))∧Below w.heap.size w w':=by
 obtain⟨k,hk⟩:=(akC x t hl).rounds;have HC:=af.mk (m5.calls k A c x A0 c0 t _ w hx hc hb.read hc0 hk);have hcell:=hb.cell;clear hb hx hk;go_enter Tryz.func212,Tryz.ntmps212;go_wp2_with (go_at_call 213;refine HC.o.mono ?_;rintro e w' ⟨rfl,⟨nd,rfl⟩⟩)
 go_ret;exact⟨rfl,aG.below ⟨⟨_,rfl⟩⟩⟩
theorem akE:Eg 212:=enters_of Tryz.func212 am rfl
theorem Xv(A0:Option Addr)(c0:Nat)(l:List (List Int))(A1:Option Addr)(c1:Nat)(t:List Int)(w:World)(hr:Kd.C (Kd.slice 3 (Kd.int .i64)) w A0 l.length l)(hr1:Kd.C (Kd.int .i64) w A1 t.length t)(hc1:t.length≤c1)(hl:∀x∈l,x.length≤1099511627776):
  Calls Tryz.prog 151 #[.slice A0 l.length c0,.slice A1 t.length c1] w fun e w'=>e=.returned (.bool (decide (t∈l)))∧Below w.heap.size w w':=by
 have pN:∀(fn:Fn) (first cap:Array Value) (w:World),(Instr.makeFunc fn first cap).run Tryz.prog w=.ok (.func fn first cap) w:=fun _ _ _ _=>rfl;have hb0:Below w.heap.size w (w.alloc (.cells #[.slice A1 t.length c1] 31)):=(Below.refl _ _).alloc (aH _) _;have hb1:(w.alloc (.cells #[.slice A1 t.length c1] 31)).cell? ⟨w.heap.size,0,none⟩=some (.slice A1 t.length c1):=World.cell?_alloc_new w _ _ 0;have hbx:dZ (w.alloc (.cells #[.slice A1 t.length c1] 31)) w.heap.size A1 c1 t:=⟨hb1,Kd.aN hr1 hb0⟩
 have hcall:=akA 212 #[.pointer (some ⟨w.heap.size,0,none⟩)] akE (fun x=>decide (x=t)) A0 c0 l _ (Kd.aN hr hb0)
  (fun W A c x hW hd hx hc=>akD _ A1 c1 t W (hbx.below hW) hc1 A c x (hl x hd) hx hc)
 have e:(l.any fun x=>decide (x=t))=decide (t∈l):=by
  cases h:l.any fun x=>decide (x=t) with
  |true=>obtain⟨x,hx,hxt⟩:=List.any_eq_true.1 h;have:=of_decide_eq_true hxt;subst this;exact(ap hx).symm
  |false=>exact(aD fun ht=>by have:=List.any_eq_false.1 h t ht;exact this (ap rfl)).symm
 rw[e] at hcall;have HC:=af.mk hcall;have HB:=af.mk hb0;clear hr hr1 hb0 hb1 hbx hcall e hl;go_enter Tryz.func151,Tryz.ntmps151;go_wp2_with (go_at_call 211;refine HC.o.mono ?_;rintro e w' ⟨rfl,hb⟩)
 go_ret;exact⟨rfl,aU HB.o hb⟩
end X
namespace P
def xH.f(l0:List (List Int))(l1:List Int):Option Bool:=if(l0.all fun x=>decide (x.length≤1099511627776))=true then some (decide (l1∈l0)) else none
theorem xH.calls(A0:Option Addr)(c0:Nat)(l0:List (List Int))(A1:Option Addr)(c1:Nat)(l1:List Int)(r:Bool)(w:World)(hr0:Kd.C (Kd.slice 3 (Kd.int .i64)) w A0 l0.length l0)(hc0:l0.length≤c0)(hr1:Kd.C (Kd.int .i64) w A1 l1.length l1)(hc1:l1.length≤c1)(h:xH.f l0 l1=some r):
  Calls Tryz.prog 151 #[.slice A0 l0.length c0,.slice A1 l1.length c1] w fun e w'=>e=.returned (.bool r)∧Below w.heap.size w w':=by
 unfold xH.f at h;by_cases hl:(l0.all fun x=>decide (x.length≤1099511627776))=true
 ·rw[ah hl] at h;obtain rfl:=au h;exact X.Xv A0 c0 l0 A1 c1 l1 w hr0 hr1 hc1 fun x hx=>of_decide_eq_true (List.all_eq_true.1 hl x hx)
 ·rw[ag hl] at h;exact absurd h bn
end P
namespace X
theorem aoQ:∀i:Fin 5,eT.f 300 (i.val:Int)=some (dS (i.val:Int)):=by decide+kernel
theorem Zr(c:Int)(h0:0≤c)(h1:c<5):Ev (fun k=>eT.f k c) (dS c):=
 Ev.of (fun k=>eT.mono c k) (five (P:=fun c=>eT.f 300 c=some (dS c)) aoQ c h0 h1)
theorem aoR(c:Int):Ev (fun k=>ri.f k c) (if 0≤c∧c<5 then(dS c,true) else([],false)):=by
 unfold ri.f;by_cases h0:c<0
 ·rw[ag ae];exact Ev.pos h0 (Ev.done rfl)
 ·refine Ev.neg h0 ?_;by_cases h1:c≥5
  ·rw[ag ae];exact Ev.pos h1 (Ev.done rfl)
  ·rw[ah ae];exact Ev.neg h1 (Ev.bind (Zr c ae ae) (Ev.done rfl))
theorem aoS(c:Int):Ev (fun k=>uW.f k c) (if 0≤c∧c<5 then(dS c,true) else([],false)):=by
 unfold uW.f;by_cases h:0≤c∧c<5
 ·rw[ah h];refine Ev.fix (a:=true) ?_ (Ev.pos rfl (Ev.bind (W7 c h.1 h.2) (Ev.done rfl)));unfold fJ.f;rw[ah h.1,ap ae]
 ·rw[ag h];refine Ev.fix (a:=false) ?_ (Ev.neg ao (Ev.done rfl));unfold fJ.f;by_cases h0:0≤c
  ·rw[ah h0,aD ae]
  ·rw[ag h0]
theorem aoT:∀i:Fin 5,aW (dS (i.val:Int))=true:=by decide+kernel
theorem aoU(c:Int)(h0:0≤c)(h1:c<5):aW (dS c)=true:=five (P:=fun c=>aW (dS c)=true) aoT c h0 h1
end X
namespace P
def k8.l0:Nat→List (List Int)→Int→List (List Int)→Int→Int→Option (Int)
 |0,_,_,_,_,_=>none
 |k+1,x1,x5,x8,x9,x10=>if x10<x9 then(if 0≤x10 then(if x10<(x8.length:Int) then((xH.f x1 (aT x8 x10)).bind fun Pa=>(if Pa=true then(k8.l0 k x1 (wrap64 (x5+1)) x8 x9 (wrap64 (x10+1))) else(k8.l0 k x1 x5 x8 x9 (wrap64 (x10+1))))) else none) else none) else(some x5)
def k8.f(k:Nat)(l0:List (List Int))(l1:List (List Int)):Option (Int):=k8.l0 k l1 0 l0 (l0.length:Int) 0
theorem k8.calls(k:Nat)(A0:Option Addr)(c0:Nat)(l0:List (List Int))(A1:Option Addr)(c1:Nat)(l1:List (List Int))(r:Int)(w:World)(hr0:Kd.C (Kd.slice 3 (Kd.int .i64)) w A0 l0.length l0)(hc0:l0.length≤c0)(hr1:Kd.C (Kd.slice 3 (Kd.int .i64)) w A1 l1.length l1)(hc1:l1.length≤c1)(h:k8.f k l0 l1=some r):
  Calls Tryz.prog 89 #[.slice A0 l0.length c0,.slice A1 l1.length c1] w fun e w'=>e=.returned (.int .i64 r)∧Below w.heap.size w w':=by
 have aj:=af.mk hr0;have ax:=af.mk hc0;clear hr0 hc0;have bN:=af.mk hr1;have cA:=af.mk hc1;clear hr1 hc1;have HB:=af.mk (Below.refl w.heap.size w);have H:=h;clear h;unfold k8.f at H;have H':=af.mk H;clear H;go_enter Tryz.func89,Tryz.ntmps89;go_wp2;go_loopg [5,10] k (fun kq v5 v10 w'=> ∃(aw:Int) (mj:Int),v5=.int .i64 aw∧v10=.int .i64 mj∧af (k8.l0 kq l1 aw l0 (l0.length:Int) mj=some r)∧af (kq≤k)∧af (Below w.heap.size w w'))
 case atStart=>exact⟨(0),(0),ak,ak,H',⟨aH _⟩,⟨ai HB⟩⟩
 case round=>
  clear H';obtain⟨aw,mj,rfl,rfl,HA,aC,HB⟩:=hrel;cases gk with
  |zero=>exact absurd HA.o (by simp[k8.l0])
  |succ k1=>
   have H:=HA.o;clear HA;simp only[k8.l0] at H;by_cases c3:mj<(l0.length:Int)
   case neg=>
    rw[ag c3] at H;have eU:=aD c3;clear c3;obtain rfl:=au H;go_wp2;go_ret;exact⟨bE,ai HB⟩
   rw[ah c3] at H;have eU:=ap c3;clear c3;replace H:=bC H;obtain⟨dK,H⟩:=H;replace H:=bC H;obtain⟨dC,H⟩:=H;replace H:=aA.mp H;obtain⟨Pa,dQ,H⟩:=H;have A6:=af.mk dQ;clear dQ;by_cases c7:Pa=true
   case neg=>
    replace c7:=bU c7;subst c7;rw[ag bV] at H;have H':=af.mk H;clear H;have xM:0≤(mj:Int):=aJ;have xN:mj<(l0.length:Int):=aJ;obtain⟨akL,Pb,Pc,Pd,EP,ER,ES⟩:=g8 aj.o mj xM xN;cases Pd;replace EP:=dw HB EP;have Pe:=af.mk ES;have Pf:=af.mk ER;clear ES ER;replace xM:=av xM;replace xN:=av xN;go_wp2_with ((refine aY 16 Tryz.func151 #[.slice A1 l1.length c1,.slice Pb (aT l0 mj).length Pc] ?_;(with_reducible refine(xH.calls _ _ l1 _ _ (aT l0 mj) false _ ?bz ?bB ?cg ?cm A6.o).mono ?_);(case bz=>exact cG bN HB);(case bB=>exact cA.o);(case cg=>exact cG Pe HB);(case cm=>exact Pf.o);rintro e w9 ⟨rfl,hb⟩;refine⟨_,rfl,?_⟩;replace HB:=aM HB hb))
    go_roundg k1
    case measure=>have:=aC.o;omega
    case rel=>exact⟨(aw),(wrap64 (mj+1)),ak,ak,H',⟨by have:=aC.o;omega⟩,⟨ai HB⟩⟩
   subst c7;rw[ah rfl] at H;have H':=af.mk H;clear H;have xM:0≤(mj:Int):=aJ;have xN:mj<(l0.length:Int):=aJ;obtain⟨akL,Pb,Pc,Pd,EP,ER,ES⟩:=g8 aj.o mj xM xN;cases Pd;replace EP:=dw HB EP;have Pe:=af.mk ES;have Pf:=af.mk ER;clear ES ER;replace xM:=av xM;replace xN:=av xN;go_wp2_with ((refine aY 16 Tryz.func151 #[.slice A1 l1.length c1,.slice Pb (aT l0 mj).length Pc] ?_;(with_reducible refine(xH.calls _ _ l1 _ _ (aT l0 mj) true _ ?bz ?bB ?cg ?cm A6.o).mono ?_);(case bz=>exact cG bN HB);(case bB=>exact cA.o);(case cg=>exact cG Pe HB);(case cm=>exact Pf.o);rintro e w8 ⟨rfl,hb⟩;refine⟨_,rfl,?_⟩;replace HB:=aM HB hb))
   go_roundg k1
   case measure=>have:=aC.o;omega
   case rel=>exact⟨(wrap64 (aw+1)),(wrap64 (mj+1)),ak,ak,H',⟨by have:=aC.o;omega⟩,⟨ai HB⟩⟩
end P
namespace X
theorem akM{a b:List Int}(ha:a.length=9)(hb:b.length=9)(h:∀i:Int,0≤i→i<9→rd a i=rd b i):a=b:=Gq ae fun i hi=>h i ae ae
theorem akN{a b:List Int}(ha:a.length=9)(hb:b.length=9):(a=b∧eC a b= -1)∨(a≠b∧0≤eC a b∧rd a (eC a b)≠rd b (eC a b)):=by
 by_cases h:∃i:Int,0≤i∧i<9∧(rd a i !=rd b i)=true
 ·obtain⟨i,h0,h1,h2⟩:=h;obtain⟨g0,g1,g2,_⟩:=vS (n:=9) (p:=fun i=>rd a i !=rd b i) i h0 h1 h2;have g2:rd a (eC a b)≠rd b (eC a b):=bne_iff_ne.1 g2;exact .inr ⟨fun e=>by rw[e] at g2;exact g2 rfl,g0,g2⟩
 ·have hall:∀i:Int,0≤i→i<9→(rd a i !=rd b i)=false:=fun i h0 h1=>Bool.eq_false_iff.2 fun h2=>h ⟨i,h0,h1,h2⟩;exact .inl ⟨akM ha hb fun i h0 h1=>by simpa using hall i h0 h1,vQ hall⟩
theorem akO(a b:List Int):eC b a=eC a b:=by
 unfold eC
 congr 1
 funext i
 rw[bne_comm]
theorem Xw(a b:List Int)(ha:a.length=9)(hb:b.length=9):Ev (fun k=>oB.f k a b) (decide (a=b)):=by
 unfold oB.f;refine Ev.bind (DS a b ha hb) ?_;have hc:=akO a b;rcases akN ha hb with⟨e,hg⟩|⟨e,g0,g1⟩
 ·have h1:dR a b=false:=by unfold dR;rw[hg];rfl
  have h2:dR b a=false:=by unfold dR;rw[hc,hg];rfl
  rw[h1,ap e];refine Ev.neg ao (Ev.bind (DS b a hb ha) ?_);rw[h2];exact Ev.done rfl
 ·rw[aD e];by_cases h:rd a (eC a b)<rd b (eC a b)
  ·have h1:dR a b=true:=by unfold dR;rw[ap g0,ap h];rfl
   rw[h1];exact Ev.pos rfl (Ev.done rfl)
  ·have h1:dR a b=false:=by unfold dR;rw[aD h,Bool.and_false]
   have h2:dR b a=true:=by unfold dR;rw[hc,ap g0,ap (by omega:rd b (eC a b)<rd a (eC a b))];rfl
   rw[h1];refine Ev.neg ao (Ev.bind (DS b a hb ha) ?_);rw[h2];exact Ev.done rfl
def ml(a b:List (List Int)):Nat→Int
 |0=>0
 |n+1=>ml a b n+(if aT a (n:Int)∈b then 1 else 0)
theorem Pg(a b:List (List Int))(n:Nat):0≤ml a b n∧ml a b n≤n:=by
 induction n with
 |zero=>exact⟨Int.le_refl _,Int.le_refl _⟩
 |succ n ih=>unfold ml;split<;>omega
theorem akP{l:List (List Int)}(h:dk l=true){i j:Int}(i0:0≤i)(ij:i<j)(j1:j<10):aT l i≠aT l j:=by
 intro e;have hl:=uK h (i:=j) ae j1;have hm:rd (aT l j) 1∈aT l j:=iK (by have:=(ke hl).1;omega) ae;exact NK h i0 ij j1 (Vp hl ae ae) (by rw[e];exact hm) hm
theorem akQ{a b:List (List Int)}(ha:dk a=true)(hb:dk b=true)(i:Int)(i0:0≤i)(i1:i<10)(n:Int)(n0:0≤n)(n1:n≤10)(r:Int×Bool)
  (hr:Ev (fun k=>fh.l0 k a b (n+(if aT a i∈b then 1 else 0)) (i+1)) r) (d:Nat):
  ∀(j c:Int),0≤j→j+d=10→(c=0∧(∀x:Int,0≤x→x<j→aT a i≠aT b x)∨c=1∧∃x:Int,0≤x∧x<j∧aT a i=aT b x)→Ev (fun k=>fh.l1 k a b (n+c) i j) r:=by
 have la:=(s8 ha).1;have lb:=(s8 hb).1
 induction d with
 |zero=>
  intro j c j0 j1 hc;refine Ev.step (fun k=>by rw[fh.l1]) ?_;rw[bI (x:=i+1) ae ae];refine Ev.neg ae ?_
  have:c=(if aT a i∈b then 1 else 0):=by
   rcases hc with⟨rfl,hc⟩|⟨rfl,x,x0,x1,hx⟩
   ·rw[ag];intro hm;obtain⟨y,hy,e⟩:=List.mem_iff_getElem.1 hm;exact hc (y:Int) ae ae (by rw[uD b y hy];exact e.symm)
   ·rw[ah];rw[hx];exact Nk x0 ae
  rw[this];exact hr
 |succ d ih=>
  intro j c j0 j1 hc;have c01:0≤c∧c≤1:=by rcases hc with⟨rfl,_⟩|⟨rfl,_⟩<;>omega
  refine Ev.step (fun k=>by rw[fh.l1]) ?_;rw[bI (x:=j+1) ae ae,bI (x:=n+c+1) ae ae];refine Ev.pos ae (Ev.pos i0 (Ev.pos ae (Ev.pos j0 (Ev.pos ae (Ev.bind (Xw _ _ (ke (uK ha i0 i1)).1 (ke (uK hb j0 ae)).1) ?_)))));by_cases e:aT a i=aT b j
  ·refine Ev.pos (ap e) ?_
   have hc0:c=0:=by
    rcases hc with⟨h,_⟩|⟨_,x,x0,x1,hx⟩
    ·exact h
    ·exact absurd (hx.symm.trans e) (akP hb x0 x1 ae)
   rw[show n+c+1=n+1 by omega];exact ih (j+1) 1 ae ae (.inr ⟨rfl,j,j0,ae,e⟩)
  ·refine Ev.neg (by rw[aD e];decide) (ih (j+1) c ae ae ?_);rcases hc with⟨h,hc⟩|⟨h,x,x0,x1,hx⟩
   ·refine .inl ⟨h,fun x x0 x1=>?_⟩;by_cases ex:x=j
    ·rw[ex];exact e
    ·exact hc x x0 ae
   ·exact .inr ⟨h,x,x0,ae,hx⟩
theorem akR{a b:List (List Int)}(ha:dk a=true)(hb:dk b=true)(d:Nat):∀i:Nat,i+d=10→Ev (fun k=>fh.l0 k a b (ml a b i) (i:Int)) (ml a b 10,true):=by
 induction d with
 |zero=>
  intro i h1;have e:i=10:=ae;subst e;refine Ev.step (fun k=>by rw[fh.l0]) ?_;exact Ev.neg ae (Ev.done rfl)
 |succ d ih=>
  intro i h1;have hs:=Pg a b i;refine Ev.step (fun k=>by rw[fh.l0]) ?_;refine Ev.pos ae ?_;have:=akQ ha hb (i:Int) ae ae (ml a b i) hs.1 ae _ (ih (i+1) ae) 10 0 0 ae ae (.inl ⟨rfl,fun x x0 x1=>ae⟩)
  rwa [Int.add_zero] at this
def xO(a b:List (List Int)):Int×Bool:=if(dk a&&dk b)=true then(ml a b 10,true) else(0,false)
theorem akS(a b:List (List Int)):Ev (fun k=>fh.f k a b) (xO a b):=by
 unfold fh.f
 have j0:∀v,xO a b=(0,false)→v=true→Ev (fun k=>fh.j0 k a b v) (xO a b):=fun v e hv=>by
  rw[e,hv];refine Ev.step (fun k=>by rw[fh.j0]) ?_;exact Ev.pos rfl (Ev.done rfl)
 refine Ev.bind (NL a) ?_;by_cases ha:dk a=true
 case neg=>exact Ev.neg ha (j0 true (by unfold xO;rw[Bool.eq_false_iff.2 ha];rfl) rfl)
 refine Ev.pos ha (Ev.bind (NL b) ?_);by_cases hb:dk b=true
 case neg=>exact j0 _ (by unfold xO;rw[Bool.eq_false_iff.2 hb,Bool.and_false];rfl) (by rw[Bool.eq_false_iff.2 hb];rfl)
 rw[hb];refine Ev.step (fun k=>by rw[fh.j0]) (Ev.neg ao ?_);unfold xO;rw[ha,hb];exact akR ha hb 10 0 ae
theorem akT{l:List (List Int)}(h:dk l=true):(l.all fun x=>decide (x.length≤1099511627776))=true:=by
 rw[List.all_eq_true];intro x hx;obtain⟨j,hj,rfl⟩:=List.mem_iff_getElem.1 hx;have hl:=(s8 h).1;have:=(ke (uK h (i:=(j:Int)) ae ae)).1;rw[uD l j hj] at this;exact ap ae
theorem akU{a b:List (List Int)}(hb:(b.all fun x=>decide (x.length≤1099511627776))=true)(ha:a.length=10)(d:Nat):∀i:Nat,i+d=10→Ev (fun k=>k8.l0 k b (ml a b i) a (10:Int) (i:Int)) (ml a b 10):=by
 induction d with
 |zero=>
  intro i h1;have e:i=10:=ae;subst e;refine Ev.step (fun k=>by rw[k8.l0]) ?_;exact Ev.neg ae (Ev.done rfl)
 |succ d ih=>
  intro i h1;have hs:=Pg a b i;have nx:=ih (i+1) ae;refine Ev.step (fun k=>by rw[k8.l0]) ?_;rw[bI (x:=(i:Int)+1) ae ae,bI (x:=ml a b i+1) ae ae];refine Ev.pos ae (Ev.pos ae (Ev.pos ae (Ev.fix (show xH.f b (aT a (i:Int))=some (decide (aT a (i:Int)∈b)) from ah hb) ?_)));have hu:ml a b (i+1)=ml a b i+(if aT a (i:Int)∈b then 1 else 0):=rfl;by_cases e:aT a (i:Int)∈b
  ·rw[hu,ah e] at nx;exact Ev.pos (ap e) nx
  ·rw[hu,ag e,Int.add_zero] at nx;exact Ev.neg (by rw[aD e];decide) nx
theorem akV{a b:List (List Int)}(hb:(b.all fun x=>decide (x.length≤1099511627776))=true)(ha:a.length=10):Ev (fun k=>k8.f k a b) (ml a b 10):=by
 unfold k8.f;rw[show(a.length:Int)=10 by omega];exact akU hb ha 10 0 ae
end X
end Go.Proofs.YtiobedekgnfjcaaGreatDoor
