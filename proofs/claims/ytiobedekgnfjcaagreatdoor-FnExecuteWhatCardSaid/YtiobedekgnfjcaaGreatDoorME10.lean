/- What both Executes come to: contracts and plain laws, for the laws on Execute. No conditions. (Part 11 of 28.) -/
import Derived.Test.YtiobedekgnfjcaaGreatDoorME3
import Derived.Test.YtiobedekgnfjcaaGreatDoorME4
set_option linter.unusedVariables false
set_option linter.unusedSimpArgs false
set_option maxHeartbeats 8000000
set_option maxRecDepth 100000
namespace Go.Proofs.YtiobedekgnfjcaaGreatDoor
open Go.Proofs.YtiobedekgnfjcaaGreatDoorW.aq Go.RowKit Go.Proofs.YtiobedekgnfjcaaGreatDoorW.ay
namespace X
def mD(n:Nat)(p:Int→Bool):Int:=match(List.range n).find? fun(i:Nat)=>p (i:Int) with|some i=>(i:Int)|none=> -1
theorem vQ{n:Nat}{p:Int→Bool}(h:∀i:Int,0≤i→i<n→p i=false):mD n p= -1:=by
 have:((List.range n).find? fun(i:Nat)=>p (i:Int))=none:=by
  rw[List.find?_eq_none];intro i hi;rw[h i ae (by have:=List.mem_range.1 hi;omega)];simp
 unfold mD;rw[this]
theorem vR{n:Nat}{p:Int→Bool}(i:Int)(h0:0≤i)(h1:i<n)(hp:p i=true)(h:∀j:Int,0≤j→j<i→p j=false):mD n p=i:=by
 have:((List.range n).find? fun(i:Nat)=>p (i:Int))=some i.toNat:=by
  rw[List.find?_range_eq_some];refine⟨by rw[Int.toNat_of_nonneg h0];exact hp,List.mem_range.2 ae,fun j hj=>?_⟩;rw[h j ae ae];rfl
 unfold mD;rw[this];show((i.toNat:Nat):Int)=i;omega
theorem vS{n:Nat}{p:Int→Bool}(i:Int)(h0:0≤i)(h1:i<n)(hp:p i=true):0≤mD n p∧mD n p<n∧p (mD n p)=true∧mD n p≤i:=by
 cases e:((List.range n).find? fun(i:Nat)=>p (i:Int)) with
 |none=>
  rw[List.find?_eq_none] at e;have:=e i.toNat (List.mem_range.2 ae);rw[Int.toNat_of_nonneg h0,hp] at this;exact absurd rfl this
 |some j=>
  rw[List.find?_range_eq_some] at e;obtain⟨h2,h3,h4⟩:=e
  have hj:mD n p=(j:Int):=by
   unfold mD;rw[show((List.range n).find? fun(i:Nat)=>p (i:Int))=some j from List.find?_range_eq_some.2 ⟨h2,h3,h4⟩]
  have hjn:=List.mem_range.1 h3;rw[hj];refine⟨ae,ae,h2,?_⟩;rcases Int.lt_or_le i (j:Int) with hlt|hle
  ·have:=h4 i.toNat ae;rw[Int.toNat_of_nonneg h0,hp] at this;exact absurd this ao
  ·exact hle
theorem acT(n:Nat):∀f:Nat→Nat,(∀i,i<n→f i<n)→(∀i j,i<j→j<n→f i≠f j)→∀y,y<n→∃i,i<n∧f i=y:=by
 induction n with
 |zero=>intro f _ _ y hy;omega
 |succ n ih=>
  intro f hr hi y hy;by_cases ha:f n=n
  ·by_cases Kt:y=n
   ·exact⟨n,ae,by rw[ha,Kt]⟩
   ·obtain⟨i,h1,h2⟩:=ih f (fun i h=>by have:=hr i ae;have:=hi i n h ae;omega) (fun i j h h'=>hi i j h ae) y ae;exact⟨i,ae,h2⟩
  ·have han:f n<n:=by have:=hr n ae;omega
   have key:=ih (fun i=>if f i=n then f n else f i) (fun i h=>by
     by_cases e:f i=n
     ·simp only[e,if_true];exact han
     ·simp only[e,if_false];have:=hr i ae;omega)
    (fun i j h h'=>by
     by_cases e1:f i=n<;>by_cases e2:f j=n
     ·exact absurd (e1.trans e2.symm) (hi i j h ae)
     ·simp only[e1,e2,if_true,if_false];exact fun e=>hi j n h' ae e.symm
     ·simp only[e1,e2,if_true,if_false];exact fun e=>hi i n ae ae e
     ·simp only[e1,e2,if_false];exact hi i j h ae)
   by_cases hya:y=f n
   ·exact⟨n,ae,hya.symm⟩
   ·by_cases Kt:y=n
    ·obtain⟨i,h1,h2⟩:=key (f n) han;by_cases e:f i=n
     ·exact⟨i,ae,by rw[e,Kt]⟩
     ·simp only[e,if_false] at h2;exact absurd h2 (hi i n h1 ae)
    ·obtain⟨i,h1,h2⟩:=key y ae;by_cases e:f i=n
     ·simp only[e,if_true] at h2;exact absurd h2.symm hya
     ·simp only[e,if_false] at h2;exact⟨i,ae,h2⟩
theorem SI{p:Int→Int}(hr:∀x:Int,0≤x→x<9→0≤p x∧p x<9)(ho:oO p=true)(y:Int)(h0:0≤y)(h1:y<9):∃x:Int,0≤x∧x<9∧p x=y:=by
 obtain⟨i,h2,h3⟩:=acT 9 (fun i=>(p (i:Int)).toNat) (fun i h=>by have:=hr i ae ae;omega)
  (fun i j h h'=>by
   have:=sj.1 ho i j h h';have a:=hr i ae ae;have b:=hr j ae ae;omega) y.toNat ae
 have:=hr i ae ae;exact⟨i,ae,ae,ae⟩
theorem Gk{P:Int→Int→Int→Prop}(h:∀i j k:Fin 9,P (i.val:Int) (j.val:Int) (k.val:Int))(a b c:Int)(h0:0≤a)(h1:a<9)(h2:0≤b)(h3:b<9)(h4:0≤c)(h5:c<9):P a b c:=
 nU (P:=fun a=>P a b c) (fun i=>kN (P:=fun b c=>P i.val b c) (fun j k=>h i j k) b c h2 h3 h4 h5) a h0 h1
theorem SJ{a:Int}(h0:0≤a)(h1:a<9):bg a (cP a)=0:=nU (P:=fun a=>bg a (cP a)=0) (by decide+kernel) a h0 h1
theorem Ku{a b c:Int}(ha0:0≤a)(ha1:a<9)(hb0:0≤b)(hb1:b<9)(hc0:0≤c)(hc1:c<9)(h:bg a b=bg a c):b=c:=
 Gk (P:=fun a b c=>bg a b=bg a c→b=c) (by decide+kernel) a b c ha0 ha1 hb0 hb1 hc0 hc1 h
theorem SK{a b:Int}(h0:0≤a)(h1:a<9)(h2:0≤b)(h3:b<9):bg (bg a (cP b)) b=a:=kN (P:=fun a b=>bg (bg a (cP b)) b=a) (by decide+kernel) a b h0 h1 h2 h3
theorem SL{a b:Int}(h0:0≤a)(h1:a<9)(h2:0≤b)(h3:b<9):bg (bg a b) (cP b)=a:=kN (P:=fun a b=>bg (bg a b) (cP b)=a) (by decide+kernel) a b h0 h1 h2 h3
theorem acU{a b:Int}(h0:0≤a)(h1:a<9)(h2:0≤b)(h3:b<9)(h:bg a (cP b)=0):a=b:=kN (P:=fun a b=>bg a (cP b)=0→a=b) (by decide+kernel) a b h0 h1 h2 h3 h
theorem SM{a b:Int}(h0:0≤a)(h1:a<9)(h2:0≤b)(h3:b<9):cP (bg a (cP b))=bg b (cP a):=kN (P:=fun a b=>cP (bg a (cP b))=bg b (cP a)) (by decide+kernel) a b h0 h1 h2 h3
theorem SN{a y:Int}(a0:0≤a)(a1:a<9)(y0:0≤y)(y1:y<9):y=bg a (bg y (cP a)):=kN (P:=fun a y=>y=bg a (bg y (cP a))) (by decide+kernel) a y a0 a1 y0 y1
theorem acV{s y v:Int}(h0:0≤s)(h1:s<9)(h2:0≤y)(h3:y<9)(h4:0≤v)(h5:v<9):v=bg s (bg y (cP (bg (bg y (cP v)) s))):=
 Gk (P:=fun s y v=>v=bg s (bg y (cP (bg (bg y (cP v)) s)))) (by decide+kernel) s y v h0 h1 h2 h3 h4 h5
theorem SP{p c b:Int}(h0:0≤p)(h1:p<9)(h2:0≤c)(h3:c<9)(h4:0≤b)(h5:b<9):bg (bg (bg p c) (cP b)) (cP p)=bg c (cP b):=
 Gk (P:=fun p c b=>bg (bg (bg p c) (cP b)) (cP p)=bg c (cP b)) (by decide+kernel) p c b h0 h1 h2 h3 h4 h5
theorem acW{p d b:Int}(h0:0≤p)(h1:p<9)(h2:0≤d)(h3:d<9)(h4:0≤b)(h5:b<9):bg (bg (bg d (cP b)) p) b=bg p d:=
 Gk (P:=fun p d b=>bg (bg (bg d (cP b)) p) b=bg p d) (by decide+kernel) p d b h0 h1 h2 h3 h4 h5
theorem fq{t:List Int}(h:aW t=true):b9 t 81=true∧qS t=true∧nV t=true∧pG t=true:=by
 unfold aW at h;simp only[Bool.and_eq_true] at h;exact h
theorem iV{t:List Int}(h:aW t=true){x m:Int}(x0:0≤x)(x1:x<9)(m0:0≤m)(m1:m<9):0≤rd t (9*x+m)∧rd t (9*x+m)<9:=gG (fq h).1 ae ae
theorem Kv{t:List Int}(h:aW t=true){a:Int}(a0:0≤a)(a1:a<9):rd t a=0∧rd t (9*a)=0∧rd t (9+a)=a∧rd t (9*a+1)=a:=by
 have:=gF (fq h).2.1 a a0 a1;simp only[Bool.and_eq_true,decide_eq_true_eq] at this;exact⟨this.1.1.1,this.1.1.2,this.1.2,this.2⟩
theorem acX{t:List Int}(h:aW t=true){a b c:Int}(a0:0≤a)(a1:a<9)(b0:0≤b)(b1:b<9)(c0:0≤c)(c1:c<9):rd t (9*bg a b+c)=bg (rd t (9*a+c)) (rd t (9*b+c)):=by
 have:=gF (gF (gF (fq h).2.2.1 a a0 a1) b b0 b1) c c0 c1;exact of_decide_eq_true this
theorem SQ{t:List Int}(h:aW t=true){c d:Int}(d0:0≤d)(dc:d<c)(c1:c<9):kO t c d=true:=by
 have:=gF (gF (fq h).2.2.2 c ae c1) d d0 ae;rw[ap dc] at this;exact this
theorem acY{p:Int→Int}(h:oO p=true){x y:Int}(x0:0≤x)(x1:x<9)(y0:0≤y)(y1:y<9)(e:p x=p y):x=y:=by
 rcases Int.lt_trichotomy x y with hlt|he|hgt
 ·have:=sj.1 h x.toNat y.toNat ae ae;rw[Int.toNat_of_nonneg x0,Int.toNat_of_nonneg y0] at this;exact absurd e this
 ·exact he
 ·have:=sj.1 h y.toNat x.toNat ae ae;rw[Int.toNat_of_nonneg x0,Int.toNat_of_nonneg y0] at this;exact absurd e.symm this
def vT(t:List Int)(c d x:Int):Int:=bg (rd t (9*x+c)) (cP (rd t (9*x+d)))
theorem acZ{a b c d:Int}(ha:0≤a∧a<9)(hb:0≤b∧b<9)(hc:0≤c∧c<9)(hd:0≤d∧d<9)(h:bg a (cP b)=bg c (cP d)):bg b (cP a)=bg d (cP c):=by
 rw[←SM ha.1 ha.2 hb.1 hb.2, ←SM hc.1 hc.2 hd.1 hd.2,h]
theorem SR{t:List Int}(h:aW t=true){c d:Int}(c0:0≤c)(c1:c<9)(d0:0≤d)(d1:d<9)(hcd:c≠d):oO (vT t c d)=true:=by
 rcases Int.lt_or_gt_of_ne hcd with hlt|hgt
 ·refine sj.2 fun i j hij hj e=>?_;have:=sj.1 (SQ h c0 hlt d1) i j hij hj;refine this ?_;exact acZ (iV h ae ae c0 c1) (iV h ae ae d0 d1) (iV h ae ae c0 c1) (iV h ae ae d0 d1) e
 ·exact SQ h d0 hgt c1
theorem SS{t:List Int}(h:aW t=true){c d x y:Int}(c0:0≤c)(c1:c<9)(d0:0≤d)(d1:d<9)(hcd:c≠d)(x0:0≤x)(x1:x<9)(y0:0≤y)(y1:y<9)(e:vT t c d x=vT t c d y):x=y:=
 acY (SR h c0 c1 d0 d1 hcd) x0 x1 y0 y1 e
theorem ac0{t:List Int}(h:aW t=true){c d:Int}(c0:0≤c)(c1:c<9)(d0:0≤d)(d1:d<9)(hcd:c≠d)(y:Int)(y0:0≤y)(y1:y<9):∃x:Int,0≤x∧x<9∧vT t c d x=y:=
 SI (fun x _ _=>iA _ _) (SR h c0 c1 d0 d1 hcd) y y0 y1
theorem ac3{t:List Int}(h:aW t=true){a c d:Int}(a0:0<a)(a1:a<9)(c0:0≤c)(c1:c<9)(d0:0≤d)(d1:d<9)(e:rd t (9*a+c)=rd t (9*a+d)):c=d:=by
 rcases Decidable.em (c=d) with he|hne
 ·exact he
 ·exfalso
  have hz1:=(Kv h c0 c1).1;have hz2:=(Kv h d0 d1).1
  have:=SS h (x:=a) (y:=0) c0 c1 d0 d1 hne ae a1 ae ae (by
   unfold vT;rw[e,show 9*(0:Int)+c=c by omega,show 9*(0:Int)+d=d by omega,hz1,hz2,SJ (iV h ae a1 d0 d1).1 (iV h ae a1 d0 d1).2,SJ ae ae])
  omega
theorem ac4{t:List Int}(h:aW t=true){a:Int}(a0:0<a)(a1:a<9)(y:Int)(y0:0≤y)(y1:y<9):∃m:Int,0≤m∧m<9∧rd t (9*a+m)=y:=
 SI (p:=fun m=>rd t (9*a+m)) (fun x x0 x1=>iV h ae a1 x0 x1) (sj.2 fun i j hij hj e=>by
  have:=ac3 h a0 a1 ae ae ae ae e;omega) y y0 y1
def a8(t:List Int)(p l:Int):Bool:=
 if l=90 then decide (81≤p) else if 81≤l then(decide (p=90)||(decide (p<81)&&decide (p / 9=l - 81))) else if 81≤p then decide (p=81+l / 9) else decide (p%9=bg (rd t (9*(p / 9)+l / 9)) (l%9))
theorem kv{t:List Int}{x y m b:Int}(x0:0≤x)(x1:x<9)(y0:0≤y)(y1:y<9)(m0:0≤m)(m1:m<9)(b0:0≤b)(b1:b<9):a8 t (9*x+y) (9*m+b)=true↔y=bg (rd t (9*x+m)) b:=by
 unfold a8;rw[ag ae,ag ae,ag ae,show(9*x+y)%9=y by omega,show(9*x+y) / 9=x by omega,show(9*m+b) / 9=m by omega,show(9*m+b)%9=b by omega];exact decide_eq_true_iff
theorem n6{t:List Int}{x y c:Int}(x0:0≤x)(x1:x<9)(y0:0≤y)(y1:y<9)(c0:0≤c)(c1:c<9):a8 t (9*x+y) (81+c)=true↔x=c:=by
 unfold a8;rw[ag ae,ah ae,aD (show ¬(9*x+y=90) by omega),ap (show 9*x+y<81 by omega),show(9*x+y) / 9=x by omega];simp;omega
theorem rj{t:List Int}{p:Int}:a8 t p 90=true↔81≤p:=by unfold a8;rw[ah rfl];exact decide_eq_true_iff
theorem n7{t:List Int}{p m b:Int}(hp:81≤p)(m0:0≤m)(m1:m<9)(b0:0≤b)(b1:b<9):a8 t p (9*m+b)=true↔p=81+m:=by
 unfold a8;rw[ag ae,ag ae,ah hp,show(9*m+b) / 9=m by omega];exact decide_eq_true_iff
theorem sw{t:List Int}{p c:Int}(hp:81≤p)(c0:0≤c)(c1:c<9):a8 t p (81+c)=true↔p=90:=by
 unfold a8;rw[ag ae,ah ae,aD (show ¬p<81 by omega)];simp
theorem Gl{l:Int}(h0:0≤l)(h1:l<91):(∃m b:Int,0≤m∧m<9∧0≤b∧b<9∧l=9*m+b)∨(∃c:Int,0≤c∧c<9∧l=81+c)∨l=90:=by
 rcases Int.lt_or_le l 81 with h|h
 ·exact .inl ⟨l / 9,l%9,ae,ae,ae,ae,ae⟩
 ·rcases Int.lt_or_le l 90 with h'|h'
  ·exact .inr (.inl ⟨l - 81,ae,ae,ae⟩)
  ·exact .inr (.inr ae)
theorem Cp{p:Int}(h0:0≤p)(h1:p<91):(∃x y:Int,0≤x∧x<9∧0≤y∧y<9∧p=9*x+y)∨81≤p:=by
 rcases Int.lt_or_le p 81 with h|h
 ·exact .inl ⟨p / 9,p%9,ae,ae,ae,ae,ae⟩
 ·exact .inr h
theorem ac5{t:List Int}(h:aW t=true){x y u v:Int}(x0:0≤x)(x1:x<9)(y0:0≤y)(y1:y<9)(u0:0≤u)(u1:u<9)(v0:0≤v)(v1:v<9)(hne:x≠u):
  ∃m b:Int,0≤m∧m<9∧0≤b∧b<9∧y=bg (rd t (9*x+m)) b∧v=bg (rd t (9*u+m)) b:=by
 have ha:=iA x (cP u);have hb:=iA y (cP v);have aqj:bg x (cP u)≠0:=fun e=>hne (acU x0 x1 u0 u1 e);obtain⟨m,m0,m1,hm⟩:=ac4 h (a:=bg x (cP u)) ae ha.2 (bg y (cP v)) hb.1 hb.2;have hsh:=acX h ha.1 ha.2 u0 u1 m0 m1;rw[SK x0 x1 u0 u1,hm] at hsh;have r1:=iV h x0 x1 m0 m1;have r2:=iV h u0 u1 m0 m1;refine⟨m,bg y (cP (rd t (9*x+m))),m0,m1,(iA _ _).1,(iA _ _).2,SN r1.1 r1.2 y0 y1,?_⟩;rw[hsh];exact acV r2.1 r2.2 y0 y1 v0 v1
theorem SU{t:List Int}(h:aW t=true){p q:Int}(p0:0≤p)(p1:p<91)(q0:0≤q)(q1:q<91)(hne:p≠q):∃l:Int,0≤l∧l<91∧a8 t p l=true∧a8 t q l=true:=by
 have SV:∀x y q:Int,0≤x→x<9→0≤y→y<9→81≤q→q<91→∃l:Int,0≤l∧l<91∧a8 t (9*x+y) l=true∧a8 t q l=true:=by
  intro x y q x0 x1 y0 y1 hq q1;rcases Int.lt_or_le q 90 with h9|h9
  ·have hb:=iA y (cP (rd t (9*x+(q - 81))));exact⟨9*(q - 81)+bg y (cP (rd t (9*x+(q - 81)))),ae,ae,(kv x0 x1 y0 y1 ae ae hb.1 hb.2).2 (SN (iV h x0 x1 ae ae).1 (iV h x0 x1 ae ae).2 y0 y1),(n7 hq ae ae hb.1 hb.2).2 ae⟩
  ·exact⟨81+x,ae,ae,(n6 x0 x1 y0 y1 x0 x1).2 rfl,(sw hq x0 x1).2 ae⟩
 rcases Cp p0 p1 with⟨x,y,x0,x1,y0,y1,rfl⟩|hp
 ·rcases Cp q0 q1 with⟨u,v,u0,u1,v0,v1,rfl⟩|hq
  ·by_cases e:x=u
   ·subst e;exact⟨81+x,ae,ae,(n6 x0 x1 y0 y1 x0 x1).2 rfl,(n6 x0 x1 v0 v1 x0 x1).2 rfl⟩
   ·obtain⟨m,b,m0,m1,b0,b1,e1,e2⟩:=ac5 h x0 x1 y0 y1 u0 u1 v0 v1 e;exact⟨9*m+b,ae,ae,(kv x0 x1 y0 y1 m0 m1 b0 b1).2 e1,(kv u0 u1 v0 v1 m0 m1 b0 b1).2 e2⟩
  ·exact SV x y q x0 x1 y0 y1 hq q1
 ·rcases Cp q0 q1 with⟨u,v,u0,u1,v0,v1,rfl⟩|hq
  ·obtain⟨l,a,b,c,d⟩:=SV u v p u0 u1 v0 v1 hp p1;exact⟨l,a,b,d,c⟩
  ·exact⟨90,ae,ae,rj.2 hp,rj.2 hq⟩
theorem ac6{t:List Int}(h:aW t=true){x y u v m b n c:Int}(x0:0≤x)(x1:x<9)(u0:0≤u)(u1:u<9)(m0:0≤m)(m1:m<9)(b0:0≤b)(b1:b<9)(n0:0≤n)(n1:n<9)(c0:0≤c)(c1:c<9)
  (e1:y=bg (rd t (9*x+m)) b) (e2:y=bg (rd t (9*x+n)) c) (e3:v=bg (rd t (9*u+m)) b) (e4:v=bg (rd t (9*u+n)) c) (hne:¬(x=u∧y=v)):m=n∧b=c:=by
 rcases Decidable.em (m=n) with he|hn
 ·subst he;exact⟨rfl,Ku (iV h x0 x1 m0 m1).1 (iV h x0 x1 m0 m1).2 b0 b1 c0 c1 (e1.symm.trans e2)⟩
 ·exfalso
  have r1:=iV h x0 x1 m0 m1;have r2:=iV h x0 x1 n0 n1;have r3:=iV h u0 u1 m0 m1;have r4:=iV h u0 u1 n0 n1
  have hx:=SS h (x:=x) (y:=u) m0 m1 n0 n1 hn x0 x1 u0 u1 (by
   unfold vT;have f1:=e1.symm.trans e2;have f2:=e3.symm.trans e4;have g1:=SL r1.1 r1.2 b0 b1;have g3:=SL r3.1 r3.2 b0 b1;rw[f1] at g1;rw[f2] at g3;rw[←g1, ←g3,SP r2.1 r2.2 c0 c1 b0 b1,SP r4.1 r4.2 c0 c1 b0 b1])
  subst hx;exact hne ⟨rfl,e1.trans e3.symm⟩
theorem Gm{t:List Int}(h:aW t=true){p q l k:Int}(p0:0≤p)(p1:p<91)(q0:0≤q)(q1:q<91)(hne:p≠q)(l0:0≤l)(l1:l<91)(k0:0≤k)(k1:k<91)
  (a:a8 t p l=true) (b:a8 t q l=true) (c:a8 t p k=true) (d:a8 t q k=true):l=k:=by
 rcases Cp p0 p1 with⟨x,y,x0,x1,y0,y1,rfl⟩|hp<;>rcases Cp q0 q1 with⟨u,v,u0,u1,v0,v1,rfl⟩|hq<;>
  rcases Gl l0 l1 with⟨m,e,m0,m1,e0,e1,rfl⟩|⟨e,e0,e1,rfl⟩|rfl<;>rcases Gl k0 k1 with⟨n,f,n0,n1,f0,f1,rfl⟩|⟨f,f0,f1,rfl⟩|rfl
 case inl.inl.inl.inl=>
  rw[kv x0 x1 y0 y1 m0 m1 e0 e1] at a;rw[kv u0 u1 v0 v1 m0 m1 e0 e1] at b;rw[kv x0 x1 y0 y1 n0 n1 f0 f1] at c;rw[kv u0 u1 v0 v1 n0 n1 f0 f1] at d;have:=ac6 h x0 x1 u0 u1 m0 m1 e0 e1 n0 n1 f0 f1 a c b d ae;omega
 case inl.inr.inl.inl=>
  rw[kv x0 x1 y0 y1 m0 m1 e0 e1] at a;rw[n7 hq m0 m1 e0 e1] at b;rw[kv x0 x1 y0 y1 n0 n1 f0 f1] at c;rw[n7 hq n0 n1 f0 f1] at d;obtain rfl:m=n:=ae;have:=Ku (iV h x0 x1 m0 m1).1 (iV h x0 x1 m0 m1).2 e0 e1 f0 f1 (a.symm.trans c);omega
 case inr.inl.inl.inl=>
  rw[n7 hp m0 m1 e0 e1] at a;rw[kv u0 u1 v0 v1 m0 m1 e0 e1] at b;rw[n7 hp n0 n1 f0 f1] at c;rw[kv u0 u1 v0 v1 n0 n1 f0 f1] at d;obtain rfl:m=n:=ae;have:=Ku (iV h u0 u1 m0 m1).1 (iV h u0 u1 m0 m1).2 e0 e1 f0 f1 (b.symm.trans d);omega
 case inl.inl.inl.inr.inl=>
  rw[kv x0 x1 y0 y1 m0 m1 e0 e1] at a;rw[kv u0 u1 v0 v1 m0 m1 e0 e1] at b;rw[n6 x0 x1 y0 y1 f0 f1] at c;rw[n6 u0 u1 v0 v1 f0 f1] at d
  exfalso;subst c;subst d;exact hne (by rw[a,b])
 case inl.inl.inr.inl.inl=>
  rw[n6 x0 x1 y0 y1 e0 e1] at a;rw[n6 u0 u1 v0 v1 e0 e1] at b;rw[kv x0 x1 y0 y1 n0 n1 f0 f1] at c;rw[kv u0 u1 v0 v1 n0 n1 f0 f1] at d
  exfalso;subst a;subst b;exact hne (by rw[c,d])
 all_goals
  (try rw[rj] at a);(try rw[rj] at b);(try rw[rj] at c);(try rw[rj] at d)
  (try rw[n6 x0 x1 y0 y1 e0 e1] at a);(try rw[n6 u0 u1 v0 v1 e0 e1] at b);(try rw[n6 x0 x1 y0 y1 f0 f1] at c);(try rw[n6 u0 u1 v0 v1 f0 f1] at d)
  (try rw[n7 hp m0 m1 e0 e1] at a);(try rw[n7 hq m0 m1 e0 e1] at b);(try rw[n7 hp n0 n1 f0 f1] at c);(try rw[n7 hq n0 n1 f0 f1] at d)
  (try rw[sw hp e0 e1] at a);(try rw[sw hq e0 e1] at b);(try rw[sw hp f0 f1] at c);(try rw[sw hq f0 f1] at d)
  try omega
def bh(t:List Int)(p q:Int):Int:=mD 91 fun l=>a8 t p l&&a8 t q l
def dx(t:List Int)(l m:Int):Int:=mD 91 fun p=>a8 t p l&&a8 t p m
theorem iL{t:List Int}(h:aW t=true){p q:Int}(p0:0≤p)(p1:p<91)(q0:0≤q)(q1:q<91)(hne:p≠q):0≤bh t p q∧bh t p q<91∧a8 t p (bh t p q)=true∧a8 t q (bh t p q)=true:=by
 obtain⟨l,l0,l1,a,b⟩:=SU h p0 p1 q0 q1 hne;obtain⟨j0,j1,j2,_⟩:=vS (n:=91) (p:=fun l=>a8 t p l&&a8 t q l) l l0 l1 (by rw[a,b];rfl);exact⟨j0,j1,(Bool.and_eq_true _ _▸j2).1,(Bool.and_eq_true _ _▸j2).2⟩
theorem SW{t:List Int}(h:aW t=true){l k:Int}(l0:0≤l)(l1:l<91)(k0:0≤k)(k1:k<91)(hne:l≠k):∃p:Int,0≤p∧p<91∧a8 t p l=true∧a8 t p k=true:=by
 rcases Gl l0 l1 with⟨m,b,m0,m1,b0,b1,rfl⟩|⟨c,c0,c1,rfl⟩|rfl<;>rcases Gl k0 k1 with⟨n,d,n0,n1,d0,d1,rfl⟩|⟨d,d0,d1,rfl⟩|rfl
 ·by_cases e:m=n
  ·subst e;exact⟨81+m,ae,ae,(n7 ae m0 m1 b0 b1).2 rfl,(n7 ae m0 m1 d0 d1).2 rfl⟩
  ·have hr:=iA d (cP b);obtain⟨x,x0,x1,hx⟩:=ac0 h m0 m1 n0 n1 e (bg d (cP b)) hr.1 hr.2;have r1:=iV h x0 x1 m0 m1;have r2:=iV h x0 x1 n0 n1;have hy:=iA (rd t (9*x+m)) b;refine⟨9*x+bg (rd t (9*x+m)) b,ae,ae,(kv x0 x1 hy.1 hy.2 m0 m1 b0 b1).2 rfl,(kv x0 x1 hy.1 hy.2 n0 n1 d0 d1).2 ?_⟩;unfold vT at hx;have g1:=SK r1.1 r1.2 r2.1 r2.2;rw[hx] at g1;rw[←g1];exact acW r2.1 r2.2 d0 d1 b0 b1
 ·have hy:=iA (rd t (9*d+m)) b;exact⟨9*d+bg (rd t (9*d+m)) b,ae,ae,(kv d0 d1 hy.1 hy.2 m0 m1 b0 b1).2 rfl,(n6 d0 d1 hy.1 hy.2 d0 d1).2 rfl⟩
 ·exact⟨81+m,ae,ae,(n7 ae m0 m1 b0 b1).2 rfl,rj.2 ae⟩
 ·have hy:=iA (rd t (9*c+n)) d;exact⟨9*c+bg (rd t (9*c+n)) d,ae,ae,(n6 c0 c1 hy.1 hy.2 c0 c1).2 rfl,(kv c0 c1 hy.1 hy.2 n0 n1 d0 d1).2 rfl⟩
 ·exact⟨90,ae,ae,(sw ae c0 c1).2 rfl,(sw ae d0 d1).2 rfl⟩
 ·exact⟨90,ae,ae,(sw ae c0 c1).2 rfl,rj.2 ae⟩
 ·exact⟨81+n,ae,ae,rj.2 ae,(n7 ae n0 n1 d0 d1).2 rfl⟩
 ·exact⟨90,ae,ae,rj.2 ae,(sw ae d0 d1).2 rfl⟩
 ·exact absurd rfl hne
theorem tV{t:List Int}(h:aW t=true){l m:Int}(l0:0≤l)(l1:l<91)(m0:0≤m)(m1:m<91)(hne:l≠m):0≤dx t l m∧dx t l m<91∧a8 t (dx t l m) l=true∧a8 t (dx t l m) m=true:=by
 obtain⟨p,p0,p1,a,b⟩:=SW h l0 l1 m0 m1 hne;obtain⟨j0,j1,j2,_⟩:=vS (n:=91) (p:=fun p=>a8 t p l&&a8 t p m) p p0 p1 (by rw[a,b];rfl);exact⟨j0,j1,(Bool.and_eq_true _ _▸j2).1,(Bool.and_eq_true _ _▸j2).2⟩
def bu(p:Int):Prop:=0≤p∧p<91
def zD(t:List Int)(l:Int):List Int:=cH 91 fun p=>a8 t p l
theorem Kw(n:Nat)(p:Int→Bool):(cH n p).Pairwise (·<·):=by
 induction n with
 |zero=>exact List.Pairwise.nil
 |succ n ih=>
  rw[lW,List.pairwise_append];refine⟨ih,?_,fun a ha b hb=>?_⟩
  ·by_cases h:p (n:Int)=true
   ·rw[ah h];exact List.pairwise_singleton _ _
   ·rw[ag h];exact List.Pairwise.nil
  ·by_cases h:p (n:Int)=true
   ·rw[ah h] at hb;have ly:=List.mem_singleton.1 hb;have:=(pF.1 ha).2.1;omega
   ·rw[ag h] at hb;exact absurd hb bn
theorem oS{l:List Int}{i:Int}(h0:0≤i)(h1:i<l.length):rd l i=l[i.toNat]'ae:=by
 unfold rd;rw[List.getD_eq_getElem?_getD];simp[show i.toNat<l.length by omega]
theorem SX{n:Nat}{p:Int→Bool}{i j:Int}(h0:0≤i)(hij:i<j)(h1:j<(cH n p).length):rd (cH n p) i<rd (cH n p) j:=by
 rw[oS h0 ae,oS ae h1];exact List.pairwise_iff_getElem.1 (Kw n p) _ _ _ _ ae
theorem ac7{l:List Int}{a b:Int}(ha:a∈l)(hb:b∈l)(hne:a≠b):2≤l.length:=by
 match l,ha,hb with
 |[x],ha,hb=>exact absurd ((List.mem_singleton.1 ha).trans (List.mem_singleton.1 hb).symm) hne
 |x::y::r,_,_=>simp
def dE(p:Int):Bool:=decide (0≤p)&&decide (p<91)
theorem eB{p:Int}:dE p=true↔bu p:=by simp[dE,bu]
def pM(l:List Int)(i:Int):Bool:=dE (rd l i)&&!decide (rd l i∈l.take i.toNat)
def gw(l:List Int):Bool:=allI l.length (pM l)
theorem oT{l:List Int}(h:gw l=true){i:Int}(h0:0≤i)(h1:i<l.length):bu (rd l i):=by
 have:=gF h i h0 h1;exact eB.1 (Bool.and_eq_true _ _▸this).1
theorem sx{l:List Int}(h:gw l=true){i j:Int}(h0:0≤i)(hij:i<j)(h1:j<l.length):rd l i≠rd l j:=by
 have:=gF h j ae h1;have:=(Bool.and_eq_true _ _▸this).2;intro e;rw[←e] at this
 have hm:rd l i∈l.take j.toNat:=by
  rw[oS h0 ae];exact List.mem_take_iff_getElem.2 ⟨i.toNat,ae,rfl⟩
 rw[ap hm] at this;exact absurd this ao
theorem SY{l:List Int}(h:gw l=true){i j:Int}(i0:0≤i)(i1:i<l.length)(j0:0≤j)(j1:j<l.length)(e:rd l i=rd l j):i=j:=by
 rcases Int.lt_trichotomy i j with hlt|he|hgt
 ·exact absurd e (sx h i0 hlt j1)
 ·exact he
 ·exact absurd e.symm (sx h j0 hgt i1)
theorem zE{l:List Int}{i:Int}(h0:0≤i)(h1:i<l.length)(h:pM l i=false):gw l=false:=by
 cases e:gw l with
 |false=>rfl
 |true=>have:=gF e i h0 h1;rw[h] at this;exact absurd this ao
theorem Kx{l:List Int}(h:∀i:Int,0≤i→i<l.length→pM l i=true):gw l=true:=jr.2 h
theorem Cq{l:List Int}{i:Int}(i0:0≤i)(i1:i<l.length):pM l i=true↔bu (rd l i)∧∀j:Int,0≤j→j<i→rd l j≠rd l i:=by
 unfold pM;rw[Bool.and_eq_true,eB,Bool.not_eq_true',decide_eq_false_iff_not];refine and_congr_right fun _=>⟨fun h j j0 j1 e=>h ?_,fun h hm=>?_⟩
 ·rw[←e,oS j0 ae];exact List.mem_take_iff_getElem.2 ⟨j.toNat,ae,rfl⟩
 ·obtain⟨k,hk,e⟩:=List.mem_take_iff_getElem.1 hm;exact h (k:Int) ae ae (by rw[jY l k ae];exact e)
theorem ac8(t:List Int)(l m:Int):dx t l m=dx t m l:=by
 unfold dx;refine congrArg (mD 91) (funext fun p=>?_);rw[Bool.and_comm]
def oc(t:List Int)(k a b:Int):Bool:=(rd t (9*k+rd t (9*a+b))==rd t (9*rd t (9*k+a)+b))&&(rd t (9*k+bg a b)==bg (rd t (9*k+a)) (rd t (9*k+b)))
def od(t:List Int)(k:Int):Bool:=lX fun a b _=>oc t k a b
def zM(t:List Int):List Int:=cH 9 (od t)
def fy(t:List Int)(p q r:Int):Bool:=a8 t r (bh t p q)
def dF(t:List Int)(p q r s:Int):Int:=dx t (bh t p q) (bh t r s)
def rm(t:List Int)(p q r:Int):Bool:=decide (p=q)||(decide (p=r)||(decide (q=r)||fy t p q r))
def fz(t x:List Int)(i:Int):Int:=bh t (rd x 0) (rd x i)
def sE(t x:List Int):Bool:=a8 t (rd x 4) (fz t x 1)&&(a8 t (rd x 5) (fz t x 2)&&a8 t (rd x 6) (fz t x 3))
def sF(t x:List Int):Bool:=!decide (fz t x 1=fz t x 2)&&(!decide (fz t x 1=fz t x 3)&&!decide (fz t x 2=fz t x 3))
def wi(t x:List Int):Bool:=!fy t (rd x 1) (rd x 2) (rd x 3)&&!fy t (rd x 4) (rd x 5) (rd x 6)
def fA(t x:List Int):Bool:=aW t&&(decide (x.length=7)&&(gw x&&(sE t x&&(sF t x&&wi t x))))
def oV(t x:List Int):List Int:=[dF t (rd x 1) (rd x 2) (rd x 4) (rd x 5),dF t (rd x 1) (rd x 3) (rd x 4) (rd x 6),dF t (rd x 2) (rd x 3) (rd x 5) (rd x 6)]
def K9(t x:List Int):Bool:=rm t (dF t (rd x 1) (rd x 2) (rd x 4) (rd x 5)) (dF t (rd x 1) (rd x 3) (rd x 4) (rd x 6)) (dF t (rd x 2) (rd x 3) (rd x 5) (rd x 6))
structure Twin(t x:List Int):Prop where
 sys:aW t=true
 len:x.length=7
 df:gw x=true
 c:∀i:Int,1≤i→i≤3→a8 t (rd x (i+3)) (fz t x i)=true
 d:∀i j:Int,1≤i→i<j→j≤3→fz t x i≠fz t x j
 e1:fy t (rd x 1) (rd x 2) (rd x 3)=false
 e2:fy t (rd x 4) (rd x 5) (rd x 6)=false
theorem wk{t x:List Int}:fA t x=true↔Twin t x:=by
 unfold fA sE sF wi;simp only[Bool.and_eq_true,Bool.not_eq_true',decide_eq_true_eq,decide_eq_false_iff_not]
 constructor
 ·rintro⟨h1,h2,h3,⟨h4,h5,h6⟩,⟨h7,h8,h9⟩,h10,h11⟩;refine⟨h1,h2,h3,fun i i0 i1=>?_,fun i j i0 ij j1=>?_,h10,h11⟩
  ·have:i=1∨i=2∨i=3:=ae;rcases this with rfl|rfl|rfl
   ·exact h4
   ·exact h5
   ·exact h6
  ·have:(i=1∧j=2)∨(i=1∧j=3)∨(i=2∧j=3):=ae;rcases this with⟨rfl,rfl⟩|⟨rfl,rfl⟩|⟨rfl,rfl⟩
   ·exact h7
   ·exact h8
   ·exact h9
 ·intro T;exact⟨T.sys,T.len,T.df,⟨T.c 1 ae ae,T.c 2 ae ae,T.c 3 ae ae⟩,⟨T.d 1 2 ae ae ae,T.d 1 3 ae ae ae,T.d 2 3 ae ae ae⟩,T.e1,T.e2⟩
namespace Twin
variable {t x:List Int} (T:Twin t x)
include T
theorem pt{i:Int}(i0:0≤i)(i1:i<7):bu (rd x i):=oT T.df i0 (by have:=T.len;omega)
theorem ne{i j:Int}(i0:0≤i)(i1:i<7)(j0:0≤j)(j1:j<7)(h:i≠j):rd x i≠rd x j:=fun e=>h (SY T.df i0 (by have:=T.len;omega) j0 (by have:=T.len;omega) e)
theorem ln{i:Int}(i0:1≤i)(i1:i<7):bu (fz t x i)∧a8 t (rd x 0) (fz t x i)=true∧a8 t (rd x i) (fz t x i)=true:=by
 have a:=T.pt (i:=0) ae ae;have b:=T.pt (i:=i) ae i1;have h:=iL T.sys a.1 a.2 b.1 b.2 (T.ne ae ae ae i1 ae);exact⟨⟨h.1,h.2.1⟩,h.2.2.1,h.2.2.2⟩
theorem jn{i j:Int}(i0:0≤i)(i1:i<7)(j0:0≤j)(j1:j<7)(h:i≠j):bu (bh t (rd x i) (rd x j))∧a8 t (rd x i) (bh t (rd x i) (rd x j))=true∧a8 t (rd x j) (bh t (rd x i) (rd x j))=true:=by
 have a:=T.pt i0 i1;have b:=T.pt j0 j1;have h:=iL T.sys a.1 a.2 b.1 b.2 (T.ne i0 i1 j0 j1 h);exact⟨⟨h.1,h.2.1⟩,h.2.2.1,h.2.2.2⟩
theorem apart{i j:Int}(i0:1≤i)(ij:i<j)(j1:j≤3):bh t (rd x i) (rd x j)≠bh t (rd x (i+3)) (rd x (j+3)):=by
 intro e;obtain⟨l,h1,h2⟩:=T.jn (i:=i) (j:=j) ae ae ae ae ae;obtain⟨_,h3,h4⟩:=T.jn (i:=i+3) (j:=j+3) ae ae ae ae ae;rw[←e] at h3 h4
 have key:∀k:Int,1≤k→k≤3→a8 t (rd x k) (bh t (rd x i) (rd x j))=true→a8 t (rd x (k+3)) (bh t (rd x i) (rd x j))=true→bh t (rd x i) (rd x j)=fz t x k:=by
  intro k k0 k1 a b;obtain⟨m,g1,g2⟩:=T.ln k0 ae;have p:=T.pt (i:=k) ae ae;have q:=T.pt (i:=k+3) ae ae;exact Gm T.sys p.1 p.2 q.1 q.2 (T.ne ae ae ae ae ae) l.1 l.2 m.1 m.2 a b g2 (T.c k k0 k1)
 exact T.d i j i0 ij j1 ((key i i0 ae h1 h3).symm.trans (key j ae j1 h2 h4))
theorem cr{i j:Int}(i0:1≤i)(ij:i<j)(j1:j≤3):bu (dF t (rd x i) (rd x j) (rd x (i+3)) (rd x (j+3)))∧a8 t (dF t (rd x i) (rd x j) (rd x (i+3)) (rd x (j+3))) (bh t (rd x i) (rd x j))=true∧a8 t (dF t (rd x i) (rd x j) (rd x (i+3)) (rd x (j+3))) (bh t (rd x (i+3)) (rd x (j+3)))=true:=by
 have a:=(T.jn (i:=i) (j:=j) ae ae ae ae ae).1;have b:=(T.jn (i:=i+3) (j:=j+3) ae ae ae ae ae).1;have h:=tV T.sys a.1 a.2 b.1 b.2 (T.apart i0 ij j1);exact⟨⟨h.1,h.2.1⟩,h.2.2⟩
end Twin
end X
namespace X
def zR(t x:List Int):Int:=bh t (rd x 0) (rd x 1)
def zS(t x:List Int):Int:=bh t (rd x 3) (rd x 4)
def Lu(t x:List Int):Int:=dx t (zR t x) (zS t x)
def iE(t x:List Int):Bool:=aW t&&(decide (x.length=6)&&(gw x&&(fy t (rd x 0) (rd x 1) (rd x 2)&&(fy t (rd x 3) (rd x 4) (rd x 5)&&(!decide (zR t x=zS t x)&&!decide (Lu t x∈x))))))
def sL(t x:List Int):Bool:=rm t (dF t (rd x 0) (rd x 4) (rd x 1) (rd x 3)) (dF t (rd x 0) (rd x 5) (rd x 2) (rd x 3)) (dF t (rd x 1) (rd x 5) (rd x 2) (rd x 4))
structure GK(t x:List Int):Prop where
 sys:aW t=true
 len:x.length=6
 df:gw x=true
 a:fy t (rd x 0) (rd x 1) (rd x 2)=true
 c:fy t (rd x 3) (rd x 4) (rd x 5)=true
 ne:zR t x≠zS t x
theorem TB{t x:List Int}(h:iE t x=true):GK t x:=by
 unfold iE at h;simp only[Bool.and_eq_true,Bool.not_eq_true',decide_eq_true_eq,decide_eq_false_iff_not] at h;exact⟨h.1,h.2.1,h.2.2.1,h.2.2.2.1,h.2.2.2.2.1,h.2.2.2.2.2.1⟩
namespace GK
variable {t x:List Int} (H:GK t x)
include H
theorem pt{i:Int}(i0:0≤i)(i1:i<6):bu (rd x i):=oT H.df i0 (by have:=H.len;omega)
theorem dn{i j:Int}(i0:0≤i)(i1:i<6)(j0:0≤j)(j1:j<6)(h:i≠j):rd x i≠rd x j:=fun e=>h (SY H.df i0 (by have:=H.len;omega) j0 (by have:=H.len;omega) e)
theorem jn{i j:Int}(i0:0≤i)(i1:i<6)(j0:0≤j)(j1:j<6)(h:i≠j):bu (bh t (rd x i) (rd x j))∧a8 t (rd x i) (bh t (rd x i) (rd x j))=true∧a8 t (rd x j) (bh t (rd x i) (rd x j))=true:=by
 have a:=H.pt i0 i1;have b:=H.pt j0 j1;have h:=iL H.sys a.1 a.2 b.1 b.2 (H.dn i0 i1 j0 j1 h);exact⟨⟨h.1,h.2.1⟩,h.2.2.1,h.2.2.2⟩
theorem TC{i:Int}(i0:0≤i)(i1:i<3):a8 t (rd x i) (zR t x)=true:=by
 have h:=H.jn (i:=0) (j:=1) ae ae ae ae ae;have:i=0∨i=1∨i=2:=ae;rcases this with rfl|rfl|rfl
 ·exact h.2.1
 ·exact h.2.2
 ·exact H.a
theorem TD{i:Int}(i0:3≤i)(i1:i<6):a8 t (rd x i) (zS t x)=true:=by
 have h:=H.jn (i:=3) (j:=4) ae ae ae ae ae;have:i=3∨i=4∨i=5:=ae;rcases this with rfl|rfl|rfl
 ·exact h.2.1
 ·exact h.2.2
 ·exact H.c
theorem apart{i j k l:Int}(i0:0≤i)(i1:i<3)(j0:0≤j)(j1:j<3)(h:i≠j)(k0:3≤k)(k1:k<6)(l0:3≤l)(l1:l<6)(h':k≠l):bh t (rd x i) (rd x k)≠bh t (rd x j) (rd x l):=by
 intro e;obtain⟨n,h1,h2⟩:=H.jn (i:=i) (j:=k) ae ae ae ae ae;obtain⟨_,h3,h4⟩:=H.jn (i:=j) (j:=l) ae ae ae ae ae;rw[←e] at h3 h4;have A:=(H.jn (i:=0) (j:=1) ae ae ae ae ae).1;have C:=(H.jn (i:=3) (j:=4) ae ae ae ae ae).1;have pi:=H.pt (i:=i) ae ae;have pj:=H.pt (i:=j) ae ae;have pk:=H.pt (i:=k) ae ae;have pl:=H.pt (i:=l) ae ae;have e1:=Gm H.sys pi.1 pi.2 pj.1 pj.2 (H.dn ae ae ae ae h) n.1 n.2 A.1 A.2 h1 h3 (H.TC i0 i1) (H.TC j0 j1);have e2:=Gm H.sys pk.1 pk.2 pl.1 pl.2 (H.dn ae ae ae ae h') n.1 n.2 C.1 C.2 h2 h4 (H.TD k0 k1) (H.TD l0 l1);exact H.ne (e1.symm.trans e2)
theorem cr{i j k l:Int}(i0:0≤i)(i1:i<3)(j0:0≤j)(j1:j<3)(h:i≠j)(k0:3≤k)(k1:k<6)(l0:3≤l)(l1:l<6)(h':k≠l):bu (dF t (rd x i) (rd x k) (rd x j) (rd x l)):=by
 have a:=(H.jn (i:=i) (j:=k) ae ae ae ae ae).1;have b:=(H.jn (i:=j) (j:=l) ae ae ae ae ae).1;have h:=tV H.sys a.1 a.2 b.1 b.2 (H.apart i0 i1 j0 j1 h k0 k1 l0 l1 h');exact⟨h.1,h.2.1⟩
end GK
end X
namespace X
def gJ(s:Nat→Bool):List Int:=cH 91 fun p=>s p.toNat
def fL(t pts:List Int)(l:Int):Nat:=(pts.filter fun p=>a8 t p l).length
def ce(t:List Int)(s:Nat→Bool):List Int:=cH 91 fun l=>decide (1<(fL t (gJ s) l:Int))
def ug(t L:List Int)(i:Int)(x:Nat):Bool:=(List.range i.toNat).any fun a=>(List.range a).any fun b=>decide (dx t (rd L (a:Int)) (rd L (b:Int))=(x:Int))
def wu(t L:List Int)(i k:Int)(x:Nat):Bool:=(List.range k.toNat).any fun b=>decide (dx t (rd L i) (rd L (b:Int))=(x:Int))
def fB(t L:List Int)(s:Nat→Bool)(i k:Int)(x:Nat):Bool:=s x||(ug t L i x||wu t L i k x)
def fZ(t:List Int)(s:Nat→Bool)(x:Nat):Bool:=s x||ug t (ce t s) (ce t s).length x
theorem aeX(t L:List Int)(x:Nat):ug t L 0 x=false:=rfl
theorem Ly(t L:List Int)(i:Int)(x:Nat):wu t L i 0 x=false:=rfl
theorem aeY(t L:List Int)(i:Int){k:Int}(k0:0≤k)(x:Nat):wu t L i (k+1) x=(wu t L i k x||decide (dx t (rd L i) (rd L k)=(x:Int))):=by
 unfold wu;rw[show(k+1).toNat=k.toNat+1 by omega,List.range_succ,List.any_append];simp[Int.toNat_of_nonneg k0]
theorem aeZ(t L:List Int){i:Int}(i0:0≤i)(x:Nat):ug t L (i+1) x=(ug t L i x||wu t L i i x):=by
 unfold ug wu;rw[show(i+1).toNat=i.toNat+1 by omega,List.range_succ,List.any_append];simp[Int.toNat_of_nonneg i0]
theorem Lz(t L:List Int)(s:Nat→Bool)(x:Nat):fB t L s 0 0 x=s x:=by unfold fB;rw[aeX,Ly];simp
theorem ae0(t L:List Int)(s:Nat→Bool)(i:Int){k:Int}(k0:0≤k)(x:Nat):fB t L s i (k+1) x=(fB t L s i k x||decide (dx t (rd L i) (rd L k)=(x:Int))):=by
 unfold fB;rw[aeY t L i k0];simp[Bool.or_assoc]
theorem LA(t L:List Int)(s:Nat→Bool){i:Int}(i0:0≤i)(x:Nat):fB t L s (i+1) 0 x=fB t L s i i x:=by
 unfold fB;rw[aeZ t L i0,Ly];simp
theorem CZ(t:List Int)(s:Nat→Bool)(x:Nat):fB t (ce t s) s (ce t s).length 0 x=fZ t s x:=by
 unfold fB fZ;rw[Ly];simp
theorem TJ(t L:List Int)(s:Nat→Bool)(i k:Int)(x:Nat)(h:s x=true):fB t L s i k x=true:=by unfold fB;rw[h];rfl
theorem GL(t L:List Int)(s:Nat→Bool)(i:Int){k:Int}(k0:0≤k){p:Int}(p0:0≤p)(hp:dx t (rd L i) (rd L k)=p)(x:Nat):fB t L s i (k+1) x=if x=p.toNat then true else fB t L s i k x:=by
 rw[ae0 t L s i k0,hp];by_cases e:x=p.toNat
 ·rw[ah e,ap ae,Bool.or_true]
 ·rw[ag e,aD ae,Bool.or_false]
def iY(s:Nat→Bool):Nat:=(gJ s).length
theorem LB{s s':Nat→Bool}(h:∀x,x<91→s x=s' x):gJ s=gJ s':=abq fun i hi=>by rw[Int.toNat_natCast];exact h i hi
theorem TK{n:Nat}{p q:Int→Bool}(h:∀i:Nat,i<n→p (i:Int)=true→q (i:Int)=true):(cH n p).length≤(cH n q).length:=by
 induction n with
 |zero=>exact aH _
 |succ n ih=>
  rw[lW,lW,List.length_append,List.length_append];have h1:=ih fun i hi=>h i ae;by_cases hp:p (n:Int)=true
  ·rw[ah hp,ah (h n ae hp)];omega
  ·rw[ag hp];simp;omega
theorem ae1{n:Nat}{p q:Int→Bool}(h:∀i:Nat,i<n→p (i:Int)=true→q (i:Int)=true){j:Nat}(hj:j<n)(hq:q (j:Int)=true)(hp:p (j:Int)=false):(cH n p).length<(cH n q).length:=by
 induction n with
 |zero=>omega
 |succ n ih=>
  rw[lW,lW,List.length_append,List.length_append];by_cases e:j=n
  ·subst e;have h1:=TK (n:=j) (p:=p) (q:=q) fun i hi=>h i ae;rw[ah hq,ag (by rw[hp];decide)];simp;omega
  ·have h1:=ih (fun i hi=>h i ae) ae;by_cases n8:p (n:Int)=true
   ·rw[ah n8,ah (h n ae n8)];simp;omega
   ·rw[ag n8];simp;omega
theorem uh(s:Nat→Bool):iY s≤91:=kt _ _
theorem ae2{s s':Nat→Bool}(h:∀x,x<91→s x=true→s' x=true):iY s≤iY s':=TK fun i hi=>by rw[Int.toNat_natCast];exact h i hi
theorem LC{s s':Nat→Bool}(h:∀x,x<91→s x=true→s' x=true){j:Nat}(hj:j<91)(h1:s' j=true)(h0:s j=false):iY s<iY s':=
 ae1 (fun i hi=>by rw[Int.toNat_natCast];exact h i hi) hj (by rw[Int.toNat_natCast];exact h1) (by rw[Int.toNat_natCast];exact h0)
theorem ae3{s s':Nat→Bool}(h:∀x,x<91→s x=true→s' x=true)(he:iY s=iY s'):∀x,x<91→s x=s' x:=by
 intro x hx;cases h0:s x with
 |true=>exact(h x hx h0).symm
 |false=>
  cases h1:s' x with
  |false=>rfl
  |true=>have:=LC h hx h1 h0;omega
theorem zX(t:List Int)(s:Nat→Bool)(x:Nat)(h:s x=true):fZ t s x=true:=by unfold fZ;rw[h];rfl
theorem ae4{t:List Int}{s s':Nat→Bool}(h:∀x,x<91→s x=s' x):ce t s=ce t s':=by unfold ce;rw[LB h]
theorem TL{t:List Int}{s s':Nat→Bool}(h:∀x,x<91→s x=s' x):∀x,x<91→fZ t s x=fZ t s' x:=fun x hx=>by unfold fZ;rw[ae4 h,h x hx]
def cZ(t:List Int)(s:Nat→Bool):Nat→(Nat→Bool)
 |0=>s
 |n+1=>fZ t (cZ t s n)
def fw(t:List Int)(s:Nat→Bool):List Int:=gJ (cZ t s 91)
theorem TM{t:List Int}{s:Nat→Bool}{n:Nat}(h:∀x,x<91→fZ t (cZ t s n) x=cZ t s n x):∀d x,x<91→cZ t s (n+d) x=cZ t s n x:=by
 intro d
 induction d with
 |zero=>intro x _;rfl
 |succ d ih=>
  intro x hx
  show fZ t (cZ t s (n+d)) x=_
  rw[TL ih x hx,h x hx]
theorem TN{t:List Int}{s:Nat→Bool}{n:Nat}(hn:n≤91)(h:∀x,x<91→fZ t (cZ t s n) x=cZ t s n x):fw t s=gJ (cZ t s n):=by
 unfold fw;refine LB fun x hx=>?_;have:=TM h (91 - n) x hx
 rwa [show n+(91 - n)=91 by omega] at this
end X
namespace X
open Go.Proofs.YtiobedekgnfjcaaGreatDoor.P
theorem Tk(g:Nat)(lb:Array Value)(eg:Eg g)(p:Int→Bool)(w:World)(hp:zg g lb w (fun x=>0≤x∧x<9) (fun x=>.bool (p x))):
  Calls Tryz.prog 127 #[.func (.func g) #[] lb] w fun e w'=> ∃v:Value,e=.returned v∧Kd.R (Kd.int .i64) 3 w' w.heap.size (fun _=>True) v (cH 9 p)∧Below w.heap.size w w':=by
 have HP:=af.mk hp;clear hp;unfold Eg at eg;go_enter Tryz.func127,Tryz.ntmps127;go_wp2_with ((with_reducible refine db (N:=5) rfl ?_);refine Kd.dV (Kd.int .i64) _ 3 ?hg (N:=5) ?hd (xs:=([]:List Int)) (inner:=[]) (ok:=fun _=>True) (bp:=fun _=>True) ?hr ?hp (fun _ hk=>hk) trivial (Below.refl _ _) (aH _) bn ?_;(case hd=>rfl);(case hg=>rfl);(case hr=>first|(go_simp;done)|(go_simp;rfl));(case hp=>exact(aE.none _ _));intro v0 w0 ho0 hb0 Ct Cu;have jD:=af.mk ho0;have fH:=af.mk hb0;clear ho0 hb0 Ct Cu)
 go_loopg [3,6] 9 (fun kq v3 v6 w'=> ∃i:Int,v6=.int .i64 i∧af (0≤i∧i≤9)∧af ((9:Int) - i≤kq)∧af (Kd.R (Kd.int .i64) 3 w' w.heap.size (fun _=>True) v3 (cH i.toNat p))∧af (Below w.heap.size w w'))
 case atStart=>exact⟨0,rfl,⟨ae⟩,⟨ae⟩,jD,fH⟩
 case round=>
  clear jD fH;obtain⟨i,rfl,HI,HK,HO,HB⟩:=hrel;have h0:0≤i:=HI.o.1;by_cases c6:i<9
  ·have hlen:(cH i.toNat p).length≤i.toNat:=kt _ _;have hcall:=HP.o wr i HB.o ⟨h0,c6⟩;dsimp only at hcall
   have hsucc:cH (i+1).toNat p=cH i.toNat p++(if p i=true then[i] else[]):=by
    rw[show(i+1).toNat=i.toNat+1 by omega,lW,Int.toNat_of_nonneg h0]
   have pP:=af.mk hsucc;have HL:=af.mk hlen;clear hlen hsucc;obtain⟨xs,hxs⟩:∃xs,cH i.toNat p=xs:=⟨_,rfl⟩;rw[hxs] at HO pP HL;clear hxs;by_cases hv:p i=true
   ·rw[hv] at hcall;have hz:cH (i+1).toNat p=xs++[i]:=by rw[pP.o,ah hv]
    have HZ:=af.mk hz;have HC:=af.mk hcall;clear hcall hz hv;go_wp2_with fail
    refine HC.o.mono ?_;rintro e w1 ⟨rfl,hb1⟩;have bF:=af.mk (aU HB.o hb1);have mE:=af.mk (Kd.dB HO.o hb1);clear hb1 HO HB;go_wp2_with (at_builtin;refine Kd.jW (Kd.int .i64) (w0:=w) w.heap.size rfl (.tmp 12) (.tmp 14) 31 3 (.int .i64 0) 8 rfl Tryz.underlying31 info3 rfl ao ae u3 xs i [.int .i64 i] (fun _=>True) (fun _=>False) rfl rfl ?aP (fun _ hk=>hk.elim) ?aF ?aO ?aB ?aS ?aL ?_;(case aP=>exact rfl);(case aB=>exact bF.o);(case aF=>exact(fun _ _=>trivial));(case aO=>exact mE.o);(case aS=>exact bF.o.size);(case aL=>have:=HL.o;omega);intro v1 w2 ho hb hg hat;have iC:=af.mk ho;have bK:=af.mk hb;clear ho hb hg hat)
    go_roundg (9 - (i.toNat+1))
    case measure=>have:=HK.o;omega
    case rel=>exact⟨i+1,rfl,⟨ae⟩,⟨ae⟩,⟨by rw[HZ.o];exact iC.o⟩,bK⟩
   ·have hv:=Bool.eq_false_iff.2 hv;rw[hv] at hcall;have hz:cH (i+1).toNat p=xs:=by rw[pP.o,ag (by rw[hv];simp),List.append_nil]
    have HZ:=af.mk hz;have HC:=af.mk hcall;clear hcall hz hv;go_wp2_with (go_at_fn g;refine HC.o.mono ?_;rintro e w1 ⟨rfl,hb1⟩)
    go_roundg (9 - (i.toNat+1))
    case measure=>have:=HK.o;omega
    case rel=>exact⟨i+1,rfl,⟨ae⟩,⟨ae⟩,⟨by rw[HZ.o];exact Kd.dB HO.o hb1⟩,⟨aU HB.o hb1⟩⟩
  ·go_wp2;go_ret;have hi:i=9:=by have:=HI.o;omega
   subst hi;exact⟨_,rfl,HO.o,HB.o⟩
theorem uD(l:List (List Int))(i:Nat)(h:i<l.length):aT l (i:Int)=l[i]:=by
 unfold aT;rw[List.getD_eq_getElem?_getD];simp[h]
theorem ahM{l:List (List Int)}{i:Int}(h0:0≤i)(h1:i<l.length):aT l i=l[i.toNat]'ae:=by
 rw[←uD l i.toNat ae,Int.toNat_of_nonneg h0]
theorem Nk{l:List (List Int)}{i:Int}(h0:0≤i)(h1:i<l.length):aT l i∈l:=by
 rw[ahM h0 h1];exact List.getElem_mem _
theorem Ot(g:Nat)(lb:Array Value)(eg:Eg g)(p:Int→Int→Bool)(q:Int→Bool)(hq:∀i:Int,0≤i→i<81→q i=p (i / 9) (i%9))(w:World)(hp:R4 g lb w (fun x y=>(0≤x∧x<9)∧0≤y∧y<9) (fun x y=>.bool (p x y))):
  Calls Tryz.prog 141 #[.func (.func g) #[] lb] w fun e w'=> ∃v:Value,e=.returned v∧Kd.R (Kd.int .i64) 3 w' w.heap.size (fun _=>True) v (cH 81 q)∧Below w.heap.size w w':=by
 have HP:=af.mk hp;clear hp;unfold Eg at eg;go_enter Tryz.func141,Tryz.ntmps141;go_wp2_with ((with_reducible refine db (N:=5) rfl ?_);refine Kd.dV (Kd.int .i64) _ 3 ?hg (N:=5) ?hd (xs:=([]:List Int)) (inner:=[]) (ok:=fun _=>True) (bp:=fun _=>True) ?hr ?hp (fun _ hk=>hk) trivial (Below.refl _ _) (aH _) bn ?_;(case hd=>rfl);(case hg=>rfl);(case hr=>first|(go_simp;done)|(go_simp;rfl));(case hp=>exact(aE.none _ _));intro v0 w0 ho0 hb0 Ct Cu;have jD:=af.mk ho0;have fH:=af.mk hb0;clear ho0 hb0 Ct Cu)
 go_loopg [3,6] 81 (fun kq v3 v6 w'=> ∃i:Int,v6=.int .i64 i∧af (0≤i∧i≤81)∧af ((81:Int) - i≤kq)∧af (Kd.R (Kd.int .i64) 3 w' w.heap.size (fun _=>True) v3 (cH i.toNat q))∧af (Below w.heap.size w w'))
 case atStart=>exact⟨0,rfl,⟨ae⟩,⟨ae⟩,jD,fH⟩
 case round=>
  clear jD fH;obtain⟨i,rfl,HI,HK,HO,HB⟩:=hrel;have h0:0≤i:=HI.o.1;by_cases c6:i<81
  ·have hlen:(cH i.toNat q).length≤i.toNat:=kt _ _;have hcall:=HP.o wr (i / 9) (i%9) HB.o ⟨⟨ae,ae⟩,ae,ae⟩;dsimp only at hcall;rw[←hq i h0 c6] at hcall;have e1:wrap64 (Int.tdiv i 9)=i / 9:=by rw[Int.tdiv_eq_ediv_of_nonneg h0];unfold wrap64;omega
   have e2:wrap64 (Int.tmod i 9)=i%9:=by rw[Int.tmod_eq_emod_of_nonneg h0];unfold wrap64;omega
   have hsucc:cH (i+1).toNat q=cH i.toNat q++(if q i=true then[i] else[]):=by
    rw[show(i+1).toNat=i.toNat+1 by omega,lW,Int.toNat_of_nonneg h0]
   have pP:=af.mk hsucc;have HL:=af.mk hlen;clear hlen hsucc;obtain⟨xs,hxs⟩:∃xs,cH i.toNat q=xs:=⟨_,rfl⟩;rw[hxs] at HO pP HL;clear hxs;by_cases hv:q i=true
   ·rw[hv] at hcall;have hz:cH (i+1).toNat q=xs++[i]:=by rw[pP.o,ah hv]
    have HZ:=af.mk hz;have HC:=af.mk hcall;clear hcall hz hv;go_wp2_with fail
    refine HC.o.mono ?_;rintro e w1 ⟨rfl,hb1⟩;have bF:=af.mk (aU HB.o hb1);have mE:=af.mk (Kd.dB HO.o hb1);clear hb1 HO HB;go_wp2_with (at_builtin;refine Kd.jW (Kd.int .i64) (w0:=w) w.heap.size rfl (.tmp 15) (.tmp 17) 31 3 (.int .i64 0) 8 rfl Tryz.underlying31 info3 rfl ao ae u3 xs i [.int .i64 i] (fun _=>True) (fun _=>False) rfl rfl ?aP (fun _ hk=>hk.elim) ?aF ?aO ?aB ?aS ?aL ?_;(case aP=>exact rfl);(case aB=>exact bF.o);(case aF=>exact(fun _ _=>trivial));(case aO=>exact mE.o);(case aS=>exact bF.o.size);(case aL=>have:=HL.o;omega);intro v1 w2 ho hb hg hat;have iC:=af.mk ho;have bK:=af.mk hb;clear ho hb hg hat)
    go_roundg (81 - (i.toNat+1))
    case measure=>have:=HK.o;omega
    case rel=>exact⟨i+1,rfl,⟨ae⟩,⟨ae⟩,⟨by rw[HZ.o];exact iC.o⟩,bK⟩
   ·have hv:=Bool.eq_false_iff.2 hv;rw[hv] at hcall;have hz:cH (i+1).toNat q=xs:=by rw[pP.o,ag (by rw[hv];simp),List.append_nil]
    have HZ:=af.mk hz;have HC:=af.mk hcall;clear hcall hz hv;go_wp2_with (go_at_fn g;refine HC.o.mono ?_;rintro e w1 ⟨rfl,hb1⟩)
    go_roundg (81 - (i.toNat+1))
    case measure=>have:=HK.o;omega
    case rel=>exact⟨i+1,rfl,⟨ae⟩,⟨ae⟩,⟨by rw[HZ.o];exact Kd.dB HO.o hb1⟩,⟨aU HB.o hb1⟩⟩
  ·go_wp2;go_ret;have hi:i=81:=by have:=HI.o;omega
   subst hi;exact⟨_,rfl,HO.o,HB.o⟩
end X
namespace P
def uz.f(a0:Int)(a1:Int):Option (Int):=(nY.f (wrap64 (Int.tdiv a0 9)) (wrap64 (Int.tdiv a1 9))).bind fun M1=>((nY.f (Int.tmod a0 9) (Int.tmod a1 9)).bind fun M3=>(some (wrap64 ((wrap64 (9*M1))+M3))))
theorem uz.calls(a0:Int)(a1:Int)(r:Int)(w:World)(h:uz.f a0 a1=some r):
  Calls Tryz.prog 254 #[.int .i64 a0,.int .i64 a1] w fun e w'=>e=.returned (.int .i64 r)∧aG w w':=by
 have H:=h;clear h;unfold uz.f at H;replace H:=aA.mp H;obtain⟨M1,bW,H⟩:=H;have A3:=af.mk bW;clear bW;replace H:=aA.mp H;obtain⟨M3,cX,H⟩:=H;have A4:=af.mk cX;clear cX;obtain rfl:=au H;go_enter Tryz.func254,Tryz.ntmps254;go_wp2_with (first|(refine cx 9 Tryz.func36 #[.int .i64 (wrap64 (Int.tdiv a0 9)),.int .i64 (wrap64 (Int.tdiv a1 9))] (nY.calls (wrap64 (Int.tdiv a0 9)) (wrap64 (Int.tdiv a1 9)) M1 _ A3.o) fun nd=>?_)|(refine cx 15 Tryz.func36 #[.int .i64 (Int.tmod a0 9),.int .i64 (Int.tmod a1 9)] (nY.calls (Int.tmod a0 9) (Int.tmod a1 9) M3 _ A4.o) fun nd=>?_))
 go_ret;exact⟨ak,aQ⟩
def rG.f(a0:Int):Option (Bool):=if a0≥0 then(some (decide (a0<81))) else(some false)
theorem rG.calls(a0:Int)(r:Bool)(w:World)(h:rG.f a0=some r):
  Calls Tryz.prog 253 #[.int .i64 a0] w fun e w'=>e=.returned (.bool r)∧aG w w':=by
 have H:=h;clear h;unfold rG.f at H;by_cases c2:a0≥0
 case neg=>
  rw[ag c2] at H;have eM:=aD c2;clear c2;obtain rfl:=au H;go_enter Tryz.func253,Tryz.ntmps253;go_wp2;go_ret;exact⟨ak,aQ⟩
 rw[ah c2] at H;have eM:=ap c2;clear c2;obtain rfl:=au H;go_enter Tryz.func253,Tryz.ntmps253;go_wp2;go_ret;exact⟨ak,aQ⟩
mutual
def fe.l0:Nat→List Int→List Int→Int→Int→Option (Bool)
 |0,_,_,_,_=>none
 |k+1,x0,kz,lz,ow=>if ow<lz then(if 0≤ow then(if ow<(kz.length:Int) then((rG.f (rd kz ow)).bind fun M4=>(if M4=true then(if ow>0 then(if 0≤(wrap64 (ow - 1)) then(if(wrap64 (ow - 1))<(x0.length:Int) then(if(rd x0 (wrap64 (ow - 1)))≥(rd kz ow) then(some false) else(fe.l0 k x0 kz lz (wrap64 (ow+1)))) else none) else none) else(fe.l0 k x0 kz lz (wrap64 (ow+1)))) else(some false))) else none) else none) else(fe.l1 k x0 x0 (x0.length:Int) 0)
def fe.l1:Nat→List Int→List Int→Int→Int→Option (Bool)
 |0,_,_,_,_=>none
 |k+1,x0,uA,Dx,x38=>if x38<Dx then(if 0≤x38 then(if x38<(uA.length:Int) then(fe.l2 k x0 (rd uA x38) uA Dx x38 x0 (x0.length:Int) 0) else none) else none) else(some true)
def fe.l2:Nat→List Int→Int→List Int→Int→Int→List Int→Int→Int→Option (Bool)
 |0,_,_,_,_,_,_,_,_=>none
 |k+1,x0,x6,uA,Dx,x38,M5,x43,Dy=>if Dy<x43 then(if 0≤Dy then(if Dy<(M5.length:Int) then((uz.f x6 (rd M5 Dy)).bind fun uB=>((pQ.f k x0 uB).bind fun M6=>(if M6=true then(fe.l2 k x0 x6 uA Dx x38 M5 x43 (wrap64 (Dy+1))) else(some false)))) else none) else none) else(fe.l1 k x0 uA Dx (wrap64 (x38+1)))
end
def fe.f(k:Nat)(l0:List Int):Option (Bool):=if(l0.length:Int)=9 then(fe.l0 k l0 l0 (l0.length:Int) 0) else(some false)
theorem fe.calls(k:Nat)(A0:Option Addr)(c0:Nat)(l0:List Int)(r:Bool)(w:World)(hr0:Kd.C (Kd.int .i64) w A0 l0.length l0)(hc0:l0.length≤c0)(h:fe.f k l0=some r):
  Calls Tryz.prog 210 #[.slice A0 l0.length c0] w fun e w'=>e=.returned (.bool r)∧aG w w':=by
 have aj:=af.mk hr0;have ax:=af.mk hc0;clear hr0 hc0;have H:=h;clear h;unfold fe.f at H;by_cases c2:(l0.length:Int)=9
 case neg=>
  rw[ag c2] at H;have eM:=cV c2;have mb:=bne_iff_ne.mpr c2;obtain rfl:=au H;go_enter Tryz.func210,Tryz.ntmps210;go_wp2;go_ret;exact⟨ak,aQ⟩
 rw[ah c2] at H;have eM:=beq_iff_eq.mpr c2;have mb:=bne_eq_false_iff_eq.mpr c2;clear c2;have H':=af.mk H;clear H;go_enter Tryz.func210,Tryz.ntmps210;go_wp2;go_loopg [14] k (fun kq Dz w'=> ∃(iP:Int),Dz=.int .i64 iP∧af (fe.l0 kq l0 l0 (l0.length:Int) iP=some r)∧af (kq≤k)∧aG w w')
 case atStart=>exact⟨(0),ak,H',⟨aH _⟩,aQ⟩
 case round=>
  clear H';obtain⟨iP,rfl,HA,aC,⟨m1,rfl⟩⟩:=hrel;cases gk with
  |zero=>exact absurd HA.o (by simp[fe.l0])
  |succ k1=>
   have H:=HA.o;clear HA;simp only[fe.l0] at H;by_cases c3:iP<(l0.length:Int)
   case neg=>
    rw[ag c3] at H;have eU:=aD c3;clear c3;have H':=af.mk H;clear H;go_wp2;go_loopg [38] k1 (fun kq M7 w'=> ∃(o6:Int),M7=.int .i64 o6∧af (fe.l1 kq l0 l0 (l0.length:Int) o6=some r)∧af (kq≤k1)∧aG w w')
    case atStart=>exact⟨(0),ak,H',⟨aH _⟩,aQ⟩
    case round=>
     clear H';obtain⟨o6,rfl,HA,bw,⟨m2,rfl⟩⟩:=hrel;cases gk with
     |zero=>exact absurd HA.o (by simp[fe.l1])
     |succ k2=>
      have H:=HA.o;clear HA;simp only[fe.l1] at H;by_cases c13:o6<(l0.length:Int)
      case neg=>
       rw[ag c13] at H;have j6:=aD c13;clear c13;obtain rfl:=au H;go_wp2;go_ret;exact⟨ak,aQ⟩
      rw[ah c13] at H;have j6:=ap c13;clear c13;replace H:=bC H;obtain⟨pV,H⟩:=H;replace H:=bC H;obtain⟨n4,H⟩:=H;have H':=af.mk H;clear H;obtain⟨Ve,rfl,aqX,aqY,aqZ⟩:=eu aj o6;go_wp2;go_loopg [44] k2 (fun kq M8 w'=> ∃(qj:Int),M8=.int .i64 qj∧af (fe.l2 kq l0 (rd l0 o6) l0 (l0.length:Int) o6 l0 (l0.length:Int) qj=some r)∧af (kq≤k2)∧aG w w')
      case atStart=>exact⟨(0),ak,H',⟨aH _⟩,aQ⟩
      case round=>
       clear H';obtain⟨qj,rfl,HA,dt,⟨m3,rfl⟩⟩:=hrel;cases gk with
       |zero=>exact absurd HA.o (by simp[fe.l2])
       |succ k3=>
        have H:=HA.o;clear HA;simp only[fe.l2] at H;by_cases c16:qj<(l0.length:Int)
        case neg=>
         rw[ag c16] at H;have oh:=aD c16;clear c16;have H':=af.mk H;clear H;go_wp2;go_roundg k3
         case measure=>have:=aC.o;have:=bw.o;have:=dt.o;omega
         case rel=>exact⟨(wrap64 (o6+1)),ak,H',⟨by have:=aC.o;have:=bw.o;have:=dt.o;omega⟩,aQ⟩
        rw[ah c16] at H;have oh:=ap c16;clear c16;replace H:=bC H;obtain⟨sG,H⟩:=H;replace H:=bC H;obtain⟨rv,H⟩:=H;replace H:=aA.mp H;obtain⟨uB,uy,H⟩:=H;have s5:=af.mk uy;clear uy;replace H:=aA.mp H;obtain⟨M6,pW,H⟩:=H;have cW:=af.mk pW;clear pW;by_cases fN:M6=true
        case neg=>
         replace fN:=bU fN;subst fN;rw[ag bV] at H;obtain rfl:=au H;obtain⟨ahj,ahk,ahl⟩:=fW aj qj;go_wp2_with (first|(refine cx 51 Tryz.func254 #[.int .i64 (rd l0 o6),.int .i64 (rd l0 qj)] (uz.calls (rd l0 o6) (rd l0 qj) uB _ s5.o) fun nd=>?_)|(refine aY 52 Tryz.func202 #[.slice (some Ve) l0.length c0,.int .i64 uB] ?_;(with_reducible refine(pQ.calls k3 _ _ l0 uB false _ ?_ ?_ cW.o).mono ?_);exact bD aj;exact ax.o;rintro e w' ⟨rfl,⟨nd,rfl⟩⟩;refine⟨_,rfl,?_⟩))
         go_ret;exact⟨ak,aQ⟩
        subst fN;rw[ah rfl] at H;have H':=af.mk H;clear H;obtain⟨ahj,ahk,ahl⟩:=fW aj qj;go_wp2_with (first|(refine cx 51 Tryz.func254 #[.int .i64 (rd l0 o6),.int .i64 (rd l0 qj)] (uz.calls (rd l0 o6) (rd l0 qj) uB _ s5.o) fun nd=>?_)|(refine aY 52 Tryz.func202 #[.slice (some Ve) l0.length c0,.int .i64 uB] ?_;(with_reducible refine(pQ.calls k3 _ _ l0 uB true _ ?_ ?_ cW.o).mono ?_);exact bD aj;exact ax.o;rintro e w' ⟨rfl,⟨nd,rfl⟩⟩;refine⟨_,rfl,?_⟩))
        go_roundg k3
        case measure=>have:=aC.o;have:=bw.o;have:=dt.o;omega
        case rel=>exact⟨(wrap64 (qj+1)),ak,H',⟨by have:=aC.o;have:=bw.o;have:=dt.o;omega⟩,aQ⟩
   rw[ah c3] at H;have eU:=ap c3;clear c3;replace H:=bC H;obtain⟨dK,H⟩:=H;replace H:=bC H;obtain⟨dC,H⟩:=H;replace H:=aA.mp H;obtain⟨M4,dQ,H⟩:=H;have A6:=af.mk dQ;clear dQ;by_cases c7:M4=true
   case neg=>
    replace c7:=bU c7;subst c7;rw[ag bV] at H;obtain rfl:=au H;obtain⟨DA,rfl,M9,M_,Na⟩:=eu aj iP;go_wp2_with ((refine cx 20 Tryz.func253 #[.int .i64 (rd l0 iP)] (rG.calls (rd l0 iP) false _ A6.o) fun nd=>?_))
    go_ret;exact⟨ak,aQ⟩
   subst c7;rw[ah rfl] at H;by_cases c8:iP>0
   case neg=>
    rw[ag c8] at H;have fF:=aD c8;clear c8;have H':=af.mk H;clear H;obtain⟨DA,rfl,M9,M_,Na⟩:=eu aj iP;go_wp2_with ((refine cx 20 Tryz.func253 #[.int .i64 (rd l0 iP)] (rG.calls (rd l0 iP) true _ A6.o) fun nd=>?_))
    go_roundg k1
    case measure=>have:=aC.o;omega
    case rel=>exact⟨(wrap64 (iP+1)),ak,H',⟨by have:=aC.o;omega⟩,aQ⟩
   rw[ah c8] at H;have fF:=ap c8;clear c8;obtain⟨cN,ft⟩:∃j_:Int,(wrap64 (iP - 1))=j_:=⟨_,rfl⟩;replace H:(if 0≤(cN) then(if(cN)<(l0.length:Int) then(if(rd l0 (cN))≥(rd l0 iP) then(some false) else(fe.l0 k1 l0 l0 (l0.length:Int) (wrap64 (iP+1)))) else none) else none)=some r:=by first|(rw[ft] at H;exact H)|(simp only[ft] at H ⊢;exact H)
   (try rw[ft] at A6)
   have Cw:(IntKind.i64.wrap (iP - 1))=cN:=(dh _).trans ft;replace H:=bC H;obtain⟨gH,H⟩:=H;replace H:=bC H;obtain⟨j5,H⟩:=H;by_cases c12:(rd l0 (cN))≥(rd l0 iP)
   case neg=>
    rw[ag c12] at H;have jC:=aD c12;clear c12;have H':=af.mk H;clear H;obtain⟨DA,rfl,M9,M_,Na⟩:=eu aj iP;go_wp2_with ((refine cx 20 Tryz.func253 #[.int .i64 (rd l0 iP)] (rG.calls (rd l0 iP) true _ A6.o) fun nd=>?_;have wZ:0≤((cN):Int):=aJ;have w_:(cN)<(l0.length:Int):=aJ;obtain⟨Nb,Nc,ahm⟩:=Kd.ck aj.o (cN) wZ w_;obtain rfl:DA=Nb:=(by injection Nc);replace wZ:=av wZ;replace w_:=av w_))
    go_roundg k1
    case measure=>have:=aC.o;omega
    case rel=>exact⟨(wrap64 (iP+1)),ak,H',⟨by have:=aC.o;omega⟩,aQ⟩
   rw[ah c12] at H;have jC:=ap c12;clear c12;obtain rfl:=au H;obtain⟨DA,rfl,M9,M_,Na⟩:=eu aj iP;go_wp2_with ((refine cx 20 Tryz.func253 #[.int .i64 (rd l0 iP)] (rG.calls (rd l0 iP) true _ A6.o) fun nd=>?_;have wZ:0≤((cN):Int):=aJ;have w_:(cN)<(l0.length:Int):=aJ;obtain⟨Nb,Nc,ahm⟩:=Kd.ck aj.o (cN) wZ w_;obtain rfl:DA=Nb:=(by injection Nc);replace wZ:=av wZ;replace w_:=av w_))
   go_ret;exact⟨by first|rfl|(simp;done)|(simp only[←ft]<;>(first|rfl|simp))|(simp[*];done),aQ⟩
def iR.f(a0:Int)(a1:Int):Option (Int):=some (wrap64 ((Int.tmod (wrap64 ((wrap64 ((Int.tmod a0 3)*(Int.tmod a1 3)))+(wrap64 ((wrap64 (2*(wrap64 (Int.tdiv a0 3))))*(wrap64 (Int.tdiv a1 3)))))) 3)+(wrap64 ((Int.tmod (wrap64 ((wrap64 ((Int.tmod a0 3)*(wrap64 (Int.tdiv a1 3))))+(wrap64 ((wrap64 (Int.tdiv a0 3))*(Int.tmod a1 3))))) 3)*3))))
theorem iR.calls(a0:Int)(a1:Int)(r:Int)(w:World)(h:iR.f a0 a1=some r):
  Calls Tryz.prog 98 #[.int .i64 a0,.int .i64 a1] w fun e w'=>e=.returned (.int .i64 r)∧aG w w':=by
 have H:=h;clear h;unfold iR.f at H;obtain rfl:=au H;go_enter Tryz.func98,Tryz.ntmps98;go_wp2;go_ret;exact⟨ak,aQ⟩
def Eu.f(a0:Int):Option (Int):=(iR.f a0 a0).bind fun Ew=>((iR.f a0 Ew).bind fun OC=>(some OC))
theorem Eu.calls(a0:Int)(r:Int)(w:World)(h:Eu.f a0=some r):
  Calls Tryz.prog 99 #[.int .i64 a0] w fun e w'=>e=.returned (.int .i64 r)∧aG w w':=by
 have H:=h;clear h;unfold Eu.f at H;replace H:=aA.mp H;obtain⟨Ew,cW,H⟩:=H;have A2:=af.mk cW;clear cW;replace H:=aA.mp H;obtain⟨OC,bW,H⟩:=H;have A3:=af.mk bW;clear bW;obtain rfl:=au H;go_enter Tryz.func99,Tryz.ntmps99;go_wp2_with (first|(refine cx 6 Tryz.func98 #[.int .i64 a0,.int .i64 a0] (iR.calls a0 a0 Ew _ A2.o) fun nd=>?_)|(refine cx 7 Tryz.func98 #[.int .i64 a0,.int .i64 Ew] (iR.calls a0 Ew OC _ A3.o) fun nd=>?_))
 go_ret;exact⟨ak,aQ⟩
def im.l0:Nat→Int→Int→Option (Bool)
 |0,_,_=>none
 |k+1,x0,x3=>if x3<9 then((iR.f x3 x3).bind fun Ex=>(if Ex=x0 then(some true) else(im.l0 k x0 (wrap64 (x3+1))))) else(some false)
def im.f(k:Nat)(a0:Int):Option (Bool):=im.l0 k a0 1
theorem im.lx:∀k,(∀y0 y1,a7 (im.l0 k y0 y1) (im.l0 (k+1) y0 y1))
 |0=>fun _ _ r h=>by simp[im.l0] at h
 |k+1=>by
  have d7:=im.lx k
  ·intro y0 y1;unfold im.l0;repeat' first
   |(with_reducible exact d7 _ _)
   |(with_reducible exact a7.refl _)
   |(with_reducible exact a7.none _)
   |(with_reducible refine a7.ite ?_ ?_)
   |(with_reducible refine a7.bind ?_ (fun _=>?_))
   |exact d7 _ _
   |exact a7.none _
   |refine a7.ite ?_ ?_
   |refine a7.bind ?_ (fun _=>?_)
theorem im.mono:∀a0 k,a7 (im.f k a0) (im.f (k+1) a0):=by
 intro a0 k;have d7:=im.lx k;unfold im.f
 repeat' first
   |(with_reducible exact d7 _ _)
   |(with_reducible exact a7.refl _)
   |(with_reducible exact a7.none _)
   |(with_reducible refine a7.ite ?_ ?_)
   |(with_reducible refine a7.bind ?_ (fun _=>?_))
   |exact d7 _ _
   |exact a7.none _
   |refine a7.ite ?_ ?_
   |refine a7.bind ?_ (fun _=>?_)
theorem im.calls(k:Nat)(a0:Int)(r:Bool)(w:World)(h:im.f k a0=some r):
  Calls Tryz.prog 97 #[.int .i64 a0] w fun e w'=>e=.returned (.bool r)∧aG w w':=by
 have H:=h;clear h;unfold im.f at H;have H':=af.mk H;clear H;go_enter Tryz.func97,Tryz.ntmps97;go_wp2;go_loopg [3] k (fun kq v3 w'=> ∃(aV:Int),v3=.int .i64 aV∧af (im.l0 kq a0 aV=some r)∧af (kq≤k)∧aG w w')
 case atStart=>exact⟨(1),ak,H',⟨aH _⟩,aQ⟩
 case round=>
  clear H';obtain⟨aV,rfl,HA,aC,⟨m1,rfl⟩⟩:=hrel;cases gk with
  |zero=>exact absurd HA.o (by simp[im.l0])
  |succ k1=>
   have H:=HA.o;clear HA;simp only[im.l0] at H;by_cases c2:aV<9
   case neg=>
    rw[ag c2] at H;have eM:=aD c2;clear c2;obtain rfl:=au H;go_wp2;go_ret;exact⟨ak,aQ⟩
   rw[ah c2] at H;have eM:=ap c2;clear c2;replace H:=aA.mp H;obtain⟨Ex,bW,H⟩:=H;have A3:=af.mk bW;clear bW;by_cases c4:Ex=a0
   case neg=>
    rw[ag c4] at H;have dK:=cV c4;have nX:=bne_iff_ne.mpr c4;have H':=af.mk H;clear H;go_wp2_with ((refine cx 10 Tryz.func98 #[.int .i64 aV,.int .i64 aV] (iR.calls aV aV Ex _ A3.o) fun nd=>?_))
    go_roundg k1
    case measure=>have:=aC.o;omega
    case rel=>exact⟨(wrap64 (aV+1)),ak,H',⟨by have:=aC.o;omega⟩,aQ⟩
   rw[ah c4] at H;have dK:=beq_iff_eq.mpr c4;have nX:=bne_eq_false_iff_eq.mpr c4;clear c4;obtain rfl:=au H;go_wp2_with ((refine cx 10 Tryz.func98 #[.int .i64 aV,.int .i64 aV] (iR.calls aV aV Ex _ A3.o) fun nd=>?_))
   go_ret;exact⟨ak,aQ⟩
def tm.f(a0:Int)(a1:Int)(a2:Int)(a3:Int):Option (Int):=if(wrap64 (Int.tdiv a1 3))=0 then((iR.f a0 a1).bind fun OD=>(some OD)) else(some (wrap64 ((Int.tmod (wrap64 ((wrap64 ((Int.tmod a0 3)*(Int.tmod a1 3)))+(wrap64 ((wrap64 (2*(wrap64 (Int.tdiv a0 3))))*(wrap64 ((wrap64 ((wrap64 ((wrap64 ((Int.tmod a1 3)*(Int.tmod a1 3)))+(wrap64 ((wrap64 (2*a2))*(Int.tmod a1 3)))))+(wrap64 (2*a3))))*(wrap64 (Int.tdiv a1 3)))))))) 3)+(wrap64 ((Int.tmod (wrap64 ((wrap64 ((wrap64 ((Int.tmod a0 3)*(wrap64 (Int.tdiv a1 3))))+(wrap64 ((wrap64 (2*(wrap64 (Int.tdiv a0 3))))*(Int.tmod a1 3)))))+(wrap64 ((wrap64 (Int.tdiv a0 3))*a2)))) 3)*3)))))
theorem tm.calls(a0:Int)(a1:Int)(a2:Int)(a3:Int)(r:Int)(w:World)(h:tm.f a0 a1 a2 a3=some r):
  Calls Tryz.prog 100 #[.int .i64 a0,.int .i64 a1,.int .i64 a2,.int .i64 a3] w fun e w'=>e=.returned (.int .i64 r)∧aG w w':=by
 have H:=h;clear h;unfold tm.f at H;by_cases c5:(wrap64 (Int.tdiv a1 3))=0
 case neg=>
  rw[ag c5] at H;have dC:=cV c5;have oe:=bne_iff_ne.mpr c5;obtain rfl:=au H;go_enter Tryz.func100,Tryz.ntmps100;go_wp2;go_ret;exact⟨ak,aQ⟩
 rw[ah c5] at H;have dC:=beq_iff_eq.mpr c5;have oe:=bne_eq_false_iff_eq.mpr c5;clear c5;replace H:=aA.mp H;obtain⟨OD,dQ,H⟩:=H;have A6:=af.mk dQ;clear dQ;obtain rfl:=au H;go_enter Tryz.func100,Tryz.ntmps100;go_wp2_with ((refine cx 22 Tryz.func98 #[.int .i64 a0,.int .i64 a1] (iR.calls a0 a1 OD _ A6.o) fun nd=>?_))
 go_ret;exact⟨ak,aQ⟩
def gP.j0:Nat→Int→Int→Bool→Option (Int)
 |0,_,_,_=>none
 |k+1,x1,x2,OE=>if OE=true then((Eu.f x1).bind fun Ey=>((iR.f Ey x2).bind fun OG=>(some OG))) else((iR.f x1 x2).bind fun OH=>(some OH))
def gP.f(k:Nat)(a0:Int)(a1:Int)(a2:Int):Option (Int):=if a0=1 then(if a2=0 then(gP.j0 k a1 a2 false) else((im.f k a2).bind fun Iq=>(gP.j0 k a1 a2 (!Iq)))) else(if a0=2 then((tm.f a1 a2 0 2).bind fun OI=>(some OI)) else(if a0=3 then((tm.f a1 a2 1 1).bind fun OJ=>(some OJ)) else(if a0=4 then((tm.f a1 a2 2 1).bind fun OL=>(some OL)) else((iR.f a1 a2).bind fun OM=>(some OM)))))
theorem gP.lx:∀k,(∀y0 y1 y2,a7 (gP.j0 k y0 y1 y2) (gP.j0 (k+1) y0 y1 y2))
 |0=>fun _ _ _ r h=>by simp[gP.j0] at h
 |k+1=>by
  have d7:=gP.lx k
  ·intro y0 y1 y2;unfold gP.j0;repeat' first
   |(with_reducible exact d7 _ _ _)
   |(with_reducible exact im.mono _ _)
   |(with_reducible exact a7.refl _)
   |(with_reducible exact a7.none _)
   |(with_reducible refine a7.ite ?_ ?_)
   |(with_reducible refine a7.bind ?_ (fun _=>?_))
   |exact d7 _ _ _
   |exact im.mono _ _
   |exact a7.none _
   |refine a7.ite ?_ ?_
   |refine a7.bind ?_ (fun _=>?_)
theorem gP.mono:∀a0 a1 a2 k,a7 (gP.f k a0 a1 a2) (gP.f (k+1) a0 a1 a2):=by
 intro a0 a1 a2 k;have d7:=gP.lx k;unfold gP.f
 repeat' first
   |(with_reducible exact d7 _ _ _)
   |(with_reducible exact im.mono _ _)
   |(with_reducible exact a7.refl _)
   |(with_reducible exact a7.none _)
   |(with_reducible refine a7.ite ?_ ?_)
   |(with_reducible refine a7.bind ?_ (fun _=>?_))
   |exact d7 _ _ _
   |exact im.mono _ _
   |exact a7.none _
   |refine a7.ite ?_ ?_
   |refine a7.bind ?_ (fun _=>?_)
theorem gP.calls(k:Nat)(a0:Int)(a1:Int)(a2:Int)(r:Int)(w:World)(h:gP.f k a0 a1 a2=some r):
  Calls Tryz.prog 56 #[.int .i64 a0,.int .i64 a1,.int .i64 a2] w fun e w'=>e=.returned (.int .i64 r)∧aG w w':=by
 have H:=h;clear h;unfold gP.f at H;by_cases c4:a0=1
 case neg=>
  rw[ag c4] at H;have dK:=cV c4;have nX:=bne_iff_ne.mpr c4;by_cases c12:a0=2
  case neg=>
   rw[ag c12] at H;have jC:=cV c12;have sv:=bne_iff_ne.mpr c12;by_cases c14:a0=3
   case neg=>
    rw[ag c14] at H;have pV:=cV c14;have Ir:=bne_iff_ne.mpr c14;by_cases c16:a0=4
    case neg=>
     rw[ag c16] at H;have oh:=cV c16;have OO:=bne_iff_ne.mpr c16;replace H:=aA.mp H;obtain⟨OM,Ez,H⟩:=H;have OP:=af.mk Ez;clear Ez;obtain rfl:=au H;go_enter Tryz.func56,Tryz.ntmps56;go_wp2_with ((refine cx 38 Tryz.func98 #[.int .i64 a1,.int .i64 a2] (iR.calls a1 a2 OM _ OP.o) fun nd=>?_))
     go_ret;exact⟨ak,aQ⟩
    rw[ah c16] at H;have oh:=beq_iff_eq.mpr c16;have OO:=bne_eq_false_iff_eq.mpr c16;clear c16;replace H:=aA.mp H;obtain⟨OL,qv,H⟩:=H;have rR:=af.mk qv;clear qv;obtain rfl:=au H;go_enter Tryz.func56,Tryz.ntmps56;go_wp2_with ((refine cx 35 Tryz.func100 #[.int .i64 a1,.int .i64 a2,.int .i64 2,.int .i64 1] (tm.calls a1 a2 2 1 OL _ rR.o) fun nd=>?_))
    go_ret;exact⟨ak,aQ⟩
   rw[ah c14] at H;have pV:=beq_iff_eq.mpr c14;have Ir:=bne_eq_false_iff_eq.mpr c14;clear c14;replace H:=aA.mp H;obtain⟨OJ,nM,H⟩:=H;have oA:=af.mk nM;clear nM;obtain rfl:=au H;go_enter Tryz.func56,Tryz.ntmps56;go_wp2_with ((refine cx 30 Tryz.func100 #[.int .i64 a1,.int .i64 a2,.int .i64 1,.int .i64 1] (tm.calls a1 a2 1 1 OJ _ oA.o) fun nd=>?_))
   go_ret;exact⟨ak,aQ⟩
  rw[ah c12] at H;have jC:=beq_iff_eq.mpr c12;have sv:=bne_eq_false_iff_eq.mpr c12;clear c12;replace H:=aA.mp H;obtain⟨OI,nE,H⟩:=H;have p9:=af.mk nE;clear nE;obtain rfl:=au H;go_enter Tryz.func56,Tryz.ntmps56;go_wp2_with ((refine cx 25 Tryz.func100 #[.int .i64 a1,.int .i64 a2,.int .i64 0,.int .i64 2] (tm.calls a1 a2 0 2 OI _ p9.o) fun nd=>?_))
  go_ret;exact⟨ak,aQ⟩
 rw[ah c4] at H;have dK:=beq_iff_eq.mpr c4;have nX:=bne_eq_false_iff_eq.mpr c4;clear c4;have OQ:=af.mk H;clear H;go_enter Tryz.func56,Tryz.ntmps56;go_upto_region 3 with(fail)
 go_cut [16] (fun Iu wc=> ∃(kq:Nat) (Iv:Bool),Iu=.bool Iv∧af (gP.j0 kq a1 a2 Iv=some r)∧af (kq≤k)∧aG w wc)
 case first=>
  have H:=OQ.o;clear OQ;by_cases c6:a2=0
  case neg=>
   rw[ag c6] at H;have dU:=cV c6;have j9:=bne_iff_ne.mpr c6;(first|rw[dU]|(simp only[dh,fb];rw[dU])|skip)
   replace H:=aA.mp H;obtain⟨Iq,dy,H⟩:=H;have A7:=af.mk dy;clear dy;have H':=af.mk H;clear H;go_wp2_with ((go_at_call 97;(with_reducible refine(im.calls k a2 Iq _ A7.o).mono ?_);rintro e w' ⟨rfl,⟨nd,rfl⟩⟩))
   go_meet;case rel=>exact⟨_,(!Iq),ak,H',⟨np⟩,aQ⟩
  rw[ah c6] at H;have dU:=beq_iff_eq.mpr c6;have j9:=bne_eq_false_iff_eq.mpr c6;clear c6;(first|rw[dU]|(simp only[dh,fb];rw[dU])|skip)
  have H':=af.mk H;clear H;go_wp2;go_meet;case rel=>exact⟨_,(false),ak,H',⟨np⟩,aQ⟩
 case rest=>
  clear OQ;obtain⟨kq,Iv,rfl,HA,HJ4,⟨mc4,rfl⟩⟩:=hcut;cases kq with
  |zero=>exact absurd HA.o (by simp[gP.j0])
  |succ kj4=>
   have H:=HA.o;clear HA;simp only[gP.j0] at H;by_cases c8:Iv=true
   case neg=>
    replace c8:=bU c8;subst c8;rw[ag bV] at H;replace H:=aA.mp H;obtain⟨OH,ka,H⟩:=H;have jH:=af.mk ka;clear ka;obtain rfl:=au H;go_wp2_with ((refine cx 38 Tryz.func98 #[.int .i64 a1,.int .i64 a2] (iR.calls a1 a2 OH _ jH.o) fun nd=>?_))
    go_ret;exact⟨ak,aQ⟩
   subst c8;rw[ah rfl] at H;replace H:=aA.mp H;obtain⟨Ey,Cz,H⟩:=H;have A9:=af.mk Cz;clear Cz;replace H:=aA.mp H;obtain⟨OG,uE,H⟩:=H;have mc:=af.mk uE;clear uE;obtain rfl:=au H;go_wp2_with (first|(refine cx 18 Tryz.func99 #[.int .i64 a1] (Eu.calls a1 Ey _ A9.o) fun nd=>?_)|(refine cx 20 Tryz.func98 #[.int .i64 Ey,.int .i64 a2] (iR.calls Ey a2 OG _ mc.o) fun nd=>?_))
   go_ret;exact⟨ak,aQ⟩
mutual
def eQ.l0:Nat→Int→List Int→Int→Option (List Int)
 |0,_,_,_=>none
 |k+1,x0,x3,x4=>if x4<9 then(eQ.l1 k x0 x3 x4 0) else(some x3)
def eQ.l1:Nat→Int→List Int→Int→Int→Option (List Int)
 |0,_,_,_,_=>none
 |k+1,x0,x3,x4,x5=>if x5<9 then((gP.f k x0 x4 x5).bind fun AP=>(if x3.length<17592186044416 then(eQ.l1 k x0 (x3++[AP]) x4 (wrap64 (x5+1))) else none)) else(eQ.l0 k x0 x3 (wrap64 (x4+1)))
end
def eQ.f(k:Nat)(a0:Int):Option (List Int):=eQ.l0 k a0 (([]:List Int)) 0
theorem eQ.lx:∀k,(∀y0 y1 y2,a7 (eQ.l0 k y0 y1 y2) (eQ.l0 (k+1) y0 y1 y2))∧(∀y0 y1 y2 y3,a7 (eQ.l1 k y0 y1 y2 y3) (eQ.l1 (k+1) y0 y1 y2 y3))
 |0=>⟨fun _ _ _ r h=>by simp[eQ.l0] at h,fun _ _ _ _ r h=>by simp[eQ.l1] at h⟩
 |k+1=>by
  obtain⟨d7,ih1⟩:=eQ.lx k;refine⟨?_,?_⟩
  ·intro y0 y1 y2;unfold eQ.l0;repeat' first
   |(with_reducible exact d7 _ _ _)
   |(with_reducible exact ih1 _ _ _ _)
   |(with_reducible exact gP.mono _ _ _ _)
   |(with_reducible exact a7.refl _)
   |(with_reducible exact a7.none _)
   |(with_reducible refine a7.ite ?_ ?_)
   |(with_reducible refine a7.bind ?_ (fun _=>?_))
   |exact d7 _ _ _
   |exact ih1 _ _ _ _
   |exact gP.mono _ _ _ _
   |exact a7.none _
   |refine a7.ite ?_ ?_
   |refine a7.bind ?_ (fun _=>?_)
  ·intro y0 y1 y2 y3;unfold eQ.l1;repeat' first
   |(with_reducible exact d7 _ _ _)
   |(with_reducible exact ih1 _ _ _ _)
   |(with_reducible exact gP.mono _ _ _ _)
   |(with_reducible exact a7.refl _)
   |(with_reducible exact a7.none _)
   |(with_reducible refine a7.ite ?_ ?_)
   |(with_reducible refine a7.bind ?_ (fun _=>?_))
   |exact d7 _ _ _
   |exact ih1 _ _ _ _
   |exact gP.mono _ _ _ _
   |exact a7.none _
   |refine a7.ite ?_ ?_
   |refine a7.bind ?_ (fun _=>?_)
theorem eQ.mono:∀a0 k,a7 (eQ.f k a0) (eQ.f (k+1) a0):=by
 intro a0 k;obtain⟨d7,ih1⟩:=eQ.lx k;unfold eQ.f
 repeat' first
   |(with_reducible exact d7 _ _ _)
   |(with_reducible exact ih1 _ _ _ _)
   |(with_reducible exact gP.mono _ _ _ _)
   |(with_reducible exact a7.refl _)
   |(with_reducible exact a7.none _)
   |(with_reducible refine a7.ite ?_ ?_)
   |(with_reducible refine a7.bind ?_ (fun _=>?_))
   |exact d7 _ _ _
   |exact ih1 _ _ _ _
   |exact gP.mono _ _ _ _
   |exact a7.none _
   |refine a7.ite ?_ ?_
   |refine a7.bind ?_ (fun _=>?_)
theorem eQ.calls(k:Nat)(a0:Int)(r:List Int)(w:World)(h:eQ.f k a0=some r):
  Calls Tryz.prog 31 #[.int .i64 a0] w fun e w'=> ∃bO:Value,e=.returned (bO)∧Kd.R (Kd.int .i64) 3 w' w.heap.size (fun _=>True) bO r∧Below w.heap.size w w':=by
 have HB:=af.mk (Below.refl w.heap.size w);have H:=h;clear h;unfold eQ.f at H;generalize WZ:((([]:List Int)):List Int)=ajF at H;have W0:=af.mk WZ.symm;clear WZ;have H':=af.mk H;clear H;go_enter Tryz.func31,Tryz.ntmps31;go_wp2_with (((with_reducible refine db (N:=6) rfl ?_);refine Kd.dV (Kd.int .i64) _ 3 ?hg (N:=6) ?hd (xs:=([]:List Int)) (inner:=[]) (ok:=fun _=>True) (bp:=fun _=>True) ?hr ?hp (fun _ hk=>hk) trivial (Below.refl _ _) (aH _) bn ?_;(case hd=>rfl);(case hg=>rfl);(case hr=>first|(go_simp;done)|(go_simp;rfl));(case hp=>exact(aE.none _ _));intro asd w2 nr hb bq br;clear bq br;(first|rw[←W0.o] at nr|(simp only[Int.reduceToNat] at nr;rw[←W0.o] at nr));have ajG:=af.mk (Kd.cv nr (aZ (ai HB)));replace HB:=aM HB hb;clear hb nr))
 go_loopg [3,4] k (fun kq v3 v4 w'=> ∃(aV:List Int) (bx:Int),v4=.int .i64 bx∧af (eQ.l0 kq a0 aV bx=some r)∧af (kq≤k)∧af (Kd.R (Kd.int .i64) 3 w' w.heap.size (fun _=>True) v3 aV)∧af (Below w.heap.size w w'))
 case atStart=>exact⟨(ajF),(0),ak,H',⟨aH _⟩,⟨aX ajG⟩,⟨ai HB⟩⟩
 case round=>
  clear H';obtain⟨aV,bx,rfl,HA,aC,cy,HB⟩:=hrel;cases gk with
  |zero=>exact absurd HA.o (by simp[eQ.l0])
  |succ k1=>
   have H:=HA.o;clear HA;simp only[eQ.l0] at H;by_cases c4:bx<9
   case neg=>
    rw[ag c4] at H;have dK:=aD c4;clear c4;obtain rfl:=au H;go_wp2;go_ret;exact⟨_,bE,aX cy,ai HB⟩
   rw[ah c4] at H;have dK:=ap c4;clear c4;have H':=af.mk H;clear H;go_wp2;go_loopg [3,5] k1 (fun kq v3 v5 w'=> ∃(dP:List Int) (gp:Int),v5=.int .i64 gp∧af (eQ.l1 kq a0 dP bx gp=some r)∧af (kq≤k1)∧af (Kd.R (Kd.int .i64) 3 w' w.heap.size (fun _=>True) v3 dP)∧af (Below w.heap.size w w'))
   case atStart=>exact⟨(aV),(0),ak,H',⟨aH _⟩,⟨aX cy⟩,⟨ai HB⟩⟩
   case round=>
    clear H';obtain⟨dP,gp,rfl,HA,bw,cy,HB⟩:=hrel;cases gk with
    |zero=>exact absurd HA.o (by simp[eQ.l1])
    |succ k2=>
     have H:=HA.o;clear HA;simp only[eQ.l1] at H;by_cases c5:gp<9
     case neg=>
      rw[ag c5] at H;have dC:=aD c5;clear c5;have H':=af.mk H;clear H;go_wp2;go_roundg k2
      case measure=>have:=aC.o;have:=bw.o;omega
      case rel=>exact⟨(dP),(wrap64 (bx+1)),ak,H',⟨by have:=aC.o;have:=bw.o;omega⟩,⟨aX cy⟩,⟨ai HB⟩⟩
     rw[ah c5] at H;have dC:=ap c5;clear c5;replace H:=aA.mp H;obtain⟨AP,dQ,H⟩:=H;have A6:=af.mk dQ;clear dQ;by_cases c7:dP.length<17592186044416
     case neg=>
      rw[ag c7] at H;cases H
     rw[ah c7] at H;have J3:=af.mk c7;clear c7;generalize W3:((dP++[AP]):List Int)=ajH at H;have ajI:=af.mk W3.symm;clear W3;have H':=af.mk H;clear H;go_wp2_with (first|(refine cx 19 Tryz.func56 #[.int .i64 a0,.int .i64 bx,.int .i64 gp] (gP.calls k2 a0 bx gp AP _ A6.o) fun nd=>?_)|(at_builtin;refine Kd.jW (Kd.int .i64) (w0:=w) w.heap.size rfl (.tmp 15) (.tmp 20) 31 3 (.int .i64 0) 8 rfl Tryz.underlying31 info3 rfl ao ae u3 dP AP [.int .i64 AP] (fun _=>True) (fun _=>False) rfl rfl ?aP (fun _ hk=>hk.elim) ?aF ?aO ?aB ?aS ?aL ?_;(case aP=>exact rfl);(case aB=>exact(ai HB));(case aF=>exact(fun _ _=>trivial));(case aO=>exact(aX cy));(case aS=>exact(aZ (ai HB)));(case aL=>have:=J3.o;omega);intro ase w8 ho hb hg hat;rw[←ajI.o] at ho;replace HB:=af.mk (hb);have ajJ:=af.mk (ho);clear cy;clear ho hb hg hat))
     go_roundg k2
     case measure=>have:=aC.o;have:=bw.o;omega
     case rel=>exact⟨(ajH),(wrap64 (gp+1)),ak,H',⟨by have:=aC.o;have:=bw.o;omega⟩,⟨aX ajJ⟩,⟨ai HB⟩⟩
mutual
def dG.l0:Nat→Int→List Bool→Int→Option (List Int)
 |0,_,_,_=>none
 |k+1,x0,x3,x4=>if x4<3 then(dG.l1 k x0 x3 x4 0) else(dG.l2 k x3 (([]:List Int)) 0)
def dG.l1:Nat→Int→List Bool→Int→Int→Option (List Int)
 |0,_,_,_,_=>none
 |k+1,x0,x3,x4,x5=>if x5<3 then((iR.f x0 x4).bind fun xC=>((iR.f x0 x5).bind fun xD=>(if 0≤(wrap64 ((wrap64 (9*xC))+xD)) then(if(wrap64 ((wrap64 (9*xC))+xD))<(x3.length:Int) then(dG.l1 k x0 (x3.set ((wrap64 ((wrap64 (9*xC))+xD)):Int).toNat true) x4 (wrap64 (x5+1))) else none) else none))) else(dG.l0 k x0 x3 (wrap64 (x4+1)))
def dG.l2:Nat→List Bool→List Int→Int→Option (List Int)
 |0,_,_,_=>none
 |k+1,x3,x6,x7=>if x7<81 then(if 0≤x7 then(if x7<(x3.length:Int) then(if dM false x3 x7=true then(if x6.length<17592186044416 then(dG.l2 k x3 (x6++[x7]) (wrap64 (x7+1))) else none) else(dG.l2 k x3 x6 (wrap64 (x7+1)))) else none) else none) else(some x6)
end
def dG.f(k:Nat)(a0:Int):Option (List Int):=if 81≤281474976710656 then(dG.l0 k a0 (List.replicate 81 false) 0) else none
theorem dG.lx:∀k,(∀y0 y1 y2,a7 (dG.l0 k y0 y1 y2) (dG.l0 (k+1) y0 y1 y2))∧(∀y0 y1 y2 y3,a7 (dG.l1 k y0 y1 y2 y3) (dG.l1 (k+1) y0 y1 y2 y3))∧(∀y0 y1 y2,a7 (dG.l2 k y0 y1 y2) (dG.l2 (k+1) y0 y1 y2))
 |0=>⟨fun _ _ _ r h=>by simp[dG.l0] at h,fun _ _ _ _ r h=>by simp[dG.l1] at h,fun _ _ _ r h=>by simp[dG.l2] at h⟩
 |k+1=>by
  obtain⟨d7,ih1,ih2⟩:=dG.lx k;refine⟨?_,?_,?_⟩
  ·intro y0 y1 y2;unfold dG.l0;repeat' first
   |(with_reducible exact d7 _ _ _)
   |(with_reducible exact ih1 _ _ _ _)
   |(with_reducible exact ih2 _ _ _)
   |(with_reducible exact a7.refl _)
   |(with_reducible exact a7.none _)
   |(with_reducible refine a7.ite ?_ ?_)
   |(with_reducible refine a7.bind ?_ (fun _=>?_))
   |exact d7 _ _ _
   |exact ih1 _ _ _ _
   |exact ih2 _ _ _
   |exact a7.none _
   |refine a7.ite ?_ ?_
   |refine a7.bind ?_ (fun _=>?_)
  ·intro y0 y1 y2 y3;unfold dG.l1;repeat' first
   |(with_reducible exact d7 _ _ _)
   |(with_reducible exact ih1 _ _ _ _)
   |(with_reducible exact ih2 _ _ _)
   |(with_reducible exact a7.refl _)
   |(with_reducible exact a7.none _)
   |(with_reducible refine a7.ite ?_ ?_)
   |(with_reducible refine a7.bind ?_ (fun _=>?_))
   |exact d7 _ _ _
   |exact ih1 _ _ _ _
   |exact ih2 _ _ _
   |exact a7.none _
   |refine a7.ite ?_ ?_
   |refine a7.bind ?_ (fun _=>?_)
  ·intro y0 y1 y2;unfold dG.l2;repeat' first
   |(with_reducible exact d7 _ _ _)
   |(with_reducible exact ih1 _ _ _ _)
   |(with_reducible exact ih2 _ _ _)
   |(with_reducible exact a7.refl _)
   |(with_reducible exact a7.none _)
   |(with_reducible refine a7.ite ?_ ?_)
   |(with_reducible refine a7.bind ?_ (fun _=>?_))
   |exact d7 _ _ _
   |exact ih1 _ _ _ _
   |exact ih2 _ _ _
   |exact a7.none _
   |refine a7.ite ?_ ?_
   |refine a7.bind ?_ (fun _=>?_)
theorem dG.mono:∀a0 k,a7 (dG.f k a0) (dG.f (k+1) a0):=by
 intro a0 k;obtain⟨d7,ih1,ih2⟩:=dG.lx k;unfold dG.f
 repeat' first
   |(with_reducible exact d7 _ _ _)
   |(with_reducible exact ih1 _ _ _ _)
   |(with_reducible exact ih2 _ _ _)
   |(with_reducible exact a7.refl _)
   |(with_reducible exact a7.none _)
   |(with_reducible refine a7.ite ?_ ?_)
   |(with_reducible refine a7.bind ?_ (fun _=>?_))
   |exact d7 _ _ _
   |exact ih1 _ _ _ _
   |exact ih2 _ _ _
   |exact a7.none _
   |refine a7.ite ?_ ?_
   |refine a7.bind ?_ (fun _=>?_)
theorem dG.calls(k:Nat)(a0:Int)(r:List Int)(w:World)(h:dG.f k a0=some r):
  Calls Tryz.prog 186 #[.int .i64 a0] w fun e w'=> ∃bO:Value,e=.returned (bO)∧Kd.R (Kd.int .i64) 3 w' w.heap.size (fun _=>True) bO r∧Below w.heap.size w w':=by
 have HB:=af.mk (Below.refl w.heap.size w);have H:=h;clear h;unfold dG.f at H;by_cases c2:81≤281474976710656
 case neg=>
  rw[ag c2] at H;cases H
 rw[ah c2] at H;have eM:=av c2;have mb:=ap c2;clear c2;generalize W_:((List.replicate 81 false):List Bool)=ajP at H;have Xa:=af.mk W_.symm;clear W_;have H':=af.mk H;clear H;go_enter Tryz.func186,Tryz.ntmps186;go_wp2_with (((with_reducible refine db (N:=8) rfl ?_);refine Kd.FU Kd.bool _ 4 rfl (N:=8) rfl 160 _ _ rfl 81 rfl rfl Tryz.underlying160 (.bool false) 1 F7 rfl ao ae false (ok:=fun _=>True) (bp:=fun _=>True) rfl (fun _ hk=>hk) trivial ae ae (Below.refl _ _) (aH _) ?_;intro EA w3 ie hb bq br;clear bq br;(first|rw[←Xa.o] at ie|(simp only[Int.reduceToNat] at ie;rw[←Xa.o] at ie));have ajQ:=af.mk (Kd.cv ie (aZ (ai HB)));replace HB:=aM HB hb;clear hb ie))
 go_loopg [4] k (fun kq v4 w'=> ∃(aV:List Bool) (bx:Int),v4=.int .i64 bx∧af (dG.l0 kq a0 aV bx=some r)∧af (kq≤k)∧af (Kd.R Kd.bool 4 w' w.heap.size (fun _=>True) EA aV)∧af (Below w.heap.size w w'))
 case atStart=>exact⟨(ajP),(0),ak,H',⟨aH _⟩,⟨aX ajQ⟩,⟨ai HB⟩⟩
 case round=>
  clear H';obtain⟨aV,bx,rfl,HA,aC,cy,HB⟩:=hrel;cases gk with
  |zero=>exact absurd HA.o (by simp[dG.l0])
  |succ k1=>
   have H:=HA.o;clear HA;simp only[dG.l0] at H;by_cases c5:bx<3
   case neg=>
    rw[ag c5] at H;have dC:=aD c5;clear c5;generalize Xb:((([]:List Int)):List Int)=ajR at H;have Xc:=af.mk Xb.symm;clear Xb;have H':=af.mk H;clear H;go_wp2_with (((with_reducible refine db (N:=27) rfl ?_);refine Kd.dV (Kd.int .i64) _ 3 ?hg (N:=27) ?hd (xs:=([]:List Int)) (inner:=[]) (ok:=fun _=>True) (bp:=fun _=>True) ?hr ?hp (fun _ hk=>hk) trivial (Below.refl _ _) (aH _) bn ?_;(case hd=>rfl);(case hg=>rfl);(case hr=>first|(go_simp;done)|(go_simp;rfl));(case hp=>exact(aE.none _ _));intro asf hY lO hb bq br;clear bq br;(first|rw[←Xc.o] at lO|(simp only[Int.reduceToNat] at lO;rw[←Xc.o] at lO));replace cy:=af.mk (Kd.dB (aX cy) hb);have ajS:=af.mk (Kd.cv lO (aZ (ai HB)));replace HB:=aM HB hb;clear hb lO))
    go_loopg [6,7] k1 (fun kq v6 v7 w'=> ∃(cC:List Int) (bf:Int),v7=.int .i64 bf∧af (dG.l2 kq aV cC bf=some r)∧af (kq≤k1)∧af (Kd.R Kd.bool 4 w' w.heap.size (fun _=>True) EA aV)∧af (Kd.R (Kd.int .i64) 3 w' w.heap.size (fun _=>True) v6 cC)∧af (Below w.heap.size w w'))
    case atStart=>exact⟨(ajR),(0),ak,H',⟨aH _⟩,⟨aX cy⟩,⟨aX ajS⟩,⟨ai HB⟩⟩
    case round=>
     clear H';obtain⟨cC,bf,rfl,HA,bw,cy,i6,HB⟩:=hrel;cases gk with
     |zero=>exact absurd HA.o (by simp[dG.l2])
     |succ k2=>
      have H:=HA.o;clear HA;simp only[dG.l2] at H;by_cases c17:bf<81
      case neg=>
       rw[ag c17] at H;have sG:=aD c17;clear c17;obtain rfl:=au H;go_wp2;go_ret;exact⟨_,bE,aX i6,ai HB⟩
      rw[ah c17] at H;have sG:=ap c17;clear c17;replace H:=bC H;obtain⟨rv,H⟩:=H;replace H:=bC H;obtain⟨wE,H⟩:=H;obtain⟨Xd,OU⟩:∃b_:Bool,b_=(dM false aV bf):=⟨_,rfl⟩;replace H:(if Xd=true then(if cC.length<17592186044416 then(dG.l2 k2 aV (cC++[bf]) (wrap64 (bf+1))) else none) else(dG.l2 k2 aV cC (wrap64 (bf+1))))=some r:=by rw[←OU] at H;exact H
      have Xe:=af.mk OU;clear OU;by_cases fN:Xd=true
      case neg=>
       replace fN:=bU fN;subst fN;rw[ag bV] at H;have H':=af.mk H;clear H;obtain⟨asg,ash,ajT⟩:=Kd.bJ cy.o;subst ajT;have xE:0≤(bf:Int):=aJ;have xF:bf<(aV.length:Int):=aJ;obtain⟨ajU,OV,OW⟩:=Kd.se (Kd.bm cy.o).2.2 bf xE xF;(try rw[←Xe.o] at OW)
       cases OV;replace xE:=av xE;replace xF:=av xF;go_wp2;go_roundg k2
       case measure=>have:=aC.o;have:=bw.o;omega
       case rel=>exact⟨(cC),(wrap64 (bf+1)),ak,H',⟨by have:=aC.o;have:=bw.o;omega⟩,⟨aX cy⟩,⟨aX i6⟩,⟨ai HB⟩⟩
      subst fN;rw[ah rfl] at H;by_cases Ix:cC.length<17592186044416
      case neg=>
       rw[ag Ix] at H;cases H
      rw[ah Ix] at H;have ajV:=af.mk Ix;clear Ix;generalize Xf:((cC++[bf]):List Int)=ajW at H;have ajX:=af.mk Xf.symm;clear Xf;have H':=af.mk H;clear H;obtain⟨acH,acI,Kk⟩:=Kd.bJ cy.o;subst Kk;have xE:0≤(bf:Int):=aJ;have xF:bf<(aV.length:Int):=aJ;obtain⟨ajU,OV,OW⟩:=Kd.se (Kd.bm cy.o).2.2 bf xE xF;(try rw[←Xe.o] at OW)
      cases OV;replace xE:=av xE;replace xF:=av xF;go_wp2_with ((at_builtin;refine Kd.jW (Kd.int .i64) (w0:=w) w.heap.size rfl (.tmp 36) (.tmp 38) 31 3 (.int .i64 0) 8 rfl Tryz.underlying31 info3 rfl ao ae u6 cC bf [.int .i64 bf] (fun _=>True) (fun _=>False) rfl rfl ?aP (fun _ hk=>hk.elim) ?aF ?aO ?aB ?aS ?aL ?_;(case aP=>exact rfl);(case aB=>exact(ai HB));(case aF=>exact(fun _ _=>trivial));(case aO=>exact(aX i6));(case aS=>exact(aZ (ai HB)));(case aL=>have:=ajV.o;omega);intro asi Ok ho hb hg hat;rw[←ajX.o] at ho;replace cy:=af.mk (Kd.FV (aX cy) (Kd.BK (aX i6)) ao hg);replace HB:=af.mk (hb);have ajY:=af.mk (ho);clear i6;clear ho hb hg hat))
      go_roundg k2
      case measure=>have:=aC.o;have:=bw.o;omega
      case rel=>exact⟨(ajW),(wrap64 (bf+1)),ak,H',⟨by have:=aC.o;have:=bw.o;omega⟩,⟨aX cy⟩,⟨aX ajY⟩,⟨ai HB⟩⟩
   rw[ah c5] at H;have dC:=ap c5;clear c5;have H':=af.mk H;clear H;go_wp2;go_loopg [5] k1 (fun kq v5 w'=> ∃(dP:List Bool) (gp:Int),v5=.int .i64 gp∧af (dG.l1 kq a0 dP bx gp=some r)∧af (kq≤k1)∧af (Kd.R Kd.bool 4 w' w.heap.size (fun _=>True) EA dP)∧af (Below w.heap.size w w'))
   case atStart=>exact⟨(aV),(0),ak,H',⟨aH _⟩,⟨aX cy⟩,⟨ai HB⟩⟩
   case round=>
    clear H';obtain⟨dP,gp,rfl,HA,bw,cy,HB⟩:=hrel;cases gk with
    |zero=>exact absurd HA.o (by simp[dG.l1])
    |succ k2=>
     have H:=HA.o;clear HA;simp only[dG.l1] at H;by_cases c6:gp<3
     case neg=>
      rw[ag c6] at H;have dU:=aD c6;clear c6;have H':=af.mk H;clear H;go_wp2;go_roundg k2
      case measure=>have:=aC.o;have:=bw.o;omega
      case rel=>exact⟨(dP),(wrap64 (bx+1)),ak,H',⟨by have:=aC.o;have:=bw.o;omega⟩,⟨aX cy⟩,⟨ai HB⟩⟩
     rw[ah c6] at H;have dU:=ap c6;clear c6;replace H:=aA.mp H;obtain⟨xC,dy,H⟩:=H;have A7:=af.mk dy;clear dy;replace H:=aA.mp H;obtain⟨xD,eG,H⟩:=H;have A8:=af.mk eG;clear eG;obtain⟨cN,ft⟩:∃j_:Int,(wrap64 ((wrap64 (9*xC))+xD))=j_:=⟨_,rfl⟩;replace H:(if 0≤(cN) then(if(cN)<(dP.length:Int) then(dG.l1 k2 a0 (dP.set ((cN):Int).toNat true) bx (wrap64 (gp+1))) else none) else none)=some r:=by first|(rw[ft] at H;exact H)|(simp only[ft] at H ⊢;exact H)
     (try rw[ft] at A7)
     (try rw[ft] at A8)
     have Cw:(IntKind.i64.wrap ((wrap64 (9*xC))+xD))=cN:=(dh _).trans ft;replace H:=bC H;obtain⟨gH,H⟩:=H;replace H:=bC H;obtain⟨j5,H⟩:=H;generalize Xg:((dP.set ((cN):Int).toNat true):List Bool)=Xh at H;have ajZ:=af.mk Xg.symm;clear Xg;have H':=af.mk H;clear H;go_wp2_with (first|(refine cx 20 Tryz.func98 #[.int .i64 a0,.int .i64 bx] (iR.calls a0 bx xC _ A7.o) fun nd=>?_;(try(rw[vE wr];generalize fQ:World.drewN wr _=wr;have dz:af (Kd.R Kd.bool 4 wr w.heap.size (fun _=>True) EA dP):=⟨by rw[←fQ];exact(aX cy)⟩;have dA:af (Below w.heap.size w wr):=⟨by rw[←fQ];exact(ai HB)⟩;clear cy HB fQ;have cy:=dz;have HB:=dA;clear dz dA)))|(refine cx 24 Tryz.func98 #[.int .i64 a0,.int .i64 gp] (iR.calls a0 gp xD _ A8.o) fun nd=>?_;(try(rw[vE wr];generalize fQ:World.drewN wr _=wr;have dz:af (Kd.R Kd.bool 4 wr w.heap.size (fun _=>True) EA dP):=⟨by rw[←fQ];exact(aX cy)⟩;have dA:af (Below w.heap.size w wr):=⟨by rw[←fQ];exact(ai HB)⟩;clear cy HB fQ;have cy:=dz;have HB:=dA;clear dz dA));have OX:0≤((cN):Int):=aJ;have OY:((cN):Int)<((dP.length:Int):Int):=aJ;obtain⟨OZ,Uo,G3,Xi,aj0,asj,Xj⟩:=Kd.yX cy.o ae;(first|cases G3|(injection G3 with eI lE lF;(first|subst eI|(injection eI with eI;subst eI));subst lF;clear lE));have aj1:=af.mk Xi;have asl:=af.mk Xj;clear Xi aj0 Xj;obtain⟨asn,aso⟩:=Kd.sg false cy.o ((cN):Int) OX OY;replace OX:=av OX;replace OY:=av OY;obtain⟨asp,asq⟩:=Kd.sg false cy.o ((cN):Int) (aJ) (aJ);have O1:=Kd.BP cy.o ((cN):Int) true)|((with_reducible refine FY (t:=4) (p:=26) rfl ?_);refine FX (t:=4) (p:=26) (v:=?asr) (w1:=(wr.setCell ⟨OZ,((cN):Int).toNat,none⟩ (.bool true))) ?hg ?ho ?hn ?hr ?_;(case ho=>rfl);(case hg=>rfl);(case hn=>rfl);(case hr=>first|(go_simp;done)|(go_simp;rfl));intro ju hw;have hg:wr.grownBy ju (some OZ):=(by rw[hw];exact O1.2);have qc:Kd.R Kd.bool 4 ju w.heap.size (fun _=>True) (.slice (some ⟨OZ,0,none⟩) dP.length Uo) Xh:=(by rw[hw,ajZ.o];exact O1.1);clear O1;have dz:=af.mk (qc);have dA:=af.mk ((by rw[hw];exact mu (HB.o) aj1.o:Below w.heap.size w ju));clear cy;clear HB;have cy:=dz;have HB:=dA;clear dz dA;clear hg hw qc))
     go_roundg k2
     case measure=>have:=aC.o;have:=bw.o;omega
     case rel=>exact⟨(Xh),(wrap64 (gp+1)),ak,H',⟨by have:=aC.o;have:=bw.o;omega⟩,⟨aX cy⟩,⟨ai HB⟩⟩
def gq.f:Nat→Int→Option (ByteArray)
 |0,_=>none
 |k+1,a0=>if a0<(-9223372036854775807) then(some (⟨#[45,57,50,50,51,51,55,50,48,51,54,56,53,52,55,55,53,56,48,56]⟩:ByteArray)) else(if a0<0 then((gq.f k (wrap64 (-a0))).bind fun t107=>(if 1+t107.size≤9223372036854775807 then(some ((⟨#[45]⟩:ByteArray)++t107)) else none)) else(if a0<10 then(some (strOfNums (([(wrap64 (48+a0))%256]:List Int)))) else((gq.f k (wrap64 (Int.tdiv a0 10))).bind fun pm=>((some (([(wrap64 (48+(Int.tmod a0 10)))%256]:List Int):List Int)).bind fun qy=>(if pm.size+(strOfNums qy).size≤9223372036854775807 then(some (pm++(strOfNums qy))) else none)))))
def gq.T7:Bool×List (List Nat×List Nat):=(true,[([],[]),([0],[0]),([1],[1]),([],[]),([3],[3]),([4],[4]),([5],[5]),([6],[6]),([7],[7]),([2,8],[2,8]),([9,2,0,1,2,3,4,5,6,7,8,9],[9])])
def gq.B7:List Nat:=[0,1,3,0,8,24,56,120,248,511,1023]
theorem gq.amN:fD .any (opsOf Tryz.f33 7)=gq.T7:=by kernel_rfl
theorem gq.amO:nj gq.T7.2 gq.B7=true:=by kernel_rfl
theorem gq.calls(k:Nat):∀(a0:Int) (r:ByteArray) (w:World) (h:gq.f k a0=some r),
  Calls Tryz.prog 33 #[.int .i64 a0] w fun e w'=>e=.returned (.string r)∧Below w.heap.size w w':=by
 induction k using Nat.strongRecOn with
 |_ k ih=>
 intro a0 r w h;cases k with
 |zero=>exact absurd h (by simp[gq.f])
 |succ k=>
 simp only[gq.f] at h;have HB:=af.mk (Below.refl w.heap.size w);have H:(if a0<(-9223372036854775807) then(some (⟨#[45,57,50,50,51,51,55,50,48,51,54,56,53,52,55,55,53,56,48,56]⟩:ByteArray)) else(if a0<0 then((gq.f k (wrap64 (-a0))).bind fun t107=>(if 1+t107.size≤9223372036854775807 then(some ((⟨#[45]⟩:ByteArray)++t107)) else none)) else(if a0<10 then(some (strOfNums (([(wrap64 (48+a0))%256]:List Int)))) else((gq.f k (wrap64 (Int.tdiv a0 10))).bind fun pm=>((some (([(wrap64 (48+(Int.tmod a0 10)))%256]:List Int):List Int)).bind fun qy=>(if pm.size+(strOfNums qy).size≤9223372036854775807 then(some (pm++(strOfNums qy))) else none))))))=some r:=h;clear h;by_cases c2:a0<(-9223372036854775807)
 case neg=>
  rw[ag c2] at H;have eM:=aD c2;clear c2;by_cases c3:a0<0
  case neg=>
   rw[ag c3] at H;have eU:=aD c3;clear c3;by_cases c7:a0<10
   case neg=>
    rw[ag c7] at H;have eN:=aD c7;clear c7;replace H:=aA.mp H;obtain⟨pm,ka,H⟩:=H;have jH:=af.mk ka;clear ka;replace H:=lw H;obtain⟨qy,I9,H⟩:=H;by_cases c12:pm.size+(strOfNums qy).size≤9223372036854775807
    case neg=>
     rw[ag c12] at H;cases H
    rw[ah c12] at H;have jC:=av c12;have sv:=ap c12;try have asT:(9223372036854775807<pm.size+(strOfNums qy).size)=False:=eq_false (Nat.not_lt.2 c12)
    obtain rfl:=au H;go_enter Tryz.func33,Tryz.ntmps33;try go_wp2
    replace HB:=af.mk (bR HB.o);refine jA (n:=11) (S:=fun w'=>True) (ds:=[]) #[F_,F_,F_,F_,F_,F_,F_,F_,F_,F_,F_] am rfl rfl trivial (fun hHeld=>?_);refine nk gq.amN gq.amO (fun az gX=>?_);generalize w.drew=rk at HB hHeld ⊢;refine p_ 0 18 (m_ 11 1) az.o ?_;refine p_ 1 19 (m_ 11 3) az.o ?_;refine p_ 3 21 (m_ 11 11) az.o ?_;refine p_ 4 22 (m_ 11 27) az.o ?_;refine p_ 5 23 (m_ 11 59) az.o ?_;refine p_ 6 24 (m_ 11 123) az.o ?_;refine BV (σ:=Value) 2 (m_ 11 511) (fun s_=>[(20,.string pm),(25,s_),(26,.string (strOfNums qy))]) (fun s_ w'=>(Kd.R (Kd.int .u8) 5 w' w.heap.size (fun _=>True) s_ qy)∧(Below w.heap.size w w')) ?_ ?_;rotate_left
    ·intro kX;refine sh (i:=2) (j:=7) (Ni:=some 20) (Nj:=some 25) (m_ 11 127) (m_ 11 251) rfl rfl rfl rfl (zd az.o am) ao ao (fun K hK=>?_) (fun K hK=>?_)
     ·skip;refine lV Tryz.func33 am rfl #[.int .i64 (wrap64 (Int.tdiv a0 10))] (by rfl) rfl rfl qQ ?_;with_reducible refine(ih k ae (wrap64 (Int.tdiv a0 10)) pm _ jH.o).mono ?_;rintro e ju ⟨rfl,hb⟩;refine⟨_,rfl,?_⟩;replace HB:=aM HB hb;(try clear hb)
      (try clear hb2)
      (try clear hk)
      (try clear hi)
      refine hK.out _ _ trivial (fun hHeld=>?_);clear hK K;refine fl 20 ?_;refine fa (i:=7) (N:=some 25) (m_ 11 255) rfl rfl (gj az.o am) ao (fun K hK=>?_);refine Kd.BQ (Kd.int .u8) _ 5 ?hg (N:=25) ?hd (xs:=([(wrap64 (48+(Int.tmod a0 10)))%256]:List Int)) (inner:=[.int .u8 ((wrap64 (48+(Int.tmod a0 10)))%256)]) (ok:=fun _=>True) (bp:=fun _=>True) ?hr ?hp (fun _ hk=>hk) trivial (Below.refl _ _) (aH _) bn ?_;(case hd=>rfl);(case hg=>rfl);(case hr=>first|(go_simp;done)|(go_simp;rfl));(case hp=>exact(aE.one (show Kd.M (Kd.int .u8) _ _ _ ((wrap64 (48+(Int.tmod a0 10)))%256) [.int .u8 ((wrap64 (48+(Int.tmod a0 10)))%256)] from rfl) (aE.none _ _)));intro Bc hY lO hb bq br;clear bq br;(first|rw[←I9.o] at lO|(simp only[Int.reduceToNat] at lO;rw[←I9.o] at lO))
      have pn:=af.mk (Kd.cv lO (aZ (ai HB)));replace HB:=aM HB hb;clear hb lO;refine hK.out _ _ trivial (fun hHeld=>?_);clear hK K;refine fl 25 ?_;refine fa (i:=8) (N:=some 26) (m_ 11 511) rfl rfl (gj az.o am) ao (fun K hK=>?_);have PW:=FO (P:=Tryz.prog) Tryz.underlying22 Tryz.underlying5 Tryz.underlying9 (Kd.vz pn.o);refine si (w1:=?_) (v:=?_) (by rfl) rfl ?_ ?_;rotate_left 2;(go_simp;constructor;(rfl);(rfl));clear PW;refine hK.out _ _ trivial (fun hHeld=>?_);clear hK K;refine fl 26 ?_;exact eE (by simp only[jq,Act.put,List.setIfInBounds_toArray,List.set_cons_zero,List.set_cons_succ]) (kX (Bc) _ ⟨(aX pn),(ai HB)⟩)
     ·skip;refine Kd.BQ (Kd.int .u8) _ 5 ?hg (N:=25) ?hd (xs:=([(wrap64 (48+(Int.tmod a0 10)))%256]:List Int)) (inner:=[.int .u8 ((wrap64 (48+(Int.tmod a0 10)))%256)]) (ok:=fun _=>True) (bp:=fun _=>True) ?hr ?hp (fun _ hk=>hk) trivial (Below.refl _ _) (aH _) bn ?_;(case hd=>rfl);(case hg=>rfl);(case hr=>first|(go_simp;done)|(go_simp;rfl));(case hp=>exact(aE.one (show Kd.M (Kd.int .u8) _ _ _ ((wrap64 (48+(Int.tmod a0 10)))%256) [.int .u8 ((wrap64 (48+(Int.tmod a0 10)))%256)] from rfl) (aE.none _ _)));intro Bc ju lQ hb bq br;clear bq br;(first|rw[←I9.o] at lQ|(simp only[Int.reduceToNat] at lQ;rw[←I9.o] at lQ))
      have pn:=af.mk (Kd.cv lQ (aZ (ai HB)));replace HB:=aM HB hb;clear hb lQ;refine hK.out _ _ trivial (fun hHeld=>?_);clear hK K;refine fl 25 ?_;refine sh (i:=2) (j:=8) (Ni:=some 20) (Nj:=some 26) (m_ 11 255) (m_ 11 507) rfl rfl rfl rfl (zd az.o am) ao ao (fun K hK=>?_) (fun K hK=>?_)
      ·skip;refine lV Tryz.func33 am rfl #[.int .i64 (wrap64 (Int.tdiv a0 10))] (by rfl) rfl rfl qQ ?_;with_reducible refine(ih k ae (wrap64 (Int.tdiv a0 10)) pm _ jH.o).mono ?_;rintro e t_ ⟨rfl,hb⟩;refine⟨_,rfl,?_⟩;replace pn:=af.mk (Kd.dB (aX pn) hb);replace HB:=aM HB hb;(try clear hb)
       (try clear hb2)
       (try clear hk)
       (try clear hi)
       refine hK.out _ _ trivial (fun hHeld=>?_);clear hK K;refine fl 20 ?_;refine fa (i:=8) (N:=some 26) (m_ 11 511) rfl rfl (gj az.o am) ao (fun K hK=>?_);have PW:=FO (P:=Tryz.prog) Tryz.underlying22 Tryz.underlying5 Tryz.underlying9 (Kd.vz pn.o);refine si (w1:=?_) (v:=?_) (by rfl) rfl ?_ ?_;rotate_left 2;(go_simp;constructor;(rfl);(rfl));clear PW;refine hK.out _ _ trivial (fun hHeld=>?_);clear hK K;refine fl 26 ?_;exact eE (by simp only[jq,Act.put,List.setIfInBounds_toArray,List.set_cons_zero,List.set_cons_succ]) (kX (Bc) _ ⟨(aX pn),(ai HB)⟩)
      ·skip;have amP:=FO (P:=Tryz.prog) Tryz.underlying22 Tryz.underlying5 Tryz.underlying9 (Kd.vz pn.o);refine si (w1:=?_) (v:=?_) (by rfl) rfl ?_ ?_;rotate_left 2;(go_simp;constructor;(rfl);(rfl));clear amP;refine hK.out _ _ trivial (fun hHeld=>?_);clear hK K;refine fl 26 ?_;refine fa (i:=2) (N:=some 20) (m_ 11 511) rfl rfl (gj az.o am) ao (fun K hK=>?_);refine lV Tryz.func33 am rfl #[.int .i64 (wrap64 (Int.tdiv a0 10))] (by rfl) rfl rfl qQ ?_;with_reducible refine(ih k ae (wrap64 (Int.tdiv a0 10)) pm _ jH.o).mono ?_;rintro e wT ⟨rfl,hb⟩;refine⟨_,rfl,?_⟩;replace pn:=af.mk (Kd.dB (aX pn) hb);replace HB:=aM HB hb;(try clear hb)
       (try clear hb2)
       (try clear hk)
       (try clear hi)
       refine hK.out _ _ trivial (fun hHeld=>?_);clear hK K;refine fl 20 ?_;exact eE (by simp only[jq,Act.put,List.setIfInBounds_toArray,List.set_cons_zero,List.set_cons_succ]) (kX (Bc) _ ⟨(aX pn),(ai HB)⟩)
    rintro Bc tT ⟨uL,uM⟩;have dz:af (Kd.R (Kd.int .u8) 5 tT w.heap.size (fun _=>True) Bc qy):=⟨uL⟩;have dA:af (Below w.heap.size w tT):=⟨uM⟩;clear HB;clear uL uM;have pn:=dz;have HB:=dA;clear dz dA;have hHeld:=trivial;refine eE (a':=?_) ?_ ?_;rotate_left;(simp only[jq,Act.put,List.setIfInBounds_toArray,List.set_cons_zero,List.set_cons_succ];rfl);refine p_ 9 27 (m_ 11 1023) az.o ?_;refine p_ 10 2 (m_ 11 2047) az.o ?_;refine jB (ni az.o am) ?_;try go_wp2
    go_ret;exact⟨bE,ai HB⟩
   rw[ah c7] at H;have eN:=ap c7;clear c7;generalize YC:((([(wrap64 (48+a0))%256]:List Int)):List Int)=asU at H;have YD:=af.mk YC.symm;clear YC;obtain rfl:=au H;go_enter Tryz.func33,Tryz.ntmps33;go_wp2_with (((with_reducible refine db (N:=16) rfl ?_);refine Kd.dV (Kd.int .u8) _ 5 ?hg (N:=16) ?hd (xs:=([(wrap64 (48+a0))%256]:List Int)) (inner:=[.int .u8 ((wrap64 (48+a0))%256)]) (ok:=fun _=>True) (bp:=fun _=>True) ?hr ?hp (fun _ hk=>hk) trivial (Below.refl _ _) (aH _) bn ?_;(case hd=>rfl);(case hg=>rfl);(case hr=>first|(go_simp;done)|(go_simp;rfl));(case hp=>exact(aE.one (show Kd.M (Kd.int .u8) _ _ _ ((wrap64 (48+a0))%256) [.int .u8 ((wrap64 (48+a0))%256)] from rfl) (aE.none _ _)));intro v109 w8 qt hb bq br;clear bq br;(first|rw[←YD.o] at qt|(simp only[Int.reduceToNat] at qt;rw[←YD.o] at qt));have amQ:=af.mk (Kd.cv qt (aZ (ai HB)));replace HB:=aM HB hb;clear hb qt;have asV:=FO (P:=Tryz.prog) Tryz.underlying22 Tryz.underlying5 Tryz.underlying9 (Kd.vz amQ.o)))
   go_ret;exact⟨bE,ai HB⟩
  rw[ah c3] at H;have eU:=ap c3;clear c3;replace H:=aA.mp H;obtain⟨t107,cX,H⟩:=H;have A4:=af.mk cX;clear cX;by_cases c5:1+t107.size≤9223372036854775807
  case neg=>
   rw[ag c5] at H;cases H
  rw[ah c5] at H;have dC:=av c5;have oe:=ap c5;try have YE:(9223372036854775807<1+t107.size)=False:=eq_false (Nat.not_lt.2 c5)
  obtain rfl:=au H;go_enter Tryz.func33,Tryz.ntmps33;go_wp2_with ((refine aY 9 Tryz.func33 #[.int .i64 (wrap64 (-a0))] ?_;(with_reducible refine(ih k ae (wrap64 (-a0)) t107 _ A4.o).mono ?_);rintro e w6 ⟨rfl,hb⟩;refine⟨_,rfl,?_⟩;replace HB:=aM HB hb))
  go_ret;exact⟨bE,ai HB⟩
 rw[ah c2] at H;have eM:=ap c2;clear c2;obtain rfl:=au H;go_enter Tryz.func33,Tryz.ntmps33;go_wp2;go_ret;exact⟨bE,ai HB⟩
def dr.l0:Nat→List Int→ByteArray→Int→Option (ByteArray)
 |0,_,_,_=>none
 |k+1,x0,x5,x6=>if x6<(x0.length:Int) then(if x6>0 then(if x5.size+1≤9223372036854775807 then(if 0≤x6 then((gq.f k (rd x0 x6)).bind fun uV=>(if(x5++(⟨#[32]⟩:ByteArray)).size+uV.size≤9223372036854775807 then(dr.l0 k x0 ((x5++(⟨#[32]⟩:ByteArray))++uV) (wrap64 (x6+1))) else none)) else none) else none) else(if 0≤x6 then((gq.f k (rd x0 x6)).bind fun yd=>(if x5.size+yd.size≤9223372036854775807 then(dr.l0 k x0 (x5++yd) (wrap64 (x6+1))) else none)) else none)) else(if x5.size+1≤9223372036854775807 then(some (x5++(⟨#[10]⟩:ByteArray))) else none)
def dr.f(k:Nat)(l0:List Int)(a1:Bool):Option (ByteArray):=if a1=true then(dr.l0 k l0 (⟨#[]⟩:ByteArray) 0) else(some (⟨#[110,111,10]⟩:ByteArray))
theorem dr.calls(k:Nat)(A0:Option Addr)(c0:Nat)(l0:List Int)(a1:Bool)(r:ByteArray)(w:World)(hr0:Kd.C (Kd.int .i64) w A0 l0.length l0)(hc0:l0.length≤c0)(h:dr.f k l0 a1=some r):
  Calls Tryz.prog 61 #[.slice A0 l0.length c0,.bool a1] w fun e w'=>e=.returned (.string r)∧Below w.heap.size w w':=by
 have aj:=af.mk hr0;have ax:=af.mk hc0;clear hr0 hc0;have HB:=af.mk (Below.refl w.heap.size w);have H:=h;clear h;unfold dr.f at H;by_cases c3:a1=true
 case neg=>
  replace c3:=bU c3;subst c3;rw[ag bV] at H;obtain rfl:=au H;go_enter Tryz.func61,Tryz.ntmps61;go_wp2;go_ret;exact⟨bE,ai HB⟩
 subst c3;rw[ah rfl] at H;have H':=af.mk H;clear H;go_enter Tryz.func61,Tryz.ntmps61;go_wp2;go_loopg [5,6] k (fun kq v5 v6 w'=> ∃(aw:ByteArray) (bH:Int),v5=.string aw∧v6=.int .i64 bH∧af (dr.l0 kq l0 aw bH=some r)∧af (kq≤k)∧af (Below w.heap.size w w'))
 case atStart=>exact⟨((⟨#[]⟩:ByteArray)),(0),ak,ak,H',⟨aH _⟩,⟨ai HB⟩⟩
 case round=>
  clear H';obtain⟨aw,bH,rfl,rfl,HA,aC,HB⟩:=hrel;cases gk with
  |zero=>exact absurd HA.o (by simp[dr.l0])
  |succ k1=>
   have H:=HA.o;clear HA;simp only[dr.l0] at H;by_cases c4:bH<(l0.length:Int)
   case neg=>
    rw[ag c4] at H;have dK:=aD c4;clear c4;by_cases c15:aw.size+1≤9223372036854775807
    case neg=>
     rw[ag c15] at H;cases H
    rw[ah c15] at H;have n4:=av c15;have Gi:=ap c15;try have asW:(9223372036854775807<aw.size+1)=False:=eq_false (Nat.not_lt.2 c15)
    obtain rfl:=au H;go_wp2;go_ret;exact⟨bE,ai HB⟩
   rw[ah c4] at H;have dK:=ap c4;clear c4;by_cases c5:bH>0
   case neg=>
    rw[ag c5] at H;have dC:=aD c5;clear c5;replace H:=bC H;obtain⟨j5,H⟩:=H;replace H:=aA.mp H;obtain⟨yd,fI,H⟩:=H;have iW:=af.mk fI;clear fI;by_cases c13:aw.size+yd.size≤9223372036854775807
    case neg=>
     rw[ag c13] at H;cases H
    rw[ah c13] at H;have j6:=av c13;have tS:=ap c13;try have Ou:(9223372036854775807<aw.size+yd.size)=False:=eq_false (Nat.not_lt.2 c13)
    have H':=af.mk H;clear H;have PX:0≤(bH:Int):=aJ;have PY:bH<(l0.length:Int):=aJ;obtain⟨asX,amR,YF⟩:=Kd.ck aj.o bH PX PY;cases amR;replace YF:=dw HB YF;replace PX:=av PX;replace PY:=av PY;go_wp2_with ((refine aY 24 Tryz.func33 #[.int .i64 (rd l0 bH)] ?_;(with_reducible refine(gq.calls k1 (rd l0 bH) yd _ iW.o).mono ?_);rintro e ju ⟨rfl,hb⟩;refine⟨_,rfl,?_⟩;replace HB:=aM HB hb))
    go_roundg k1
    case measure=>have:=aC.o;omega
    case rel=>exact⟨(aw++yd),(wrap64 (bH+1)),ak,ak,H',⟨by have:=aC.o;omega⟩,⟨ai HB⟩⟩
   rw[ah c5] at H;have dC:=ap c5;clear c5;by_cases c6:aw.size+1≤9223372036854775807
   case neg=>
    rw[ag c6] at H;cases H
   rw[ah c6] at H;have dU:=av c6;have j9:=ap c6;try have amS:(9223372036854775807<aw.size+1)=False:=eq_false (Nat.not_lt.2 c6)
   replace H:=bC H;obtain⟨eN,H⟩:=H;replace H:=aA.mp H;obtain⟨uV,eG,H⟩:=H;have A8:=af.mk eG;clear eG;by_cases c9:(aw++(⟨#[32]⟩:ByteArray)).size+uV.size≤9223372036854775807
   case neg=>
    rw[ag c9] at H;cases H
   rw[ah c9] at H;have gU:=av c9;have wm:=ap c9;try have amT:(9223372036854775807<(aw++(⟨#[32]⟩:ByteArray)).size+uV.size)=False:=eq_false (Nat.not_lt.2 c9)
   try have amU:(9223372036854775807<aw.size+1+uV.size)=False:=by have q_:=c9;simp only[ByteArray.size_append] at q_;exact eq_false (Nat.not_lt.2 q_)
   have H':=af.mk H;clear H;have PZ:0≤(bH:Int):=aJ;have P3:bH<(l0.length:Int):=aJ;obtain⟨asY,amV,YG⟩:=Kd.ck aj.o bH PZ P3;cases amV;replace YG:=dw HB YG;replace PZ:=av PZ;replace P3:=av P3;go_wp2_with ((refine aY 24 Tryz.func33 #[.int .i64 (rd l0 bH)] ?_;(with_reducible refine(gq.calls k1 (rd l0 bH) uV _ A8.o).mono ?_);rintro e mH ⟨rfl,hb⟩;refine⟨_,rfl,?_⟩;replace HB:=aM HB hb))
   go_roundg k1
   case measure=>have:=aC.o;omega
   case rel=>exact⟨((aw++(⟨#[32]⟩:ByteArray))++uV),(wrap64 (bH+1)),ak,ak,H',⟨by have:=aC.o;omega⟩,⟨ai HB⟩⟩
def uW.f(k:Nat)(a0:Int):Option (List Int×Bool):=(fJ.f a0 0 4).bind fun P4=>(if P4=true then((eQ.f k a0).bind fun P5=>(some (P5,true))) else(some ((([]:List Int)),false)))
theorem uW.calls(k:Nat)(a0:Int)(r1:List Int)(r2:Bool)(w:World)(h:uW.f k a0=some (r1,r2)):
  Calls Tryz.prog 20 #[.int .i64 a0] w fun e w'=> ∃bO:Value,e=.returned (.tuple #[bO,.bool r2])∧Kd.R (Kd.int .i64) 3 w' w.heap.size (fun _=>True) bO r1∧Below w.heap.size w w':=by
 have HB:=af.mk (Below.refl w.heap.size w);have H:=h;clear h;unfold uW.f at H;replace H:=aA.mp H;obtain⟨P4,cW,H⟩:=H;have A2:=af.mk cW;clear cW;by_cases c3:P4=true
 case neg=>
  replace c3:=bU c3;subst c3;rw[ag bV] at H;generalize YH:((([]:List Int)):List Int)=asZ at H;have YI:=af.mk YH.symm;clear YH;simp only[Option.some.injEq,Prod.mk.injEq] at H;obtain⟨rfl,rfl⟩:=H;go_enter Tryz.func20,Tryz.ntmps20;go_wp2_with (first|(refine cx 5 Tryz.func39 #[.int .i64 a0,.int .i64 0,.int .i64 4] (fJ.calls a0 0 4 false _ A2.o) fun nd=>?_)|((with_reducible refine db (N:=7) rfl ?_);refine Kd.dV (Kd.int .i64) _ 3 ?hg (N:=7) ?hd (xs:=([]:List Int)) (inner:=[]) (ok:=fun _=>True) (bp:=fun _=>True) ?hr ?hp (fun _ hk=>hk) trivial (Below.refl _ _) (aH _) bn ?_;(case hd=>rfl);(case hg=>rfl);(case hr=>first|(go_simp;done)|(go_simp;rfl));(case hp=>exact(aE.none _ _));intro as0 w6 Fe hb bq br;clear bq br;(first|rw[←YI.o] at Fe|(simp only[Int.reduceToNat] at Fe;rw[←YI.o] at Fe));have amW:=af.mk (Kd.cv Fe (aZ (ai HB)));replace HB:=aM HB hb;clear hb Fe))
  go_ret2
  exact⟨_,bE,aX amW,ai HB⟩
 subst c3;rw[ah rfl] at H;replace H:=aA.mp H;obtain⟨P5,cX,H⟩:=H;have A4:=af.mk cX;clear cX;simp only[Option.some.injEq,Prod.mk.injEq] at H;obtain⟨rfl,rfl⟩:=H;go_enter Tryz.func20,Tryz.ntmps20;go_wp2_with (first|(refine cx 5 Tryz.func39 #[.int .i64 a0,.int .i64 0,.int .i64 4] (fJ.calls a0 0 4 true _ A2.o) fun nd=>?_)|(refine aY 9 Tryz.func31 #[.int .i64 a0] ?_;(with_reducible refine(eQ.calls k a0 P5 _ A4.o).mono ?_);rintro e w5 ⟨as1,rfl,ho0,hb⟩;refine⟨_,rfl,?_⟩;have amX:=af.mk (Kd.cv ho0 (aZ (ai HB)));replace HB:=aM HB hb))
 go_ret2
 exact⟨_,bE,aX amX,ai HB⟩
end P
end Go.Proofs.YtiobedekgnfjcaaGreatDoor
