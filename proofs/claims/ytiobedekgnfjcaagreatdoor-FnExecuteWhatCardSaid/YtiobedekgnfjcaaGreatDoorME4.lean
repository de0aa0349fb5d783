/- What both Executes come to: contracts and plain laws, for the laws on Execute. No conditions. (Part 5 of 28.) -/
import Derived.Test.YtiobedekgnfjcaaGreatDoorME0
import Derived.Test.YtiobedekgnfjcaaGreatDoorME1
import Derived.Test.YtiobedekgnfjcaaGreatDoorME2
import Derived.Test.YtiobedekgnfjcaaGreatDoorProg
import Derived.Shelf.Abstract
set_option linter.unusedVariables false
set_option linter.unusedSimpArgs false
set_option maxHeartbeats 2000000
namespace Go.Proofs.YtiobedekgnfjcaaGreatDoor
open Go.Proofs.YtiobedekgnfjcaaGreatDoorW.aq Go.RowKit Go.Proofs.YtiobedekgnfjcaaGreatDoorW.ay
namespace X
def allI(n:Nat)(p:Int→Bool):Bool:=(List.range n).all fun(i:Nat)=>p (i:Int)
theorem vG{n:Nat}{p:Int→Bool}:allI n p=true↔ ∀i:Nat,i<n→p (i:Int)=true:=by
 simp[allI,List.all_eq_true]
theorem R0{n:Nat}{p:Int→Bool}(i:Nat)(h:i<n)(hp:p (i:Int)=false):allI n p=false:=by
 cases e:allI n p with
 |false=>rfl
 |true=>have:=vG.1 e i h;rw[hp] at this;exact absurd this ao
theorem gF{n:Nat}{p:Int→Bool}(h:allI n p=true)(i:Int)(h0:0≤i)(h1:i<n):p i=true:=by
 have:=vG.1 h i.toNat ae
 rwa [Int.toNat_of_nonneg h0] at this
theorem jr{n:Nat}{p:Int→Bool}:allI n p=true↔ ∀i:Int,0≤i→i<n→p i=true:=
 ⟨fun h i h0 h1=>gF h i h0 h1,fun h=>vG.2 fun i hi=>h i ae ae⟩
def cH(n:Nat)(p:Int→Bool):List Int:=((List.range n).filter fun(i:Nat)=>p (i:Int)).map fun(i:Nat)=>(i:Int)
theorem lW(n:Nat)(p:Int→Bool):cH (n+1) p=cH n p++(if p (n:Int)=true then[(n:Int)] else[]):=by
 unfold cH;rw[List.range_succ,List.filter_append,List.map_append];by_cases h:p (n:Int)=true<;>simp[h]
theorem kt(n:Nat)(p:Int→Bool):(cH n p).length≤n:=by
 unfold cH;rw[List.length_map];exact Nat.le_trans (List.length_filter_le _ _) bn
theorem pF{n:Nat}{p:Int→Bool}{x:Int}:x∈cH n p↔0≤x∧x<n∧p x=true:=by
 unfold cH;simp only[List.mem_map,List.mem_filter,List.mem_range]
 constructor
 ·rintro⟨i,⟨h1,h2⟩,rfl⟩;exact⟨ae,ae,h2⟩
 ·rintro⟨h0,h1,h2⟩;exact⟨x.toNat,⟨ae,by rwa [Int.toNat_of_nonneg h0]⟩,ae⟩
theorem abq{n:Nat}{p q:Int→Bool}(h:∀i:Nat,i<n→p (i:Int)=q (i:Int)):cH n p=cH n q:=by
 induction n with
 |zero=>rfl
 |succ n ih=>rw[lW,lW,ih (fun i hi=>h i ae),h n ae]
def mz(n:Nat)(f:Int→Int):List Int:=(List.range n).map fun(i:Nat)=>f (i:Int)
theorem R1(n:Nat)(f:Int→Int):mz (n+1) f=mz n f++[f (n:Int)]:=by unfold mz;rw[List.range_succ];simp
theorem JZ(n:Nat)(f:Int→Int):(mz n f).length=n:=by simp[mz]
theorem abr{n:Nat}{f:Int→Int}{i:Int}(h0:0≤i)(h1:i<n):rd (mz n f) i=f i:=by
 unfold rd mz;rw[List.getD_eq_getElem?_getD,List.getElem?_map,List.getElem?_range ae];simp[Int.toNat_of_nonneg h0]
def cT(a:Int):Bool:=decide (0≤a)&&decide (a<9)
theorem abt{a:Int}:cT a=true↔0≤a∧a<9:=by simp[cT]
def bg(a b:Int):Int:=(a%3+b%3)%3+3*((a / 3+b / 3)%3)
def cP(a:Int):Int:=(3 - a%3)%3+3*((3 - a / 3)%3)
def kM(a b:Int):Int:=(a%3*(b%3)+2*(a / 3*(b / 3)))%3+3*((a%3*(b / 3)+a / 3*(b%3))%3)
theorem iA(a b:Int):0≤bg a b∧bg a b<9:=by unfold bg;omega
theorem R2(a:Int):0≤cP a∧cP a<9:=by unfold cP;omega
theorem R3(a b:Int):0≤kM a b∧kM a b<9:=by
 unfold kM;have h1:=Int.emod_nonneg (a%3*(b%3)+2*(a / 3*(b / 3))) (show(3:Int)≠0 by decide);have h2:=Int.emod_lt_of_pos (a%3*(b%3)+2*(a / 3*(b / 3))) (show(0:Int)<3 by decide);have h3:=Int.emod_nonneg (a%3*(b / 3)+a / 3*(b%3)) (show(3:Int)≠0 by decide);have h4:=Int.emod_lt_of_pos (a%3*(b / 3)+a / 3*(b%3)) (show(0:Int)<3 by decide);omega
theorem nU{P:Int→Prop}(h:∀i:Fin 9,P (i.val:Int))(a:Int)(h0:0≤a)(h1:a<9):P a:=by
 have:=h ⟨a.toNat,ae⟩
 simpa [Int.toNat_of_nonneg h0] using this
theorem kN{P:Int→Int→Prop}(h:∀i j:Fin 9,P (i.val:Int) (j.val:Int))(a b:Int)(h0:0≤a)(h1:a<9)(h2:0≤b)(h3:b<9):P a b:=
 nU (P:=fun a=>P a b) (fun i=>nU (P:=fun b=>P i.val b) (fun j=>h i j) b h2 h3) a h0 h1
def oO(p:Int→Int):Bool:=allI 9 fun i=>allI 9 fun j=>!decide (i<j)||!decide (p i=p j)
theorem sj{p:Int→Int}:oO p=true↔ ∀i j:Nat,i<j→j<9→p (i:Int)≠p (j:Int):=by
 unfold oO;simp only[vG,Bool.or_eq_true,Bool.not_eq_true',decide_eq_false_iff_not]
 constructor
 ·intro h i j hij hj;rcases h i ae j hj with h|h
  ·omega
  ·exact h
 ·intro h i _ j hj;by_cases e:(i:Int)<j
  ·exact .inr (h i j ae hj)
  ·exact .inl e
def b9(t:List Int)(n:Nat):Bool:=decide (t.length=n)&&t.all cT
theorem hG{t:List Int}{n:Nat}:b9 t n=true↔t.length=n∧∀x∈t,0≤x∧x<9:=by
 simp[b9,abt]
theorem iK{t:List Int}{i:Int}(h1:i<t.length)(h0:0≤i):rd t i∈t:=by
 unfold rd;rw[List.getD_eq_getElem?_getD,List.getElem?_eq_getElem ae];exact List.getElem_mem _
theorem jY(l:List Int)(i:Nat)(h:i<l.length):rd l (i:Int)=l[i]:=by
 unfold rd;rw[List.getD_eq_getElem?_getD];simp[h]
theorem gG{t:List Int}{n:Nat}(h:b9 t n=true){i:Int}(h0:0≤i)(h1:i<n):0≤rd t i∧rd t i<9:=by
 obtain⟨hl,ha⟩:=hG.1 h;exact ha _ (iK ae h0)
def qS(t:List Int):Bool:=allI 9 fun a=>decide (rd t a=0)&&decide (rd t (9*a)=0)&&decide (rd t (9+a)=a)&&decide (rd t (9*a+1)=a)
def nV(t:List Int):Bool:=allI 9 fun a=>allI 9 fun b=>allI 9 fun c=>decide (rd t (9*bg a b+c)=bg (rd t (9*a+c)) (rd t (9*b+c)))
def kO(t:List Int)(c d:Int):Bool:=oO fun x=>bg (rd t (9*x+c)) (cP (rd t (9*x+d)))
def pG(t:List Int):Bool:=allI 9 fun c=>allI 9 fun d=>!decide (d<c)||kO t c d
def aW(t:List Int):Bool:=b9 t 81&&(qS t&&(nV t&&pG t))
def bP(x:Int):Prop:=0≤x∧x<9
def lX(p:Int→Int→Int→Bool):Bool:=allI 9 fun a=>allI 9 fun b=>allI 9 fun c=>p a b c
theorem zf{p:Int→Int→Int→Bool}{a b c:Int}(ha:bP a)(hb:bP b)(hc:bP c)(h:p a b c=false):lX p=false:=by
 cases e:lX p with
 |false=>rfl
 |true=>
  have:=gF (gF (gF e a ha.1 ha.2) b hb.1 hb.2) c hc.1 hc.2;rw[h] at this;exact absurd this ao
theorem abu{p:Int→Int→Int→Bool}:lX p=true↔ ∀a b c:Int,bP a→bP b→bP c→p a b c=true:=by
 unfold lX;simp only[jr];exact⟨fun h a b c ha hb hc=>h a ha.1 ha.2 b hb.1 hb.2 c hc.1 hc.2,fun h a a0 a1 b b0 b1 c c0 c1=>h a b c ⟨a0,a1⟩ ⟨b0,b1⟩ ⟨c0,c1⟩⟩
def Eg(g:Nat):Prop:=∀args w,(callFunc g args).run Tryz.prog w=.ok (.enter g args) w
def zg(g:Nat)(lb:Array Value)(w:World)(D:Int→Prop)(p:Int→Value):Prop:=
 ∀(W:World) (x:Int),Below w.heap.size w W→D x→Calls Tryz.prog g (#[.int .i64 x]++lb) W fun e W'=>e=.returned (p x)∧Below W.heap.size W W'
def R4(g:Nat)(lb:Array Value)(w:World)(D:Int→Int→Prop)(p:Int→Int→Value):Prop:=
 ∀(W:World) (x y:Int),Below w.heap.size w W→D x y→Calls Tryz.prog g (#[.int .i64 x,.int .i64 y]++lb) W fun e W'=>e=.returned (p x y)∧Below W.heap.size W W'
def R5(g:Nat)(lb:Array Value)(w:World)(D:Int→Int→Int→Prop)(p:Int→Int→Int→Value):Prop:=
 ∀(W:World) (x y z:Int),Below w.heap.size w W→D x y z→Calls Tryz.prog g (#[.int .i64 x,.int .i64 y,.int .i64 z]++lb) W fun e W'=>e=.returned (p x y z)∧Below W.heap.size W W'
theorem aU{w W W':World}(h:Below w.heap.size w W)(h':Below W.heap.size W W'):Below w.heap.size w W':=h.trans (h'.mono h.size)
def vH(p:Int→Bool)(l:List Int):Int:=match l.findIdx? p with|some i=>i|none=> -1
theorem abv{p:Int→Bool}{l:List Int}(h:∀j:Nat,(j:Int)<l.length→p (rd l j)=false):vH p l= -1:=by
 have:l.findIdx? p=none:=by
  rw[List.findIdx?_eq_none_iff];intro x hx;obtain⟨j,hj,rfl⟩:=List.mem_iff_getElem.1 hx;have:=h j ae;unfold rd at this;rw[List.getD_eq_getElem?_getD] at this
  simpa [hj] using this
 unfold vH;rw[this]
theorem abw{p:Int→Bool}{l:List Int}(i:Int)(h0:0≤i)(h1:i<l.length)(hp:p (rd l i)=true)(h:∀j:Nat,(j:Int)<i→p (rd l j)=false):vH p l=i:=by
 have:l.findIdx? p=some i.toNat:=by
  rw[List.findIdx?_eq_some_iff_getElem];refine⟨ae,?_,?_⟩
  ·unfold rd at hp;rw[List.getD_eq_getElem?_getD] at hp
   simpa [show i.toNat<l.length by omega] using hp
  ·intro j hj;have:=h j ae;unfold rd at this;rw[List.getD_eq_getElem?_getD] at this
   simpa [show j<l.length by omega] using this
 unfold vH;rw[this];show((i.toNat:Nat):Int)=i;omega
theorem abx(p:Int→Bool)(l:List Int):decide (0≤vH p l)=l.any p:=by
 unfold vH;cases h:l.findIdx? p with
 |none=>
  rw[List.findIdx?_eq_none_iff] at h;have:l.any p=false:=by rw[List.any_eq_false];intro x hx;simp[h x hx]
  rw[this];rfl
 |some i=>
  obtain⟨hi,hp,_⟩:=List.findIdx?_eq_some_iff_getElem.1 h;have:l.any p=true:=List.any_eq_true.2 ⟨_,List.getElem_mem hi,hp⟩;rw[this];simp
theorem aby(g:Nat)(lb:Array Value)(eg:Eg g)(p:Int→Bool)(A0:Option Addr)(c0:Nat)(l:List Int)(w:World)(hr:Kd.C (Kd.int .i64) w A0 l.length l)(hp:zg g lb w (fun x=>x∈l) (fun x=>.bool (p x))):
  Calls Tryz.prog 192 #[.slice A0 l.length c0,.func (.func g) #[] lb] w fun e w'=>e=.returned (.int .i64 (vH p l))∧Below w.heap.size w w':=by
 have aj:=af.mk hr;have HP:=af.mk hp;have hm:l.length≤9223372036854775807:=hr.2.1;clear hr hp;unfold Eg at eg;go_enter Tryz.func192,Tryz.ntmps192;go_wp2;go_loopg [8] l.length (fun kq v8 w'=> ∃i:Int,v8=.int .i64 i∧af (0≤i∧i≤l.length)∧af ((l.length:Int) - i≤kq)∧af (∀j:Nat,(j:Int)<i→p (rd l j)=false)∧af (Below w.heap.size w w'))
 case atStart=>exact⟨0,rfl,⟨ae⟩,⟨ae⟩,⟨fun j hj=>ae⟩,⟨Below.refl _ _⟩⟩
 case round=>
  obtain⟨i,rfl,HI,HK,HA,HB⟩:=hrel;have h0:0≤i:=HI.o.1;by_cases c6:i<(l.length:Int)
  ·obtain⟨ad,e1,hx⟩:=Kd.ck aj.o i h0 c6;cases e1;replace hx:=(HB.o.cell (World.block_lt_of_cell? w _ hx)).trans hx;have hcall:=HP.o wr (rd l i) HB.o (iK c6 h0);dsimp only at hcall;by_cases hv:p (rd l i)=true
   ·rw[hv] at hcall;have HV:=af.mk hv;have HC:=af.mk hcall;clear hcall hv;go_wp2_with (go_at_fn g;refine HC.o.mono ?_;rintro e w' ⟨rfl,hb'⟩)
    go_ret;exact⟨by rw[abw i h0 c6 HV.o HA.o];rfl,aU HB.o hb'⟩
   ·have hv:=Bool.eq_false_iff.2 hv;rw[hv] at hcall;have HV:=af.mk hv;have HC:=af.mk hcall;clear hcall hv;go_wp2_with (go_at_fn g;refine HC.o.mono ?_;rintro e w' ⟨rfl,hb'⟩)
    go_roundg (l.length - (i.toNat+1))
    case measure=>have:=HK.o;omega
    case rel=>
     refine⟨i+1,rfl,⟨ae⟩,⟨ae⟩,⟨fun j hj=>?_⟩,⟨aU HB.o hb'⟩⟩;by_cases e:(j:Int)=i
     ·rw[e];exact HV.o
     ·exact HA.o j ae
  ·go_wp2;go_ret;have hi:i=l.length:=by have:=HI.o;omega
   exact⟨by rw[abv (fun j hj=>HA.o j ae)];rfl,HB.o⟩
theorem F8(g:Nat)(lb:Array Value)(eg:Eg g)(p:Int→Bool)(A0:Option Addr)(c0:Nat)(l:List Int)(w:World)(hr:Kd.C (Kd.int .i64) w A0 l.length l)(hp:zg g lb w (fun x=>x∈l) (fun x=>.bool (p x))):
  Calls Tryz.prog 120 #[.slice A0 l.length c0,.func (.func g) #[] lb] w fun e w'=>e=.returned (.bool (l.any p))∧Below w.heap.size w w':=by
 have HC:=af.mk (aby g lb eg p A0 c0 l w hr hp);rw[←abx];clear hr hp;go_enter Tryz.func120,Tryz.ntmps120;go_wp2_with (go_at_call 192;refine HC.o.mono ?_;rintro e w' ⟨rfl,hb'⟩)
 go_ret;exact⟨rfl,hb'⟩
theorem R6{p:Int→Int}(i j:Int)(h0:0≤i)(h1:i<j)(h2:j<9)(h:p i=p j):oO p=false:=by
 cases e:oO p with
 |false=>rfl
 |true=>
  have:=sj.1 e i.toNat j.toNat ae ae;rw[Int.toNat_of_nonneg h0,Int.toNat_of_nonneg ae] at this;exact absurd h this
theorem BZ(g:Nat)(lb:Array Value)(eg:Eg g)(p:Int→Int→Int→Bool)(w:World)(hp:R5 g lb w (fun a b c=>bP a∧bP b∧bP c) (fun a b c=>.bool (p a b c))):
  Calls Tryz.prog 41 #[.func (.func g) #[] lb] w fun e w'=>e=.returned (.bool (lX p))∧Below w.heap.size w w':=by
 have HP:=af.mk hp;clear hp;unfold Eg at eg;go_enter Tryz.func41,Tryz.ntmps41;go_wp2;go_loopg [6] 9 (fun kq v6 w'=> ∃a:Int,v6=.int .i64 a∧af (0≤a∧a≤9)∧af ((9:Int) - a≤kq)∧af (∀x y z:Int,0≤x→x<a→bP y→bP z→p x y z=true)∧af (Below w.heap.size w w'))
 case atStart=>exact⟨0,rfl,⟨ae⟩,⟨ae⟩,⟨fun x y z h0 h1=>ae⟩,⟨Below.refl _ _⟩⟩
 case round=>
  obtain⟨a,rfl,HI,HK,HA,HB⟩:=hrel;have h0:0≤a:=HI.o.1;by_cases c6:a<9
  ·go_wp2;go_loopg [9] 9 (fun kq v9 w'=> ∃b:Int,v9=.int .i64 b∧af (0≤b∧b≤9)∧af ((9:Int) - b≤kq)∧af (∀y z:Int,0≤y→y<b→bP z→p a y z=true)∧af (Below w.heap.size w w'))
   case atStart=>exact⟨0,rfl,⟨ae⟩,⟨ae⟩,⟨fun y z h0 h1=>ae⟩,HB⟩
   case round=>
    obtain⟨b,rfl,HI2,bw,jZ,bK⟩:=hrel;have lu:0≤b:=HI2.o.1;by_cases c7:b<9
    ·go_wp2;go_loopg [12] 9 (fun kq v12 w'=> ∃c:Int,v12=.int .i64 c∧af (0≤c∧c≤9)∧af ((9:Int) - c≤kq)∧af (∀z:Int,0≤z→z<c→p a b z=true)∧af (Below w.heap.size w w'))
     case atStart=>exact⟨0,rfl,⟨ae⟩,⟨ae⟩,⟨fun z h0 h1=>ae⟩,bK⟩
     case round=>
      obtain⟨c,rfl,HI3,dt,pH,du⟩:=hrel;have sk:0≤c:=HI3.o.1;by_cases c8:c<9
      ·have hcall:=HP.o wr a b c du.o ⟨⟨h0,c6⟩,⟨lu,c7⟩,⟨sk,c8⟩⟩;dsimp only at hcall;by_cases hv:p a b c=true
       ·rw[hv] at hcall;have HV:=af.mk hv;have HC:=af.mk hcall;clear hcall hv;go_wp2_with (go_at_fn g;refine HC.o.mono ?_;rintro e w' ⟨rfl,hb'⟩)
        go_roundg (9 - (c.toNat+1))
        case measure=>have:=dt.o;omega
        case rel=>
         refine⟨c+1,rfl,⟨ae⟩,⟨ae⟩,⟨fun z hz0 hz1=>?_⟩,⟨aU du.o hb'⟩⟩;by_cases e:z=c
         ·rw[e];exact HV.o
         ·exact pH.o z hz0 ae
       ·have hv:=Bool.eq_false_iff.2 hv;rw[hv] at hcall;have HV:=af.mk hv;have HC:=af.mk hcall;clear hcall hv;go_wp2_with (go_at_fn g;refine HC.o.mono ?_;rintro e w' ⟨rfl,hb'⟩)
        go_ret;exact⟨by rw[zf ⟨h0,c6⟩ ⟨lu,c7⟩ ⟨sk,c8⟩ HV.o];rfl,aU du.o hb'⟩
      ·go_wp2;go_roundg (9 - (b.toNat+1))
       case measure=>have:=bw.o;omega
       case rel=>
        refine⟨b+1,rfl,⟨ae⟩,⟨ae⟩,⟨fun y z hy0 hy1 hz=>?_⟩,du⟩;by_cases e:y=b
        ·rw[e];exact pH.o z hz.1 (by have:=hz.2;omega)
        ·exact jZ.o y z hy0 ae hz
    ·go_wp2;go_roundg (9 - (a.toNat+1))
     case measure=>have:=HK.o;omega
     case rel=>
      refine⟨a+1,rfl,⟨ae⟩,⟨ae⟩,⟨fun x y z hx0 hx1 hy hz=>?_⟩,bK⟩;by_cases e:x=a
      ·rw[e];exact jZ.o y z hy.1 (by have:=hy.2;omega) hz
      ·exact HA.o x y z hx0 ae hy hz
  ·go_wp2;go_ret
   have hall:lX p=true:=by
    have ha:a=9:=by have:=HI.o;omega
    refine jr.2 fun x x0 x1=>jr.2 fun y y0 y1=>jr.2 fun z z0 z1=>HA.o x y z x0 ae ⟨y0,y1⟩ ⟨z0,z1⟩
   exact⟨by rw[hall];rfl,HB.o⟩
end X
end Go.Proofs.YtiobedekgnfjcaaGreatDoor
