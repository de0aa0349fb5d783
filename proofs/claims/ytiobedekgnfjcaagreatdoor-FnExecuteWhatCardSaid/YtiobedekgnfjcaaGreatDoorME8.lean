/- What both Executes come to: contracts and plain laws, for the laws on Execute. No conditions. (Part 9 of 28.) -/
import Derived.Test.YtiobedekgnfjcaaGreatDoorME3
import Derived.Test.YtiobedekgnfjcaaGreatDoorME4
import Derived.Outline
import Derived.Deep.WholeRow
set_option linter.unusedVariables false
set_option linter.unusedSimpArgs false
set_option maxHeartbeats 8000000
set_option maxRecDepth 100000
namespace Go.Proofs.YtiobedekgnfjcaaGreatDoor
open Go.Proofs.YtiobedekgnfjcaaGreatDoorW.aq Go.Proofs.YtiobedekgnfjcaaGreatDoorW.ay Go.RowKit
namespace X
def bA(n:Nat)(s:Nat→Bool):Array Value:=((List.range n).map fun j=>Value.bool (s j)).toArray
theorem ab3{n:Nat}{s:Nat→Bool}(j:Nat)(h:j<n):(bA n s)[j]?=some (.bool (s j)):=by simp[bA,h]
theorem ab4{n:Nat}{s:Nat→Bool}(j:Nat)(v:Bool):(bA n s).setIfInBounds j (.bool v)=bA n (fun x=>if x=j then v else s x):=by
 apply Array.ext_getElem?;intro i;rw[Array.getElem?_setIfInBounds];by_cases hi:i<n
 ·by_cases hj:j=i
  ·subst hj;simp[bA,hi]
  ·simp[bA,hi,hj,Ne.symm hj]
 ·by_cases hj:j=i
  ·subst hj;simp[bA,hi]
  ·simp[bA,hi,hj]
structure fX(w:World)(b t n:Nat)(s:Nat→Bool):Prop where mk::(o:w.heap[b]?=some (.cells (bA n s) t (0,0)))
theorem fX.lt{w:World}{b t n:Nat}{s:Nat→Bool}(h:fX w b t n s):b<w.heap.size:=(Array.getElem?_eq_some_iff.1 h.o).1
theorem fX.below{w W:World}{b t n:Nat}{s:Nat→Bool}(h:fX w b t n s)(hb:Below w.heap.size w W):fX W b t n s:=⟨(hb.block b h.lt).trans h.o⟩
theorem fX.cell{w:World}{b t n:Nat}{s:Nat→Bool}(h:fX w b t n s)(j:Nat)(hj:j<n):w.cell? ⟨b,j,none⟩=some (.bool (s j)):=by
 simp[World.cell?,h.o,ab3 j hj]
theorem fX.frozen{w:World}{b t n:Nat}{s:Nat→Bool}(h:fX w b t n s)(j:Nat):w.frozen? ⟨b,j,none⟩=false:=by
 simp[World.frozen?,h.o]
theorem fX.set{w:World}{b t n:Nat}{s:Nat→Bool}(h:fX w b t n s)(j:Nat)(v:Bool):fX (w.setCell ⟨b,j,none⟩ (.bool v)) b t n (fun x=>if x=j then v else s x):=by
 constructor
 simp only[World.setCell,Array.getElem?_modify,if_true,h.o,Option.map_some,Option.isSome_none,Bool.false_eq_true,if_false,ab4]
theorem fX.congr{w:World}{b t n:Nat}{s s':Nat→Bool}(h:fX w b t n s)(e:∀j,j<n→s j=s' j):fX w b t n s':=by
 constructor
 rw[h.o]
 have:bA n s=bA n s':=by
  unfold bA
  congr 1
  apply List.map_congr_left;intro j hj;rw[e j (List.mem_range.1 hj)]
 rw[this]
theorem fX.alloc(w:World)(t n:Nat)(s:Nat→Bool):fX (w.alloc (.cells (bA n s) t)) w.heap.size t n s:=⟨heap_alloc_new w _⟩
theorem ab5(n:Nat)(s:Nat→Bool):(bA n s).size=n:=by simp[bA]
theorem ab6(n:Nat)(s:Nat→Bool):(bA n s).all (·.oneCell')=true:=by
 rw[Array.all_eq_true];intro i hi;simp[bA,Value.oneCell']
theorem Sm{P:Program}(t n:Nat)(s:Nat→Bool)(hi:(P.info? t).map (·.size)=some n)(w:World):
  Sem.run P (storeCells ⟨w.heap.size,0,none⟩ (bA n s).toList) (w.alloc (.cells (bA n s) t))=.ok () (w.alloc (.cells (bA n s) t)):=
 run_storeCells_new w t _ _ (by rw[ab5];exact hi) rfl (ab6 n s)
def pI(p:Int→Int)(i:Int)(j:Nat):Bool:=(List.range i.toNat).any fun(x:Nat)=>decide (p x=(j:Int))
theorem Sn(p:Int→Int)(i:Int)(h0:0≤i)(j:Nat):pI p (i+1) j=(pI p i j||decide (p i=(j:Int))):=by
 unfold pI;rw[show(i+1).toNat=i.toNat+1 by omega,List.range_succ,List.any_append];simp[Int.toNat_of_nonneg h0]
theorem ab7(g:Nat)(lb:Array Value)(eg:Eg g)(p:Int→Int)(w:World)(hp:zg g lb w bP (fun x=>.int .i64 (p x)))(So:∀x,bP x→bP (p x)):
  Calls Tryz.prog 67 #[.func (.func g) #[] lb] w fun e w'=>e=.returned (.bool (oO p))∧Below w.heap.size w w':=by
 have HP:=af.mk hp;have HR:=af.mk So;clear hp So;have HS:=af.mk (fX.alloc w 99 9 (fun _=>false));unfold Eg at eg;go_enter Tryz.func67,Tryz.ntmps67;go_wp2;go_loopg [6] 9 (fun kq v6 w'=> ∃i:Int,v6=.int .i64 i∧af (0≤i∧i≤9)∧af ((9:Int) - i≤kq)∧af (∀x y:Int,0≤x→x<y→y<i→p x≠p y)∧af (fX w' w.heap.size 99 9 (pI p i))∧af (Below w.heap.size w w'))
 case atStart=>exact⟨0,rfl,⟨ae⟩,⟨ae⟩,⟨fun x y h0 h1=>ae⟩,⟨HS.o.congr (fun j hj=>rfl)⟩,⟨(Below.refl _ _).alloc (aH _) _⟩⟩
 case round=>
  obtain⟨i,rfl,HI,HK,HA,HS2,HB⟩:=hrel;have h0:0≤i:=HI.o.1;by_cases c6:i<9
  ·have hcall:=HP.o wr i HB.o ⟨h0,c6⟩;obtain⟨q0,q1⟩:=HR.o i ⟨h0,c6⟩;dsimp only at hcall;obtain⟨v,hv⟩:∃v:Int,p i=v:=⟨_,rfl⟩;rw[hv] at hcall q0 q1;have HV:=af.mk hv;have HC:=af.mk hcall;clear hcall hv;go_wp2_with fail
   refine HC.o.mono ?_;rintro e w1 ⟨rfl,hb1⟩;have J7:=HS2.o.below hb1;have hc:=J7.cell v.toNat ae;have bF:=af.mk (aU HB.o hb1);clear hb1;by_cases hs:pI p i v.toNat=true
   ·rw[hs] at hc;have HF:=af.mk hs;clear hs;go_wp2;go_ret
    have:oO p=false:=by
     have h:=HF.o;unfold pI at h;obtain⟨x,hx,hpx⟩:=List.any_eq_true.1 h;have hx:=List.mem_range.1 hx;have hpx:=of_decide_eq_true hpx;exact R6 x i ae ae c6 (by rw[hpx,HV.o];omega)
    exact⟨by rw[this];rfl,bF.o⟩
   ·have hs:=Bool.eq_false_iff.2 hs;rw[hs] at hc;have HF:=af.mk hs;have HS4:=af.mk J7;clear hs J7;have Gd:=HP.o w1 i bF.o ⟨h0,c6⟩;dsimp only at Gd;rw[HV.o] at Gd;have iB:=af.mk Gd;clear Gd;go_wp2_with fail
    refine iB.o.mono ?_;rintro e w2 ⟨rfl,hb2⟩;have vM:=HS4.o.below hb2;have hc2:=vM.cell v.toNat ae;have hf2:=vM.frozen v.toNat;have tP:=af.mk (vM.set v.toNat true);have bK:=af.mk ((aU bF.o hb2).setCell (p:=⟨w.heap.size,v.toNat,none⟩) (aH _) (.bool true));clear hb2 vM;go_wp2;go_roundg (9 - (i.toNat+1))
    case measure=>have:=HK.o;omega
    case rel=>
     refine⟨i+1,rfl,⟨ae⟩,⟨ae⟩,⟨fun x y hx hxy hy=>?_⟩,⟨tP.o.congr (fun j hj=>?_)⟩,bK⟩
     ·by_cases e:y=i
      ·subst e;intro hxe;have h:=HF.o;unfold pI at h;have:=List.any_eq_false.1 h x.toNat (List.mem_range.2 ae);rw[Int.toNat_of_nonneg hx,hxe,HV.o] at this;exact this (ap ae)
      ·exact HA.o x y hx hxy ae
     ·rw[Sn p i h0 j,HV.o];by_cases e:j=v.toNat
      ·subst e;rw[ah rfl,ap ae,Bool.or_true]
      ·rw[ag e,aD ae,Bool.or_false]
  ·go_wp2;go_ret
   have hall:oO p=true:=by
    have hi:i=9:=by have:=HI.o;omega
    exact sj.2 fun x y hxy hy=>HA.o x y ae ae ae
   exact⟨by rw[hall];rfl,HB.o⟩
end X
namespace X
open Go.Proofs.YtiobedekgnfjcaaGreatDoor.P
theorem Ge(a b:Int)(ha:bP a)(hb:bP b):nY.f a b=some (bg a b):=
 kN (P:=fun a b=>nY.f a b=some (bg a b)) (by decide+kernel) a b ha.1 ha.2 hb.1 hb.2
theorem ab8(a:Int)(ha:bP a):zu.f a=some (cP a):=
 nU (P:=fun a=>zu.f a=some (cP a)) (by decide+kernel) a ha.1 ha.2
theorem tQ(a b:Int)(ha:bP a)(hb:bP b)(w:World):Calls Tryz.prog 36 #[.int .i64 a,.int .i64 b] w fun e w'=>e=.returned (.int .i64 (bg a b))∧aG w w':=nY.calls a b _ w (Ge a b ha hb)
theorem ab9(a:Int)(ha:bP a)(w:World):Calls Tryz.prog 69 #[.int .i64 a] w fun e w'=>e=.returned (.int .i64 (cP a))∧aG w w':=zu.calls a _ w (ab8 a ha)
theorem qd{P:Program}{f:FuncId}{args:Array Value}{w:World}{n:Nat}{v:Value}(h:Calls P f args (w.drewN n) fun e w'=>e=.returned v∧aG (w.drewN n) w'):
  Calls P f args (w.drewN n) fun e w''=>e=.returned v∧∃m,w''=w.drewN m:=
 h.mono fun _ _ ⟨he,hd⟩=>⟨he,by obtain⟨m,hm⟩:=hd.o;exact⟨n+m,by rw[hm,World.drewN_drewN]⟩⟩
structure dZ(w:World)(b:Nat)(A0:Option Addr)(c0:Nat)(t:List Int):Prop where
 cell:w.cell? ⟨b,0,none⟩=some (.slice A0 t.length c0)
 read:Kd.C (Kd.int .i64) w A0 t.length t
theorem dZ.below{w W:World}{b:Nat}{A0:Option Addr}{c0:Nat}{t:List Int}(h:dZ w b A0 c0 t)(hb:Below w.heap.size w W):dZ W b A0 c0 t:=
 ⟨(hb.cell (World.block_lt_of_cell? w _ h.cell)).trans h.cell,Kd.aN h.read hb⟩
theorem dZ.at{w:World}{b:Nat}{ad:Addr}{c0:Nat}{t:List Int}(h:dZ w b (some ad) c0 t)(i:Int)(h0:0≤i)(h1:i<t.length):w.cell? (ad.add i.toNat)=some (.int .i64 (rd t i)):=by
 obtain⟨kp,e,hc⟩:=Kd.ck h.read i h0 h1;cases e;exact hc
theorem dZ.some{w:World}{b:Nat}{A0:Option Addr}{c0:Nat}{t:List Int}(h:dZ w b A0 c0 t)(hl:0<t.length):∃ad,A0=some ad:=by
 obtain⟨kp,e,hc⟩:=Kd.ck h.read 0 ae ae;exact⟨kp,e⟩
theorem ab_(b:Nat)(A0:Option Addr)(c0:Nat)(t:List Int)(w:World)(hb:dZ w b A0 c0 t)(hn:b9 t 81=true)(x y z:Int)(hx:bP x)(hy:bP y)(hz:bP z):
  Calls Tryz.prog 66 #[.int .i64 x,.int .i64 y,.int .i64 z,.pointer (some ⟨b,0,none⟩)] w fun e w'=>e=.returned (.bool (decide (rd t (9*bg x y+z)=bg (rd t (9*x+z)) (rd t (9*y+z)))))∧Below w.heap.size w w':=by
 obtain⟨hl,_⟩:=hG.1 hn;obtain⟨ad,rfl⟩:=hb.some ae;obtain⟨r0,r1⟩:=iA x y;obtain⟨x0,x1⟩:=hx;obtain⟨y0,y1⟩:=hy;obtain⟨z0,z1⟩:=hz;have hc:=hb.cell;have q1:=gG hn (i:=9*x+z) ae ae;have q2:=gG hn (i:=9*y+z) ae ae;have C1:=af.mk (tQ x y ⟨x0,x1⟩ ⟨y0,y1⟩);have C2:=af.mk (tQ (rd t (9*x+z)) (rd t (9*y+z)) q1 q2);obtain⟨s,hs⟩:∃s,bg x y=s:=⟨_,rfl⟩;rw[hs] at C1 r0 r1 ⊢;clear hs;have g1:=hb.at (9*x+z) ae ae;have g2:=hb.at (9*y+z) ae ae;have g3:=hb.at (9*s+z) ae ae;clear hb hn;go_enter Tryz.func66,Tryz.ntmps66;go_wp2;go_quiet ((first|(go_at_call 36;with_reducible exact qd (C1.o _))|(go_at_call 36;with_reducible exact qd (C2.o _))))
 go_wp2;go_ret;exact⟨rfl,aG.below ⟨⟨_,rfl⟩⟩⟩
theorem aca(b bc bd:Nat)(A0:Option Addr)(c0:Nat)(t:List Int)(w:World)(hb:dZ w b A0 c0 t)(hn:b9 t 81=true)(c d:Int)(hC:bP c)(hD:bP d)
  (hc:w.cell? ⟨bc,0,none⟩=some (.int .i64 c)) (hd:w.cell? ⟨bd,0,none⟩=some (.int .i64 d)) (x:Int) (hx:bP x):
  Calls Tryz.prog 68 #[.int .i64 x,.pointer (some ⟨b,0,none⟩),.pointer (some ⟨bc,0,none⟩),.pointer (some ⟨bd,0,none⟩)] w fun e w'=>e=.returned (.int .i64 (bg (rd t (9*x+c)) (cP (rd t (9*x+d)))))∧Below w.heap.size w w':=by
 obtain⟨hl,_⟩:=hG.1 hn;obtain⟨ad,rfl⟩:=hb.some ae;obtain⟨x0,x1⟩:=hx;obtain⟨c1,c2⟩:=hC;obtain⟨d1,d2⟩:=hD;have hcc:=hb.cell;have q1:=gG hn (i:=9*x+c) ae ae;have q2:=gG hn (i:=9*x+d) ae ae;have C1:=af.mk (ab9 (rd t (9*x+d)) q2);have C2:=af.mk (tQ (rd t (9*x+c)) (cP (rd t (9*x+d))) q1 (R2 _));have g1:=hb.at (9*x+c) ae ae;have g2:=hb.at (9*x+d) ae ae;clear hb hn q1 q2;go_enter Tryz.func68,Tryz.ntmps68;go_wp2;go_quiet ((first|(go_at_call 69;with_reducible exact qd (C1.o _))|(go_at_call 36;with_reducible exact qd (C2.o _))))
 go_wp2;go_ret;exact⟨rfl,aG.below ⟨⟨_,rfl⟩⟩⟩
theorem acb(l:List Int):(l.any fun x=>!cT x)=!l.all cT:=by
 induction l with
 |nil=>rfl
 |cons a l ih=>rw[List.any_cons,List.all_cons,ih,Bool.not_and]
theorem acd(a:Int):zv.f a=some (cT a):=by
 unfold zv.f cT;by_cases h:a≥0
 ·rw[ah h];simp[h]
 ·rw[ag h];simp[h]
theorem su(a:Int)(w:World):Calls Tryz.prog 35 #[.int .i64 a] w fun e w'=>e=.returned (.bool (cT a))∧aG w w':=zv.calls a _ w (acd a)
theorem ace(a:Int)(w:World):Calls Tryz.prog 121 #[.int .i64 a] w fun e w'=>e=.returned (.bool (!cT a))∧Below w.heap.size w w':=by
 have C1:=af.mk (su a);obtain⟨v,hv⟩:∃v,cT a=v:=⟨_,rfl⟩;rw[hv] at C1 ⊢;clear hv;go_enter Tryz.func121,Tryz.ntmps121;go_wp2_with (go_at_call 35;refine(C1.o _).mono ?_;rintro e w' ⟨rfl,⟨nd,rfl⟩⟩)
 go_ret;exact⟨rfl,aG.below ⟨⟨_,rfl⟩⟩⟩
theorem acf:Eg 121:=enters_of Tryz.func121 am rfl
theorem acg(A0:Option Addr)(c0:Nat)(l:List Int)(n:Int)(w:World)(hr:Kd.C (Kd.int .i64) w A0 l.length l):
  Calls Tryz.prog 65 #[.slice A0 l.length c0,.int .i64 n] w fun e w'=>e=.returned (.bool (decide ((l.length:Int)=n)&&l.all cT))∧Below w.heap.size w w':=by
 have HC:=af.mk (F8 121 #[] acf (fun x=>!cT x) A0 c0 l w hr (fun W x _ _=>ace x W));have e1:(l.any fun x=>!cT x)=!l.all cT:=acb l;rw[e1] at HC;clear e1 hr;obtain⟨v,hv⟩:∃v,l.all cT=v:=⟨_,rfl⟩;rw[hv] at HC ⊢;clear hv;by_cases h:(l.length:Int)=n
 ·have h1:((l.length:Int)==n)=true:=beq_iff_eq.2 h;rw[ap h];clear h;go_enter Tryz.func65,Tryz.ntmps65;go_wp2_with (go_at_call 120;refine HC.o.mono ?_;rintro e w' ⟨rfl,hb⟩)
  go_ret;exact⟨by cases v<;>rfl,hb⟩
 ·have h1:((l.length:Int)==n)=false:=beq_eq_false_iff_ne.2 h;rw[aD h];clear h;go_enter Tryz.func65,Tryz.ntmps65;go_wp2;go_ret;exact⟨rfl,Below.refl _ _⟩
theorem ac9:Eg 66:=enters_of Tryz.func66 am rfl
theorem ac_:Eg 68:=enters_of Tryz.func68 am rfl
theorem dZ.alloc{w:World}{A0:Option Addr}{c0:Nat}{t:List Int}(hr:Kd.C (Kd.int .i64) w A0 t.length t):dZ (w.alloc (.cells #[.slice A0 t.length c0] 31)) w.heap.size A0 c0 t:=
 ⟨World.cell?_alloc_at _ _ _ _ rfl,Kd.aN hr ((Below.refl _ _).alloc (aH _) _)⟩
def tW(t:List Int)(a:Int):Bool:=decide (rd t a=0)&&decide (rd t (9*a)=0)&&decide (rd t (9+a)=a)&&decide (rd t (9*a+1)=a)
theorem Ky{t:List Int}:qS t=true↔ ∀x:Int,0≤x→x<9→tW t x=true:=jr
theorem Cr{t:List Int}{x:Int}(h0:0≤x)(h1:x<9)(h:tW t x=false):qS t=false:=by
 cases e:qS t with
 |false=>rfl
 |true=>have:=Ky.1 e x h0 h1;rw[h] at this;exact absurd this ao
theorem SZ{t:List Int}{c d:Int}(h0:0≤d)(h1:d<c)(h2:c<9)(h:kO t c d=false):pG t=false:=by
 cases e:pG t with
 |false=>rfl
 |true=>
  have:=gF (gF e c ae ae) d h0 ae;rw[h,ap h1] at this;exact absurd this ao
theorem S0{t:List Int}(h:∀c d:Int,0≤d→d<c→c<9→kO t c d=true):pG t=true:=
 jr.2 fun c c0 c1=>jr.2 fun d d0 d1=>by
  by_cases e:d<c
  ·rw[h c d d0 e ae];simp
  ·rw[aD e];rfl
theorem Kz{t:List Int}(h:b9 t 81=true):aW t=(qS t&&(nV t&&pG t)):=by unfold aW;rw[h];rfl
theorem tX(A0:Option Addr)(c0:Nat)(t:List Int)(w:World)(hr:Kd.C (Kd.int .i64) w A0 t.length t):
  Calls Tryz.prog 40 #[.slice A0 t.length c0] w fun e w'=>e=.returned (.bool (aW t))∧Below w.heap.size w w':=by
 have pN:∀(fn:Fn) (first cap:Array Value) (w:World),(Instr.makeFunc fn first cap).run Tryz.prog w=.ok (.func fn first cap) w:=fun _ _ _ _=>rfl;have ax:=af.mk (acg A0 c0 t 81 (w.alloc (.cells #[.slice A0 t.length c0] 31)) (dZ.alloc (c0:=c0) hr).read);have HX:=af.mk (dZ.alloc (c0:=c0) hr);have KC:=af.mk ((Below.refl w.heap.size w).alloc (aH _) (.cells #[.slice A0 t.length c0] 31));by_cases hn:b9 t 81=true
 case neg=>
  have hn:=Bool.eq_false_iff.2 hn;have e:aW t=false:=by unfold aW;rw[hn];rfl
  rw[e]
  have e2:(decide ((t.length:Int)=81)&&t.all cT)=false:=by
   unfold b9 at hn;rw[←hn,show decide ((t.length:Int)=81)=decide (t.length=81) from decide_eq_decide.2 ae]
  rw[e2] at ax;clear hn e e2 hr HX;go_enter Tryz.func40,Tryz.ntmps40;go_wp2_with (go_at_call 65;refine ax.o.mono ?_;rintro e w' ⟨rfl,hb⟩)
  go_ret;exact⟨rfl,KC.o.trans (hb.mono bn)⟩
 case pos=>
  have e2:(decide ((t.length:Int)=81)&&t.all cT)=true:=by
   have:=hn;unfold b9 at this;rw[←this,show decide ((t.length:Int)=81)=decide (t.length=81) from decide_eq_decide.2 ae]
  rw[e2] at ax;rw[Kz hn];have HN:=af.mk hn;obtain⟨hl,_⟩:=hG.1 hn;have hlen:81≤t.length:=ae;clear e2 hr hl hn;go_enter Tryz.func40,Tryz.ntmps40;go_wp2_with (go_at_call 65;refine ax.o.mono ?_;rintro e w1 ⟨rfl,hb⟩)
  have di:=af.mk (HX.o.below hb);have bF:=af.mk (KC.o.trans (hb.mono bn));clear hb HX KC ax;go_loopg [9] 9 (fun kq v9 w'=> ∃i:Int,v9=.int .i64 i∧af (0≤i∧i≤9)∧af ((9:Int) - i≤kq)∧af (∀x:Int,0≤x→x<i→tW t x=true)∧af (dZ w' w.heap.size A0 c0 t)∧af (Below w.heap.size w w'))
  case atStart=>exact⟨0,rfl,⟨ae⟩,⟨ae⟩,⟨fun x h0 h1=>ae⟩,di,bF⟩
  case round=>
   clear di bF;obtain⟨i,rfl,HI,HK,HA,HX,HB⟩:=hrel;have h0:0≤i:=HI.o.1;by_cases c6:i<9
   ·obtain⟨ad,e1⟩:=HX.o.some ae;cases e1;have hc:=HX.o.cell;have g1:=HX.o.at i h0 ae;have g2:=HX.o.at (9*i) ae ae;have g3:=HX.o.at (9+i) ae ae;have g4:=HX.o.at (9*i+1) ae ae;have hu:tW t i=(decide (rd t i=0)&&decide (rd t (9*i)=0)&&decide (rd t (9+i)=i)&&decide (rd t (9*i+1)=i)):=rfl;have HU:=af.mk hu;clear hu;obtain⟨v1,hv1⟩:∃v,rd t i=v:=⟨_,rfl⟩;obtain⟨v2,hv2⟩:∃v,rd t (9*i)=v:=⟨_,rfl⟩;obtain⟨v3,j8⟩:∃v,rd t (9+i)=v:=⟨_,rfl⟩;obtain⟨v4,oU⟩:∃v,rd t (9*i+1)=v:=⟨_,rfl⟩;rw[hv1] at g1 HU;rw[hv2] at g2 HU;rw[j8] at g3 HU;rw[oU] at g4 HU;clear hv1 hv2 j8 oU
    have fin:∀(b:Bool),tW t i=b→b=false→(qS t&&(nV t&&pG t))=false:=fun b hb hf=>by
     rw[Cr h0 c6 (hb.trans hf)];rfl
    have Gn:=af.mk fin;clear fin;by_cases t1:v1=0
    ·have KD:(v1==0)=true:=beq_iff_eq.2 t1;have t1b:(v1 !=0)=false:=by rw[bne,KD];rfl
     by_cases t2:v2=0
     ·have KE:(v2==0)=true:=beq_iff_eq.2 t2;have t2b:(v2 !=0)=false:=by rw[bne,KE];rfl
      by_cases t3:v3=i
      ·have KF:(v3==i)=true:=beq_iff_eq.2 t3;have t3b:(v3 !=i)=false:=by rw[bne,KF];rfl
       by_cases t4:v4=i
       ·have KG:(v4==i)=true:=beq_iff_eq.2 t4;have t4b:(v4 !=i)=false:=by rw[bne,KG];rfl
        have HP:=af.mk (show tW t i=true by rw[HU.o,ap t1,ap t2,ap t3,ap t4];rfl);clear t1 t2 t3 t4;go_wp2;go_roundg (9 - (i.toNat+1))
        case measure=>have:=HK.o;omega
        case rel=>
         refine⟨i+1,rfl,⟨ae⟩,⟨ae⟩,⟨fun x hx0 hx1=>?_⟩,HX,HB⟩;by_cases e:x=i
         ·rw[e];exact HP.o
         ·exact HA.o x hx0 ae
       ·have KG:(v4==i)=false:=beq_eq_false_iff_ne.2 t4;have t4b:(v4 !=i)=true:=by rw[bne,KG];rfl
        have HP:=af.mk (Gn.o _ HU.o (by rw[aD t4,Bool.and_false]));clear t1 t2 t3 t4;go_wp2;go_ret;exact⟨by rw[HP.o];rfl,HB.o⟩
      ·have KF:(v3==i)=false:=beq_eq_false_iff_ne.2 t3;have t3b:(v3 !=i)=true:=by rw[bne,KF];rfl
       have HP:=af.mk (Gn.o _ HU.o (by rw[aD t3,Bool.and_false,Bool.false_and]));clear t1 t2 t3;go_wp2;go_ret;exact⟨by rw[HP.o];rfl,HB.o⟩
     ·have KE:(v2==0)=false:=beq_eq_false_iff_ne.2 t2;have t2b:(v2 !=0)=true:=by rw[bne,KE];rfl
      have HP:=af.mk (Gn.o _ HU.o (by rw[aD t2,Bool.and_false,Bool.false_and,Bool.false_and]));clear t1 t2;go_wp2;go_ret;exact⟨by rw[HP.o];rfl,HB.o⟩
    ·have KD:(v1==0)=false:=beq_eq_false_iff_ne.2 t1;have t1b:(v1 !=0)=true:=by rw[bne,KD];rfl
     have HP:=af.mk (Gn.o _ HU.o (by rw[aD t1,Bool.false_and,Bool.false_and,Bool.false_and]));clear t1;go_wp2;go_ret;exact⟨by rw[HP.o];rfl,HB.o⟩
   ·have HU:=af.mk (Ky.2 fun x x0 x1=>HA.o x x0 (by have:=HI.o;omega));clear HA HK HI
    have hp:R5 66 #[.pointer (some ⟨w.heap.size,0,none⟩)] wr (fun a b c=>bP a∧bP b∧bP c) (fun x y z=>.bool (decide (rd t (9*bg x y+z)=bg (rd t (9*x+z)) (rd t (9*y+z))))):=
     fun W x y z hW hd=>ab_ w.heap.size A0 c0 t W (HX.o.below hW) HN.o x y z hd.1 hd.2.1 hd.2.2
    have hcall:=BZ 66 #[.pointer (some ⟨w.heap.size,0,none⟩)] ac9 _ wr hp;clear hp;have es:lX (fun x y z=>decide (rd t (9*bg x y+z)=bg (rd t (9*x+z)) (rd t (9*y+z))))=nV t:=rfl;rw[es] at hcall;clear es;by_cases hs:nV t=true
    case neg=>
     have hs:=Bool.eq_false_iff.2 hs;rw[hs] at hcall;have HS:=af.mk hs;have HC:=af.mk hcall;clear hs hcall;go_wp2_with (go_at_call 41;refine HC.o.mono ?_;rintro e w2 ⟨rfl,hb2⟩)
     go_ret;exact⟨by rw[HU.o,HS.o];rfl,aU HB.o hb2⟩
    case pos=>
     rw[hs] at hcall;have HS:=af.mk hs;have HC:=af.mk hcall;clear hs hcall;go_wp2_with (go_at_call 41;refine HC.o.mono ?_;rintro e w2 ⟨rfl,hb2⟩)
     have eV:=af.mk (HX.o.below hb2);have bK:=af.mk (aU HB.o hb2);clear HX HB hb2 HC;go_loopg [48] 9 (fun kq v9 w'=> ∃c:Int,v9=.int .i64 c∧af (0≤c∧c≤9)∧af ((9:Int) - c≤kq)∧af (∀x y:Int,0≤y→y<x→x<c→kO t x y=true)∧af (dZ w' w.heap.size A0 c0 t)∧af (Below w.heap.size w w'))
     case atStart=>exact⟨0,rfl,⟨ae⟩,⟨ae⟩,⟨fun x y h0 h1=>ae⟩,eV,bK⟩
     case round=>
      clear eV bK;obtain⟨c,rfl,HI,HK,HA,HX,HB⟩:=hrel;have h0:0≤c:=HI.o.1;by_cases c7:c<9
      ·obtain⟨wo,hwo⟩:∃wo:World,wr=wo:=⟨_,rfl⟩;subst hwo;have S1:=af.mk (HX.o.below ((Below.refl _ _).alloc (aH _) (.cells #[.int .i64 c] 3)));have zF:=af.mk (HB.o.alloc HB.o.size (.cells #[.int .i64 c] 3));have KH:=af.mk (show(wr.alloc (.cells #[.int .i64 c] 3)).cell? ⟨wr.heap.size,0,none⟩=some (.int .i64 c) from World.cell?_alloc_at _ _ _ _ rfl);go_wp2;obtain⟨cb,hcb⟩:∃cb,wr.heap.size=cb:=⟨_,rfl⟩;rw[hcb] at KH ⊢;clear hcb;go_loopg [52] 9 (fun kq v9 w'=> ∃d:Int,v9=.int .i64 d∧af (0≤d∧d≤c)∧af (c - d≤kq)∧af (∀y:Int,0≤y→y<d→kO t c y=true)∧af (w'.cell? ⟨cb,0,none⟩=some (.int .i64 c))∧af (dZ w' w.heap.size A0 c0 t)∧af (Below w.heap.size w w'))
       case atStart=>exact⟨0,rfl,⟨ae⟩,⟨ae⟩,⟨fun y h0 h1=>ae⟩,KH,S1,zF⟩
       case round=>
        clear S1 zF KH HX HB;obtain⟨d,rfl,HI2,bw,jZ,HC,HX,HB⟩:=hrel;have lu:0≤d:=HI2.o.1;by_cases c8:d<c
        ·have vU:=(Below.refl wr.heap.size wr).alloc (aH _) (.cells #[.int .i64 d] 3);have Gp:=af.mk (HX.o.below vU);have vV:=af.mk (HB.o.alloc HB.o.size (.cells #[.int .i64 d] 3));have hcd:(wr.alloc (.cells #[.int .i64 d] 3)).cell? ⟨cb,0,none⟩=some (.int .i64 c):=(vU.cell (World.block_lt_of_cell? wr _ HC.o)).trans HC.o;have vW:(wr.alloc (.cells #[.int .i64 d] 3)).cell? ⟨wr.heap.size,0,none⟩=some (.int .i64 d):=World.cell?_alloc_at _ _ _ _ rfl
         have hp:zg 68 #[.pointer (some ⟨w.heap.size,0,none⟩),.pointer (some ⟨cb,0,none⟩),.pointer (some ⟨wr.heap.size,0,none⟩)] (wr.alloc (.cells #[.int .i64 d] 3)) bP (fun x=>.int .i64 (bg (rd t (9*x+c)) (cP (rd t (9*x+d))))):=
          fun W x hW hd=>aca w.heap.size cb wr.heap.size A0 c0 t W (Gp.o.below hW) HN.o c d ⟨h0,c7⟩ ⟨lu,ae⟩ ((hW.cell (World.block_lt_of_cell? _ _ hcd)).trans hcd) ((hW.cell (World.block_lt_of_cell? _ _ vW)).trans vW) x hd
         have hcall:=ab7 68 #[.pointer (some ⟨w.heap.size,0,none⟩),.pointer (some ⟨cb,0,none⟩),.pointer (some ⟨wr.heap.size,0,none⟩)] ac_ _ _ hp (fun x _=>iA _ _);have eg:oO (fun x=>bg (rd t (9*x+c)) (cP (rd t (9*x+d))))=kO t c d:=rfl;rw[eg] at hcall;have S3:=af.mk hcd;clear hp eg vU hcd vW;by_cases hg:kO t c d=true
         ·rw[hg] at hcall;have HG:=af.mk hg;have KJ:=af.mk hcall;clear hg hcall;go_wp2_with (go_at_call 67;refine KJ.o.mono ?_;rintro e w2 ⟨rfl,hb2⟩)
          go_roundg ((c - (d+1)).toNat)
          case measure=>have:=bw.o;omega
          case rel=>
           refine⟨d+1,rfl,⟨ae⟩,⟨ae⟩,⟨fun y y0 y1=>?_⟩,⟨(hb2.cell (World.block_lt_of_cell? _ _ S3.o)).trans S3.o⟩,⟨Gp.o.below hb2⟩,⟨aU vV.o hb2⟩⟩;by_cases e:y=d
           ·rw[e];exact HG.o
           ·exact jZ.o y y0 ae
         ·have hg:=Bool.eq_false_iff.2 hg;rw[hg] at hcall;have HG:=af.mk hg;have KJ:=af.mk hcall;clear hg hcall;go_wp2_with (go_at_call 67;refine KJ.o.mono ?_;rintro e w2 ⟨rfl,hb2⟩)
          go_ret;exact⟨by rw[HU.o,HS.o,SZ lu c8 c7 HG.o];rfl,aU vV.o hb2⟩
        ·go_wp2;go_roundg (9 - (c.toNat+1))
         case measure=>have:=HK.o;omega
         case rel=>
          refine⟨c+1,rfl,⟨ae⟩,⟨ae⟩,⟨fun x y y0 yx x1=>?_⟩,HX,HB⟩;by_cases e:x=c
          ·subst e;exact jZ.o y y0 ae
          ·exact HA.o x y y0 yx ae
      ·go_wp2;go_ret;have ada:pG t=true:=S0 fun x y y0 yx x9=>HA.o x y y0 yx (by have:=HI.o;omega);exact⟨by rw[HU.o,HS.o,ada];rfl,HB.o⟩
end X
namespace P
def fE.f(l0:List Int):Option Bool:=some (X.aW l0)
theorem fE.calls(A0:Option Addr)(c0:Nat)(l0:List Int)(r:Bool)(w:World)(hr0:Kd.C (Kd.int .i64) w A0 l0.length l0)(hc0:l0.length≤c0)(h:fE.f l0=some r):
  Calls Tryz.prog 40 #[.slice A0 l0.length c0] w fun e w'=>e=.returned (.bool r)∧Below w.heap.size w w':=by
 obtain rfl:=au h;exact X.tX A0 c0 l0 w hr0
end P
namespace X
open Go.Proofs.YtiobedekgnfjcaaGreatDoor.P
theorem iN{P:Program}{f:FuncId}{args:Array Value}{w:World}{n:Nat}{v:Value}(h:Calls P f args (w.drewN n) fun e w'=>e=.returned v∧aG (w.drewN n) w'):
  Calls P f args (w.drewN n) fun e w''=>e=.returned v∧∃m,w''=w.drewN m:=
 h.mono fun _ _ ⟨he,hd⟩=>⟨he,by obtain⟨m,hm⟩:=hd.o;exact⟨n+m,by rw[hm,World.drewN_drewN]⟩⟩
theorem Cx(a b:Int)(ha:bP a)(hb:bP b):mF.f a b=some (bg a b):=
 kN (P:=fun a b=>mF.f a b=some (bg a b)) (by decide+kernel) a b ha.1 ha.2 hb.1 hb.2
theorem adn(a:Int)(ha:bP a):zH.f a=some (cP a):=
 nU (P:=fun a=>zH.f a=some (cP a)) (by decide+kernel) a ha.1 ha.2
theorem vY(a b:Int)(ha:bP a)(hb:bP b)(w:World):Calls Tryz.prog 38 #[.int .i64 a,.int .i64 b] w fun e w'=>e=.returned (.int .i64 (bg a b))∧aG w w':=mF.calls a b _ w (Cx a b ha hb)
theorem ado(a:Int)(ha:bP a)(w:World):Calls Tryz.prog 238 #[.int .i64 a] w fun e w'=>e=.returned (.int .i64 (cP a))∧aG w w':=zH.calls a _ w (adn a ha)
theorem gV{w:World}{ad:Addr}{t:List Int}{n:Nat}(h:Kd.C (Kd.int .i64) w (some ad) n t)(i:Int)(h0:0≤i)(h1:i<n):w.cell? (ad.add i.toNat)=some (.int .i64 (rd t i)):=by
 obtain⟨kp,e,hc⟩:=Kd.ck h i h0 h1;cases e;exact hc
theorem kx{w:World}{A0:Option Addr}{t:List Int}{n:Nat}(h:Kd.C (Kd.int .i64) w A0 n t)(hl:0<n):∃ad,A0=some ad:=by
 obtain⟨kp,e,hc⟩:=Kd.ck h 0 ae ae;exact⟨kp,e⟩
def sC(t:List Int)(x y z:Int):Bool:=decide (rd t (9*bg x y+z)=bg (rd t (9*x+z)) (rd t (9*y+z)))
theorem adp{t:List Int}(h:∀x y z:Int,bP x→bP y→bP z→sC t x y z=true):nV t=true:=
 jr.2 fun x x0 x1=>jr.2 fun y y0 y1=>jr.2 fun z z0 z1=>h x y z ⟨x0,x1⟩ ⟨y0,y1⟩ ⟨z0,z1⟩
theorem adq{t:List Int}{x y z:Int}(hx:bP x)(hy:bP y)(hz:bP z)(h:sC t x y z=false):nV t=false:=zf (p:=sC t) hx hy hz h
theorem adr(A0:Option Addr)(c0:Nat)(t:List Int)(w:World)(hr:Kd.C (Kd.int .i64) w A0 t.length t)(hn:b9 t 81=true):
  Calls Tryz.prog 190 #[.slice A0 t.length c0] w fun e w'=>e=.returned (.bool (nV t))∧aG w w':=by
 obtain⟨hl,_⟩:=hG.1 hn;obtain⟨ad,rfl⟩:=kx hr ae;have HT:=af.mk hr;have HN:=af.mk hn;have hlen:81≤t.length:=ae;clear hr hn hl;go_enter Tryz.func190,Tryz.ntmps190;go_wp2;go_loopg [3] 9 (fun kq v3 w'=> ∃a:Int,v3=.int .i64 a∧af (0≤a∧a≤9)∧af ((9:Int) - a≤kq)∧af (∀x y z:Int,0≤x→x<a→bP y→bP z→sC t x y z=true)∧af (aG w w'))
 case atStart=>exact⟨0,rfl,⟨ae⟩,⟨ae⟩,⟨fun x y z h0 h1=>ae⟩,⟨aG.refl _⟩⟩
 case round=>
  obtain⟨a,rfl,HI,HK,HA,HD⟩:=hrel;have h0:0≤a:=HI.o.1;by_cases c6:a<9
  ·go_wp2;go_loopg [4] 9 (fun kq v4 w'=> ∃b:Int,v4=.int .i64 b∧af (0≤b∧b≤9)∧af ((9:Int) - b≤kq)∧af (∀y z:Int,0≤y→y<b→bP z→sC t a y z=true)∧af (aG w w'))
   case atStart=>exact⟨0,rfl,⟨ae⟩,⟨ae⟩,⟨fun y z h0 h1=>ae⟩,HD⟩
   case round=>
    clear HD;obtain⟨b,rfl,HI2,bw,jZ,HD⟩:=hrel;have lu:0≤b:=HI2.o.1;by_cases c7:b<9
    ·go_wp2;go_loopg [5] 9 (fun kq v5 w'=> ∃c:Int,v5=.int .i64 c∧af (0≤c∧c≤9)∧af ((9:Int) - c≤kq)∧af (∀z:Int,0≤z→z<c→sC t a b z=true)∧af (aG w w'))
     case atStart=>exact⟨0,rfl,⟨ae⟩,⟨ae⟩,⟨fun z h0 h1=>ae⟩,HD⟩
     case round=>
      clear HD;obtain⟨c,rfl,HI3,dt,pH,HD⟩:=hrel;have sk:0≤c:=HI3.o.1;by_cases c8:c<9
      ·have fu:=Kd.aN HT.o HD.o.below;have q1:=gG HN.o (i:=9*a+c) ae ae;have q2:=gG HN.o (i:=9*b+c) ae ae;have tZ:=iA a b;have hs:sC t a b c=decide (rd t (9*bg a b+c)=bg (rd t (9*a+c)) (rd t (9*b+c))):=rfl;have C1:=af.mk (vY a b ⟨h0,c6⟩ ⟨lu,c7⟩);have C2:=af.mk (vY (rd t (9*a+c)) (rd t (9*b+c)) q1 q2);obtain⟨s,hs1⟩:∃s,bg a b=s:=⟨_,rfl⟩;rw[hs1] at C1 tZ hs;clear hs1;obtain⟨r0,r1⟩:=tZ;have g1:=gV fu (9*a+c) ae ae;have g2:=gV fu (9*b+c) ae ae;have g3:=gV fu (9*s+c) ae ae;obtain⟨v1,hv1⟩:∃v,rd t (9*a+c)=v:=⟨_,rfl⟩;obtain⟨v2,hv2⟩:∃v,rd t (9*b+c)=v:=⟨_,rfl⟩;obtain⟨v3,j8⟩:∃v,rd t (9*s+c)=v:=⟨_,rfl⟩;rw[hv1] at g1 hs C2;rw[hv2] at g2 hs C2;rw[j8] at g3 hs;obtain⟨v4,oU⟩:∃v,bg v1 v2=v:=⟨_,rfl⟩;rw[oU] at hs C2;have HS:=af.mk hs;clear hs hv1 hv2 j8 oU q1 q2 fu;by_cases he:v3=v4
       ·have n9:(v3==v4)=true:=beq_iff_eq.2 he;have he2:(v3 !=v4)=false:=by rw[bne,n9];rfl
        have HP:=af.mk (show sC t a b c=true by rw[HS.o,ap he]);clear he;go_wp2;go_quiet ((first|(go_at_call 38;with_reducible exact iN (C1.o _))|(go_at_call 38;with_reducible exact iN (C2.o _))))
        go_wp2;go_roundg (9 - (c.toNat+1))
        case measure=>have:=dt.o;omega
        case rel=>
         refine⟨c+1,rfl,⟨ae⟩,⟨ae⟩,⟨fun z hz0 hz1=>?_⟩,⟨HD.o.step _⟩⟩;by_cases e:z=c
         ·rw[e];exact HP.o
         ·exact pH.o z hz0 ae
       ·have n9:(v3==v4)=false:=beq_eq_false_iff_ne.2 he;have he2:(v3 !=v4)=true:=by rw[bne,n9];rfl
        have HP:=af.mk (show sC t a b c=false by rw[HS.o,aD he]);clear he;go_wp2;go_quiet ((first|(go_at_call 38;with_reducible exact iN (C1.o _))|(go_at_call 38;with_reducible exact iN (C2.o _))))
        go_wp2;go_ret;exact⟨by rw[adq ⟨h0,c6⟩ ⟨lu,c7⟩ ⟨sk,c8⟩ HP.o];rfl,HD.o.step _⟩
      ·go_wp2;go_roundg (9 - (b.toNat+1))
       case measure=>have:=bw.o;omega
       case rel=>
        refine⟨b+1,rfl,⟨ae⟩,⟨ae⟩,⟨fun y z hy0 hy1 hz=>?_⟩,HD⟩;by_cases e:y=b
        ·rw[e];exact pH.o z hz.1 (by have:=hz.2;have:=HI3.o;omega)
        ·exact jZ.o y z hy0 ae hz
    ·go_wp2;go_roundg (9 - (a.toNat+1))
     case measure=>have:=HK.o;omega
     case rel=>
      refine⟨a+1,rfl,⟨ae⟩,⟨ae⟩,⟨fun x y z hx0 hx1 hy hz=>?_⟩,HD⟩;by_cases e:x=a
      ·rw[e];exact jZ.o y z hy.1 (by have:=hy.2;have:=HI2.o;omega) hz
      ·exact HA.o x y z hx0 ae hy hz
  ·go_wp2;go_ret;have hall:nV t=true:=adp fun x y z hx hy hz=>HA.o x y z hx.1 (by have:=HI.o;have:=hx.2;omega) hy hz;exact⟨by rw[hall];rfl,HD.o⟩
theorem ads{t:List Int}{c d:Int}(h:∀x y:Int,0≤x→x<y→y<9→bg (rd t (9*x+c)) (cP (rd t (9*x+d)))≠bg (rd t (9*y+c)) (cP (rd t (9*y+d)))):kO t c d=true:=
 sj.2 fun x y hxy hy=>h x y ae ae ae
theorem adt(A0:Option Addr)(c0:Nat)(t:List Int)(c d:Int)(w:World)(hr:Kd.C (Kd.int .i64) w A0 t.length t)(hn:b9 t 81=true)(hc:bP c)(hd:bP d):
  Calls Tryz.prog 191 #[.slice A0 t.length c0,.int .i64 c,.int .i64 d] w fun e w'=>e=.returned (.bool (kO t c d))∧Below w.heap.size w w':=by
 obtain⟨hl,_⟩:=hG.1 hn;obtain⟨ad,rfl⟩:=kx hr ae;obtain⟨c1,c2⟩:=hc;obtain⟨d1,d2⟩:=hd;have HT:=af.mk hr;have HN:=af.mk hn;have hlen:81≤t.length:=ae;have HS:=af.mk (fX.alloc w 4 9 (fun _=>false));have hmk:∀w,(Instr.makeSlice 160 (.int .i64 9) (.int .i64 9)).run Tryz.prog w=.ok (.slice (some ⟨w.heap.size,0,none⟩) 9 9) (w.alloc (.cells #[.bool false,.bool false,.bool false,.bool false,.bool false,.bool false,.bool false,.bool false,.bool false] 4)):=fun _=>by kernel_rfl
 obtain⟨p,hp⟩:∃p:Int→Int,p=fun x=>bg (rd t (9*x+c)) (cP (rd t (9*x+d))):=⟨_,rfl⟩;have HP:=af.mk hp;clear hr hn hl hp;go_enter Tryz.func191,Tryz.ntmps191;go_wp2;go_loopg [8] 9 (fun kq v8 w'=> ∃i:Int,v8=.int .i64 i∧af (0≤i∧i≤9)∧af ((9:Int) - i≤kq)∧af (∀x y:Int,0≤x→x<y→y<i→p x≠p y)∧af (fX w' w.heap.size 4 9 (pI p i))∧af (Below w.heap.size w w'))
 case atStart=>exact⟨0,rfl,⟨ae⟩,⟨ae⟩,⟨fun x y h0 h1=>ae⟩,⟨HS.o.congr (fun j hj=>rfl)⟩,⟨(Below.refl _ _).alloc (aH _) _⟩⟩
 case round=>
  clear HS;obtain⟨i,rfl,HI,HK,HA,HS,HB⟩:=hrel;have h0:0≤i:=HI.o.1;by_cases c6:i<9
  ·have fu:=Kd.aN HT.o HB.o;have q1:=gG HN.o (i:=9*i+c) ae ae;have q2:=gG HN.o (i:=9*i+d) ae ae;have g1:=gV fu (9*i+c) ae ae;have g2:=gV fu (9*i+d) ae ae;have hv:p i=bg (rd t (9*i+c)) (cP (rd t (9*i+d))):=by rw[HP.o]
   have C1:=af.mk (ado (rd t (9*i+d)) q2);have C2:=af.mk (vY (rd t (9*i+c)) (cP (rd t (9*i+d))) q1 (R2 _));have tZ:=iA (rd t (9*i+c)) (cP (rd t (9*i+d)));obtain⟨v,hv1⟩:∃v,bg (rd t (9*i+c)) (cP (rd t (9*i+d)))=v:=⟨_,rfl⟩;rw[hv1] at C2 tZ hv;obtain⟨r0,r1⟩:=tZ;have HV:=af.mk hv;clear hv hv1 q1 q2 fu;have hcl:=HS.o.cell v.toNat ae;have hf:=HS.o.frozen v.toNat;by_cases hs:pI p i v.toNat=true
   ·rw[hs] at hcl;have HF:=af.mk hs;clear hs;go_wp2;go_quiet ((first|(go_at_call 238;with_reducible exact iN (C1.o _))|(go_at_call 38;with_reducible exact iN (C2.o _))))
    go_wp2;go_ret
    have:kO t c d=false:=by
     have h:=HF.o;unfold pI at h;obtain⟨x,hx,hpx⟩:=List.any_eq_true.1 h;have hx:=List.mem_range.1 hx;have hpx:=of_decide_eq_true hpx;have:=R6 (p:=p) x i ae ae c6 (by rw[hpx,HV.o];omega);rw[HP.o] at this;exact this
    exact⟨by rw[this];rfl,HB.o.trans (Below.mono (aG.below ⟨⟨_,rfl⟩⟩) HB.o.size)⟩
   ·have hs:=Bool.eq_false_iff.2 hs;rw[hs] at hcl;have HF:=af.mk hs;have tP:=af.mk (fun n:Nat=>(HS.o.below (aG.below (w':=wr.drewN n) ⟨⟨n,rfl⟩⟩)).set v.toNat true);have bK:=af.mk (fun n:Nat=>(aU HB.o (aG.below (w':=wr.drewN n) ⟨⟨n,rfl⟩⟩)).setCell (p:=⟨w.heap.size,v.toNat,none⟩) (aH _) (.bool true));clear hs;go_wp2;go_quiet ((first|(go_at_call 238;with_reducible exact iN (C1.o _))|(go_at_call 38;with_reducible exact iN (C2.o _))))
    go_wp2;go_roundg (9 - (i.toNat+1))
    case measure=>have:=HK.o;omega
    case rel=>
     refine⟨i+1,rfl,⟨ae⟩,⟨ae⟩,⟨fun x y hx hxy hy=>?_⟩,⟨(tP.o nq).congr (fun j hj=>?_)⟩,⟨bK.o nq⟩⟩
     ·by_cases e:y=i
      ·subst e;intro hxe;have h:=HF.o;unfold pI at h;have:=List.any_eq_false.1 h x.toNat (List.mem_range.2 ae);rw[Int.toNat_of_nonneg hx,hxe,HV.o] at this;exact this (ap ae)
      ·exact HA.o x y hx hxy ae
     ·rw[Sn p i h0 j,HV.o];by_cases e:j=v.toNat
      ·subst e;rw[ah rfl,ap ae,Bool.or_true]
      ·rw[ag e,aD ae,Bool.or_false]
  ·go_wp2;go_ret
   have hall:kO t c d=true:=by
    refine ads fun x y hx hxy hy=>?_;have:=HA.o x y hx hxy (by have:=HI.o;omega)
    rwa [HP.o] at this
   exact⟨by rw[hall];rfl,HB.o⟩
end X
namespace P
def vZ.f(l0:List Int):Option Bool:=if X.b9 l0 81=true then some (X.nV l0) else none
theorem vZ.calls(A0:Option Addr)(c0:Nat)(l0:List Int)(r:Bool)(w:World)(hr0:Kd.C (Kd.int .i64) w A0 l0.length l0)(hc0:l0.length≤c0)(h:vZ.f l0=some r):
  Calls Tryz.prog 190 #[.slice A0 l0.length c0] w fun e w'=>e=.returned (.bool r)∧aG w w':=by
 unfold vZ.f at h;by_cases hn:X.b9 l0 81=true
 ·rw[ah hn] at h;obtain rfl:=au h;exact X.adr A0 c0 l0 w hr0 hn
 ·rw[ag hn] at h;exact absurd h bn
def t6.f(l0:List Int)(a1 a2:Int):Option Bool:=if X.b9 l0 81=true∧(0≤a1∧a1<9)∧(0≤a2∧a2<9) then some (X.kO l0 a1 a2) else none
theorem t6.calls(A0:Option Addr)(c0:Nat)(l0:List Int)(a1 a2:Int)(r:Bool)(w:World)(hr0:Kd.C (Kd.int .i64) w A0 l0.length l0)(hc0:l0.length≤c0)(h:t6.f l0 a1 a2=some r):
  Calls Tryz.prog 191 #[.slice A0 l0.length c0,.int .i64 a1,.int .i64 a2] w fun e w'=>e=.returned (.bool r)∧Below w.heap.size w w':=by
 unfold t6.f at h;by_cases hn:X.b9 l0 81=true∧(0≤a1∧a1<9)∧(0≤a2∧a2<9)
 ·rw[ah hn] at h;obtain rfl:=au h;exact X.adt A0 c0 l0 a1 a2 w hr0 hn.1 hn.2.1 hn.2.2
 ·rw[ag hn] at h;exact absurd h bn
end P
namespace X
open Go.Proofs.YtiobedekgnfjcaaGreatDoor.P
theorem zN{w:World}{ad:Addr}{t:List Int}{n:Nat}(h:Kd.C (Kd.int .i64) w (some ad) n t)(hn:0<n):w.cell? ad=some (.int .i64 (rd t 0)):=by
 have:=gV h 0 ae ae
 simpa [Addr.add_zero'] using this
theorem l7{w:World}{ad:Addr}{t:List Int}{n:Nat}(h:Kd.C (Kd.int .i64) w (some ad) n t)(j:Nat)(z:Int)(hj:j<n)(hz:z=j:=by rfl)(h0:0<j:=by decide):w.cell? ⟨ad.block,ad.off+j,none⟩=some (.int .i64 (rd t z)):=by
 subst hz;have:=gV h (j:Int) ae ae;rw[Int.toNat_natCast] at this;rw[←this];unfold Addr.add;rw[ag ae]
theorem rl{w:World}{ad:Addr}{t:List Int}{n:Nat}(h:Kd.C (Kd.int .i64) w (some ad) n t)(hn:6≤n):w.cell? ad=some (.int .i64 (rd t 0))∧w.cell? ⟨ad.block,ad.off+1,none⟩=some (.int .i64 (rd t 1))∧w.cell? ⟨ad.block,ad.off+2,none⟩=some (.int .i64 (rd t 2))∧w.cell? ⟨ad.block,ad.off+3,none⟩=some (.int .i64 (rd t 3))∧w.cell? ⟨ad.block,ad.off+4,none⟩=some (.int .i64 (rd t 4))∧w.cell? ⟨ad.block,ad.off+5,none⟩=some (.int .i64 (rd t 5)):=
 ⟨zN h ae,l7 h 1 1 ae,l7 h 2 2 ae,l7 h 3 3 ae,l7 h 4 4 ae,l7 h 5 5 ae⟩
end X
namespace P
def t8.f(k:Nat)(l0:List Int)(a1:Int)(a2:Int):Option (Int×Bool):=(fE.f l0).bind fun KV=>(if KV=true then((gW.f a1).bind fun KW=>(if KW=true then((gW.f a2).bind fun KX=>(if KX=true then(if a1=a2 then(some (0,false)) else((iD.f k l0 a1 a2).bind fun KY=>(some (KY,true)))) else(some (0,false)))) else(some (0,false)))) else(some (0,false)))
theorem t8.calls(k:Nat)(A0:Option Addr)(c0:Nat)(l0:List Int)(a1:Int)(a2:Int)(r1:Int)(r2:Bool)(w:World)(hr0:Kd.C (Kd.int .i64) w A0 l0.length l0)(hc0:l0.length≤c0)(h:t8.f k l0 a1 a2=some (r1,r2)):
  Calls Tryz.prog 53 #[.slice A0 l0.length c0,.int .i64 a1,.int .i64 a2] w fun e w'=>e=.returned (.tuple #[.int .i64 r1,.bool r2])∧Below w.heap.size w w':=by
 have aj:=af.mk hr0;have ax:=af.mk hc0;clear hr0 hc0;have HB:=af.mk (Below.refl w.heap.size w);have H:=h;clear h;unfold t8.f at H;replace H:=aA.mp H;obtain⟨KV,cX,H⟩:=H;have A4:=af.mk cX;clear cX;by_cases c5:KV=true
 case neg=>
  replace c5:=bU c5;subst c5;rw[ag bV] at H;simp only[Option.some.injEq,Prod.mk.injEq] at H;obtain⟨rfl,rfl⟩:=H;go_enter Tryz.func53,Tryz.ntmps53;go_wp2_with ((refine aY 9 Tryz.func40 #[.slice A0 l0.length c0] ?_;(with_reducible refine(fE.calls _ _ l0 false _ ?_ ?_ A4.o).mono ?_);exact bD aj;exact ax.o;rintro e t_ ⟨rfl,hb⟩;refine⟨_,rfl,?_⟩;replace HB:=aM HB hb))
  go_ret2
  exact⟨bE,ai HB⟩
 subst c5;rw[ah rfl] at H;replace H:=aA.mp H;obtain⟨KW,dQ,H⟩:=H;have A6:=af.mk dQ;clear dQ;by_cases c7:KW=true
 case neg=>
  replace c7:=bU c7;subst c7;rw[ag bV] at H;simp only[Option.some.injEq,Prod.mk.injEq] at H;obtain⟨rfl,rfl⟩:=H;go_enter Tryz.func53,Tryz.ntmps53;go_wp2_with (first|(refine aY 9 Tryz.func40 #[.slice A0 l0.length c0] ?_;(with_reducible refine(fE.calls _ _ l0 true _ ?_ ?_ A4.o).mono ?_);exact bD aj;exact ax.o;rintro e hY ⟨rfl,hb⟩;refine⟨_,rfl,?_⟩;replace HB:=aM HB hb)|(go_at_call 49;(with_reducible refine(gW.calls a1 false _ A6.o).mono ?_);rintro e w' ⟨rfl,⟨nd,rfl⟩⟩))
  go_ret2
  exact⟨bE,ai HB⟩
 subst c7;rw[ah rfl] at H;replace H:=aA.mp H;obtain⟨KX,eG,H⟩:=H;have A8:=af.mk eG;clear eG;by_cases c9:KX=true
 case neg=>
  replace c9:=bU c9;subst c9;rw[ag bV] at H;simp only[Option.some.injEq,Prod.mk.injEq] at H;obtain⟨rfl,rfl⟩:=H;go_enter Tryz.func53,Tryz.ntmps53;go_wp2_with (first|(refine aY 9 Tryz.func40 #[.slice A0 l0.length c0] ?_;(with_reducible refine(fE.calls _ _ l0 true _ ?_ ?_ A4.o).mono ?_);exact bD aj;exact ax.o;rintro e ju ⟨rfl,hb⟩;refine⟨_,rfl,?_⟩;replace HB:=aM HB hb)|(go_at_call 49;(with_reducible refine(gW.calls a1 true _ A6.o).mono ?_);rintro e w' ⟨rfl,⟨nd,rfl⟩⟩)|(go_at_call 49;(with_reducible refine(gW.calls a2 false _ A8.o).mono ?_);rintro e w' ⟨rfl,⟨nd,rfl⟩⟩))
  go_ret2
  exact⟨bE,ai HB⟩
 subst c9;rw[ah rfl] at H;by_cases c10:a1=a2
 case neg=>
  rw[ag c10] at H;have gH:=cV c10;have pS:=bne_iff_ne.mpr c10;replace H:=aA.mp H;obtain⟨KY,fI,H⟩:=H;have iW:=af.mk fI;clear fI;simp only[Option.some.injEq,Prod.mk.injEq] at H;obtain⟨rfl,rfl⟩:=H;go_enter Tryz.func53,Tryz.ntmps53;go_wp2_with (first|(refine aY 9 Tryz.func40 #[.slice A0 l0.length c0] ?_;(with_reducible refine(fE.calls _ _ l0 true _ ?_ ?_ A4.o).mono ?_);exact bD aj;exact ax.o;rintro e rk ⟨rfl,hb⟩;refine⟨_,rfl,?_⟩;replace HB:=aM HB hb)|(go_at_call 49;(with_reducible refine(gW.calls a1 true _ A6.o).mono ?_);rintro e w' ⟨rfl,⟨nd,rfl⟩⟩)|(go_at_call 49;(with_reducible refine(gW.calls a2 true _ A8.o).mono ?_);rintro e w' ⟨rfl,⟨nd,rfl⟩⟩)|(refine aY 29 Tryz.func94 #[.slice A0 l0.length c0,.int .i64 a1,.int .i64 a2] ?_;(with_reducible refine(iD.calls k _ _ l0 a1 a2 KY _ ?bz ?bB iW.o).mono ?_);(case bz=>repeat(first|exact(Kd.aN aj.o (ai HB))|(with_reducible refine Kd.g7 ?_ _)|(with_reducible refine Kd.e8 ?_ _)|(with_reducible refine Kd.iz ?_)));(case bB=>exact ax.o);rintro e w' ⟨rfl,⟨nd,rfl⟩⟩;refine⟨_,rfl,?_⟩))
  go_ret2
  exact⟨bE,ai HB⟩
 rw[ah c10] at H;have gH:=beq_iff_eq.mpr c10;have pS:=bne_eq_false_iff_eq.mpr c10;clear c10;simp only[Option.some.injEq,Prod.mk.injEq] at H;obtain⟨rfl,rfl⟩:=H;go_enter Tryz.func53,Tryz.ntmps53;go_wp2_with (first|(refine aY 9 Tryz.func40 #[.slice A0 l0.length c0] ?_;(with_reducible refine(fE.calls _ _ l0 true _ ?_ ?_ A4.o).mono ?_);exact bD aj;exact ax.o;rintro e mG ⟨rfl,hb⟩;refine⟨_,rfl,?_⟩;replace HB:=aM HB hb)|(go_at_call 49;(with_reducible refine(gW.calls a1 true _ A6.o).mono ?_);rintro e w' ⟨rfl,⟨nd,rfl⟩⟩)|(go_at_call 49;(with_reducible refine(gW.calls a2 true _ A8.o).mono ?_);rintro e w' ⟨rfl,⟨nd,rfl⟩⟩))
 go_ret2
 exact⟨bE,ai HB⟩
def ua.f(k:Nat)(l0:List Int)(a1:Int)(a2:Int):Option (Int×Bool):=(fE.f l0).bind fun KZ=>(if KZ=true then((gW.f a1).bind fun K0=>(if K0=true then((gW.f a2).bind fun K1=>(if K1=true then(if a1=a2 then(some (0,false)) else((jE.f k l0 a1 a2).bind fun K2=>(some (K2,true)))) else(some (0,false)))) else(some (0,false)))) else(some (0,false)))
theorem ua.calls(k:Nat)(A0:Option Addr)(c0:Nat)(l0:List Int)(a1:Int)(a2:Int)(r1:Int)(r2:Bool)(w:World)(hr0:Kd.C (Kd.int .i64) w A0 l0.length l0)(hc0:l0.length≤c0)(h:ua.f k l0 a1 a2=some (r1,r2)):
  Calls Tryz.prog 54 #[.slice A0 l0.length c0,.int .i64 a1,.int .i64 a2] w fun e w'=>e=.returned (.tuple #[.int .i64 r1,.bool r2])∧Below w.heap.size w w':=by
 have aj:=af.mk hr0;have ax:=af.mk hc0;clear hr0 hc0;have HB:=af.mk (Below.refl w.heap.size w);have H:=h;clear h;unfold ua.f at H;replace H:=aA.mp H;obtain⟨KZ,cX,H⟩:=H;have A4:=af.mk cX;clear cX;by_cases c5:KZ=true
 case neg=>
  replace c5:=bU c5;subst c5;rw[ag bV] at H;simp only[Option.some.injEq,Prod.mk.injEq] at H;obtain⟨rfl,rfl⟩:=H;go_enter Tryz.func54,Tryz.ntmps54;go_wp2_with ((refine aY 9 Tryz.func40 #[.slice A0 l0.length c0] ?_;(with_reducible refine(fE.calls _ _ l0 false _ ?_ ?_ A4.o).mono ?_);exact bD aj;exact ax.o;rintro e t_ ⟨rfl,hb⟩;refine⟨_,rfl,?_⟩;replace HB:=aM HB hb))
  go_ret2
  exact⟨bE,ai HB⟩
 subst c5;rw[ah rfl] at H;replace H:=aA.mp H;obtain⟨K0,dQ,H⟩:=H;have A6:=af.mk dQ;clear dQ;by_cases c7:K0=true
 case neg=>
  replace c7:=bU c7;subst c7;rw[ag bV] at H;simp only[Option.some.injEq,Prod.mk.injEq] at H;obtain⟨rfl,rfl⟩:=H;go_enter Tryz.func54,Tryz.ntmps54;go_wp2_with (first|(refine aY 9 Tryz.func40 #[.slice A0 l0.length c0] ?_;(with_reducible refine(fE.calls _ _ l0 true _ ?_ ?_ A4.o).mono ?_);exact bD aj;exact ax.o;rintro e hY ⟨rfl,hb⟩;refine⟨_,rfl,?_⟩;replace HB:=aM HB hb)|(go_at_call 49;(with_reducible refine(gW.calls a1 false _ A6.o).mono ?_);rintro e w' ⟨rfl,⟨nd,rfl⟩⟩))
  go_ret2
  exact⟨bE,ai HB⟩
 subst c7;rw[ah rfl] at H;replace H:=aA.mp H;obtain⟨K1,eG,H⟩:=H;have A8:=af.mk eG;clear eG;by_cases c9:K1=true
 case neg=>
  replace c9:=bU c9;subst c9;rw[ag bV] at H;simp only[Option.some.injEq,Prod.mk.injEq] at H;obtain⟨rfl,rfl⟩:=H;go_enter Tryz.func54,Tryz.ntmps54;go_wp2_with (first|(refine aY 9 Tryz.func40 #[.slice A0 l0.length c0] ?_;(with_reducible refine(fE.calls _ _ l0 true _ ?_ ?_ A4.o).mono ?_);exact bD aj;exact ax.o;rintro e ju ⟨rfl,hb⟩;refine⟨_,rfl,?_⟩;replace HB:=aM HB hb)|(go_at_call 49;(with_reducible refine(gW.calls a1 true _ A6.o).mono ?_);rintro e w' ⟨rfl,⟨nd,rfl⟩⟩)|(go_at_call 49;(with_reducible refine(gW.calls a2 false _ A8.o).mono ?_);rintro e w' ⟨rfl,⟨nd,rfl⟩⟩))
  go_ret2
  exact⟨bE,ai HB⟩
 subst c9;rw[ah rfl] at H;by_cases c10:a1=a2
 case neg=>
  rw[ag c10] at H;have gH:=cV c10;have pS:=bne_iff_ne.mpr c10;replace H:=aA.mp H;obtain⟨K2,fI,H⟩:=H;have iW:=af.mk fI;clear fI;simp only[Option.some.injEq,Prod.mk.injEq] at H;obtain⟨rfl,rfl⟩:=H;go_enter Tryz.func54,Tryz.ntmps54;go_wp2_with (first|(refine aY 9 Tryz.func40 #[.slice A0 l0.length c0] ?_;(with_reducible refine(fE.calls _ _ l0 true _ ?_ ?_ A4.o).mono ?_);exact bD aj;exact ax.o;rintro e rk ⟨rfl,hb⟩;refine⟨_,rfl,?_⟩;replace HB:=aM HB hb)|(go_at_call 49;(with_reducible refine(gW.calls a1 true _ A6.o).mono ?_);rintro e w' ⟨rfl,⟨nd,rfl⟩⟩)|(go_at_call 49;(with_reducible refine(gW.calls a2 true _ A8.o).mono ?_);rintro e w' ⟨rfl,⟨nd,rfl⟩⟩)|(refine aY 29 Tryz.func95 #[.slice A0 l0.length c0,.int .i64 a1,.int .i64 a2] ?_;(with_reducible refine(jE.calls k _ _ l0 a1 a2 K2 _ ?bz ?bB iW.o).mono ?_);(case bz=>repeat(first|exact(Kd.aN aj.o (ai HB))|(with_reducible refine Kd.g7 ?_ _)|(with_reducible refine Kd.e8 ?_ _)|(with_reducible refine Kd.iz ?_)));(case bB=>exact ax.o);rintro e w' ⟨rfl,⟨nd,rfl⟩⟩;refine⟨_,rfl,?_⟩))
  go_ret2
  exact⟨bE,ai HB⟩
 rw[ah c10] at H;have gH:=beq_iff_eq.mpr c10;have pS:=bne_eq_false_iff_eq.mpr c10;clear c10;simp only[Option.some.injEq,Prod.mk.injEq] at H;obtain⟨rfl,rfl⟩:=H;go_enter Tryz.func54,Tryz.ntmps54;go_wp2_with (first|(refine aY 9 Tryz.func40 #[.slice A0 l0.length c0] ?_;(with_reducible refine(fE.calls _ _ l0 true _ ?_ ?_ A4.o).mono ?_);exact bD aj;exact ax.o;rintro e mG ⟨rfl,hb⟩;refine⟨_,rfl,?_⟩;replace HB:=aM HB hb)|(go_at_call 49;(with_reducible refine(gW.calls a1 true _ A6.o).mono ?_);rintro e w' ⟨rfl,⟨nd,rfl⟩⟩)|(go_at_call 49;(with_reducible refine(gW.calls a2 true _ A8.o).mono ?_);rintro e w' ⟨rfl,⟨nd,rfl⟩⟩))
 go_ret2
 exact⟨bE,ai HB⟩
mutual
def cu.j0:Nat→List Int→Bool→Option (Bool)
 |0,_,_=>none
 |k+1,x0,x17=>if x17=true then(some false) else(cu.l0 k x0 0)
def cu.l0:Nat→List Int→Int→Option (Bool)
 |0,_,_=>none
 |k+1,x0,x3=>if x3<9 then(cu.l1 k x0 x3 0) else(some true)
def cu.l1:Nat→List Int→Int→Int→Option (Bool)
 |0,_,_,_=>none
 |k+1,x0,x3,x4=>if x4<x3 then((t6.f x0 x3 x4).bind fun Le=>(if Le=true then(cu.l1 k x0 x3 (wrap64 (x4+1))) else(some false))) else(cu.l0 k x0 (wrap64 (x3+1)))
end
def cu.f(k:Nat)(l0:List Int):Option (Bool):=(lA.f k l0).bind fun Lf=>(if Lf=true then((kA.f k l0).bind fun Lg=>(if Lg=true then((vZ.f l0).bind fun GB=>(cu.j0 k l0 (!GB))) else(cu.j0 k l0 true))) else(cu.j0 k l0 true))
theorem cu.calls(k:Nat)(A0:Option Addr)(c0:Nat)(l0:List Int)(r:Bool)(w:World)(hr0:Kd.C (Kd.int .i64) w A0 l0.length l0)(hc0:l0.length≤c0)(h:cu.f k l0=some r):
  Calls Tryz.prog 118 #[.slice A0 l0.length c0] w fun e w'=>e=.returned (.bool r)∧Below w.heap.size w w':=by
 have aj:=af.mk hr0;have ax:=af.mk hc0;clear hr0 hc0;have HB:=af.mk (Below.refl w.heap.size w);have H:=h;clear h;unfold cu.f at H;have iB:=af.mk H;clear H;go_enter Tryz.func118,Tryz.ntmps118;go_upto_region 1 with(fail)
 go_cut [17] (fun Tt wc=> ∃(kq:Nat) (GD:Bool),Tt=.bool GD∧af (cu.j0 kq l0 GD=some r)∧af (kq≤k)∧af (Below w.heap.size w wc))
 case first=>
  have H:=iB.o;clear iB;replace H:=aA.mp H;obtain⟨Lf,bW,H⟩:=H;have A3:=af.mk bW;clear bW;by_cases c4:Lf=true
  case neg=>
   replace c4:=bU c4;subst c4;rw[ag bV] at H;have H':=af.mk H;clear H;go_wp2_with ((refine aY 6 Tryz.func188 #[.slice A0 l0.length c0] ?_;(with_reducible refine(lA.calls k _ _ l0 false _ ?_ ?_ A3.o).mono ?_);exact cG aj HB;exact ax.o;rintro e w' ⟨rfl,⟨nd,rfl⟩⟩;refine⟨_,rfl,?_⟩))
   go_meet;case rel=>exact⟨_,(true),ak,H',⟨np⟩,⟨ai HB⟩⟩
  subst c4;rw[ah rfl] at H;replace H:=aA.mp H;obtain⟨Lg,cY,H⟩:=H;have A5:=af.mk cY;clear cY;by_cases c6:Lg=true
  case neg=>
   replace c6:=bU c6;subst c6;rw[ag bV] at H;have H':=af.mk H;clear H;go_wp2_with (first|(refine aY 6 Tryz.func188 #[.slice A0 l0.length c0] ?_;(with_reducible refine(lA.calls k _ _ l0 true _ ?_ ?_ A3.o).mono ?_);exact cG aj HB;exact ax.o;rintro e w' ⟨rfl,⟨nd,rfl⟩⟩;refine⟨_,rfl,?_⟩)|(go_at_call 189;(with_reducible refine(kA.calls k _ _ l0 false _ ?bz ?bB A5.o).mono ?_);(case bz=>repeat(first|exact(Kd.aN aj.o (ai HB))|(with_reducible refine Kd.g7 ?_ _)|(with_reducible refine Kd.e8 ?_ _)|(with_reducible refine Kd.iz ?_)));(case bB=>exact ax.o);rintro e w' ⟨rfl,⟨nd,rfl⟩⟩))
   go_meet;case rel=>exact⟨_,(true),ak,H',⟨np⟩,⟨ai HB⟩⟩
  subst c6;rw[ah rfl] at H;replace H:=aA.mp H;obtain⟨GB,dy,H⟩:=H;have A7:=af.mk dy;clear dy;have H':=af.mk H;clear H;go_wp2_with (first|(refine aY 6 Tryz.func188 #[.slice A0 l0.length c0] ?_;(with_reducible refine(lA.calls k _ _ l0 true _ ?_ ?_ A3.o).mono ?_);exact cG aj HB;exact ax.o;rintro e w' ⟨rfl,⟨nd,rfl⟩⟩;refine⟨_,rfl,?_⟩)|(go_at_call 189;(with_reducible refine(kA.calls k _ _ l0 true _ ?bz ?bB A5.o).mono ?_);(case bz=>repeat(first|exact(Kd.aN aj.o (ai HB))|(with_reducible refine Kd.g7 ?_ _)|(with_reducible refine Kd.e8 ?_ _)|(with_reducible refine Kd.iz ?_)));(case bB=>exact ax.o);rintro e w' ⟨rfl,⟨nd,rfl⟩⟩)|(go_at_call 190;(with_reducible refine(vZ.calls _ _ l0 GB _ ?bz ?bB A7.o).mono ?_);(case bz=>repeat(first|exact(Kd.aN aj.o (ai HB))|(with_reducible refine Kd.g7 ?_ _)|(with_reducible refine Kd.e8 ?_ _)|(with_reducible refine Kd.iz ?_)));(case bB=>exact ax.o);rintro e w' ⟨rfl,⟨nd,rfl⟩⟩))
  go_meet;case rel=>exact⟨_,(!GB),ak,H',⟨np⟩,⟨ai HB⟩⟩
 case rest=>
  clear iB;obtain⟨kq,GD,rfl,HA,GF,HB⟩:=hcut;cases kq with
  |zero=>exact absurd HA.o (by simp[cu.j0])
  |succ Tv=>
   have H:=HA.o;clear HA;simp only[cu.j0] at H;by_cases c8:GD=true
   case neg=>
    replace c8:=bU c8;subst c8;rw[ag bV] at H;have H':=af.mk H;clear H;go_wp2;go_loopg [3] Tv (fun kq v3 w'=> ∃(dP:Int),v3=.int .i64 dP∧af (cu.l0 kq l0 dP=some r)∧af (kq≤Tv)∧af (Below w.heap.size w w'))
    case atStart=>exact⟨(0),ak,H',⟨aH _⟩,⟨ai HB⟩⟩
    case round=>
     clear H';obtain⟨dP,rfl,HA,bw,HB⟩:=hrel;cases gk with
     |zero=>exact absurd HA.o (by simp[cu.l0])
     |succ k2=>
      have H:=HA.o;clear HA;simp only[cu.l0] at H;by_cases c9:dP<9
      case neg=>
       rw[ag c9] at H;have gU:=aD c9;clear c9;obtain rfl:=au H;go_wp2;go_ret;exact⟨bE,ai HB⟩
      rw[ah c9] at H;have gU:=ap c9;clear c9;have H':=af.mk H;clear H;go_wp2;go_loopg [4] k2 (fun kq v4 w'=> ∃(sH:Int),v4=.int .i64 sH∧af (cu.l1 kq l0 dP sH=some r)∧af (kq≤k2)∧af (Below w.heap.size w w'))
      case atStart=>exact⟨(0),ak,H',⟨aH _⟩,⟨ai HB⟩⟩
      case round=>
       clear H';obtain⟨sH,rfl,HA,dt,HB⟩:=hrel;cases gk with
       |zero=>exact absurd HA.o (by simp[cu.l1])
       |succ k3=>
        have H:=HA.o;clear HA;simp only[cu.l1] at H;by_cases c10:sH<dP
        case neg=>
         rw[ag c10] at H;have gH:=aD c10;clear c10;have H':=af.mk H;clear H;go_wp2;go_roundg k3
         case measure=>have:=GF.o;have:=bw.o;have:=dt.o;omega
         case rel=>exact⟨(wrap64 (dP+1)),ak,H',⟨by have:=GF.o;have:=bw.o;have:=dt.o;omega⟩,⟨ai HB⟩⟩
        rw[ah c10] at H;have gH:=ap c10;clear c10;replace H:=aA.mp H;obtain⟨Le,ka,H⟩:=H;have jH:=af.mk ka;clear ka;by_cases c12:Le=true
        case neg=>
         replace c12:=bU c12;subst c12;rw[ag bV] at H;obtain rfl:=au H;go_wp2_with ((refine aY 30 Tryz.func191 #[.slice A0 l0.length c0,.int .i64 dP,.int .i64 sH] ?_;(with_reducible refine(t6.calls _ _ l0 dP sH false _ ?_ ?_ jH.o).mono ?_);exact cG aj HB;exact ax.o;rintro e ju ⟨rfl,hb⟩;refine⟨_,rfl,?_⟩;replace HB:=aM HB hb))
         go_ret;exact⟨bE,ai HB⟩
        subst c12;rw[ah rfl] at H;have H':=af.mk H;clear H;go_wp2_with ((refine aY 30 Tryz.func191 #[.slice A0 l0.length c0,.int .i64 dP,.int .i64 sH] ?_;(with_reducible refine(t6.calls _ _ l0 dP sH true _ ?_ ?_ jH.o).mono ?_);exact cG aj HB;exact ax.o;rintro e rk ⟨rfl,hb⟩;refine⟨_,rfl,?_⟩;replace HB:=aM HB hb))
        go_roundg k3
        case measure=>have:=GF.o;have:=bw.o;have:=dt.o;omega
        case rel=>exact⟨(wrap64 (sH+1)),ak,H',⟨by have:=GF.o;have:=bw.o;have:=dt.o;omega⟩,⟨ai HB⟩⟩
   subst c8;rw[ah rfl] at H;obtain rfl:=au H;go_wp2;go_ret;exact⟨bE,ai HB⟩
def wF.f(k:Nat)(l0:List Int)(l1:List Int):Option (Bool):=(cu.f k l0).bind fun L1=>(if L1=true then((fJ.f (l1.length:Int) 3 20).bind fun L2=>(if L2=true then((fx.f k l0 l1).bind fun L3=>(some L3)) else(some false))) else(some false))
theorem wF.calls(k:Nat)(A0:Option Addr)(c0:Nat)(l0:List Int)(A1:Option Addr)(c1:Nat)(l1:List Int)(r:Bool)(w:World)(hr0:Kd.C (Kd.int .i64) w A0 l0.length l0)(hc0:l0.length≤c0)(hr1:Kd.C (Kd.int .i64) w A1 l1.length l1)(hc1:l1.length≤c1)(h:wF.f k l0 l1=some r):
  Calls Tryz.prog 178 #[.slice A0 l0.length c0,.slice A1 l1.length c1] w fun e w'=>e=.returned (.bool r)∧Below w.heap.size w w':=by
 have aj:=af.mk hr0;have ax:=af.mk hc0;clear hr0 hc0;have bN:=af.mk hr1;have cA:=af.mk hc1;clear hr1 hc1;have HB:=af.mk (Below.refl w.heap.size w);have H:=h;clear h;unfold wF.f at H;replace H:=aA.mp H;obtain⟨L1,bW,H⟩:=H;have A3:=af.mk bW;clear bW;by_cases c4:L1=true
 case neg=>
  replace c4:=bU c4;subst c4;rw[ag bV] at H;obtain rfl:=au H;go_enter Tryz.func178,Tryz.ntmps178;go_wp2_with ((refine aY 6 Tryz.func118 #[.slice A0 l0.length c0] ?_;(with_reducible refine(cu.calls k _ _ l0 false _ ?_ ?_ A3.o).mono ?_);exact bD aj;exact ax.o;rintro e mH ⟨rfl,hb⟩;refine⟨_,rfl,?_⟩;replace HB:=aM HB hb))
  go_ret;exact⟨bE,ai HB⟩
 subst c4;rw[ah rfl] at H;replace H:=aA.mp H;obtain⟨L2,cY,H⟩:=H;have A5:=af.mk cY;clear cY;by_cases c6:L2=true
 case neg=>
  replace c6:=bU c6;subst c6;rw[ag bV] at H;obtain rfl:=au H;go_enter Tryz.func178,Tryz.ntmps178;go_wp2_with (first|(refine aY 6 Tryz.func118 #[.slice A0 l0.length c0] ?_;(with_reducible refine(cu.calls k _ _ l0 true _ ?_ ?_ A3.o).mono ?_);exact bD aj;exact ax.o;rintro e w9 ⟨rfl,hb⟩;refine⟨_,rfl,?_⟩;replace HB:=aM HB hb)|(go_at_call 39;(with_reducible refine(fJ.calls (l1.length:Int) 3 20 false _ A5.o).mono ?_);rintro e w' ⟨rfl,⟨nd,rfl⟩⟩))
  go_ret;exact⟨bE,ai HB⟩
 subst c6;rw[ah rfl] at H;replace H:=aA.mp H;obtain⟨L3,dy,H⟩:=H;have A7:=af.mk dy;clear dy;obtain rfl:=au H;go_enter Tryz.func178,Tryz.ntmps178;go_wp2_with (first|(refine aY 6 Tryz.func118 #[.slice A0 l0.length c0] ?_;(with_reducible refine(cu.calls k _ _ l0 true _ ?_ ?_ A3.o).mono ?_);exact bD aj;exact ax.o;rintro e w8 ⟨rfl,hb⟩;refine⟨_,rfl,?_⟩;replace HB:=aM HB hb)|(go_at_call 39;(with_reducible refine(fJ.calls (l1.length:Int) 3 20 true _ A5.o).mono ?_);rintro e w' ⟨rfl,⟨nd,rfl⟩⟩)|(go_at_call 234;(with_reducible refine(fx.calls k _ _ l0 _ _ l1 L3 _ ?bz ?bB ?cg ?cm A7.o).mono ?_);(case bz=>repeat(first|exact(Kd.aN aj.o (ai HB))|(with_reducible refine Kd.g7 ?_ _)|(with_reducible refine Kd.e8 ?_ _)|(with_reducible refine Kd.iz ?_)));(case bB=>exact ax.o);(case cg=>repeat(first|exact(Kd.aN bN.o (ai HB))|(with_reducible refine Kd.g7 ?_ _)|(with_reducible refine Kd.e8 ?_ _)|(with_reducible refine Kd.iz ?_)));(case cm=>exact cA.o);rintro e w' ⟨rfl,⟨nd,rfl⟩⟩))
 go_ret;exact⟨bE,ai HB⟩
def m5.l0:Nat→List Int→List Int→Int→Int→Option (Bool)
 |0,_,_,_,_=>none
 |k+1,x0,x1,kz,lz=>if lz<kz then(if 0≤lz then(if lz<(x0.length:Int) then(if lz<(x1.length:Int) then(if(rd x0 lz)=(rd x1 lz) then(m5.l0 k x0 x1 kz (wrap64 (lz+1))) else(some false)) else none) else none) else none) else(some true)
def m5.f(k:Nat)(l0:List Int)(l1:List Int):Option (Bool):=if(l0.length:Int)=(l1.length:Int) then(m5.l0 k l0 l1 (l0.length:Int) 0) else(some false)
theorem m5.calls(k:Nat)(A0:Option Addr)(c0:Nat)(l0:List Int)(A1:Option Addr)(c1:Nat)(l1:List Int)(r:Bool)(w:World)(hr0:Kd.C (Kd.int .i64) w A0 l0.length l0)(hc0:l0.length≤c0)(hr1:Kd.C (Kd.int .i64) w A1 l1.length l1)(hc1:l1.length≤c1)(h:m5.f k l0 l1=some r):
  Calls Tryz.prog 213 #[.slice A0 l0.length c0,.slice A1 l1.length c1] w fun e w'=>e=.returned (.bool r)∧aG w w':=by
 have aj:=af.mk hr0;have ax:=af.mk hc0;clear hr0 hc0;have bN:=af.mk hr1;have cA:=af.mk hc1;clear hr1 hc1;have H:=h;clear h;unfold m5.f at H;by_cases c3:(l0.length:Int)=(l1.length:Int)
 case neg=>
  rw[ag c3] at H;have eU:=cV c3;have um:=bne_iff_ne.mpr c3;have akm:(l0.length==l1.length)=false:=by first|simpa using c3|(simp at c3 ⊢;omega)
  obtain rfl:=au H;go_enter Tryz.func213,Tryz.ntmps213;go_wp2;repeat(go_quiet (fail);try go_wp2)
  go_ret;exact⟨ak,aQ⟩
 rw[ah c3] at H;have eU:=beq_iff_eq.mpr c3;have um:=bne_eq_false_iff_eq.mpr c3;have akm:(l0.length==l1.length)=true:=by first|simpa using c3|(simp at c3 ⊢;omega)
 clear c3;have H':=af.mk H;clear H;go_enter Tryz.func213,Tryz.ntmps213;go_wp2;repeat(go_quiet (fail);try go_wp2)
 go_loopg [13] k (fun kq K4 w'=> ∃(jv:Int),K4=.int .i64 jv∧af (m5.l0 kq l0 l1 (l0.length:Int) jv=some r)∧af (kq≤k)∧aG w w')
 case atStart=>exact⟨(0),ak,H',⟨aH _⟩,aQ⟩
 case round=>
  clear H';obtain⟨jv,rfl,HA,aC,⟨m1,rfl⟩⟩:=hrel;cases gk with
  |zero=>exact absurd HA.o (by simp[m5.l0])
  |succ k1=>
   have H:=HA.o;clear HA;simp only[m5.l0] at H;by_cases c4:jv<(l0.length:Int)
   case neg=>
    rw[ag c4] at H;have dK:=aD c4;clear c4;obtain rfl:=au H;go_wp2;repeat(go_quiet (fail);try go_wp2)
    go_ret;exact⟨ak,aQ⟩
   rw[ah c4] at H;have dK:=ap c4;clear c4;replace H:=bC H;obtain⟨dC,H⟩:=H;replace H:=bC H;obtain⟨dU,H⟩:=H;replace H:=bC H;obtain⟨eN,H⟩:=H;by_cases c8:(rd l0 jv)=(rd l1 jv)
   case neg=>
    rw[ag c8] at H;have fF:=cV c8;have td:=bne_iff_ne.mpr c8;obtain rfl:=au H;obtain⟨akn,rfl,ako,akp,akq⟩:=eu aj jv;obtain⟨akr,rfl,aks,akt,aku⟩:=eu bN jv;go_wp2;repeat(go_quiet (fail);try go_wp2)
    go_ret;exact⟨ak,aQ⟩
   rw[ah c8] at H;have fF:=beq_iff_eq.mpr c8;have td:=bne_eq_false_iff_eq.mpr c8;clear c8;have H':=af.mk H;clear H;obtain⟨akn,rfl,ako,akp,akq⟩:=eu aj jv;obtain⟨akr,rfl,aks,akt,aku⟩:=eu bN jv;go_wp2;repeat(go_quiet (fail);try go_wp2)
   go_roundg k1
   case measure=>have:=aC.o;omega
   case rel=>exact⟨(wrap64 (jv+1)),ak,H',⟨by have:=aC.o;omega⟩,aQ⟩
def kg.l0:Nat→ByteArray→Int→Int→Option (Int×Bool)
 |0,_,_,_=>none
 |k+1,x0,x4,x5=>if x5<(x0.size:Int) then(if 0≤x5 then(if(bt x0 x5)<48 then(some (0,false)) else(if(bt x0 x5)>57 then(some (0,false)) else(kg.l0 k x0 (wrap64 ((wrap64 (10*x4))+(((bt x0 x5) - 48)%256))) (wrap64 (x5+1))))) else none) else(some (x4,true))
def kg.f(k:Nat)(a0:ByteArray):Option (Int×Bool):=(fJ.f (a0.size:Int) 1 2).bind fun PV=>(if PV=true then(kg.l0 k a0 0 0) else(some (0,false)))
theorem kg.calls(k:Nat)(a0:ByteArray)(r1:Int)(r2:Bool)(w:World)(h:kg.f k a0=some (r1,r2)):
  Calls Tryz.prog 117 #[.string a0] w fun e w'=>e=.returned (.tuple #[.int .i64 r1,.bool r2])∧aG w w':=by
 have H:=h;clear h;unfold kg.f at H;replace H:=aA.mp H;obtain⟨PV,cW,H⟩:=H;have A2:=af.mk cW;clear cW;by_cases c3:PV=true
 case neg=>
  replace c3:=bU c3;subst c3;rw[ag bV] at H;simp only[Option.some.injEq,Prod.mk.injEq] at H;obtain⟨rfl,rfl⟩:=H;go_enter Tryz.func117,Tryz.ntmps117;go_wp2_with ((refine cx 8 Tryz.func39 #[.int .i64 (a0.size:Int),.int .i64 1,.int .i64 2] (fJ.calls (a0.size:Int) 1 2 false _ A2.o) fun nd=>?_))
  go_ret2
  exact⟨ak,aQ⟩
 subst c3;rw[ah rfl] at H;have H':=af.mk H;clear H;go_enter Tryz.func117,Tryz.ntmps117;go_wp2_with ((refine cx 8 Tryz.func39 #[.int .i64 (a0.size:Int),.int .i64 1,.int .i64 2] (fJ.calls (a0.size:Int) 1 2 true _ A2.o) fun nd=>?_))
 go_loopg [4,5] k (fun kq v4 v5 w'=> ∃(bx:Int) (aw:Int),v4=.int .i64 bx∧v5=.int .i64 aw∧af (kg.l0 kq a0 bx aw=some (r1,r2))∧af (kq≤k)∧aG w w')
 case atStart=>exact⟨(0),(0),ak,ak,H',⟨aH _⟩,aQ⟩
 case round=>
  clear H';obtain⟨bx,aw,rfl,rfl,HA,aC,⟨m1,rfl⟩⟩:=hrel;cases gk with
  |zero=>exact absurd HA.o (by simp[kg.l0])
  |succ k1=>
   have H:=HA.o;clear HA;simp only[kg.l0] at H;by_cases c4:aw<(a0.size:Int)
   case neg=>
    rw[ag c4] at H;have dK:=aD c4;clear c4;simp only[Option.some.injEq,Prod.mk.injEq] at H;obtain⟨rfl,rfl⟩:=H;go_wp2;go_ret2
    exact⟨ak,aQ⟩
   rw[ah c4] at H;have dK:=ap c4;clear c4;replace H:=bC H;obtain⟨dC,H⟩:=H;by_cases c7:(bt a0 aw)<48
   case neg=>
    rw[ag c7] at H;have eN:=aD c7;clear c7;by_cases c9:(bt a0 aw)>57
    case neg=>
     rw[ag c9] at H;have gU:=aD c9;clear c9;have H':=af.mk H;clear H;have p6:0≤(aw:Int):=aJ;have q6:aw<(a0.size:Int):=aJ;have I5:=kI a0 aw;replace p6:=av p6;replace q6:=av q6;have p8:0≤(aw:Int):=aJ;have q8:aw<(a0.size:Int):=aJ;have hx8:=kI a0 aw;replace p8:=av p8;replace q8:=av q8;have ry:0≤(aw:Int):=aJ;have oa:aw<(a0.size:Int):=aJ;have amF:=kI a0 aw;replace ry:=av ry;replace oa:=av oa;go_wp2;go_roundg k1
     case measure=>have:=aC.o;omega
     case rel=>exact⟨(wrap64 ((wrap64 (10*bx))+(((bt a0 aw) - 48)%256))),(wrap64 (aw+1)),ak,ak,H',⟨by have:=aC.o;omega⟩,aQ⟩
    rw[ah c9] at H;have gU:=ap c9;clear c9;simp only[Option.some.injEq,Prod.mk.injEq] at H;obtain⟨rfl,rfl⟩:=H;have p6:0≤(aw:Int):=aJ;have q6:aw<(a0.size:Int):=aJ;have I5:=kI a0 aw;replace p6:=av p6;replace q6:=av q6;have p8:0≤(aw:Int):=aJ;have q8:aw<(a0.size:Int):=aJ;have hx8:=kI a0 aw;replace p8:=av p8;replace q8:=av q8;go_wp2;go_ret2
    exact⟨ak,aQ⟩
   rw[ah c7] at H;have eN:=ap c7;clear c7;simp only[Option.some.injEq,Prod.mk.injEq] at H;obtain⟨rfl,rfl⟩:=H;have p6:0≤(aw:Int):=aJ;have q6:aw<(a0.size:Int):=aJ;have I5:=kI a0 aw;replace p6:=av p6;replace q6:=av q6;go_wp2;go_ret2
   exact⟨ak,aQ⟩
mutual
def eh.l0:Nat→ByteArray→Int→List Int→Int→Int→Option (List Int×Bool)
 |0,_,_,_,_,_=>none
 |k+1,x0,x1,x6,x7,x8=>if x8≤(x0.size:Int) then(if x8=(x0.size:Int) then(eh.j1 k x0 x1 x6 x7 x8 true) else(if 0≤x8 then(if x8<(x0.size:Int) then(eh.j1 k x0 x1 x6 x7 x8 ((bt x0 x8)==32)) else none) else none)) else(some (x6,((x6.length:Int)==x1)))
def eh.j1:Nat→ByteArray→Int→List Int→Int→Int→Bool→Option (List Int×Bool)
 |0,_,_,_,_,_,_=>none
 |k+1,x0,x1,x6,x7,x8,x27=>if x27=true then(if 0≤x7 then(if x7≤x8 then(if x8≤(x0.size:Int) then((kg.f k (x0.extract (x7:Int).toNat (x8:Int).toNat)).bind fun Yy=>(if Yy.2=true then(if x6.length<17592186044416 then(eh.l0 k x0 x1 (x6++[Yy.1]) (wrap64 (x8+1)) (wrap64 (x8+1))) else none) else(some (x6,false)))) else none) else none) else none) else(eh.l0 k x0 x1 x6 x7 (wrap64 (x8+1)))
end
def eh.f(k:Nat)(a0:ByteArray)(a1:Int):Option (List Int×Bool):=eh.l0 k a0 a1 (([]:List Int)) 0 0
theorem eh.calls(k:Nat)(a0:ByteArray)(a1:Int)(r1:List Int)(r2:Bool)(w:World)(h:eh.f k a0 a1=some (r1,r2)):
  Calls Tryz.prog 59 #[.string a0,.int .i64 a1] w fun e w'=> ∃bO:Value,e=.returned (.tuple #[bO,.bool r2])∧Kd.R (Kd.int .i64) 3 w' w.heap.size (fun _=>True) bO r1∧Below w.heap.size w w':=by
 have HB:=af.mk (Below.refl w.heap.size w);have H:=h;clear h;unfold eh.f at H;generalize Yz:((([]:List Int)):List Int)=amG at H;have YA:=af.mk Yz.symm;clear Yz;have H':=af.mk H;clear H;go_enter Tryz.func59,Tryz.ntmps59;go_wp2_with (((with_reducible refine db (N:=11) rfl ?_);refine Kd.dV (Kd.int .i64) _ 3 ?hg (N:=11) ?hd (xs:=([]:List Int)) (inner:=[]) (ok:=fun _=>True) (bp:=fun _=>True) ?hr ?hp (fun _ hk=>hk) trivial (Below.refl _ _) (aH _) bn ?_;(case hd=>rfl);(case hg=>rfl);(case hr=>first|(go_simp;done)|(go_simp;rfl));(case hp=>exact(aE.none _ _));intro asP w3 ie hb bq br;clear bq br;(first|rw[←YA.o] at ie|(simp only[Int.reduceToNat] at ie;rw[←YA.o] at ie));have amH:=af.mk (Kd.cv ie (aZ (ai HB)));replace HB:=aM HB hb;clear hb ie))
 go_loopg [6,7,8] k (fun kq v6 v7 v8 w'=> ∃(bH:List Int) (cB:Int) (dj:Int),v7=.int .i64 cB∧v8=.int .i64 dj∧af (eh.l0 kq a0 a1 bH cB dj=some (r1,r2))∧af (kq≤k)∧af (Kd.R (Kd.int .i64) 3 w' w.heap.size (fun _=>True) v6 bH)∧af (Below w.heap.size w w'))
 case atStart=>exact⟨(amG),(0),(0),ak,ak,H',⟨aH _⟩,⟨aX amH⟩,⟨ai HB⟩⟩
 case round=>
  clear H';obtain⟨bH,cB,dj,rfl,rfl,HA,aC,i6,HB⟩:=hrel;cases gk with
  |zero=>exact absurd HA.o (by simp[eh.l0])
  |succ k1=>
   have H:=HA.o;clear HA;simp only[eh.l0] at H;by_cases c5:dj≤(a0.size:Int)
   case neg=>
    rw[ag c5] at H;have dC:=aD c5;clear c5;simp only[Option.some.injEq,Prod.mk.injEq] at H;obtain⟨rfl,rfl⟩:=H;obtain⟨asQ,asR,amI⟩:=Kd.bJ i6.o;subst amI;go_wp2;go_ret2
    exact⟨_,bE,aX i6,ai HB⟩
   rw[ah c5] at H;have dC:=ap c5;clear c5;have lC:=af.mk H;clear H;go_upto_region 6 with(fail)
   go_cut [27] (fun v27 wc=> ∃(kq:Nat) (I6:Bool),v27=.bool I6∧af (eh.j1 kq a0 a1 bH cB dj I6=some (r1,r2))∧af (kq≤k1)∧af (Kd.R (Kd.int .i64) 3 wc w.heap.size (fun _=>True) u6 bH)∧af (Below w.heap.size w wc))
   case first=>
    have H:=lC.o;clear lC;by_cases c7:dj=(a0.size:Int)
    case neg=>
     rw[ag c7] at H;have eN:=cV c7;have pT:=bne_iff_ne.mpr c7;(first|rw[eN]|(simp only[dh,fb];rw[eN])|skip)
     replace H:=bC H;obtain⟨fF,H⟩:=H;replace H:=bC H;obtain⟨gU,H⟩:=H;have H':=af.mk H;clear H;have ry:0≤(dj:Int):=aJ;have oa:dj<(a0.size:Int):=aJ;have amF:=kI a0 dj;replace ry:=av ry;replace oa:=av oa;go_wp2;go_meet;case rel=>exact⟨_,(((bt a0 dj)==32)),ak,H',⟨B_ aC⟩,⟨aX i6⟩,⟨ai HB⟩⟩
    rw[ah c7] at H;have eN:=beq_iff_eq.mpr c7;have pT:=bne_eq_false_iff_eq.mpr c7;clear c7;(first|rw[eN]|(simp only[dh,fb];rw[eN])|skip)
    have H':=af.mk H;clear H;go_wp2;go_meet;case rel=>exact⟨_,(true),ak,H',⟨B_ aC⟩,⟨aX i6⟩,⟨ai HB⟩⟩
   case rest=>
    clear lC;obtain⟨kq,I6,rfl,HA,I7,i6,HB⟩:=hcut;cases kq with
    |zero=>exact absurd HA.o (by simp[eh.j1])
    |succ I8=>
     have H:=HA.o;clear HA;simp only[eh.j1] at H;by_cases c11:I6=true
     case neg=>
      replace c11:=bU c11;subst c11;rw[ag bV] at H;have H':=af.mk H;clear H;go_wp2;go_roundg I8
      case measure=>have:=aC.o;have:=I7.o;omega
      case rel=>exact⟨(bH),(cB),(wrap64 (dj+1)),ak,ak,H',⟨by have:=aC.o;have:=I7.o;omega⟩,⟨aX i6⟩,⟨ai HB⟩⟩
     subst c11;rw[ah rfl] at H;by_cases c12:0≤cB
     case neg=>
      rw[ag c12] at H;cases H
     rw[ah c12] at H;have jC:=av c12;have sv:=ap c12;clear c12;by_cases c13:cB≤dj
     case neg=>
      rw[ag c13] at H;cases H
     rw[ah c13] at H;have j6:=av c13;have tS:=ap c13;clear c13;by_cases c14:dj≤(a0.size:Int)
     case neg=>
      rw[ag c14] at H;cases H
     rw[ah c14] at H;have pV:=av c14;have Ir:=ap c14;clear c14;replace H:=aA.mp H;obtain⟨⟨Fc,amJ⟩,nM,H⟩:=H;have oA:=af.mk nM;clear nM;by_cases c16:amJ=true
     case neg=>
      replace c16:=bU c16;subst c16;rw[ag bV] at H;simp only[Option.some.injEq,Prod.mk.injEq] at H;obtain⟨rfl,rfl⟩:=H;go_wp2_with ((refine cx 33 Tryz.func117 #[.string (a0.extract (cB:Int).toNat (dj:Int).toNat)] (kg.calls I8 (a0.extract (cB:Int).toNat (dj:Int).toNat) Fc false _ oA.o) fun nd=>?_))
      go_ret2
      exact⟨_,bE,aX i6,ai HB⟩
     subst c16;rw[ah rfl] at H;by_cases c17:bH.length<17592186044416
     case neg=>
      rw[ag c17] at H;cases H
     rw[ah c17] at H;have Cn:=af.mk c17;clear c17;generalize YB:((bH++[Fc]):List Int)=amK at H;have amL:=af.mk YB.symm;clear YB;have H':=af.mk H;clear H;go_wp2_with (first|(refine cx 33 Tryz.func117 #[.string (a0.extract (cB:Int).toNat (dj:Int).toNat)] (kg.calls I8 (a0.extract (cB:Int).toNat (dj:Int).toNat) Fc true _ oA.o) fun nd=>?_)|(at_builtin;refine Kd.jW (Kd.int .i64) (w0:=w) w.heap.size rfl (.tmp 39) (.tmp 41) 31 3 (.int .i64 0) 8 rfl Tryz.underlying31 info3 rfl ao ae u6 bH Fc [.int .i64 Fc] (fun _=>True) (fun _=>False) rfl rfl ?aP (fun _ hk=>hk.elim) ?aF ?aO ?aB ?aS ?aL ?_;(case aP=>exact rfl);(case aB=>exact(ai HB));(case aF=>exact(fun _ _=>trivial));(case aO=>exact(aX i6));(case aS=>exact(aZ (ai HB)));(case aL=>have:=Cn.o;omega);intro asS tT ho hb hg hat;rw[←amL.o] at ho;replace HB:=af.mk (hb);have amM:=af.mk (ho);clear i6;clear ho hb hg hat))
     go_roundg I8
     case measure=>have:=aC.o;have:=I7.o;omega
     case rel=>exact⟨(amK),(wrap64 (dj+1)),(wrap64 (dj+1)),ak,ak,H',⟨by have:=aC.o;have:=I7.o;omega⟩,⟨aX amM⟩,⟨ai HB⟩⟩
def ye.f(k:Nat)(l0:List Int)(a1:Int):Option (List Int×Bool):=(cu.f k l0).bind fun P7=>(if P7=true then((eH.f a1).bind fun P8=>(if P8=true then((l8.f k l0 a1).bind fun P9=>(some (P9,true))) else(some ((([]:List Int)),false)))) else(some ((([]:List Int)),false)))
theorem ye.calls(k:Nat)(A0:Option Addr)(c0:Nat)(l0:List Int)(a1:Int)(r1:List Int)(r2:Bool)(w:World)(hr0:Kd.C (Kd.int .i64) w A0 l0.length l0)(hc0:l0.length≤c0)(h:ye.f k l0 a1=some (r1,r2)):
  Calls Tryz.prog 60 #[.slice A0 l0.length c0,.int .i64 a1] w fun e w'=> ∃bO:Value,e=.returned (.tuple #[bO,.bool r2])∧Kd.R (Kd.int .i64) 3 w' w.heap.size (fun _=>True) bO r1∧Below w.heap.size w w':=by
 have aj:=af.mk hr0;have ax:=af.mk hc0;clear hr0 hc0;have HB:=af.mk (Below.refl w.heap.size w);have H:=h;clear h;unfold ye.f at H;replace H:=aA.mp H;obtain⟨P7,bW,H⟩:=H;have A3:=af.mk bW;clear bW;by_cases c4:P7=true
 case neg=>
  replace c4:=bU c4;subst c4;rw[ag bV] at H;generalize YO:((([]:List Int)):List Int)=as2 at H;have YP:=af.mk YO.symm;clear YO;simp only[Option.some.injEq,Prod.mk.injEq] at H;obtain⟨rfl,rfl⟩:=H;go_enter Tryz.func60,Tryz.ntmps60;go_wp2_with (first|(refine aY 7 Tryz.func118 #[.slice A0 l0.length c0] ?_;(with_reducible refine(cu.calls k _ _ l0 false _ ?_ ?_ A3.o).mono ?_);exact bD aj;exact ax.o;rintro e rk ⟨rfl,hb⟩;refine⟨_,rfl,?_⟩;replace HB:=aM HB hb)|((with_reducible refine db (N:=14) rfl ?_);refine Kd.dV (Kd.int .i64) _ 3 ?hg (N:=14) ?hd (xs:=([]:List Int)) (inner:=[]) (ok:=fun _=>True) (bp:=fun _=>True) ?hr ?hp (fun _ hk=>hk) trivial (Below.refl _ _) (aH _) bn ?_;(case hd=>rfl);(case hg=>rfl);(case hr=>first|(go_simp;done)|(go_simp;rfl));(case hp=>exact(aE.none _ _));intro as3 ju lQ hb bq br;clear bq br;(first|rw[←YP.o] at lQ|(simp only[Int.reduceToNat] at lQ;rw[←YP.o] at lQ));have am0:=af.mk (Kd.cv lQ (aZ (ai HB)));replace HB:=aM HB hb;clear hb lQ))
  go_ret2
  exact⟨_,bE,aX am0,ai HB⟩
 subst c4;rw[ah rfl] at H;replace H:=aA.mp H;obtain⟨P8,cY,H⟩:=H;have A5:=af.mk cY;clear cY;by_cases c6:P8=true
 case neg=>
  replace c6:=bU c6;subst c6;rw[ag bV] at H;generalize YQ:((([]:List Int)):List Int)=as4 at H;have YR:=af.mk YQ.symm;clear YQ;simp only[Option.some.injEq,Prod.mk.injEq] at H;obtain⟨rfl,rfl⟩:=H;go_enter Tryz.func60,Tryz.ntmps60;go_wp2_with (first|(refine aY 7 Tryz.func118 #[.slice A0 l0.length c0] ?_;(with_reducible refine(cu.calls k _ _ l0 true _ ?_ ?_ A3.o).mono ?_);exact bD aj;exact ax.o;rintro e mH ⟨rfl,hb⟩;refine⟨_,rfl,?_⟩;replace HB:=aM HB hb)|(go_at_call 62;(with_reducible refine(eH.calls a1 false _ A5.o).mono ?_);rintro e w' ⟨rfl,⟨nd,rfl⟩⟩)|((with_reducible refine db (N:=14) rfl ?_);refine Kd.dV (Kd.int .i64) _ 3 ?hg (N:=14) ?hd (xs:=([]:List Int)) (inner:=[]) (ok:=fun _=>True) (bp:=fun _=>True) ?hr ?hp (fun _ hk=>hk) trivial (Below.refl _ _) (aH _) bn ?_;(case hd=>rfl);(case hg=>rfl);(case hr=>first|(go_simp;done)|(go_simp;rfl));(case hp=>exact(aE.none _ _));intro as5 mG o_ hb bq br;clear bq br;(first|rw[←YR.o] at o_|(simp only[Int.reduceToNat] at o_;rw[←YR.o] at o_));have am1:=af.mk (Kd.cv o_ (aZ (ai HB)));replace HB:=aM HB hb;clear hb o_))
  go_ret2
  exact⟨_,bE,aX am1,ai HB⟩
 subst c6;rw[ah rfl] at H;replace H:=aA.mp H;obtain⟨P9,dy,H⟩:=H;have A7:=af.mk dy;clear dy;simp only[Option.some.injEq,Prod.mk.injEq] at H;obtain⟨rfl,rfl⟩:=H;go_enter Tryz.func60,Tryz.ntmps60;go_wp2_with (first|(refine aY 7 Tryz.func118 #[.slice A0 l0.length c0] ?_;(with_reducible refine(cu.calls k _ _ l0 true _ ?_ ?_ A3.o).mono ?_);exact bD aj;exact ax.o;rintro e w8 ⟨rfl,hb⟩;refine⟨_,rfl,?_⟩;replace HB:=aM HB hb)|(go_at_call 62;(with_reducible refine(eH.calls a1 true _ A5.o).mono ?_);rintro e w' ⟨rfl,⟨nd,rfl⟩⟩)|(refine aY 17 Tryz.func119 #[.slice A0 l0.length c0,.int .i64 a1] ?_;(with_reducible refine(l8.calls k _ _ l0 a1 P9 _ ?bz ?bB A7.o).mono ?_);(case bz=>repeat(first|exact(Kd.aN aj.o (ai HB))|(with_reducible refine Kd.g7 ?_ _)|(with_reducible refine Kd.e8 ?_ _)|(with_reducible refine Kd.iz ?_)));(case bB=>exact ax.o);rintro e w9 ⟨as6,rfl,ho0,hb⟩;refine⟨_,rfl,?_⟩;have am2:=af.mk (Kd.cv ho0 (aZ (ai HB)));replace HB:=aM HB hb))
 go_ret2
 exact⟨_,bE,aX am2,ai HB⟩
def yh.f(k:Nat)(l0:List Int)(a1:Int)(a2:Int):Option (Int×Bool):=(cu.f k l0).bind fun Qg=>(if Qg=true then((eH.f a1).bind fun Qh=>(if Qh=true then((eH.f a2).bind fun Qi=>(if Qi=true then(if a1=a2 then(some (0,false)) else((iX.f k l0 a1 a2).bind fun Qj=>(some (Qj,true)))) else(some (0,false)))) else(some (0,false)))) else(some (0,false)))
theorem yh.calls(k:Nat)(A0:Option Addr)(c0:Nat)(l0:List Int)(a1:Int)(a2:Int)(r1:Int)(r2:Bool)(w:World)(hr0:Kd.C (Kd.int .i64) w A0 l0.length l0)(hc0:l0.length≤c0)(h:yh.f k l0 a1 a2=some (r1,r2)):
  Calls Tryz.prog 115 #[.slice A0 l0.length c0,.int .i64 a1,.int .i64 a2] w fun e w'=>e=.returned (.tuple #[.int .i64 r1,.bool r2])∧Below w.heap.size w w':=by
 have aj:=af.mk hr0;have ax:=af.mk hc0;clear hr0 hc0;have HB:=af.mk (Below.refl w.heap.size w);have H:=h;clear h;unfold yh.f at H;replace H:=aA.mp H;obtain⟨Qg,cX,H⟩:=H;have A4:=af.mk cX;clear cX;by_cases c5:Qg=true
 case neg=>
  replace c5:=bU c5;subst c5;rw[ag bV] at H;simp only[Option.some.injEq,Prod.mk.injEq] at H;obtain⟨rfl,rfl⟩:=H;go_enter Tryz.func115,Tryz.ntmps115;go_wp2_with ((refine aY 9 Tryz.func118 #[.slice A0 l0.length c0] ?_;(with_reducible refine(cu.calls k _ _ l0 false _ ?_ ?_ A4.o).mono ?_);exact bD aj;exact ax.o;rintro e t_ ⟨rfl,hb⟩;refine⟨_,rfl,?_⟩;replace HB:=aM HB hb))
  go_ret2
  exact⟨bE,ai HB⟩
 subst c5;rw[ah rfl] at H;replace H:=aA.mp H;obtain⟨Qh,dQ,H⟩:=H;have A6:=af.mk dQ;clear dQ;by_cases c7:Qh=true
 case neg=>
  replace c7:=bU c7;subst c7;rw[ag bV] at H;simp only[Option.some.injEq,Prod.mk.injEq] at H;obtain⟨rfl,rfl⟩:=H;go_enter Tryz.func115,Tryz.ntmps115;go_wp2_with (first|(refine aY 9 Tryz.func118 #[.slice A0 l0.length c0] ?_;(with_reducible refine(cu.calls k _ _ l0 true _ ?_ ?_ A4.o).mono ?_);exact bD aj;exact ax.o;rintro e hY ⟨rfl,hb⟩;refine⟨_,rfl,?_⟩;replace HB:=aM HB hb)|(go_at_call 62;(with_reducible refine(eH.calls a1 false _ A6.o).mono ?_);rintro e w' ⟨rfl,⟨nd,rfl⟩⟩))
  go_ret2
  exact⟨bE,ai HB⟩
 subst c7;rw[ah rfl] at H;replace H:=aA.mp H;obtain⟨Qi,eG,H⟩:=H;have A8:=af.mk eG;clear eG;by_cases c9:Qi=true
 case neg=>
  replace c9:=bU c9;subst c9;rw[ag bV] at H;simp only[Option.some.injEq,Prod.mk.injEq] at H;obtain⟨rfl,rfl⟩:=H;go_enter Tryz.func115,Tryz.ntmps115;go_wp2_with (first|(refine aY 9 Tryz.func118 #[.slice A0 l0.length c0] ?_;(with_reducible refine(cu.calls k _ _ l0 true _ ?_ ?_ A4.o).mono ?_);exact bD aj;exact ax.o;rintro e ju ⟨rfl,hb⟩;refine⟨_,rfl,?_⟩;replace HB:=aM HB hb)|(go_at_call 62;(with_reducible refine(eH.calls a1 true _ A6.o).mono ?_);rintro e w' ⟨rfl,⟨nd,rfl⟩⟩)|(go_at_call 62;(with_reducible refine(eH.calls a2 false _ A8.o).mono ?_);rintro e w' ⟨rfl,⟨nd,rfl⟩⟩))
  go_ret2
  exact⟨bE,ai HB⟩
 subst c9;rw[ah rfl] at H;by_cases c10:a1=a2
 case neg=>
  rw[ag c10] at H;have gH:=cV c10;have pS:=bne_iff_ne.mpr c10;replace H:=aA.mp H;obtain⟨Qj,fI,H⟩:=H;have iW:=af.mk fI;clear fI;simp only[Option.some.injEq,Prod.mk.injEq] at H;obtain⟨rfl,rfl⟩:=H;go_enter Tryz.func115,Tryz.ntmps115;go_wp2_with (first|(refine aY 9 Tryz.func118 #[.slice A0 l0.length c0] ?_;(with_reducible refine(cu.calls k _ _ l0 true _ ?_ ?_ A4.o).mono ?_);exact bD aj;exact ax.o;rintro e rk ⟨rfl,hb⟩;refine⟨_,rfl,?_⟩;replace HB:=aM HB hb)|(go_at_call 62;(with_reducible refine(eH.calls a1 true _ A6.o).mono ?_);rintro e w' ⟨rfl,⟨nd,rfl⟩⟩)|(go_at_call 62;(with_reducible refine(eH.calls a2 true _ A8.o).mono ?_);rintro e w' ⟨rfl,⟨nd,rfl⟩⟩)|(refine aY 29 Tryz.func180 #[.slice A0 l0.length c0,.int .i64 a1,.int .i64 a2] ?_;(with_reducible refine(iX.calls k _ _ l0 a1 a2 Qj _ ?bz ?bB iW.o).mono ?_);(case bz=>repeat(first|exact(Kd.aN aj.o (ai HB))|(with_reducible refine Kd.g7 ?_ _)|(with_reducible refine Kd.e8 ?_ _)|(with_reducible refine Kd.iz ?_)));(case bB=>exact ax.o);rintro e w' ⟨rfl,⟨nd,rfl⟩⟩;refine⟨_,rfl,?_⟩))
  go_ret2
  exact⟨bE,ai HB⟩
 rw[ah c10] at H;have gH:=beq_iff_eq.mpr c10;have pS:=bne_eq_false_iff_eq.mpr c10;clear c10;simp only[Option.some.injEq,Prod.mk.injEq] at H;obtain⟨rfl,rfl⟩:=H;go_enter Tryz.func115,Tryz.ntmps115;go_wp2_with (first|(refine aY 9 Tryz.func118 #[.slice A0 l0.length c0] ?_;(with_reducible refine(cu.calls k _ _ l0 true _ ?_ ?_ A4.o).mono ?_);exact bD aj;exact ax.o;rintro e mG ⟨rfl,hb⟩;refine⟨_,rfl,?_⟩;replace HB:=aM HB hb)|(go_at_call 62;(with_reducible refine(eH.calls a1 true _ A6.o).mono ?_);rintro e w' ⟨rfl,⟨nd,rfl⟩⟩)|(go_at_call 62;(with_reducible refine(eH.calls a2 true _ A8.o).mono ?_);rintro e w' ⟨rfl,⟨nd,rfl⟩⟩))
 go_ret2
 exact⟨bE,ai HB⟩
def yi.f(k:Nat)(l0:List Int)(a1:Int)(a2:Int):Option (Int×Bool):=(cu.f k l0).bind fun Qk=>(if Qk=true then((eH.f a1).bind fun Ql=>(if Ql=true then((eH.f a2).bind fun Qm=>(if Qm=true then(if a1=a2 then(some (0,false)) else((jI.f k l0 a1 a2).bind fun Qn=>(some (Qn,true)))) else(some (0,false)))) else(some (0,false)))) else(some (0,false)))
theorem yi.calls(k:Nat)(A0:Option Addr)(c0:Nat)(l0:List Int)(a1:Int)(a2:Int)(r1:Int)(r2:Bool)(w:World)(hr0:Kd.C (Kd.int .i64) w A0 l0.length l0)(hc0:l0.length≤c0)(h:yi.f k l0 a1 a2=some (r1,r2)):
  Calls Tryz.prog 116 #[.slice A0 l0.length c0,.int .i64 a1,.int .i64 a2] w fun e w'=>e=.returned (.tuple #[.int .i64 r1,.bool r2])∧Below w.heap.size w w':=by
 have aj:=af.mk hr0;have ax:=af.mk hc0;clear hr0 hc0;have HB:=af.mk (Below.refl w.heap.size w);have H:=h;clear h;unfold yi.f at H;replace H:=aA.mp H;obtain⟨Qk,cX,H⟩:=H;have A4:=af.mk cX;clear cX;by_cases c5:Qk=true
 case neg=>
  replace c5:=bU c5;subst c5;rw[ag bV] at H;simp only[Option.some.injEq,Prod.mk.injEq] at H;obtain⟨rfl,rfl⟩:=H;go_enter Tryz.func116,Tryz.ntmps116;go_wp2_with ((refine aY 9 Tryz.func118 #[.slice A0 l0.length c0] ?_;(with_reducible refine(cu.calls k _ _ l0 false _ ?_ ?_ A4.o).mono ?_);exact bD aj;exact ax.o;rintro e t_ ⟨rfl,hb⟩;refine⟨_,rfl,?_⟩;replace HB:=aM HB hb))
  go_ret2
  exact⟨bE,ai HB⟩
 subst c5;rw[ah rfl] at H;replace H:=aA.mp H;obtain⟨Ql,dQ,H⟩:=H;have A6:=af.mk dQ;clear dQ;by_cases c7:Ql=true
 case neg=>
  replace c7:=bU c7;subst c7;rw[ag bV] at H;simp only[Option.some.injEq,Prod.mk.injEq] at H;obtain⟨rfl,rfl⟩:=H;go_enter Tryz.func116,Tryz.ntmps116;go_wp2_with (first|(refine aY 9 Tryz.func118 #[.slice A0 l0.length c0] ?_;(with_reducible refine(cu.calls k _ _ l0 true _ ?_ ?_ A4.o).mono ?_);exact bD aj;exact ax.o;rintro e hY ⟨rfl,hb⟩;refine⟨_,rfl,?_⟩;replace HB:=aM HB hb)|(go_at_call 62;(with_reducible refine(eH.calls a1 false _ A6.o).mono ?_);rintro e w' ⟨rfl,⟨nd,rfl⟩⟩))
  go_ret2
  exact⟨bE,ai HB⟩
 subst c7;rw[ah rfl] at H;replace H:=aA.mp H;obtain⟨Qm,eG,H⟩:=H;have A8:=af.mk eG;clear eG;by_cases c9:Qm=true
 case neg=>
  replace c9:=bU c9;subst c9;rw[ag bV] at H;simp only[Option.some.injEq,Prod.mk.injEq] at H;obtain⟨rfl,rfl⟩:=H;go_enter Tryz.func116,Tryz.ntmps116;go_wp2_with (first|(refine aY 9 Tryz.func118 #[.slice A0 l0.length c0] ?_;(with_reducible refine(cu.calls k _ _ l0 true _ ?_ ?_ A4.o).mono ?_);exact bD aj;exact ax.o;rintro e ju ⟨rfl,hb⟩;refine⟨_,rfl,?_⟩;replace HB:=aM HB hb)|(go_at_call 62;(with_reducible refine(eH.calls a1 true _ A6.o).mono ?_);rintro e w' ⟨rfl,⟨nd,rfl⟩⟩)|(go_at_call 62;(with_reducible refine(eH.calls a2 false _ A8.o).mono ?_);rintro e w' ⟨rfl,⟨nd,rfl⟩⟩))
  go_ret2
  exact⟨bE,ai HB⟩
 subst c9;rw[ah rfl] at H;by_cases c10:a1=a2
 case neg=>
  rw[ag c10] at H;have gH:=cV c10;have pS:=bne_iff_ne.mpr c10;replace H:=aA.mp H;obtain⟨Qn,fI,H⟩:=H;have iW:=af.mk fI;clear fI;simp only[Option.some.injEq,Prod.mk.injEq] at H;obtain⟨rfl,rfl⟩:=H;go_enter Tryz.func116,Tryz.ntmps116;go_wp2_with (first|(refine aY 9 Tryz.func118 #[.slice A0 l0.length c0] ?_;(with_reducible refine(cu.calls k _ _ l0 true _ ?_ ?_ A4.o).mono ?_);exact bD aj;exact ax.o;rintro e rk ⟨rfl,hb⟩;refine⟨_,rfl,?_⟩;replace HB:=aM HB hb)|(go_at_call 62;(with_reducible refine(eH.calls a1 true _ A6.o).mono ?_);rintro e w' ⟨rfl,⟨nd,rfl⟩⟩)|(go_at_call 62;(with_reducible refine(eH.calls a2 true _ A8.o).mono ?_);rintro e w' ⟨rfl,⟨nd,rfl⟩⟩)|(refine aY 29 Tryz.func187 #[.slice A0 l0.length c0,.int .i64 a1,.int .i64 a2] ?_;(with_reducible refine(jI.calls k _ _ l0 a1 a2 Qn _ ?bz ?bB iW.o).mono ?_);(case bz=>repeat(first|exact(Kd.aN aj.o (ai HB))|(with_reducible refine Kd.g7 ?_ _)|(with_reducible refine Kd.e8 ?_ _)|(with_reducible refine Kd.iz ?_)));(case bB=>exact ax.o);rintro e w' ⟨rfl,⟨nd,rfl⟩⟩;refine⟨_,rfl,?_⟩))
  go_ret2
  exact⟨bE,ai HB⟩
 rw[ah c10] at H;have gH:=beq_iff_eq.mpr c10;have pS:=bne_eq_false_iff_eq.mpr c10;clear c10;simp only[Option.some.injEq,Prod.mk.injEq] at H;obtain⟨rfl,rfl⟩:=H;go_enter Tryz.func116,Tryz.ntmps116;go_wp2_with (first|(refine aY 9 Tryz.func118 #[.slice A0 l0.length c0] ?_;(with_reducible refine(cu.calls k _ _ l0 true _ ?_ ?_ A4.o).mono ?_);exact bD aj;exact ax.o;rintro e mG ⟨rfl,hb⟩;refine⟨_,rfl,?_⟩;replace HB:=aM HB hb)|(go_at_call 62;(with_reducible refine(eH.calls a1 true _ A6.o).mono ?_);rintro e w' ⟨rfl,⟨nd,rfl⟩⟩)|(go_at_call 62;(with_reducible refine(eH.calls a2 true _ A8.o).mono ?_);rintro e w' ⟨rfl,⟨nd,rfl⟩⟩))
 go_ret2
 exact⟨bE,ai HB⟩
mutual
def iq.j0:Nat→List Int→List Int→Bool→Option (List Int×Bool)
 |0,_,_,_=>none
 |k+1,x0,x1,ow=>if ow=true then(some ((([]:List Int)),false)) else(iq.l0 k x0 x1 0)
def iq.l0:Nat→List Int→List Int→Int→Option (List Int×Bool)
 |0,_,_,_=>none
 |k+1,x0,x1,x6=>if x6<(x1.length:Int) then(if 0≤x6 then((eH.f (rd x1 x6)).bind fun QA=>(if QA=true then(iq.l0 k x0 x1 (wrap64 (x6+1))) else(some ((([]:List Int)),false)))) else none) else((cD.f k x0 x1).bind fun QB=>(some (QB,true)))
end
def iq.f(k:Nat)(l0:List Int)(l1:List Int):Option (List Int×Bool):=(cu.f k l0).bind fun QC=>(if QC=true then(iq.j0 k l0 l1 (decide ((l1.length:Int)>10))) else(iq.j0 k l0 l1 true))
theorem iq.calls(k:Nat)(A0:Option Addr)(c0:Nat)(l0:List Int)(A1:Option Addr)(c1:Nat)(l1:List Int)(r1:List Int)(r2:Bool)(w:World)(hr0:Kd.C (Kd.int .i64) w A0 l0.length l0)(hc0:l0.length≤c0)(hr1:Kd.C (Kd.int .i64) w A1 l1.length l1)(hc1:l1.length≤c1)(h:iq.f k l0 l1=some (r1,r2)):
  Calls Tryz.prog 111 #[.slice A0 l0.length c0,.slice A1 l1.length c1] w fun e w'=> ∃bO:Value,e=.returned (.tuple #[bO,.bool r2])∧Kd.R (Kd.int .i64) 3 w' w.heap.size (fun _=>True) bO r1∧Below w.heap.size w w':=by
 have aj:=af.mk hr0;have ax:=af.mk hc0;clear hr0 hc0;have bN:=af.mk hr1;have cA:=af.mk hc1;clear hr1 hc1;have HB:=af.mk (Below.refl w.heap.size w);have H:=h;clear h;unfold iq.f at H;have ou:=af.mk H;clear H;go_enter Tryz.func111,Tryz.ntmps111;go_upto_region 1 with(fail)
 go_cut [14] (fun Dz wc=> ∃(kq:Nat) (Jp:Bool),Dz=.bool Jp∧af (iq.j0 kq l0 l1 Jp=some (r1,r2))∧af (kq≤k)∧af (Below w.heap.size w wc))
 case first=>
  have H:=ou.o;clear ou;replace H:=aA.mp H;obtain⟨QC,cX,H⟩:=H;have A4:=af.mk cX;clear cX;by_cases c5:QC=true
  case neg=>
   replace c5:=bU c5;subst c5;rw[ag bV] at H;have H':=af.mk H;clear H;go_wp2_with ((refine aY 8 Tryz.func118 #[.slice A0 l0.length c0] ?_;(with_reducible refine(cu.calls k _ _ l0 false _ ?_ ?_ A4.o).mono ?_);exact cG aj HB;exact ax.o;rintro e w7 ⟨rfl,hb⟩;refine⟨_,rfl,?_⟩;replace HB:=aM HB hb))
   go_meet;case rel=>exact⟨_,(true),ak,H',⟨np⟩,⟨ai HB⟩⟩
  subst c5;rw[ah rfl] at H;have H':=af.mk H;clear H;go_wp2_with ((refine aY 8 Tryz.func118 #[.slice A0 l0.length c0] ?_;(with_reducible refine(cu.calls k _ _ l0 true _ ?_ ?_ A4.o).mono ?_);exact cG aj HB;exact ax.o;rintro e w6 ⟨rfl,hb⟩;refine⟨_,rfl,?_⟩;replace HB:=aM HB hb))
  go_meet;case rel=>exact⟨_,(decide ((l1.length:Int)>10)),ak,H',⟨np⟩,⟨ai HB⟩⟩
 case rest=>
  clear ou;obtain⟨kq,Jp,rfl,HA,rP,HB⟩:=hcut;cases kq with
  |zero=>exact absurd HA.o (by simp[iq.j0])
  |succ AO=>
   have H:=HA.o;clear HA;simp only[iq.j0] at H;by_cases c8:Jp=true
   case neg=>
    replace c8:=bU c8;subst c8;rw[ag bV] at H;have H':=af.mk H;clear H;go_wp2;go_loopg [6] AO (fun kq v6 w'=> ∃(cC:Int),v6=.int .i64 cC∧af (iq.l0 kq l0 l1 cC=some (r1,r2))∧af (kq≤AO)∧af (Below w.heap.size w w'))
    case atStart=>exact⟨(0),ak,H',⟨aH _⟩,⟨ai HB⟩⟩
    case round=>
     clear H';obtain⟨cC,rfl,HA,bw,HB⟩:=hrel;cases gk with
     |zero=>exact absurd HA.o (by simp[iq.l0])
     |succ k2=>
      have H:=HA.o;clear HA;simp only[iq.l0] at H;by_cases c11:cC<(l1.length:Int)
      case neg=>
       rw[ag c11] at H;have j5:=aD c11;clear c11;replace H:=aA.mp H;obtain⟨QB,qv,H⟩:=H;have rR:=af.mk qv;clear qv;simp only[Option.some.injEq,Prod.mk.injEq] at H;obtain⟨rfl,rfl⟩:=H;go_wp2_with ((refine aY 31 Tryz.func179 #[.slice A0 l0.length c0,.slice A1 l1.length c1] ?_;(with_reducible refine(cD.calls k2 _ _ l0 _ _ l1 QB _ ?bz ?bB ?cg ?cm rR.o).mono ?_);(case bz=>exact cG aj HB);(case bB=>exact ax.o);(case cg=>exact cG bN HB);(case cm=>exact cA.o);rintro e tT ⟨atd,rfl,ho0,hb⟩;refine⟨_,rfl,?_⟩;have anJ:=af.mk (Kd.cv ho0 (aZ (ai HB)));replace HB:=aM HB hb))
       go_ret2
       exact⟨_,bE,aX anJ,ai HB⟩
      rw[ah c11] at H;have j5:=ap c11;clear c11;replace H:=bC H;obtain⟨jC,H⟩:=H;replace H:=aA.mp H;obtain⟨QA,nE,H⟩:=H;have p9:=af.mk nE;clear nE;by_cases c14:QA=true
      case neg=>
       replace c14:=bU c14;subst c14;rw[ag bV] at H;generalize Y6:((([]:List Int)):List Int)=ate at H;have Y7:=af.mk Y6.symm;clear Y6;simp only[Option.some.injEq,Prod.mk.injEq] at H;obtain⟨rfl,rfl⟩:=H;have yv:0≤(cC:Int):=aJ;have yw:cC<(l1.length:Int):=aJ;obtain⟨anK,QD,Fm⟩:=Kd.ck bN.o cC yv yw;cases QD;replace Fm:=dw HB Fm;replace yv:=av yv;replace yw:=av yw;go_wp2_with (first|(refine cx 26 Tryz.func62 #[.int .i64 (rd l1 cC)] (eH.calls (rd l1 cC) false _ p9.o) fun nd=>?_)|((with_reducible refine db (N:=28) rfl ?_);refine Kd.dV (Kd.int .i64) _ 3 ?hg (N:=28) ?hd (xs:=([]:List Int)) (inner:=[]) (ok:=fun _=>True) (bp:=fun _=>True) ?hr ?hp (fun _ hk=>hk) trivial (Below.refl _ _) (aH _) bn ?_;(case hd=>rfl);(case hg=>rfl);(case hr=>first|(go_simp;done)|(go_simp;rfl));(case hp=>exact(aE.none _ _));intro atf hY lO hb bq br;clear bq br;(first|rw[←Y7.o] at lO|(simp only[Int.reduceToNat] at lO;rw[←Y7.o] at lO));have anL:=af.mk (Kd.cv lO (aZ (ai HB)));replace HB:=aM HB hb;clear hb lO))
       go_ret2
       exact⟨_,bE,aX anL,ai HB⟩
      subst c14;rw[ah rfl] at H;have H':=af.mk H;clear H;have yv:0≤(cC:Int):=aJ;have yw:cC<(l1.length:Int):=aJ;obtain⟨anK,QD,Fm⟩:=Kd.ck bN.o cC yv yw;cases QD;replace Fm:=dw HB Fm;replace yv:=av yv;replace yw:=av yw;go_wp2_with ((refine cx 26 Tryz.func62 #[.int .i64 (rd l1 cC)] (eH.calls (rd l1 cC) true _ p9.o) fun nd=>?_))
      go_roundg k2
      case measure=>have:=rP.o;have:=bw.o;omega
      case rel=>exact⟨(wrap64 (cC+1)),ak,H',⟨by have:=rP.o;have:=bw.o;omega⟩,⟨ai HB⟩⟩
   subst c8;rw[ah rfl] at H;generalize Y8:((([]:List Int)):List Int)=atg at H;have Y9:=af.mk Y8.symm;clear Y8;simp only[Option.some.injEq,Prod.mk.injEq] at H;obtain⟨rfl,rfl⟩:=H;go_wp2_with (((with_reducible refine db (N:=15) rfl ?_);refine Kd.dV (Kd.int .i64) _ 3 ?hg (N:=15) ?hd (xs:=([]:List Int)) (inner:=[]) (ok:=fun _=>True) (bp:=fun _=>True) ?hr ?hp (fun _ hk=>hk) trivial (Below.refl _ _) (aH _) bn ?_;(case hd=>rfl);(case hg=>rfl);(case hr=>first|(go_simp;done)|(go_simp;rfl));(case hp=>exact(aE.none _ _));intro ath w9 qA hb bq br;clear bq br;(first|rw[←Y9.o] at qA|(simp only[Int.reduceToNat] at qA;rw[←Y9.o] at qA));have anM:=af.mk (Kd.cv qA (aZ (ai HB)));replace HB:=aM HB hb;clear hb qA))
   go_ret2
   exact⟨_,bE,aX anM,ai HB⟩
end P
end Go.Proofs.YtiobedekgnfjcaaGreatDoor
