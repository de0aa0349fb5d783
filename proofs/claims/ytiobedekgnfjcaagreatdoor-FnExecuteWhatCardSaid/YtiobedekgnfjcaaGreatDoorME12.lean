/- What both Executes come to: contracts and plain laws, for the laws on Execute. No conditions. (Part 13 of 28.) -/
import Derived.Test.YtiobedekgnfjcaaGreatDoorME10
import Derived.Test.YtiobedekgnfjcaaGreatDoorME8
import Derived.Test.YtiobedekgnfjcaaGreatDoorME9
import Derived.Deep.RegionHeld
set_option linter.unusedVariables false
set_option linter.unusedSimpArgs false
set_option maxHeartbeats 16000000
set_option maxRecDepth 100000
namespace Go.Proofs.YtiobedekgnfjcaaGreatDoor
namespace P
end P
open Go.Proofs.YtiobedekgnfjcaaGreatDoor.P Go.Proofs.YtiobedekgnfjcaaGreatDoorW.aq Go.Proofs.YtiobedekgnfjcaaGreatDoorW.ay Go.RowKit
namespace X
theorem tY{t:List Int}(hn:b9 t 81=true){p l:Int}(hp:bu p)(hl:bu l):iM.f t p l=some (a8 t p l):=by
 obtain⟨p0,p1⟩:=hp;obtain⟨l0,l1⟩:=hl;have hlen:=(hG.1 hn).1;unfold iM.f a8;by_cases sy:l=90
 ·rw[ah sy,ah sy]
 rw[ag sy,ag sy];by_cases sA:l≥81
 ·rw[ah sA,ah sA];by_cases sB:p=90
  ·rw[ah sB,ap sB];rfl
  ·rw[ag sB,aD sB,Bool.false_or];by_cases n8:p<81
   ·rw[ah n8,ap n8,Bool.true_and];simp(disch:=omega) only[bI,pO];rfl
   ·rw[ag n8,aD n8,Bool.false_and]
 ·rw[ag sA,ag sA];by_cases hpf:p≥81
  ·rw[ah hpf,ah hpf];simp(disch:=omega) only[bI,pO];rfl
  ·rw[ag hpf,ag hpf];have hr:=gG hn (i:=9*(p / 9)+l / 9) ae ae;have ha:=Ge (rd t (9*(p / 9)+l / 9)) (l%9) hr ⟨ae,ae⟩;simp(disch:=omega) only[bI,pO,vX];rw[ah ae,ah ae,ha];rfl
theorem KL(A0:Option Addr)(c0:Nat)(t:List Int)(p l:Int)(w:World)(hr:Kd.C (Kd.int .i64) w A0 t.length t)(hc:t.length≤c0)(hn:b9 t 81=true)(hp:bu p)(hl:bu l):
  Calls Tryz.prog 139 #[.slice A0 t.length c0,.int .i64 p,.int .i64 l] w fun e w'=>e=.returned (.bool (a8 t p l))∧aG w w':=
 iM.calls A0 c0 t p l _ w hr hc (tY hn hp hl)
theorem adb(b bl:Nat)(A0:Option Addr)(c0:Nat)(t:List Int)(w:World)(hb:dZ w b A0 c0 t)(hc0:t.length≤c0)(hn:b9 t 81=true)(l:Int)(hl:bu l)(hlc:w.cell? ⟨bl,0,none⟩=some (.int .i64 l))(p:Int)(hp:bu p):
  Calls Tryz.prog 166 #[.int .i64 p,.pointer (some ⟨b,0,none⟩),.pointer (some ⟨bl,0,none⟩)] w fun e w'=>e=.returned (.bool (a8 t p l))∧Below w.heap.size w w':=by
 have HC:=af.mk (KL A0 c0 t p l w hb.read hc0 hn hp hl);have hcell:=hb.cell;clear hb hn hp hl;obtain⟨v,hv⟩:∃v,a8 t p l=v:=⟨_,rfl⟩;rw[hv] at HC ⊢;clear hv;go_enter Tryz.func166,Tryz.ntmps166;go_wp2_with (go_at_call 139;refine HC.o.mono ?_;rintro e w' ⟨rfl,⟨nd,rfl⟩⟩)
 go_ret;exact⟨rfl,aG.below ⟨⟨_,rfl⟩⟩⟩
theorem ade:Eg 166:=enters_of Tryz.func166 am rfl
theorem adf(A0:Option Addr)(c0:Nat)(t:List Int)(l:Int)(w:World)(hr:Kd.C (Kd.int .i64) w A0 t.length t)(hc0:t.length≤c0)(hn:b9 t 81=true)(hl:bu l):
  Calls Tryz.prog 93 #[.slice A0 t.length c0,.int .i64 l] w fun e w'=> ∃v:Value,e=.returned v∧Kd.R (Kd.int .i64) 3 w' w.heap.size (fun _=>True) v (zD t l)∧Below w.heap.size w w':=by
 have pN:∀(fn:Fn) (first cap:Array Value) (w:World),(Instr.makeFunc fn first cap).run Tryz.prog w=.ok (.func fn first cap) w:=fun _ _ _ _=>rfl;have hb0:Below w.heap.size w ((w.alloc (.cells #[.slice A0 t.length c0] 91)).alloc (.cells #[.int .i64 l] 3)):=((Below.refl _ _).alloc (aH _) _).alloc bn _
 have ha1:((w.alloc (.cells #[.slice A0 t.length c0] 91)).alloc (.cells #[.int .i64 l] 3)).cell? ⟨w.heap.size,0,none⟩=some (.slice A0 t.length c0):=by
  rw[World.cell?_alloc_past _ _ _ bn];exact World.cell?_alloc_at _ _ _ _ rfl
 have hb1:((w.alloc (.cells #[.slice A0 t.length c0] 91)).alloc (.cells #[.int .i64 l] 3)).cell? ⟨w.heap.size+1,0,none⟩=some (.int .i64 l):=World.cell?_alloc_at _ _ _ _ bn;have hbx:dZ ((w.alloc (.cells #[.slice A0 t.length c0] 91)).alloc (.cells #[.int .i64 l] 3)) w.heap.size A0 c0 t:=⟨ha1,Kd.aN hr hb0⟩
 have HC:=af.mk (Gr 166 #[.pointer (some ⟨w.heap.size,0,none⟩),.pointer (some ⟨w.heap.size+1,0,none⟩)] ade (fun p=>a8 t p l) _
  (fun W p hW hd=>adb _ _ A0 c0 t W (hbx.below hW) hc0 hn l hl ((hW.cell (World.block_lt_of_cell? _ _ hb1)).trans hb1) p hd))
 have HB:=af.mk hb0;clear hr hn hl hb0 ha1 hb1 hbx;go_enter Tryz.func93,Tryz.ntmps93;go_wp2_with (go_at_call 165;refine HC.o.mono ?_;rintro e w' ⟨v,rfl,ho,hb⟩;have HO:=af.mk ho;have bK:=af.mk hb;clear ho hb)
 go_ret;exact⟨_,rfl,Kd.cv HO.o HB.o.size,aU HB.o bK.o⟩
end X
namespace P
def zG.f(l0:List Int)(a1:Int):Option (List Int):=if X.b9 l0 81=true∧(0≤a1∧a1<91) then some (X.zD l0 a1) else none
theorem zG.calls(A0:Option Addr)(c0:Nat)(l0:List Int)(a1:Int)(r:List Int)(w:World)(hr0:Kd.C (Kd.int .i64) w A0 l0.length l0)(hc0:l0.length≤c0)(h:zG.f l0 a1=some r):
  Calls Tryz.prog 93 #[.slice A0 l0.length c0,.int .i64 a1] w fun e w'=> ∃bO:Value,e=.returned (bO)∧Kd.R (Kd.int .i64) 3 w' w.heap.size (fun _=>True) bO r∧Below w.heap.size w w':=by
 unfold zG.f at h;by_cases hn:X.b9 l0 81=true∧(0≤a1∧a1<91)
 ·rw[ah hn] at h;obtain rfl:=au h;exact X.adf A0 c0 l0 a1 w hr0 hc0 hn.1 hn.2
 ·rw[ag hn] at h;exact absurd h bn
end P
namespace X
theorem zI(p:Int):gW.f p=some (dE p):=by
 unfold gW.f dE;by_cases h:p≥0
 ·rw[ah h,ap h];simp
 ·rw[ag h,aD h];simp
theorem Gt(p:Int)(w:World):Calls Tryz.prog 49 #[.int .i64 p] w fun e w'=>e=.returned (.bool (dE p))∧aG w w':=gW.calls p _ w (zI p)
theorem adu(A0:Option Addr)(c0:Nat)(l:List Int)(hl:l.length≤1048576)(x:Int)(w:World)(hr:Kd.C (Kd.int .i64) w A0 l.length l)(hc:l.length≤c0):
  Calls Tryz.prog 202 #[.slice A0 l.length c0,.int .i64 x] w fun e w'=>e=.returned (.bool (decide (x∈l)))∧aG w w':=by
 obtain⟨k,hk⟩:=(Gs l hl x).rounds;exact pQ.calls k A0 c0 l x _ w hr hc hk
theorem S5{w:World}{ad:Addr}{l:List Int}(hr:Kd.C (Kd.int .i64) w (some ad) l.length l)(i:Nat)(hi:i≤l.length):Kd.C (Kd.int .i64) w (some ad) (l.take i).length (l.take i):=by
 have hm:l.length≤9223372036854775807:=hr.2.1;have hlen:(l.take i).length=i:=by rw[List.length_take];omega
 refine Kd.BJ (d:=(0:Int)) (h1:=fun _=>rfl) ⟨rfl,ae,fun hn=>⟨ad,rfl,fun j hj=>?_⟩⟩;have:=gV hr (j:Int) ae ae;rw[Int.toNat_natCast] at this;rw[this];unfold rd;rw[List.getD_eq_getElem?_getD,List.getD_eq_getElem?_getD,Int.toNat_natCast,List.getElem?_take_of_lt ae]
theorem S6(A0:Option Addr)(c0:Nat)(l:List Int)(hl:l.length≤1048576)(w:World)(hr:Kd.C (Kd.int .i64) w A0 l.length l)(hc:l.length≤c0):
  Calls Tryz.prog 200 #[.slice A0 l.length c0] w fun e w'=>e=.returned (.bool (gw l))∧aG w w':=by
 have HR:=af.mk hr;clear hr;go_enter Tryz.func200,Tryz.ntmps200;go_wp2;go_loopg [7] l.length (fun kq v7 w'=> ∃i:Int,v7=.int .i64 i∧af (0≤i∧i≤l.length)∧af ((l.length:Int) - i≤kq)∧af (∀j:Int,0≤j→j<i→pM l j=true)∧af (aG w w'))
 case atStart=>exact⟨0,rfl,⟨ae⟩,⟨ae⟩,⟨fun x h0 h1=>ae⟩,⟨aG.refl _⟩⟩
 case round=>
  obtain⟨i,rfl,HI,HK,HA,HD⟩:=hrel;have h0:0≤i:=HI.o.1;by_cases c6:i<(l.length:Int)
  ·obtain⟨ad,e1⟩:=kx HR.o ae;cases e1;have fu:=Kd.aN HR.o HD.o.below;have g1:=gV fu i h0 c6;have hn:pM l i=(dE (rd l i)&&!decide (rd l i∈l.take i.toNat)):=rfl;have P1:=Gt (rd l i)
   have P2:∀W,aG wr W→Calls Tryz.prog 202 #[.slice (some ad) i.toNat c0,.int .i64 (rd l i)] W fun e w'=>e=.returned (.bool (decide (rd l i∈l.take i.toNat)))∧aG W w':=fun W hW=>by
    have hlt:(l.take i.toNat).length=i.toNat:=by rw[List.length_take];omega
    have:=adu (some ad) c0 (l.take i.toNat) ae (rd l i) W (S5 (Kd.aN fu hW.below) i.toNat ae) ae
    rwa [hlt] at this
   have hcap:i≤(c0:Int):=ae;obtain⟨x,hx⟩:∃x,rd l i=x:=⟨_,rfl⟩;rw[hx] at g1 hn P1 P2;clear hx fu;by_cases e1:dE x=true
   case neg=>
    have e1:=Bool.eq_false_iff.2 e1;rw[e1] at P1 hn;have HP:=af.mk P1;have HF:=af.mk (zE h0 c6 (by rw[hn];rfl));clear P1 P2 hn e1;go_wp2_with (go_at_call 49;refine(HP.o _).mono ?_;rintro e w' ⟨rfl,⟨nd,rfl⟩⟩)
    go_ret;exact⟨by rw[HF.o];rfl,HD.o.step _⟩
   case pos=>
    rw[e1] at P1 hn;have HP:=af.mk P1;by_cases e2:x∈l.take i.toNat
    ·rw[ap e2] at P2 hn;have KQ:=af.mk P2;have HF:=af.mk (zE h0 c6 (by rw[hn];rfl));clear P1 P2 hn e1 e2;go_wp2_with (first|(go_at_call 49;refine(HP.o _).mono ?_;rintro e w' ⟨rfl,⟨nd,rfl⟩⟩)|(go_at_call 202;refine(KQ.o _ ⟨⟨_,rfl⟩⟩).mono ?_;rintro e w' ⟨rfl,⟨Gu,rfl⟩⟩))
     go_ret;exact⟨by rw[HF.o];rfl,HD.o.step _⟩
    ·rw[aD e2] at P2 hn;have KQ:=af.mk P2;have HF:=af.mk hn;clear P1 P2 hn e1 e2;go_wp2_with (first|(go_at_call 49;refine(HP.o _).mono ?_;rintro e w' ⟨rfl,⟨nd,rfl⟩⟩)|(go_at_call 202;refine(KQ.o _ ⟨⟨_,rfl⟩⟩).mono ?_;rintro e w' ⟨rfl,⟨Gu,rfl⟩⟩))
     go_roundg (l.length - (i.toNat+1))
     case measure=>have:=HK.o;omega
     case rel=>
      refine⟨i+1,rfl,⟨ae⟩,⟨ae⟩,⟨fun x hx0 hx1=>?_⟩,⟨HD.o.step _⟩⟩;by_cases e:x=i
      ·rw[e];exact HF.o
      ·exact HA.o x hx0 ae
  ·go_wp2;go_ret;exact⟨by rw[Kx fun j j0 j1=>HA.o j j0 (by have:=HI.o;omega)];rfl,HD.o⟩
theorem adv{t:List Int}(hn:b9 t 81=true){p q:Int}(hp:bu p)(hq:bu q)(d:Nat):∀(i:Int),0≤i→i+d=91→(∀l:Int,0≤l→l<i→(a8 t p l&&a8 t q l)=false)→Ev (fun k=>iD.l0 k t p q i) (bh t p q):=by
 induction d with
 |zero=>
  intro i h0 h1 h;refine Ev.step (fun k=>by rw[iD.l0]) ?_;refine Ev.neg ae (Ev.done ?_);unfold bh;rw[vQ fun l l0 l1=>h l l0 ae]
 |succ d ih=>
  intro i h0 h1 h;have e1:=tY hn hp (l:=i) ⟨h0,ae⟩;have e2:=tY hn hq (l:=i) ⟨h0,ae⟩;refine Ev.step (fun k=>by rw[iD.l0]) ?_;simp(disch:=omega) only[bI,e1,e2,Option.bind_some];refine Ev.pos ae ?_
  have next:(a8 t p i&&a8 t q i)=false→Ev (fun k=>iD.l0 k t p q (i+1)) (bh t p q):=fun hb=>ih (i+1) ae ae fun l l0 l1=>by
   by_cases e:l=i
   ·rw[e];exact hb
   ·exact h l l0 ae
  by_cases a:a8 t p i=true
  ·refine Ev.pos a ?_;by_cases b:a8 t q i=true
   ·refine Ev.pos b (Ev.done ?_);unfold bh;rw[vR i h0 ae (by rw[a,b];rfl) h]
   ·exact Ev.neg b (next (by rw[Bool.eq_false_iff.2 b,Bool.and_false]))
  ·exact Ev.neg a (next (by rw[Bool.eq_false_iff.2 a,Bool.false_and]))
theorem zJ{t:List Int}(hn:b9 t 81=true){p q:Int}(hp:bu p)(hq:bu q):Ev (fun k=>iD.f k t p q) (bh t p q):=
 adv hn hp hq 91 0 ae ae (fun l h0 h1=>ae)
theorem adw(A0:Option Addr)(c0:Nat)(t:List Int)(p q:Int)(w:World)(hr:Kd.C (Kd.int .i64) w A0 t.length t)(hc:t.length≤c0)(hn:b9 t 81=true)(hp:bu p)(hq:bu q):
  Calls Tryz.prog 94 #[.slice A0 t.length c0,.int .i64 p,.int .i64 q] w fun e w'=>e=.returned (.int .i64 (bh t p q))∧aG w w':=by
 obtain⟨k,hk⟩:=(zJ hn hp hq).rounds;exact iD.calls k A0 c0 t p q _ w hr hc hk
end X
namespace P
def Cy.f(l0:List Int):Option Bool:=if l0.length≤1048576 then some (X.gw l0) else none
theorem Cy.calls(A0:Option Addr)(c0:Nat)(l0:List Int)(r:Bool)(w:World)(hr0:Kd.C (Kd.int .i64) w A0 l0.length l0)(hc0:l0.length≤c0)(h:Cy.f l0=some r):
  Calls Tryz.prog 200 #[.slice A0 l0.length c0] w fun e w'=>e=.returned (.bool r)∧aG w w':=by
 unfold Cy.f at h;by_cases hn:l0.length≤1048576
 ·rw[ah hn] at h;obtain rfl:=au h;exact X.S6 A0 c0 l0 hn w hr0 hc0
 ·rw[ag hn] at h;exact absurd h bn
end P
namespace X
theorem aeE{t:List Int}(hn:b9 t 81=true){l m:Int}(hl:bu l)(hm:bu m)(d:Nat):∀(i:Int),0≤i→i+d=91→(∀p:Int,0≤p→p<i→(a8 t p l&&a8 t p m)=false)→Ev (fun k=>jE.l0 k t l m i) (dx t l m):=by
 induction d with
 |zero=>
  intro i h0 h1 h;refine Ev.step (fun k=>by rw[jE.l0]) ?_;refine Ev.neg ae (Ev.done ?_);unfold dx;rw[vQ fun p p0 p1=>h p p0 ae]
 |succ d ih=>
  intro i h0 h1 h;have e1:=tY hn (p:=i) ⟨h0,ae⟩ hl;have e2:=tY hn (p:=i) ⟨h0,ae⟩ hm;refine Ev.step (fun k=>by rw[jE.l0]) ?_;simp(disch:=omega) only[bI,e1,e2,Option.bind_some];refine Ev.pos ae ?_
  have next:(a8 t i l&&a8 t i m)=false→Ev (fun k=>jE.l0 k t l m (i+1)) (dx t l m):=fun hb=>ih (i+1) ae ae fun p p0 p1=>by
   by_cases e:p=i
   ·rw[e];exact hb
   ·exact h p p0 ae
  by_cases a:a8 t i l=true
  ·refine Ev.pos a ?_;by_cases b:a8 t i m=true
   ·refine Ev.pos b (Ev.done ?_);unfold dx;rw[vR i h0 ae (by rw[a,b];rfl) h]
   ·exact Ev.neg b (next (by rw[Bool.eq_false_iff.2 b,Bool.and_false]))
  ·exact Ev.neg a (next (by rw[Bool.eq_false_iff.2 a,Bool.false_and]))
theorem GH{t:List Int}(hn:b9 t 81=true){l m:Int}(hl:bu l)(hm:bu m):Ev (fun k=>jE.f k t l m) (dx t l m):=
 aeE hn hl hm 91 0 ae ae (fun p h0 h1=>ae)
theorem aeF(A0:Option Addr)(c0:Nat)(t:List Int)(l m:Int)(w:World)(hr:Kd.C (Kd.int .i64) w A0 t.length t)(hc:t.length≤c0)(hn:b9 t 81=true)(hl:bu l)(hm:bu m):
  Calls Tryz.prog 95 #[.slice A0 t.length c0,.int .i64 l,.int .i64 m] w fun e w'=>e=.returned (.int .i64 (dx t l m))∧aG w w':=by
 obtain⟨k,hk⟩:=(GH hn hl hm).rounds;exact jE.calls k A0 c0 t l m _ w hr hc hk
theorem sK{t:List Int}(hs:aW t=true){p q r s:Int}(hp:bu p)(hq:bu q)(hr:bu r)(hz:bu s)(h1:p≠q)(h2:r≠s):Ev (fun k=>kb.f k t p q r s) (dF t p q r s):=by
 have hn:=(fq hs).1;have a:=iL hs hp.1 hp.2 hq.1 hq.2 h1;have b:=iL hs hr.1 hr.2 hz.1 hz.2 h2;unfold kb.f;exact Ev.bind (zJ hn hp hq) (Ev.bind (zJ hn hr hz) (Ev.bind (GH hn ⟨a.1,a.2.1⟩ ⟨b.1,b.2.1⟩) (Ev.done rfl)))
theorem ae5:Eg 204:=enters_of Tryz.func204 am rfl
theorem ae6:Eg 205:=enters_of Tryz.func205 am rfl
theorem ae7:Eg 206:=enters_of Tryz.func206 am rfl
theorem ae8(b:Nat)(s:Nat→Bool)(w:World)(hs:fX w b 141 91 s)(p:Int)(hp:0≤p∧p<91):
  Calls Tryz.prog 204 #[.int .i64 p,.pointer (some ⟨b,0,none⟩)] w fun e w'=>e=.returned (.bool (s p.toNat))∧Below w.heap.size w w':=by
 obtain⟨p0,p1⟩:=hp;have hcl:=hs.cell p.toNat ae;have hf:=hs.frozen p.toNat;clear hs;go_enter Tryz.func204,Tryz.ntmps204;go_wp2;go_ret;exact⟨rfl,Below.refl _ _⟩
theorem ae9(b:Nat)(s:Nat→Bool)(w:World)(hs:fX w b 141 91 s)(p:Int)(hp:0≤p∧p<91):
  Calls Tryz.prog 206 #[.int .i64 p,.pointer (some ⟨b,0,none⟩)] w fun e w'=>e=.returned (.bool (s p.toNat))∧Below w.heap.size w w':=by
 obtain⟨p0,p1⟩:=hp;have hcl:=hs.cell p.toNat ae;have hf:=hs.frozen p.toNat;clear hs;go_enter Tryz.func206,Tryz.ntmps206;go_wp2;go_ret;exact⟨rfl,Below.refl _ _⟩
theorem LD(t pts:List Int)(l:Int){i:Int}(i0:0≤i)(i1:i<pts.length):fL t (pts.take (i+1).toNat) l=fL t (pts.take i.toNat) l+(if a8 t (rd pts i) l=true then 1 else 0):=by
 unfold fL;rw[show(i+1).toNat=i.toNat+1 by omega,List.take_add_one,List.getElem?_eq_getElem ae,Option.toList_some,List.filter_append,List.length_append];have e:pts[i.toNat]'ae=rd pts i:=(oS i0 i1).symm;rw[e];by_cases h:a8 t (rd pts i) l=true
 ·rw[ah h];simp[h]
 ·rw[ag h];simp[h]
theorem C8(t pts:List Int)(l:Int):fL t pts l≤pts.length:=List.length_filter_le _ _
theorem ae_(b bt:Nat)(A0 A1:Option Addr)(c0 c1:Nat)(t pts:List Int)(w:World)(hb:dZ w b A1 c1 pts)(ht:dZ w bt A0 c0 t)(hc0:t.length≤c0)(hn:b9 t 81=true)(hp:∀x∈pts,bu x)(TP:pts.length≤91)(l:Int)(hl:bu l):
  Calls Tryz.prog 205 #[.int .i64 l,.pointer (some ⟨b,0,none⟩),.pointer (some ⟨bt,0,none⟩)] w fun e w'=>e=.returned (.bool (decide (1<(fL t pts l:Int))))∧Below w.heap.size w w':=by
 have HB:=af.mk hb;have HT:=af.mk ht;have HP:=af.mk hp;have HN:=af.mk hn;have HL:=af.mk hl;have hcell:=hb.cell;have aqB:pts.length≤91:=TP;clear hb ht hp hn hl;go_enter Tryz.func205,Tryz.ntmps205;go_wp2;go_loopg [5,10] 91 (fun kq v5 v10 w'=> ∃i c:Int,v10=.int .i64 i∧v5=.int .i64 c∧af (0≤i∧i≤pts.length)∧af ((pts.length:Int) - i≤kq)∧af (c=(fL t (pts.take i.toNat) l:Int))∧af (Below w.heap.size w w'))
 case atStart=>exact⟨0,0,rfl,rfl,⟨ae⟩,⟨ae⟩,⟨rfl⟩,⟨Below.refl _ _⟩⟩
 case round=>
  clear hcell;obtain⟨i,c,rfl,rfl,HI,HK,HC,HW⟩:=hrel;have i0:0≤i:=HI.o.1;have hcl:=C8 t (pts.take i.toNat) l;have hcr:0≤c∧c≤91:=by have:=HC.o;rw[List.length_take] at hcl;omega
  obtain⟨hc0',aqC⟩:=hcr;clear hcl;by_cases c6:i<(pts.length:Int)
  case neg=>
   have e:c=(fL t pts l:Int):=by rw[HC.o,List.take_of_length_le ae]
   have E:=af.mk (show decide (1<c)=decide (1<(fL t pts l:Int)) by rw[e]);clear e;go_wp2;go_ret;exact⟨by rw[←E.o];rfl,HW.o⟩
  case pos=>
  obtain⟨ad,e1,g1⟩:=Kd.ck (Kd.aN HB.o.read HW.o) i i0 c6;subst e1;have aqD:=(HT.o.below HW.o).cell;have C9:=af.mk (KL A0 c0 t (rd pts i) l wr (HT.o.below HW.o).read hc0 HN.o (HP.o _ (iK c6 i0)) HL.o);have C_:=af.mk (LD t pts l i0 c6);obtain⟨p,hp⟩:∃p,rd pts i=p:=⟨_,rfl⟩;rw[hp] at g1 C9 C_;clear hp;have zw:IntKind.i64.wrap (c+1)=c+1:=by rw[IntKind.wrap_i64];omega
  have zi:IntKind.i64.wrap (i+1)=i+1:=by rw[IntKind.wrap_i64];omega
  by_cases ho:a8 t p l=true
  case pos=>
   rw[ho] at C9 C_;clear ho;go_wp2_with (go_at_call 139;refine C9.o.mono ?_;rintro e w' ⟨rfl,⟨nd,rfl⟩⟩)
   go_roundg (pts.length - (i.toNat+1))
   case measure=>have:=HK.o;omega
   case rel=>exact⟨i+1,c+1,rfl,rfl,⟨ae⟩,⟨ae⟩,⟨by rw[C_.o,HC.o];rfl⟩,⟨bb HW.o _⟩⟩
  case neg=>
   have ho:=Bool.eq_false_iff.2 ho;rw[ho] at C9 C_;clear ho;go_wp2_with (go_at_call 139;refine C9.o.mono ?_;rintro e w' ⟨rfl,⟨nd,rfl⟩⟩)
   go_roundg (pts.length - (i.toNat+1))
   case measure=>have:=HK.o;omega
   case rel=>exact⟨i+1,c,rfl,rfl,⟨ae⟩,⟨ae⟩,⟨by rw[C_.o,HC.o];rfl⟩,⟨bb HW.o _⟩⟩
def dm(l:List Int)(x:Nat):Bool:=decide ((x:Int)∈l)
theorem TQ{l:List Int}{i:Int}(i0:0≤i)(i1:i<l.length)(h0:0≤rd l i)(x:Nat):dm (l.take (i+1).toNat) x=if x=(rd l i).toNat then true else dm (l.take i.toNat) x:=by
 unfold dm;rw[show(i+1).toNat=i.toNat+1 by omega,List.take_add_one,List.getElem?_eq_getElem ae,Option.toList_some];have e:l[i.toNat]'ae=rd l i:=(oS i0 i1).symm;rw[e];by_cases h:x=(rd l i).toNat
 ·rw[ah h,ap];rw[List.mem_append,List.mem_singleton];right;omega
 ·rw[ag h];refine decide_eq_decide.2 ?_;rw[List.mem_append,List.mem_singleton];exact⟨fun h=>h.elim id fun h=>absurd h ae,.inl⟩
theorem zY{t:List Int}{s:Nat→Bool}{i:Int}(i0:0≤i)(i1:i<(ce t s).length):bu (rd (ce t s) i):=by
 have:=pF.1 (iK (t:=ce t s) i1 i0);exact⟨this.1,this.2.1⟩
theorem TR{t:List Int}(h:aW t=true){s:Nat→Bool}{i k:Int}(k0:0≤k)(ki:k<i)(i1:i<(ce t s).length):bu (dx t (rd (ce t s) i) (rd (ce t s) k)):=by
 have hi:=zY (t:=t) (s:=s) (i:=i) ae i1;have hk:=zY (t:=t) (s:=s) (i:=k) k0 ae;have hlt:rd (ce t s) k<rd (ce t s) i:=SX k0 ki i1;have:=tV h hi.1 hi.2 hk.1 hk.2 ae;exact⟨this.1,this.2.1⟩
def sO(s s':Nat→Bool):Prop:=∃x:Nat,x<91∧s' x=true∧s x=false
theorem afa(t L:List Int)(s:Nat→Bool):¬sO s (fB t L s 0 0):=by
 rintro⟨x,_,h1,h2⟩;rw[Lz,h2] at h1;exact absurd h1 ao
theorem TS{s a b:Nat→Bool}(h:∀x,x<91→a x=b x):sO s a↔sO s b:=
 ⟨fun⟨x,hx,h1,h2⟩=>⟨x,hx,(h x hx)▸h1,h2⟩,fun⟨x,hx,h1,h2⟩=>⟨x,hx,(h x hx).symm▸h1,h2⟩⟩
theorem afb{t L:List Int}{s:Nat→Bool}{i k p:Int}(k0:0≤k)(p0:0≤p)(hp:dx t (rd L i) (rd L k)=p)(hb:fB t L s i k p.toNat=true)(x:Nat):fB t L s i k x=fB t L s i (k+1) x:=by
 rw[GL t L s i k0 p0 hp];by_cases e:x=p.toNat
 ·rw[ah e,e,hb]
 ·rw[ag e]
theorem afc{t:List Int}{s:Nat→Bool}(h:¬sO s (fB t (ce t s) s (ce t s).length 0)):∀x,x<91→fZ t s x=s x:=by
 intro x hx;rw[←CZ];cases h0:s x with
 |true=>exact TJ _ _ _ _ _ _ h0
 |false=>
  cases h1:fB t (ce t s) s (ce t s).length 0 x with
  |false=>rfl
  |true=>exact absurd ⟨x,hx,h1,h0⟩ h
theorem afd{t:List Int}{s:Nat→Bool}(h:sO s (fB t (ce t s) s (ce t s).length 0)):iY s<iY (fZ t s):=by
 obtain⟨x,hx,h1,h0⟩:=h;rw[CZ] at h1;exact LC (fun y _ hy=>zX t s y hy) hx h1 h0
theorem TT(A0:Option Addr)(c0:Nat)(t:List Int)(A1:Option Addr)(c1:Nat)(l:List Int)(w:World)(hr:Kd.C (Kd.int .i64) w A0 t.length t)(hc0:t.length≤c0)(hr1:Kd.C (Kd.int .i64) w A1 l.length l)(hs:aW t=true)(hl:∀x∈l,bu x):
  Calls Tryz.prog 138 #[.slice A0 t.length c0,.slice A1 l.length c1] w fun e w'=> ∃v:Value,e=.returned v∧Kd.R (Kd.int .i64) 3 w' w.heap.size (fun _=>True) v (fw t (dm l))∧Below w.heap.size w w':=by
 have pN:∀(fn:Fn) (first cap:Array Value) (w:World),(Instr.makeFunc fn first cap).run Tryz.prog w=.ok (.func fn first cap) w:=fun _ _ _ _=>rfl;have hz:∀w,Sem.run Tryz.prog (zeroValue 141) w=.ok (.agg (bA 91 (fun _=>false))) w:=fun _=>by kernel_rfl
 have hst:=fun w=>Sm (P:=Tryz.prog) 141 91 (fun _=>false) am w;have hm1:l.length≤9223372036854775807:=hr1.2.1;have hb0:Below w.heap.size w (w.alloc (.cells #[.slice A0 t.length c0] 91)):=(Below.refl _ _).alloc (aH _) _;have ha0:(w.alloc (.cells #[.slice A0 t.length c0] 91)).cell? ⟨w.heap.size,0,none⟩=some (.slice A0 t.length c0):=World.cell?_alloc_new w _ _ 0;have jG:dZ (w.alloc (.cells #[.slice A0 t.length c0] 91)) w.heap.size A0 c0 t:=⟨ha0,Kd.aN hr hb0⟩;have hsz:(w.alloc (.cells #[.slice A0 t.length c0] 91)).heap.size=w.heap.size+1:=by simp
 have TU:=af.mk jG;have fH:=af.mk hb0;have zZ:=af.mk hsz;have TV:=af.mk hr;have HL:=af.mk hr1;have wv:=af.mk hl;have GM:=af.mk hs;have HN:=af.mk (fq hs).1;clear hr hr1 hs hl hb0 ha0 jG hsz;go_enter Tryz.func138,Tryz.ntmps138;go_upto_region 1 with(fail)
 generalize(w.alloc (.cells #[.slice A0 t.length c0] 91))=w1 at TU fH zZ ⊢;have HS:=af.mk (fX.alloc w1 141 91 (fun _=>false));have hb2:Below w1.heap.size w1 (w1.alloc (.cells (bA 91 (fun _=>false)) 141)):=(Below.refl _ _).alloc (aH _) _;have HT:=af.mk (TU.o.below hb2);have HB:=af.mk (aU fH.o hb2);clear hb2;go_wp2;rw[zZ.o] at HS;rw[zZ.o];go_loopg [19] l.length (fun kq TW w'=> ∃i:Int,TW=.int .i64 i∧af (0≤i∧i≤l.length)∧af ((l.length:Int) - i≤kq)∧af (fX w' (w.heap.size+1) 141 91 (dm (l.take i.toNat)))∧af (dZ w' w.heap.size A0 c0 t)∧af (Below w.heap.size w w'))
 case atStart=>exact⟨0,rfl,⟨ae⟩,⟨ae⟩,⟨HS.o.congr (fun j hj=>by simp[dm])⟩,HT,HB⟩
 case round=>
  clear HS HT HB hz hst;obtain⟨i,rfl,HI,HK,HS,HT,HB⟩:=hrel;have i0:0≤i:=HI.o.1;by_cases c6:i<(l.length:Int)
  case pos=>
   obtain⟨ad,e1,g1⟩:=Kd.ck (Kd.aN HL.o HB.o) i i0 c6;subst e1;obtain⟨p0,p1⟩:=wv.o _ (iK c6 i0);have hcl:=HS.o.cell (rd l i).toNat ae;have hf:=HS.o.frozen (rd l i).toNat;have tP:=af.mk ((HS.o.set (rd l i).toNat true).congr (s':=dm (l.take (i+1).toNat)) fun j hj=>(TQ i0 c6 p0 j).symm);have kc:=af.mk (HB.o.setCell (p:=⟨w.heap.size+1,(rd l i).toNat,none⟩) (Nat.le_succ _) (.bool true));have GN:=af.mk (show dZ (wr.setCell ⟨w.heap.size+1,(rd l i).toNat,none⟩ (.bool true)) w.heap.size A0 c0 t from⟨by rw[World.cell?_setCell_far _ _ _ _ bn];exact HT.o.cell,Kd.aN TV.o kc.o⟩);obtain⟨p,hp⟩:∃p,rd l i=p:=⟨_,rfl⟩;rw[hp] at g1 p0 p1 hcl hf tP kc GN;clear hp;go_wp2;go_roundg (l.length - (i.toNat+1))
   case measure=>have:=HK.o;omega
   case rel=>exact⟨i+1,rfl,⟨ae⟩,⟨ae⟩,tP,GN,kc⟩
  case neg=>
  have hi:i=l.length:=by have:=HI.o;omega
  have TX:=af.mk (HS.o.congr (s':=dm l) fun j hj=>by rw[List.take_of_length_le ae]);clear HS HI HK hi i0;go_wp2;go_loopg [8] 93 (fun kq v8 w'=> ∃(g:Bool) (n:Nat),v8=.bool g∧af ((if g=true then 93 - (iY (cZ t (dm l) n):Int) else 0)≤kq)∧af (n≤iY (cZ t (dm l) n))∧af (g=false→∀x,x<91→fZ t (cZ t (dm l) n) x=cZ t (dm l) n x)∧af (fX w' (w.heap.size+1) 141 91 (cZ t (dm l) n))∧af (dZ w' w.heap.size A0 c0 t)∧af (Below w.heap.size w w'))
  case atStart=>exact⟨true,0,rfl,⟨by rw[ah rfl];omega⟩,⟨Nat.zero_le _⟩,⟨fun h=>by cases h⟩,TX,HT,HB⟩
  case round=>
   clear TX HT HB;obtain⟨g,n,rfl,HK,GP,TY,HS,HT,HB⟩:=hrel;have T0:=af.mk (fun W (hW:Below wr.heap.size wr W)=>HS.o.below hW);cases g with
   |false=>
    have hcall:=Gr 206 #[.pointer (some ⟨w.heap.size+1,0,none⟩)] ae7 (fun p=>cZ t (dm l) n p.toNat) wr
     (fun W p hW hd=>ae9 _ _ W (HS.o.below hW) p hd)
    have e:cH 91 (fun p=>cZ t (dm l) n p.toNat)=fw t (dm l):=(TN (Nat.le_trans GP.o (uh _)) (TY.o rfl)).symm;rw[e] at hcall;have HC:=af.mk hcall;clear hcall e;go_wp2_with (go_at_call 165;refine HC.o.mono ?_;rintro e w2 ⟨v,rfl,ho,hb⟩;have HO:=af.mk ho;have bK:=af.mk hb;clear ho hb)
    go_ret;exact⟨_,rfl,Kd.cv HO.o HB.o.size,aU HB.o bK.o⟩
   |true=>
    have HC:=af.mk (Gr 204 #[.pointer (some ⟨w.heap.size+1,0,none⟩)] ae5 (fun p=>cZ t (dm l) n p.toNat) wr
     (fun W p hW hd=>ae8 _ _ W (HS.o.below hW) p hd))
    clear TY;go_wp2_with fail
    refine HC.o.mono ?_;rintro e w2 ⟨v,rfl,ho,hb⟩;obtain⟨Ao,co,eo⟩:=Kd.bJ ho;subst eo;rw[show cH 91 (fun p=>cZ t (dm l) n p.toNat)=gJ (cZ t (dm l) n) from rfl] at ho ⊢;obtain⟨s,hs⟩:∃s,cZ t (dm l) n=s:=⟨_,rfl⟩;have GQ:=af.mk hs;rw[hs] at ho HS T0 HK GP ⊢;have T1:=af.mk (show 93 - (iY s:Int)≤(gk:Int) from by have:=HK.o;simpa using this);clear HK;have HO:=af.mk ho;have bK:=af.mk hb;have hcn:(w2.alloc (.cells #[.slice none 0 0] 31)).cell? ⟨w2.heap.size,0,none⟩=some (.slice none 0 0):=World.cell?_alloc_new w2 _ _ 0;have hfn:(w2.alloc (.cells #[.slice none 0 0] 31)).frozen? ⟨w2.heap.size,0,none⟩=false:=World.frozen?_alloc_new w2 _ _ 0;obtain⟨P,hP⟩:∃P,gJ s=P:=⟨_,rfl⟩;have HP:=af.mk hP;rw[hP] at HO ⊢;clear ho hb HC hs hP;go_wp2_with fail
    have GR:Below w2.heap.size w2 (w2.alloc (.cells #[.slice Ao P.length co] 31)):=(Below.refl _ _).alloc (aH _) _;have LG:(w2.alloc (.cells #[.slice Ao P.length co] 31)).cell? ⟨w2.heap.size,0,none⟩=some (.slice Ao P.length co):=World.cell?_alloc_new w2 _ _ 0;generalize w2.alloc (.cells #[.slice Ao P.length co] 31)=W at GR LG ⊢;have fG:=af.mk (aU bK.o GR);have HX:=af.mk (show dZ W w2.heap.size Ao co P from⟨LG,Kd.aN (Kd.bm HO.o).2.2 GR⟩);have GS:=af.mk (HT.o.below fG.o);clear GR LG hcn hfn bK HO T0
    have hcall:=Gr 205 #[.pointer (some ⟨w2.heap.size,0,none⟩),.pointer (some ⟨w.heap.size,0,none⟩)] ae6 (fun x=>decide (1<(fL t P x:Int))) W
     (fun V x hV hd=>ae_ _ _ A0 Ao c0 co t P V (HX.o.below hV) (GS.o.below hV) hc0 HN.o (fun y hy=>by rw[←HP.o] at hy;have:=pF.1 hy;exact⟨this.1,this.2.1⟩) (by rw[←HP.o];exact kt _ _) x hd)
    have e:cH 91 (fun x=>decide (1<(fL t P x:Int)))=ce t s:=by unfold ce;rw[HP.o]
    rw[e] at hcall;have HC:=af.mk hcall;clear hcall e;refine HC.o.mono ?_;rintro e w4 ⟨v,rfl,ho,hb⟩;obtain⟨Al,cl,eo⟩:=Kd.bJ ho;subst eo;have HO:=af.mk ho;have T2:w.heap.size+1<W.heap.size:=Nat.lt_of_lt_of_le HS.o.lt fG.o.size;have T3:=af.mk (Kd.dq (ok':=fun k=>k≠w.heap.size+1) (Kd.ix ho) (fun k hk=>by have:=hk.2.1;omega));clear T2;have cI:=af.mk (aU fG.o hb);have ef:=af.mk (aU HB.o cI.o);have T5:=af.mk (HT.o.below cI.o);have vM:=af.mk (HS.o.below cI.o);clear HC ho hb fG HX GS HB HT HS HP;go_wp2;go_loopg [8,33] 92 (fun kq v8 v33 w'=> ∃(g:Bool) (i:Int),v8=.bool g∧v33=.int .i64 i∧af (0≤i∧i≤(ce t s).length)∧af (((ce t s).length:Int) - i≤kq)∧af (g=true↔sO s (fB t (ce t s) s i 0))∧af (fX w' (w.heap.size+1) 141 91 (fB t (ce t s) s i 0))∧af (dZ w' w.heap.size A0 c0 t)∧af (Below w.heap.size w w')∧af (Kd.R (Kd.int .i64) 3 w' W.heap.size (fun k=>k≠w.heap.size+1) (.slice Al (ce t s).length cl) (ce t s)))
    case atStart=>exact⟨false,0,rfl,rfl,⟨ae⟩,⟨by have:=kt 91 (fun l=>decide (1<(fL t (gJ s) l:Int)));unfold ce;omega⟩,⟨⟨fun h=>(by cases h),fun h=>absurd h (afa _ _ _)⟩⟩,⟨vM.o.congr fun j hj=>(Lz _ _ _ _).symm⟩,T5,ef,T3⟩
    case round=>
     have hcap:(ce t s).length≤cl:=(Kd.bm HO.o).2.1;clear vM T5 ef HO cI T3;obtain⟨g,i,rfl,rfl,HI,dt,HG,HS,HT,HB,ui⟩:=hrel;have i0:0≤i:=HI.o.1;by_cases c6:i<((ce t s).length:Int)
     case neg=>
      have hi:i=((ce t s).length:Int):=by have:=HI.o;omega
      subst hi;cases g with
      |true=>
       have hm:=HG.o.1 rfl;have T8:=af.mk (afd hm);have HIT:=af.mk (show cZ t (dm l) (n+1)=fZ t s by show fZ t (cZ t (dm l) n)=_;rw[GQ.o]);clear hm hcap;go_wp2;go_roundg (93 - iY (fZ t s))
       case measure=>have:=T1.o;have:=T8.o;have:=uh (fZ t s);omega
       case rel=>exact⟨true,n+1,rfl,⟨by rw[HIT.o,ah rfl];omega⟩,⟨by rw[HIT.o];have:=T8.o;have:=GP.o;omega⟩,⟨fun h=>by cases h⟩,⟨by rw[HIT.o];exact HS.o.congr fun j hj=>CZ t s j⟩,HT,HB⟩
      |false=>
       have hm:¬sO s (fB t (ce t s) s (ce t s).length 0):=fun h=>by have:=HG.o.2 h;cases this
       have Da:=af.mk (afc hm);clear hm hcap;go_wp2;go_roundg 0
       case measure=>have:=T1.o;have:=uh s;omega
       case rel=>exact⟨false,n,rfl,⟨by simp⟩,⟨by rw[GQ.o];exact GP.o⟩,⟨fun _=>by rw[GQ.o];exact Da.o⟩,⟨by rw[GQ.o];exact HS.o.congr fun j hj=>by rw[CZ];exact Da.o j hj⟩,HT,HB⟩
     case pos=>
     obtain⟨adl,e1,g1⟩:=Kd.ck (Kd.bm ui.o).2.2 i i0 c6;subst e1;have hic:i≤(cl:Int):=ae;have HI2:=af.mk hic;have lC:=af.mk c6;have hii:((i.toNat:Nat):Int)=i:=Int.toNat_of_nonneg i0;obtain⟨x,hx⟩:∃x,rd (ce t s) i=x:=⟨_,rfl⟩;rw[hx] at g1;have HXE:=af.mk hx;clear hx;go_wp2;go_loopg [8,42] 92 (fun kq v8 v42 w'=> ∃(g:Bool) (k:Int),v8=.bool g∧v42=.int .i64 k∧af (0≤k∧k≤i)∧af (i - k≤kq)∧af (g=true↔sO s (fB t (ce t s) s i k))∧af (fX w' (w.heap.size+1) 141 91 (fB t (ce t s) s i k))∧af (dZ w' w.heap.size A0 c0 t)∧af (Below w.heap.size w w')∧af (Kd.R (Kd.int .i64) 3 w' W.heap.size (fun k=>k≠w.heap.size+1) (.slice (some adl) (ce t s).length cl) (ce t s)))
     case atStart=>exact⟨g,0,rfl,rfl,⟨ae⟩,⟨by have:=kt 91 (fun l=>decide (1<(fL t (gJ s) l:Int)));have h2:(ce t s).length≤91:=this;omega⟩,HG,HS,HT,HB,ui⟩
     case round=>
      clear HG HS HT HB ui;obtain⟨g,k,rfl,rfl,KI,KK,HG,HS,HT,HB,ui⟩:=hrel;have k0:0≤k:=KI.o.1;by_cases c7:k<i
      case neg=>
       have c8:¬k<((i.toNat:Nat):Int):=ae;have hk:k=i:=by have:=KI.o;omega
       subst hk;have zi:IntKind.i64.wrap (k+1)=k+1:=by rw[IntKind.wrap_i64];have h2:(ce t s).length≤91:=kt _ _;omega
       go_wp2;go_roundg ((ce t s).length - (k.toNat+1))
       case measure=>have:=dt.o;have:=lC.o;omega
       case rel=>exact⟨g,k+1,rfl,rfl,⟨by have:=lC.o;omega⟩,⟨by have:=lC.o;omega⟩,⟨HG.o.trans (TS fun x _=>(LA t (ce t s) s k0 x).symm)⟩,⟨HS.o.congr fun x _=>(LA t (ce t s) s k0 x).symm⟩,HT,HB,ui⟩
      case pos=>
      have c8:k<((i.toNat:Nat):Int):=ae;have h2:(ce t s).length≤91:=kt _ _;have zi:IntKind.i64.wrap (k+1)=k+1:=by rw[IntKind.wrap_i64];omega
      obtain⟨aqE,e1,g2⟩:=Kd.ck (Kd.bm ui.o).2.2 k k0 (by have:=lC.o;omega);cases e1;have hcell:=HT.o.cell;obtain⟨p0,p1⟩:=TR GM.o k0 c7 lC.o;have HM:=af.mk (aeF A0 c0 t (rd (ce t s) i) (rd (ce t s) k) wr HT.o.read hc0 HN.o (zY i0 lC.o) (zY k0 (by have:=lC.o;omega)));obtain⟨p,hp⟩:∃p,dx t (rd (ce t s) i) (rd (ce t s) k)=p:=⟨_,rfl⟩;rw[hp] at p0 p1 HM;have z6:=af.mk hp;have hbit:=HS.o.cell p.toNat ae;have hfz:=HS.o.frozen p.toNat;clear hp h2;obtain⟨y,hy⟩:∃y,rd (ce t s) k=y:=⟨_,rfl⟩;rw[HXE.o,hy] at HM;rw[hy] at g2;clear hy;by_cases hb:fB t (ce t s) s i k p.toNat=true
      case pos=>
       rw[hb] at hbit;have LH:=af.mk hb;clear hb;go_wp2_with (go_at_call 95;refine HM.o.mono ?_;rintro e w' ⟨rfl,⟨nd,rfl⟩⟩)
       go_roundg (i.toNat - (k.toNat+1))
       case measure=>have:=KK.o;omega
       case rel=>
        have ho:=fun x=>afb (t:=t) (L:=ce t s) (s:=s) (i:=i) k0 p0 z6.o LH.o x;exact⟨g,k+1,rfl,rfl,⟨ae⟩,⟨ae⟩,⟨HG.o.trans (TS fun x _=>ho x)⟩,⟨(HS.o.below (aG.below ⟨⟨_,rfl⟩⟩)).congr fun x _=>ho x⟩,⟨HT.o.below (aG.below ⟨⟨_,rfl⟩⟩)⟩,⟨bb HB.o _⟩,⟨Kd.iy ui.o _⟩⟩
      case neg=>
       have hb:=Bool.eq_false_iff.2 hb;rw[hb] at hbit;have LH:=af.mk hb;clear hb;have tP:=af.mk (fun nd=>((HS.o.below (aG.below ⟨⟨nd,rfl⟩⟩)).set p.toNat true).congr (s':=fB t (ce t s) s i (k+1)) fun x _=>(GL t (ce t s) s i k0 p0 z6.o x).symm);have kc:=af.mk (fun nd=>(bb HB.o nd).setCell (p:=⟨w.heap.size+1,p.toNat,none⟩) (Nat.le_succ _) (.bool true));go_wp2_with (go_at_call 95;refine HM.o.mono ?_;rintro e w' ⟨rfl,⟨nd,rfl⟩⟩)
       go_roundg (i.toNat - (k.toNat+1))
       case measure=>have:=KK.o;omega
       case rel=>
        have hmore:sO s (fB t (ce t s) s i (k+1)):=by
         refine⟨p.toNat,ae,by rw[GL t (ce t s) s i k0 p0 z6.o,ah rfl],?_⟩;cases h:s p.toNat with
         |false=>rfl
         |true=>have:=TJ t (ce t s) s i k p.toNat h;rw[LH.o] at this;cases this
        exact⟨true,k+1,rfl,rfl,⟨ae⟩,⟨ae⟩,⟨⟨fun _=>hmore,fun _=>rfl⟩⟩,⟨tP.o _⟩,⟨⟨by rw[World.cell?_setCell_far _ _ _ _ bn];exact(HT.o.below (aG.below ⟨⟨_,rfl⟩⟩)).cell,Kd.aN TV.o (kc.o _)⟩⟩,⟨kc.o _⟩,⟨Kd.tF (Kd.iy ui.o _) (fun k hk=>hk) _⟩⟩
def wz(t l:List Int)(i j k:Int):Bool:=!a8 t (rd l k) (bh t (rd l i) (rd l j))
def mK(t l:List Int)(i j:Int):Bool:=allI j.toNat (wz t l i j)
def afm(t l:List Int)(i:Int):Bool:=allI i.toNat (mK t l i)
def kS(t l:List Int):Bool:=gw l&&allI l.length (afm t l)
theorem afn(t l:List Int)(i:Int){j:Int}(h0:0≤j)(h1:j≤l.length):((l.take j.toNat).any fun r=>a8 t r (bh t (rd l i) (rd l j)))=!mK t l i j:=by
 cases e:mK t l i j with
 |true=>
  rw[Bool.not_true,List.any_eq_false];intro x hx;obtain⟨k,hk,rfl⟩:=List.mem_take_iff_getElem.1 hx;have:=vG.1 e k ae;unfold wz at this;rw[jY l k ae] at this
  simpa using this
 |false=>
  rw[Bool.not_false];cases h:(l.take j.toNat).any fun r=>a8 t r (bh t (rd l i) (rd l j)) with
  |true=>rfl
  |false=>
   rw[List.any_eq_false] at h
   have:mK t l i j=true:=vG.2 fun k hk=>by
    unfold wz
    have:=h (rd l (k:Int)) (by
     rw[jY l k ae];exact List.mem_take_iff_getElem.2 ⟨k,ae,rfl⟩)
    simpa using this
   rw[this] at e;exact absurd e ao
theorem Uh{t l:List Int}{i j:Int}(i1:i<l.length)(j0:0≤j)(ji:j<i)(h:mK t l i j=false):kS t l=false:=by
 cases e:kS t l with
 |false=>rfl
 |true=>
  unfold kS at e;have e:=(Bool.and_eq_true _ _▸e).2;have:=gF (gF e i ae i1) j j0 ae;rw[h] at this;exact absurd this ao
theorem Ui{t l:List Int}(hd:gw l=true)(h:∀i j:Int,0≤j→j<i→i<l.length→mK t l i j=true):kS t l=true:=by
 unfold kS;rw[hd,Bool.true_and];exact jr.2 fun i i0 i1=>jr.2 fun j j0 j1=>h i j j0 ae i1
theorem GV{t l:List Int}(h:kS t l=true):gw l=true∧∀i j k:Int,0≤k→k<j→j<i→i<l.length→a8 t (rd l k) (bh t (rd l i) (rd l j))=false:=by
 unfold kS at h;rw[Bool.and_eq_true] at h;refine⟨h.1,fun i j k k0 kj ji i1=>?_⟩;have:=gF (gF (gF h.2 i ae i1) j ae ae) k k0 ae;unfold wz at this
 simpa using this
theorem afo(bt bl:Nat)(A0:Option Addr)(c0:Nat)(t:List Int)(w:World)(hb:dZ w bt A0 c0 t)(hc0:t.length≤c0)(hn:b9 t 81=true)(l:Int)(hl:bu l)(hlc:w.cell? ⟨bl,0,none⟩=some (.int .i64 l))(p:Int)(hp:bu p):
  Calls Tryz.prog 242 #[.int .i64 p,.pointer (some ⟨bt,0,none⟩),.pointer (some ⟨bl,0,none⟩)] w fun e w'=>e=.returned (.bool (a8 t p l))∧Below w.heap.size w w':=by
 have HC:=af.mk (KL A0 c0 t p l w hb.read hc0 hn hp hl);have hcell:=hb.cell;obtain⟨o,ho⟩:∃o,a8 t p l=o:=⟨_,rfl⟩;rw[ho] at HC ⊢;clear hb hn hl hp ho;go_enter Tryz.func242,Tryz.ntmps242;go_wp2_with (go_at_call 139;refine HC.o.mono ?_;rintro e w' ⟨rfl,⟨nd,rfl⟩⟩)
 go_ret;exact⟨rfl,aG.below ⟨⟨_,rfl⟩⟩⟩
theorem afp:Eg 242:=enters_of Tryz.func242 am rfl
theorem afq(A0:Option Addr)(c0:Nat)(t:List Int)(A1:Option Addr)(c1:Nat)(l:List Int)(w:World)(hr:Kd.C (Kd.int .i64) w A0 t.length t)(hc0:t.length≤c0)(hr1:Kd.C (Kd.int .i64) w A1 l.length l)(hc1:l.length≤c1)(hs:aW t=true)(hl:l.length≤1048576):
  Calls Tryz.prog 203 #[.slice A0 t.length c0,.slice A1 l.length c1] w fun e w'=>e=.returned (.bool (kS t l))∧Below w.heap.size w w':=by
 have pN:∀(fn:Fn) (first cap:Array Value) (w:World),(Instr.makeFunc fn first cap).run Tryz.prog w=.ok (.func fn first cap) w:=fun _ _ _ _=>rfl;have hb0:Below w.heap.size w (w.alloc (.cells #[.slice A0 t.length c0] 91)):=(Below.refl _ _).alloc (aH _) _;have ha0:(w.alloc (.cells #[.slice A0 t.length c0] 91)).cell? ⟨w.heap.size,0,none⟩=some (.slice A0 t.length c0):=World.cell?_alloc_new w _ _ 0;have jG:dZ (w.alloc (.cells #[.slice A0 t.length c0] 91)) w.heap.size A0 c0 t:=⟨ha0,Kd.aN hr hb0⟩;have hcall:=S6 A1 c1 l hl _ (Kd.aN hr1 hb0) hc1;have HT:=af.mk jG;have HB:=af.mk hb0;have HL:=af.mk hr1;have HS:=af.mk hs;have wA:=af.mk hl;clear hr hr1 hs hl hb0 ha0 jG;by_cases hd:gw l=true
 case neg=>
  have hd:=Bool.eq_false_iff.2 hd;have e:kS t l=false:=by unfold kS;rw[hd];rfl
  rw[hd] at hcall;rw[e];have HC:=af.mk hcall;clear hcall hd e;go_enter Tryz.func203,Tryz.ntmps203;go_wp2_with (go_at_call 200;refine HC.o.mono ?_;rintro e w' ⟨rfl,⟨nd,rfl⟩⟩)
  go_ret;exact⟨rfl,aU HB.o (aG.below ⟨⟨_,rfl⟩⟩)⟩
 case pos=>
 rw[hd] at hcall;have HD:=af.mk hd;have HC:=af.mk hcall;clear hcall hd;go_enter Tryz.func203,Tryz.ntmps203;go_wp2_with (go_at_call 200;refine HC.o.mono ?_;rintro e w' ⟨rfl,⟨nd,rfl⟩⟩)
 go_loopg [15] l.length (fun kq v15 w'=> ∃i:Int,v15=.int .i64 i∧af (0≤i∧i≤l.length)∧af ((l.length:Int) - i≤kq)∧af (∀x y:Int,0≤y→y<x→x<i→mK t l x y=true)∧af (dZ w' w.heap.size A0 c0 t)∧af (Below w.heap.size w w'))
 case atStart=>exact⟨0,rfl,⟨ae⟩,⟨ae⟩,⟨fun x y h0 h1 h2=>ae⟩,⟨HT.o.below (aG.below ⟨⟨_,rfl⟩⟩)⟩,⟨aU HB.o (aG.below ⟨⟨_,rfl⟩⟩)⟩⟩
 case round=>
  clear HT HB HC;obtain⟨i,rfl,HI,HK,HA,HT,HB⟩:=hrel;have i0:0≤i:=HI.o.1;by_cases c6:i<(l.length:Int)
  case neg=>
   go_wp2;go_ret;exact⟨by rw[Ui HD.o fun x y y0 yx x1=>HA.o x y y0 yx (by have:=HI.o;omega)];rfl,HB.o⟩
  case pos=>
  have lC:=af.mk c6;obtain⟨ad,e1,g1⟩:=Kd.ck (Kd.aN HL.o HB.o) i i0 c6;subst e1;have hic:i≤(c1:Int):=ae;have hii:((i.toNat:Nat):Int)=i:=Int.toNat_of_nonneg i0;have HP:=af.mk (oT HD.o i0 c6);obtain⟨p,hp⟩:∃p,rd l i=p:=⟨_,rfl⟩;have z6:=af.mk hp;rw[hp] at g1 HP;clear hp;have zi:IntKind.i64.wrap (i+1)=i+1:=by rw[IntKind.wrap_i64];have:=wA.o;omega
  go_wp2;go_loopg [24] l.length (fun kq v24 w'=> ∃j:Int,v24=.int .i64 j∧af (0≤j∧j≤i)∧af (i - j≤kq)∧af (∀y:Int,0≤y→y<j→mK t l i y=true)∧af (dZ w' w.heap.size A0 c0 t)∧af (Below w.heap.size w w'))
  case atStart=>exact⟨0,rfl,⟨ae⟩,⟨ae⟩,⟨fun y h0 h1=>ae⟩,HT,HB⟩
  case round=>
   clear HT HB g1;obtain⟨j,rfl,HJ,bw,jZ,HT,HB⟩:=hrel;have j0:0≤j:=HJ.o.1;by_cases c7:j<i
   case neg=>
    have c8:¬j<((i.toNat:Nat):Int):=ae;have hj:j=i:=by have:=HJ.o;omega
    subst hj;go_wp2;go_roundg (l.length - (j.toNat+1))
    case measure=>have:=HK.o;omega
    case rel=>
     refine⟨j+1,rfl,⟨by have:=lC.o;omega⟩,⟨by have:=lC.o;omega⟩,⟨fun x y y0 yx x1=>?_⟩,HT,HB⟩;by_cases e:x=j
     ·rw[e];exact jZ.o y y0 ae
     ·exact HA.o x y y0 yx ae
   case pos=>
   have c8:j<((i.toNat:Nat):Int):=ae;have c9:j<(l.length:Int):=by have:=lC.o;omega
   have hjc:j≤(c1:Int):=ae;have hjj:((j.toNat:Nat):Int)=j:=Int.toNat_of_nonneg j0;obtain⟨kp,e1,g2⟩:=Kd.ck (Kd.aN HL.o HB.o) j j0 c9;cases e1;have hq:=oT HD.o j0 c9;have hne:=sx HD.o j0 c7 lC.o;have zj:IntKind.i64.wrap (j+1)=j+1:=by rw[IntKind.wrap_i64];have:=wA.o;omega
   have hcell:=HT.o.cell;have hto:=iL HS.o HP.o.1 HP.o.2 hq.1 hq.2 (fun e=>hne (by rw[z6.o,e]));have LN:=af.mk (adw A0 c0 t p (rd l j) wr HT.o.read hc0 (fq HS.o).1 HP.o hq);have hany:=afn t l i j0 ae;rw[z6.o] at hany;obtain⟨q,Uj⟩:∃q,rd l j=q:=⟨_,rfl⟩;rw[Uj] at g2 LN hto hany;obtain⟨jl,hjl⟩:∃jl,bh t p q=jl:=⟨_,rfl⟩;rw[hjl] at LN hto hany;have HTO:=af.mk (show bu jl from⟨hto.1,hto.2.1⟩);have HAN:=af.mk hany;have hnc:∀n,((wr.drewN n).alloc (.cells #[.int .i64 0] 3)).cell? ⟨wr.heap.size,0,none⟩=some (.int .i64 0):=fun n=>World.cell?_alloc_new (wr.drewN n) _ _ 0;have hnf:∀n,((wr.drewN n).alloc (.cells #[.int .i64 0] 3)).frozen? ⟨wr.heap.size,0,none⟩=false:=fun n=>World.frozen?_alloc_new (wr.drewN n) _ _ 0;clear hq hne hto hany Uj hjl;go_wp2_with (go_at_call 94;refine LN.o.mono ?_;rintro e w' ⟨rfl,⟨nd,rfl⟩⟩)
   generalize hW:World.setCell _ _ _=W
   have hb:Below wr.heap.size wr W:=by
    subst hW;exact mu (cS (bb (Below.refl _ _) _) _) (aH _)
   have hc:W.cell? ⟨wr.heap.size,0,none⟩=some (.int .i64 jl):=by
    subst hW;exact World.cell?_setCell_same _ _ _ (hnc _)
   have fG:=af.mk hb;have HCW:=af.mk hc;have GW:=af.mk (HT.o.below hb);have hlt:(l.take j.toNat).length=j.toNat:=by rw[List.length_take];omega
   have hcall:=F8 242 #[.pointer (some ⟨w.heap.size,0,none⟩),.pointer (some ⟨wr.heap.size,0,none⟩)] afp (fun r=>a8 t r jl) (some ad) c1 (l.take j.toNat) W
    (S5 (Kd.aN (Kd.aN HL.o HB.o) fG.o) j.toNat ae) (fun V x hV hx=>afo _ _ A0 c0 t V (GW.o.below hV) hc0 (fq HS.o).1 jl HTO.o (dH hV HCW.o) x (by
     obtain⟨k,hk,rfl⟩:=List.mem_take_iff_getElem.1 hx;rw[←jY l k ae];exact oT HD.o ae ae))
   rw[hlt,HAN.o] at hcall;have bK:=af.mk (aU HB.o hb);clear hW hb hc hlt hnc hnf;by_cases hpb:mK t l i j=true
   case pos=>
    rw[hpb] at hcall;have LO:=af.mk hpb;have HC:=af.mk hcall;clear hcall hpb;refine HC.o.mono ?_;rintro e w3 ⟨rfl,hb'⟩;have du:=af.mk (aU bK.o hb');have GS:=af.mk (GW.o.below hb');clear hb' HC GW;go_wp2;go_roundg (i.toNat - (j.toNat+1))
    case measure=>have:=bw.o;omega
    case rel=>
     refine⟨j+1,rfl,⟨ae⟩,⟨ae⟩,⟨fun y y0 y1=>?_⟩,GS,du⟩;by_cases e:y=j
     ·rw[e];exact LO.o
     ·exact jZ.o y y0 ae
   case neg=>
    have hpb:=Bool.eq_false_iff.2 hpb;rw[hpb] at hcall;have LO:=af.mk (Uh lC.o j0 c7 hpb);have HC:=af.mk hcall;clear hcall hpb;refine HC.o.mono ?_;rintro e w3 ⟨rfl,hb'⟩;have du:=af.mk (aU bK.o hb');clear hb' HC GW;go_wp2;go_ret;exact⟨by rw[LO.o];rfl,du.o⟩
end X
namespace P
def z7.f(l0 l1:List Int):Option Bool:=if X.aW l0=true∧l1.length≤1048576 then some (X.kS l0 l1) else none
theorem z7.calls(A0:Option Addr)(c0:Nat)(l0:List Int)(A1:Option Addr)(c1:Nat)(l1:List Int)(r:Bool)(w:World)(hr0:Kd.C (Kd.int .i64) w A0 l0.length l0)(hc0:l0.length≤c0)(hr1:Kd.C (Kd.int .i64) w A1 l1.length l1)(hc1:l1.length≤c1)(h:z7.f l0 l1=some r):
  Calls Tryz.prog 203 #[.slice A0 l0.length c0,.slice A1 l1.length c1] w fun e w'=>e=.returned (.bool r)∧Below w.heap.size w w':=by
 unfold z7.f at h;by_cases hn:X.aW l0=true∧l1.length≤1048576
 ·rw[ah hn] at h;obtain rfl:=au h;exact X.afq A0 c0 l0 A1 c1 l1 w hr0 hc0 hr1 hc1 hn.1 hn.2
 ·rw[ag hn] at h;exact absurd h bn
end P
namespace X
def fM(t l:List Int):Bool:=aW t&&(decide (l.length=4)&&kS t l)
theorem oZ{t l:List Int}(h:fM t l=true):aW t=true∧l.length=4∧kS t l=true:=by
 unfold fM at h;simp only[Bool.and_eq_true,decide_eq_true_eq] at h;exact h
theorem afr{l:List Int}(h:gw l=true):∀x∈l,bu x:=by
 intro x hx;obtain⟨i,hi,rfl⟩:=List.mem_iff_getElem.1 hx;rw[←jY l i hi];exact oT h ae ae
theorem Uk{t l:List Int}(h:fM t l=true):∀x∈l,bu x:=afr (GV (oZ h).2.2).1
def qe(t l:List Int):Bool:=aW t&&(decide (l.length≤10)&&l.all dE)
def rz(t l:List Int):List Int×Bool:=if qe t l=true then(fw t (dm l),true) else([],false)
theorem U6:Eg 140:=enters_of Tryz.func140 am rfl
theorem U7(p:Int)(w:World):
  Calls Tryz.prog 140 #[.int .i64 p] w fun e w'=>e=.returned (.bool (!dE p))∧Below w.heap.size w w':=by
 have HC:=af.mk (Gt p w);go_enter Tryz.func140,Tryz.ntmps140;go_wp2_with (go_at_call 49;refine HC.o.mono ?_;rintro e w' ⟨rfl,⟨nd,rfl⟩⟩)
 go_ret;exact⟨rfl,aG.below ⟨⟨_,rfl⟩⟩⟩
theorem U8(l:List Int):(l.any fun p=>!dE p)=!l.all dE:=by
 induction l with
 |nil=>rfl
 |cons a l ih=>simp[ih]
theorem agU(A0:Option Addr)(c0:Nat)(t:List Int)(A1:Option Addr)(c1:Nat)(l:List Int)(w:World)(hr:Kd.C (Kd.int .i64) w A0 t.length t)(hc0:t.length≤c0)(hr1:Kd.C (Kd.int .i64) w A1 l.length l)(h:qe t l=true):
  Calls Tryz.prog 86 #[.slice A0 t.length c0,.slice A1 l.length c1] w fun e w'=> ∃v:Value,e=.returned (.tuple #[v,.bool true])∧Kd.R (Kd.int .i64) 3 w' w.heap.size (fun _=>True) v (fw t (dm l))∧Below w.heap.size w w':=by
 unfold qe at h;simp only[Bool.and_eq_true,decide_eq_true_eq] at h;obtain⟨hs,hlen,hall⟩:=h;have hcall:=tX A0 c0 t w hr;rw[hs] at hcall;have HC:=af.mk hcall;have HR:=af.mk hr;have bN:=af.mk hr1;have HS:=af.mk hs;have HA:=af.mk hall;have d1:decide (10<(l.length:Int))=false:=aD ae;clear hcall hr hr1 hs hall hlen;go_enter Tryz.func86,Tryz.ntmps86;go_wp2_with fail
 refine HC.o.mono ?_;rintro e w1 ⟨rfl,hb1⟩;have hcall:=F8 140 #[] U6 (fun p=>!dE p) A1 c1 l w1 (Kd.aN bN.o hb1) (fun V x _ _=>U7 x V);rw[U8,HA.o] at hcall;have iB:=af.mk hcall;have bF:=af.mk hb1;clear hcall hb1 HC;go_wp2_with fail
 refine iB.o.mono ?_;rintro e w2 ⟨rfl,hb2⟩;have bK:=af.mk (aU bF.o hb2);clear hb2 iB bF;have ou:=af.mk (TT A0 c0 t A1 c1 l w2 (Kd.aN HR.o bK.o) hc0 (Kd.aN bN.o bK.o) HS.o (fun x hx=>eB.1 (List.all_eq_true.1 HA.o x hx)));go_wp2_with (go_at_call 138;refine ou.o.mono ?_;rintro e w3 ⟨v,rfl,ho,hb⟩;have HO:=af.mk ho;have du:=af.mk hb;clear ho hb)
 go_ret2
 exact⟨_,rfl,Kd.cv HO.o bK.o.size,aU bK.o du.o⟩
theorem agV(A0:Option Addr)(c0:Nat)(t:List Int)(A1:Option Addr)(c1:Nat)(l:List Int)(w:World)(hr:Kd.C (Kd.int .i64) w A0 t.length t)(hc0:t.length≤c0)(hr1:Kd.C (Kd.int .i64) w A1 l.length l)(h:qe t l=false):
  Calls Tryz.prog 86 #[.slice A0 t.length c0,.slice A1 l.length c1] w fun e w'=>e=.returned (.tuple #[.slice none 0 0,.bool false])∧Below w.heap.size w w':=by
 have hcall:=tX A0 c0 t w hr;have bN:=af.mk hr1;clear hr hr1;unfold qe at h;by_cases hs:aW t=true
 case neg=>
  rw[Bool.eq_false_iff.2 hs] at hcall;have HC:=af.mk hcall;clear hcall hs h;go_enter Tryz.func86,Tryz.ntmps86;go_wp2_with (go_at_call 40;refine HC.o.mono ?_;rintro e w' ⟨rfl,hb⟩)
  go_ret2
  exact⟨rfl,hb⟩
 case pos=>
 rw[hs] at hcall h;have HC:=af.mk hcall;clear hcall hs;by_cases hl:l.length≤10
 case neg=>
  have d1:decide (10<(l.length:Int))=true:=ap ae;clear h hl;go_enter Tryz.func86,Tryz.ntmps86;go_wp2_with (go_at_call 40;refine HC.o.mono ?_;rintro e w' ⟨rfl,hb⟩)
  go_ret2
  exact⟨rfl,hb⟩
 case pos=>
 have d1:decide (10<(l.length:Int))=false:=aD ae;have HA:=af.mk (show l.all dE=false by rw[ap hl] at h;simpa using h);clear h hl;go_enter Tryz.func86,Tryz.ntmps86;go_wp2_with fail
 refine HC.o.mono ?_;rintro e w1 ⟨rfl,hb1⟩;have hcall:=F8 140 #[] U6 (fun p=>!dE p) A1 c1 l w1 (Kd.aN bN.o hb1) (fun V x _ _=>U7 x V);rw[U8,HA.o] at hcall;have iB:=af.mk hcall;have bF:=af.mk hb1;clear hcall hb1 HC;go_wp2_with (go_at_call 120;refine iB.o.mono ?_;rintro e w2 ⟨rfl,hb2⟩)
 go_ret2
 exact⟨rfl,aU bF.o hb2⟩
end X
namespace P
def ur.f(l0 l1:List Int):Option (List Int×Bool):=some (X.rz l0 l1)
theorem ur.calls(A0:Option Addr)(c0:Nat)(l0:List Int)(A1:Option Addr)(c1:Nat)(l1:List Int)(r1:List Int)(r2:Bool)(w:World)(hr0:Kd.C (Kd.int .i64) w A0 l0.length l0)(hc0:l0.length≤c0)(hr1:Kd.C (Kd.int .i64) w A1 l1.length l1)(hc1:l1.length≤c1)(h:ur.f l0 l1=some (r1,r2)):
  Calls Tryz.prog 86 #[.slice A0 l0.length c0,.slice A1 l1.length c1] w fun e w'=> ∃bO:Value,e=.returned (.tuple #[bO,.bool r2])∧Kd.R (Kd.int .i64) 3 w' w.heap.size (fun _=>True) bO r1∧Below w.heap.size w w':=by
 unfold ur.f X.rz at h;by_cases hc:X.qe l0 l1=true
 ·rw[ah hc] at h;injection h with h
  injection h with h1 h2
  subst h1;subst h2;exact X.agU A0 c0 l0 A1 c1 l1 w hr0 hc0 hr1 hc
 ·rw[ag hc] at h;injection h with h
  injection h with h1 h2
  subst h1;subst h2;exact(X.agV A0 c0 l0 A1 c1 l1 w hr0 hc0 hr1 (Bool.eq_false_iff.2 hc)).mono fun e w' ⟨he,hb⟩=>⟨_,he,Kd.kJ _ _ _ _ _,hb⟩
end P
namespace P
open Go.Proofs.YtiobedekgnfjcaaGreatDoorW.pK
def t7.f(l0:List Int)(a1:Int):Option (List Int×Bool):=(fE.f l0).bind fun KR=>(if KR=true then((gW.f a1).bind fun KT=>(if KT=true then((zG.f l0 a1).bind fun KU=>(some (KU,true))) else(some (([]:List Int),false)))) else(some (([]:List Int),false)))
theorem t7.calls(A0:Option Addr)(c0:Nat)(l0:List Int)(a1:Int)(r1:List Int)(r2:Bool)(w:World)(hr0:Kd.C (Kd.int .i64) w A0 l0.length l0)(hc0:l0.length≤c0)(h:t7.f l0 a1=some (r1,r2)):
  Calls Tryz.prog 51 #[.slice A0 l0.length c0,.int .i64 a1] w fun e w'=> ∃bO:Value,e=.returned (.tuple #[bO,.bool r2])∧Kd.R (Kd.int .i64) 3 w' w.heap.size (fun _=>True) bO r1∧Below w.heap.size w w':=by
 have aj:=af.mk hr0;have ax:=af.mk hc0;clear hr0 hc0;have HB:=af.mk (Below.refl w.heap.size w);have H:=h;clear h;unfold t7.f at H;replace H:=aA.mp H;obtain⟨KR,bW,H⟩:=H;have A3:=af.mk bW;clear bW;by_cases c4:KR=true
 case neg=>
  replace c4:=bU c4;subst c4;rw[ag bV] at H;simp only[Option.some.injEq,Prod.mk.injEq] at H;obtain⟨rfl,rfl⟩:=H;go_enter Tryz.func51,Tryz.ntmps51;go_wp2_with ((refine aY 7 Tryz.func40 #[.slice A0 l0.length c0] ?_;(with_reducible refine(fE.calls _ _ l0 false _ ?_ ?_ A3.o).mono ?_);exact bD aj;exact ax.o;rintro e mG ⟨rfl,hb⟩;refine⟨_,rfl,?_⟩;replace HB:=aM HB hb))
  go_ret2
  exact⟨_,bE,by first|exact Kd.kJ _ _ _ _ _|exact Kd.qU _ _ _ _ _|exact Kd.qY _ _ _ _ _|exact Kd.qO _ _ _ _ _|exact Kd.oP _ _ _ _ _,ai HB⟩
 subst c4;rw[ah rfl] at H;replace H:=aA.mp H;obtain⟨KT,cY,H⟩:=H;have A5:=af.mk cY;clear cY;by_cases c6:KT=true
 case neg=>
  replace c6:=bU c6;subst c6;rw[ag bV] at H;simp only[Option.some.injEq,Prod.mk.injEq] at H;obtain⟨rfl,rfl⟩:=H;go_enter Tryz.func51,Tryz.ntmps51;go_wp2_with (first|(refine aY 7 Tryz.func40 #[.slice A0 l0.length c0] ?_;(with_reducible refine(fE.calls _ _ l0 true _ ?_ ?_ A3.o).mono ?_);exact bD aj;exact ax.o;rintro e mH ⟨rfl,hb⟩;refine⟨_,rfl,?_⟩;replace HB:=aM HB hb)|(go_at_call 49;(with_reducible refine(gW.calls a1 false _ A5.o).mono ?_);rintro e w' ⟨rfl,⟨nd,rfl⟩⟩))
  go_ret2
  exact⟨_,bE,by first|exact Kd.kJ _ _ _ _ _|exact Kd.qU _ _ _ _ _|exact Kd.qY _ _ _ _ _|exact Kd.qO _ _ _ _ _|exact Kd.oP _ _ _ _ _,ai HB⟩
 subst c6;rw[ah rfl] at H;replace H:=aA.mp H;obtain⟨KU,dy,H⟩:=H;have A7:=af.mk dy;clear dy;simp only[Option.some.injEq,Prod.mk.injEq] at H;obtain⟨rfl,rfl⟩:=H;go_enter Tryz.func51,Tryz.ntmps51;go_wp2_with (first|(refine aY 7 Tryz.func40 #[.slice A0 l0.length c0] ?_;(with_reducible refine(fE.calls _ _ l0 true _ ?_ ?_ A3.o).mono ?_);exact bD aj;exact ax.o;rintro e w8 ⟨rfl,hb⟩;refine⟨_,rfl,?_⟩;replace HB:=aM HB hb)|(go_at_call 49;(with_reducible refine(gW.calls a1 true _ A5.o).mono ?_);rintro e w' ⟨rfl,⟨nd,rfl⟩⟩)|(refine aY 16 Tryz.func93 #[.slice A0 l0.length c0,.int .i64 a1] ?_;(with_reducible refine(zG.calls _ _ l0 a1 KU _ ?bz ?bB A7.o).mono ?_);(case bz=>repeat(first|exact(Kd.aN aj.o (ai HB))|(with_reducible refine Kd.g7 ?_ _)|(with_reducible refine Kd.e8 ?_ _)|(with_reducible refine Kd.iz ?_)));(case bB=>exact ax.o);rintro e w9 ⟨aqo,rfl,ho0,hb⟩;refine⟨_,rfl,?_⟩;have adx:=af.mk (Kd.cv ho0 (aZ (ai HB)));replace HB:=aM HB hb))
 go_ret2
 exact⟨_,bE,aX adx,ai HB⟩
end P
namespace X
def Still(t:List Int)(s:Nat→Bool):Prop:=∀x,x<91→fZ t s x=s x
theorem afe(t:List Int)(s:Nat→Bool)(n:Nat):(∃m,m<n∧Still t (cZ t s m))∨n≤iY (cZ t s n):=by
 induction n with
 |zero=>exact .inr (Nat.zero_le _)
 |succ n ih=>
  rcases ih with⟨m,hm,h⟩|h
  ·exact .inl ⟨m,ae,h⟩
  ·by_cases hs:Still t (cZ t s n)
   ·exact .inl ⟨n,ae,hs⟩
   ·right
    have:∃x,x<91∧fZ t (cZ t s n) x=true∧cZ t s n x=false:=by
     apply Classical.byContradiction;intro hc;apply hs;intro x hx;cases h0:cZ t s n x with
     |true=>exact zX _ _ _ h0
     |false=>
      cases h1:fZ t (cZ t s n) x with
      |false=>rfl
      |true=>exact absurd ⟨x,hx,h1,h0⟩ hc
    obtain⟨x,hx,h1,h0⟩:=this;have:=LC (s:=cZ t s n) (s':=cZ t s (n+1)) (fun y _ hy=>zX t _ y hy) hx h1 h0;omega
theorem aff(t:List Int)(s:Nat→Bool):Still t (cZ t s 91):=by
 rcases afe t s 92 with⟨m,hm,h⟩|h
 ·intro x hx;have h1:=fun x hx=>TM h (91 - m) x hx;rw[show m+(91 - m)=91 by omega] at h1;rw[TL h1 x hx,h x hx,h1 x hx]
 ·have:=uh (cZ t s 92);omega
theorem afg(t:List Int)(s:Nat→Bool)(n:Nat)(x:Nat)(h:s x=true):cZ t s n x=true:=by
 induction n with
 |zero=>exact h
 |succ n ih=>exact zX t _ x ih
theorem T9{t:List Int}{s:Nat→Bool}{l p q:Int}(hl:bu l)(hp:bu p)(hq:bu q)(hne:p≠q)(sp:s p.toNat=true)(sq:s q.toNat=true)(a:a8 t p l=true)(b:a8 t q l=true):l∈ce t s:=by
 unfold ce;rw[pF];refine⟨hl.1,hl.2,?_⟩;have hm:∀r,bu r→s r.toNat=true→a8 t r l=true→r∈(gJ s).filter fun p=>a8 t p l:=fun r hr hs ho=>List.mem_filter.2 ⟨pF.2 ⟨hr.1,hr.2,hs⟩,ho⟩;have:=ac7 (hm p hp sp a) (hm q hq sq b) hne;unfold fL;exact ap ae
theorem afh{t L:List Int}{x:Nat}{l m:Int}(hl:l∈L)(hm:m∈L)(hne:l≠m)(e:dx t l m=(x:Int)):ug t L L.length x=true:=by
 obtain⟨i,hi,e1⟩:=List.mem_iff_getElem.1 hl;obtain⟨j,hj,e2⟩:=List.mem_iff_getElem.1 hm;have r1:rd L (i:Int)=l:=by rw[jY L i hi,e1]
 have r2:rd L (j:Int)=m:=by rw[jY L j hj,e2]
 have hij:i≠j:=fun e=>hne (by rw[←r1, ←r2,e]);unfold ug;rw[Int.toNat_natCast];simp only[List.any_eq_true,List.mem_range,decide_eq_true_eq];rcases Nat.lt_or_gt_of_ne hij with h|h
 ·exact⟨j,hj,i,h,by rw[r1,r2,ac8];exact e⟩
 ·exact⟨i,hi,j,h,by rw[r1,r2];exact e⟩
def Pt(s:Nat→Bool)(p:Int):Prop:=bu p∧s p.toNat=true
def Ln(t:List Int)(s:Nat→Bool)(l:Int):Prop:=bu l∧∃p q:Int,Pt s p∧Pt s q∧p≠q∧a8 t p l=true∧a8 t q l=true
structure Sub(t:List Int)(s:Nat→Bool):Prop where
 sys:aW t=true
 meet:∀l m:Int,Ln t s l→Ln t s m→l≠m→s (dx t l m).toNat=true
theorem afi{t:List Int}{s:Nat→Bool}(hs:aW t=true)(h:Still t s):Sub t s:=by
 refine⟨hs,fun l m hl hm hne=>?_⟩;obtain⟨hl,p,q,hp,hq,pq,a,b⟩:=hl;obtain⟨hm,r,u,hr,hu,ru,c,d⟩:=hm;have j:=tV hs hl.1 hl.2 hm.1 hm.2 hne;have h1:=afh (t:=t) (x:=(dx t l m).toNat) (T9 (s:=s) hl hp.1 hq.1 pq hp.2 hq.2 a b) (T9 (s:=s) hm hr.1 hu.1 ru hr.2 hu.2 c d) hne ae;rw[←h _ ae];unfold fZ;rw[h1,Bool.or_true]
theorem afj{t:List Int}(hs:aW t=true)(s:Nat→Bool):Sub t (cZ t s 91):=afi hs (aff t s)
namespace Sub
variable {t:List Int} {s:Nat→Bool}
theorem mt(S:Sub t s){l m:Int}(hl:Ln t s l)(hm:Ln t s m)(hne:l≠m):Pt s (dx t l m)∧a8 t (dx t l m) l=true∧a8 t (dx t l m) m=true:=by
 have j:=tV S.sys hl.1.1 hl.1.2 hm.1.1 hm.1.2 hne;exact⟨⟨⟨j.1,j.2.1⟩,S.meet l m hl hm hne⟩,j.2.2.1,j.2.2.2⟩
theorem jn(S:Sub t s){p q:Int}(hp:Pt s p)(hq:Pt s q)(hne:p≠q):Ln t s (bh t p q)∧a8 t p (bh t p q)=true∧a8 t q (bh t p q)=true:=by
 have j:=iL S.sys hp.1.1 hp.1.2 hq.1.1 hq.1.2 hne;exact⟨⟨⟨j.1,j.2.1⟩,p,q,hp,hq,hne,j.2.2.1,j.2.2.2⟩,j.2.2.1,j.2.2.2⟩
end Sub
theorem wx{t:List Int}(h:aW t=true){p q l k:Int}(hp:bu p)(hq:bu q)(hne:p≠q)(hl:bu l)(hk:bu k)(a:a8 t p l=true)(b:a8 t q l=true)(c:a8 t p k=true)(d:a8 t q k=true):l=k:=Gm h hp.1 hp.2 hq.1 hq.2 hne hl.1 hl.2 hk.1 hk.2 a b c d
theorem Db{t:List Int}(h:aW t=true){p q l k:Int}(hp:bu p)(hq:bu q)(hl:bu l)(hk:bu k)(hne:l≠k)(a:a8 t p l=true)(b:a8 t q l=true)(c:a8 t p k=true)(d:a8 t q k=true):p=q:=by
 rcases Decidable.em (p=q) with e|e
 ·exact e
 ·exact absurd (wx h hp hq e hl hk a b c d) hne
end X
namespace X
theorem Ua(f:Int→Int):∀A B:List Int,A.Nodup→(∀a∈A,f a∈B)→(∀a∈A,∀b∈A,f a=f b→a=b)→A.length≤B.length:=by
 intro A
 induction A with
 |nil=>intro B _ _ _;exact Nat.zero_le _
 |cons a A ih=>
  intro B hA hf hi;have hA':=List.nodup_cons.1 hA;have ha:=hf a List.mem_cons_self
  have h1:=ih (B.erase (f a)) hA'.2 (fun b hb=>by
   refine(List.mem_erase_of_ne ?_).2 (hf b (List.mem_cons_of_mem _ hb));intro e;have:=hi b (List.mem_cons_of_mem _ hb) a List.mem_cons_self e;exact hA'.1 (this▸hb)) (fun b hb c hc=>hi b (List.mem_cons_of_mem _ hb) c (List.mem_cons_of_mem _ hc))
  have h2:=List.length_erase_of_mem ha;have h3:=List.length_pos_of_mem ha;rw[List.length_cons];omega
theorem Ub(p:Int→Bool)(L:List Int):(L.filter p).length+(L.filter fun x=>!p x).length=L.length:=by
 induction L with
 |nil=>rfl
 |cons a L ih=>
  cases h:p a with
  |true=>rw[List.filter_cons_of_pos h,List.filter_cons_of_neg (by simp[h])];simp only[List.length_cons];omega
  |false=>rw[List.filter_cons_of_neg (by simp[h]),List.filter_cons_of_pos (by simp[h])];simp only[List.length_cons];omega
theorem afk(f:Int→Int)(n:Nat):∀B A:List Int,B.Nodup→(∀a∈A,f a∈B)→(∀b∈B,(A.filter fun a=>decide (f a=b)).length=n)→A.length=n*B.length:=by
 intro B
 induction B with
 |nil=>
  intro A _ hf _;cases A with
  |nil=>rfl
  |cons a A=>exact absurd (hf a List.mem_cons_self) bn
 |cons b B ih=>
  intro A hB hf hn;have hB':=List.nodup_cons.1 hB;have h1:=hn b List.mem_cons_self;have h2:=Ub (fun a=>decide (f a=b)) A
  have h3:=ih (A.filter fun a=>!decide (f a=b)) hB'.2 (fun a ha=>by
   have ha:=List.mem_filter.1 ha;rcases List.mem_cons.1 (hf a ha.1) with e|e
   ·rw[ap e] at ha;exact absurd ha.2 ao
   ·exact e) (fun c hc=>by
   rw[List.filter_filter, ←hn c (List.mem_cons_of_mem _ hc)];refine congrArg List.length (List.filter_congr fun a _=>?_);by_cases e:f a=c
   ·have:f a≠b:=fun e2=>hB'.1 (by rw[←e2,e];exact hc);rw[ap e,aD this];rfl
   ·rw[aD e];rfl)
  rw[List.length_cons,Nat.mul_succ];omega
theorem drop_one{L:List Int}(h:L.Nodup){x:Int}(hx:x∈L):(L.filter fun a=>!decide (a=x)).length+1=L.length:=by
 have h1:=Ub (fun a=>decide (a=x)) L
 have h2:(L.filter fun a=>decide (a=x)).length=1:=by
  have h3:=Ua id (L.filter fun a=>decide (a=x)) [x] (h.filter _) (fun a ha=>by
   have:=(List.mem_filter.1 ha).2;exact List.mem_singleton.2 (of_decide_eq_true this)) (fun a _ b _ e=>e)
  have h4:=List.length_pos_of_mem (List.mem_filter.2 ⟨hx,ap (rfl:x=x)⟩:x∈L.filter fun a=>decide (a=x));rw[List.length_singleton] at h3;omega
 omega
theorem Uc(n:Nat)(p:Int→Bool):(cH n p).Nodup:=(Kw n p).imp fun h=>by omega
def oo(t:List Int)(s:Nat→Bool)(l:Int):List Int:=(gJ s).filter fun p=>a8 t p l
theorem Dc{s:Nat→Bool}{p:Int}:p∈gJ s↔Pt s p:=by
 unfold gJ Pt bu;rw[pF]
 constructor
 ·rintro⟨a,b,c⟩;exact⟨⟨a,b⟩,c⟩
 ·rintro⟨⟨a,b⟩,c⟩;exact⟨a,b,c⟩
theorem wy{t:List Int}{s:Nat→Bool}{l p:Int}:p∈oo t s l↔Pt s p∧a8 t p l=true:=by
 unfold oo;rw[List.mem_filter,Dc]
theorem LI(t:List Int)(s:Nat→Bool)(l:Int):(oo t s l).Nodup:=(Uc 91 _).filter _
namespace Sub
variable {t:List Int} {s:Nat→Bool}
theorem Ud(S:Sub t s){o l m:Int}(ho:Pt s o)(hl:Ln t s l)(hm:Ln t s m)(ol:a8 t o l≠true)(om:a8 t o m≠true):(oo t s l).length≤(oo t s m).length:=by
 have key:∀p,Pt s p→a8 t p l=true→o≠p∧(Pt s (dx t (bh t o p) m)∧a8 t (dx t (bh t o p) m) (bh t o p)=true∧a8 t (dx t (bh t o p) m) m=true):=by
  intro p hp a;have hne:o≠p:=fun e=>ol (e▸a);obtain⟨j,j1,j2⟩:=S.jn ho hp hne;exact⟨hne,S.mt j hm fun e=>om (e▸j1)⟩
 refine Ua (fun p=>dx t (bh t o p) m) _ _ (LI t s l) (fun p hp=>?_) (fun p hp q hq e=>?_)
 ·obtain⟨hp,a⟩:=wy.1 hp;obtain⟨_,k1,_,k3⟩:=key p hp a;exact wy.2 ⟨k1,k3⟩
 ·obtain⟨hp,a⟩:=wy.1 hp;obtain⟨hq,b⟩:=wy.1 hq;obtain⟨op,k1,k2,k3⟩:=key p hp a;obtain⟨oq,i1,i2,i3⟩:=key q hq b;have e:dx t (bh t o p) m=dx t (bh t o q) m:=e;rw[←e] at i2;obtain⟨j,j1,j2⟩:=S.jn ho hp op;obtain⟨n,n1,n2⟩:=S.jn ho hq oq;have hz:o≠dx t (bh t o p) m:=fun e=>om (by rw[e];exact k3);have hjn:=wx S.sys ho.1 k1.1 hz j.1 n.1 j1 k2 n1 i2;rw[←hjn] at n2;exact Db S.sys hp.1 hq.1 hl.1 j.1 (fun e=>ol (by rw[e];exact j1)) a b j2 n2
theorem Ue(S:Sub t s){o l m:Int}(ho:Pt s o)(hl:Ln t s l)(hm:Ln t s m)(ol:a8 t o l≠true)(om:a8 t o m≠true):(oo t s l).length=(oo t s m).length:=
 Nat.le_antisymm (S.Ud ho hl hm ol om) (S.Ud ho hm hl om ol)
end Sub
structure sP(t:List Int)(s:Nat→Bool)(a b c d:Int):Prop where
 pa:Pt s a
 pb:Pt s b
 pc:Pt s c
 pd:Pt s d
 ab:a≠b
 ac:a≠c
 ad:a≠d
 bc:b≠c
 bd:b≠d
 cd:c≠d
 cab:a8 t c (bh t a b)≠true
 Uf:a8 t d (bh t a b)≠true
 LJ:a8 t d (bh t a c)≠true
 LL:a8 t d (bh t b c)≠true
namespace Sub
variable {t:List Int} {s:Nat→Bool} {a b c d:Int}
theorem afl(S:Sub t s)(Q:sP t s a b c d){m:Int}(hm:Ln t s m)(hc:a8 t c m=true):(oo t s m).length=(oo t s (bh t a b)).length:=by
 obtain⟨l,l1,l2⟩:=S.jn Q.pa Q.pb Q.ab;by_cases h:a8 t d m=true
 ·
  obtain⟨ac,ac1,Ug⟩:=S.jn Q.pa Q.pc Q.ac;obtain⟨bd,LM,GU⟩:=S.jn Q.pb Q.pd Q.bd;have ne:bh t a c≠bh t b d:=fun e=>Q.LJ (by rw[e];exact GU);obtain⟨ho,o1,o2⟩:=S.mt ac bd ne;have acl:bh t a c≠bh t a b:=fun e=>Q.cab (by rw[←e];exact Ug);have bdl:bh t b d≠bh t a b:=fun e=>Q.Uf (by rw[←e];exact GU);have acm:bh t a c≠m:=fun e=>Q.LJ (by rw[e];exact h)
  have bdm:bh t b d≠m:=fun e=>by
   have:a8 t c (bh t b d)=true:=by rw[e];exact hc
   have e2:=S.jn Q.pb Q.pc Q.bc;have:=wx S.sys Q.pb.1 Q.pc.1 Q.bc bd.1 e2.1.1 LM this e2.2.1 e2.2.2;exact Q.LL (by rw[←this];exact GU)
  refine S.Ue ho hm l (fun h1=>?_) (fun h1=>?_)
  ·have e1:=Db S.sys ho.1 Q.pc.1 ac.1 hm.1 acm o1 Ug h1 hc;rw[e1] at o2;have e2:=S.jn Q.pb Q.pc Q.bc;have:=wx S.sys Q.pb.1 Q.pc.1 Q.bc bd.1 e2.1.1 LM o2 e2.2.1 e2.2.2;exact Q.LL (by rw[←this];exact GU)
  ·have e1:=Db S.sys ho.1 Q.pa.1 ac.1 l.1 acl o1 ac1 h1 l1;have e2:=Db S.sys ho.1 Q.pb.1 bd.1 l.1 bdl o2 LM h1 l2;exact Q.ab (e1.symm.trans e2)
 ·exact S.Ue Q.pd hm l h Q.Uf
theorem count(S:Sub t s)(Q:sP t s a b c d){n:Nat}(hn:(oo t s (bh t a b)).length=n+1):iY s=n*(n+1)+1:=by
 obtain⟨l,l1,l2⟩:=S.jn Q.pa Q.pb Q.ab;have h1:=drop_one (L:=gJ s) (Uc 91 _) (Dc.2 Q.pc)
 have key:∀q,Pt s q→c≠q→Pt s (dx t (bh t c q) (bh t a b))∧a8 t (dx t (bh t c q) (bh t a b)) (bh t c q)=true∧a8 t (dx t (bh t c q) (bh t a b)) (bh t a b)=true:=by
  intro q hq hne;obtain⟨j,j1,j2⟩:=S.jn Q.pc hq hne;exact S.mt j l fun e=>Q.cab (by rw[←e];exact j1)
 have h2:=afk (fun q=>dx t (bh t c q) (bh t a b)) n (oo t s (bh t a b)) ((gJ s).filter fun x=>!decide (x=c)) (LI _ _ _) (fun q hq=>by
   obtain⟨hq,hne⟩:=List.mem_filter.1 hq;obtain⟨k1,k2,k3⟩:=key q (Dc.1 hq) (fun e=>by rw[ap e.symm] at hne;exact absurd hne ao);exact wy.2 ⟨k1,k3⟩) (fun z hz=>by
   obtain⟨hz,za⟩:=wy.1 hz;have cz:c≠z:=fun e=>Q.cab (by rw[e];exact za);obtain⟨j,j1,j2⟩:=S.jn Q.pc hz cz;have h3:=S.afl Q j j1;have h4:=drop_one (LI t s (bh t c z)) (wy.2 ⟨Q.pc,j1⟩)
   have h5:(List.filter (fun q=>decide (dx t (bh t c q) (bh t a b)=z)) (List.filter (fun x=>!decide (x=c)) (gJ s)))=(oo t s (bh t c z)).filter fun a=>!decide (a=c):=by
    unfold oo;rw[List.filter_filter,List.filter_filter];refine List.filter_congr fun q hq=>?_;have hq:=Dc.1 hq;by_cases e:q=c
    ·rw[ap e];simp
    ·obtain⟨k1,k2,k3⟩:=key q hq (fun h=>e h.symm);obtain⟨i,i1,i2⟩:=S.jn Q.pc hq (fun h=>e h.symm);rw[aD e,Bool.not_false,Bool.and_true,Bool.true_and];by_cases f:a8 t q (bh t c z)=true
     ·rw[f,decide_eq_true_iff];have e1:=wx S.sys Q.pc.1 hq.1 (fun h=>e h.symm) i.1 j.1 i1 i2 j1 f;rw[e1] at k2 k3 ⊢;exact Db S.sys (tV S.sys j.1.1 j.1.2 l.1.1 l.1.2 (fun e=>Q.cab (by rw[←e];exact j1))|>fun h=>⟨h.1,h.2.1⟩) hz.1 j.1 l.1 (fun e=>Q.cab (by rw[←e];exact j1)) k2 j2 k3 za
     ·rw[Bool.eq_false_iff.2 f,aD];intro e1;rw[e1] at k2;have e2:=wx S.sys Q.pc.1 hz.1 cz i.1 j.1 i1 k2 j1 j2;exact f (by rw[←e2];exact i2)
   rw[h5];omega)
 rw[hn] at h2;unfold iY;omega
end Sub
end X
namespace X
def GX(t l:List Int):Nat→Bool:=cZ t (dm l) 91
theorem Ul{t l:List Int}{p:Int}(hp:bu p)(h:p∈l):Pt (GX t l) p:=by
 refine⟨hp,afg t _ 91 _ ?_⟩;unfold dm;rw[Int.toNat_of_nonneg hp.1];exact ap h
theorem afs{t l:List Int}{p:Int}:p∈fw t (dm l)↔Pt (GX t l) p:=Dc
theorem aft{t:List Int}(h:aW t=true){p q r:Int}(hp:bu p)(hq:bu q)(hr:bu r)(pq:p≠q)(qr:q≠r)(pr:p≠r)(ho:a8 t p (bh t r q)=false):a8 t r (bh t p q)≠true:=by
 intro a;have j:=iL h hp.1 hp.2 hq.1 hq.2 pq;have k:=iL h hr.1 hr.2 hq.1 hq.2 (fun e=>qr e.symm);have:=wx h hr hq (fun e=>qr e.symm) ⟨j.1,j.2.1⟩ ⟨k.1,k.2.1⟩ a j.2.2.2 k.2.2.1 k.2.2.2;rw[←this,j.2.2.1] at ho;exact absurd ho ao
theorem afu{t x:List Int}(h:fM t x=true):sP t (GX t x) (rd x 0) (rd x 1) (rd x 2) (rd x 3):=by
 obtain⟨hs,h4,ha⟩:=oZ h;obtain⟨hd,ht⟩:=GV ha;have P:=fun(i:Int) (i0:0≤i) (i1:i<4)=>Ul (t:=t) (oT hd (i:=i) i0 ae) (iK (t:=x) (i:=i) ae i0);have N:=fun(i j:Int) (i0:0≤i) (ij:i<j) (j1:j<4)=>sx hd (i:=i) (j:=j) i0 ij ae
 have O:∀i j k:Int,0≤k→k<j→j<i→i<4→a8 t (rd x i) (bh t (rd x k) (rd x j))≠true:=fun i j k k0 kj ji i1=>by
  have:=ht i j k k0 kj ji ae;exact aft hs (P k k0 ae).1 (P j ae ae).1 (P i ae i1).1 (N k j k0 kj ae) (N j i ae ji i1) (N k i k0 ae i1) this
 exact⟨P 0 ae ae,P 1 ae ae,P 2 ae ae,P 3 ae ae,N 0 1 ae ae ae,N 0 2 ae ae ae,N 0 3 ae ae ae,N 1 2 ae ae ae,N 1 3 ae ae ae,N 2 3 ae ae ae,O 2 1 0 ae ae ae ae,O 3 1 0 ae ae ae ae,O 3 2 0 ae ae ae ae,O 3 2 1 ae ae ae ae⟩
theorem sP.ne1{t:List Int}{s:Nat→Bool}{a b c d:Int}(S:Sub t s)(Q:sP t s a b c d):bh t a b≠bh t c d:=fun e=>Q.cab (by rw[e];exact(S.jn Q.pc Q.pd Q.cd).2.1)
theorem sP.ne2{t:List Int}{s:Nat→Bool}{a b c d:Int}(S:Sub t s)(Q:sP t s a b c d):bh t a c≠bh t b d:=fun e=>Q.LJ (by rw[e];exact(S.jn Q.pb Q.pd Q.bd).2.2)
theorem sP.ne3{t:List Int}{s:Nat→Bool}{a b c d:Int}(S:Sub t s)(Q:sP t s a b c d):bh t a d≠bh t b c:=fun e=>Q.LL (by rw[←e];exact(S.jn Q.pa Q.pd Q.ad).2.2)
def rn(t x:List Int):List Int:=[dF t (rd x 0) (rd x 1) (rd x 2) (rd x 3),dF t (rd x 0) (rd x 2) (rd x 1) (rd x 3),dF t (rd x 0) (rd x 3) (rd x 1) (rd x 2)]
def o0(t x:List Int):List Int×Bool:=if fM t x=true then(rn t x,true) else([],false)
theorem z8{t x:List Int}(h:fM t x=true){i j:Int}(i0:0≤i)(ij:i<j)(j1:j<4):rd x i≠rd x j:=by
 obtain⟨_,h4,ha⟩:=oZ h;exact sx (GV ha).1 i0 ij ae
theorem rq{t x:List Int}(h:fM t x=true){i:Int}(i0:0≤i)(i1:i<4):bu (rd x i):=by
 obtain⟨_,h4,ha⟩:=oZ h;exact oT (GV ha).1 i0 ae
theorem GY{t x:List Int}(h:fM t x=true):bh t (rd x 0) (rd x 1)≠bh t (rd x 2) (rd x 3)∧bh t (rd x 0) (rd x 2)≠bh t (rd x 1) (rd x 3)∧bh t (rd x 0) (rd x 3)≠bh t (rd x 1) (rd x 2):=by
 have Q:=afu h;have S:Sub t (GX t x):=afj (oZ h).1 (dm x);exact⟨Q.ne1 S,Q.ne2 S,Q.ne3 S⟩
theorem z_{t x:List Int}(h:fM t x=true){i j:Int}(i0:0≤i)(ij:i<j)(j1:j<4):bu (bh t (rd x i) (rd x j)):=by
 have a:=rq h i0 (by omega:i<4);have b:=rq h (by omega:0≤j) j1;have h:=iL (oZ h).1 a.1 a.2 b.1 b.2 (z8 h i0 ij j1);exact⟨h.1,h.2.1⟩
theorem afv{t x:List Int}(h:fM t x=true):∀y∈rn t x,bu y:=by
 obtain⟨h1,h2,h3⟩:=GY h
 have M:∀l m:Int,bu l→bu m→l≠m→bu (dx t l m):=fun l m hl hm hne=>by
  have:=tV (oZ h).1 hl.1 hl.2 hm.1 hm.2 hne;exact⟨this.1,this.2.1⟩
 intro y hy;unfold rn at hy;rcases List.mem_cons.1 hy with rfl|hy
 ·exact M _ _ (z_ h ae ae ae) (z_ h ae ae ae) h1
 rcases List.mem_cons.1 hy with rfl|hy
 ·exact M _ _ (z_ h ae ae ae) (z_ h ae ae ae) h2
 rw[List.mem_singleton.1 hy];exact M _ _ (z_ h ae ae ae) (z_ h ae ae ae) h3
end X
namespace P
def sR.f(l0:List Int)(l1:List Int):Option (Bool):=if(l1.length:Int)=4 then((z7.f l0 l1).bind fun LV=>(some LV)) else(some false)
theorem sR.calls(A0:Option Addr)(c0:Nat)(l0:List Int)(A1:Option Addr)(c1:Nat)(l1:List Int)(r:Bool)(w:World)(hr0:Kd.C (Kd.int .i64) w A0 l0.length l0)(hc0:l0.length≤c0)(hr1:Kd.C (Kd.int .i64) w A1 l1.length l1)(hc1:l1.length≤c1)(h:sR.f l0 l1=some r):
  Calls Tryz.prog 136 #[.slice A0 l0.length c0,.slice A1 l1.length c1] w fun e w'=>e=.returned (.bool r)∧Below w.heap.size w w':=by
 have aj:=af.mk hr0;have ax:=af.mk hc0;clear hr0 hc0;have bN:=af.mk hr1;have cA:=af.mk hc1;clear hr1 hc1;have HB:=af.mk (Below.refl w.heap.size w);have H:=h;clear h;unfold sR.f at H;by_cases c3:(l1.length:Int)=4
 case neg=>
  rw[ag c3] at H;have eU:=cV c3;have um:=bne_iff_ne.mpr c3;obtain rfl:=au H;go_enter Tryz.func136,Tryz.ntmps136;go_wp2;go_ret;exact⟨bE,ai HB⟩
 rw[ah c3] at H;have eU:=beq_iff_eq.mpr c3;have um:=bne_eq_false_iff_eq.mpr c3;clear c3;replace H:=aA.mp H;obtain⟨LV,cX,H⟩:=H;have A4:=af.mk cX;clear cX;obtain rfl:=au H;go_enter Tryz.func136,Tryz.ntmps136;go_wp2_with ((go_at_call 203;(with_reducible refine(z7.calls _ _ l0 _ _ l1 LV _ ?bz ?bB ?cg ?cm A4.o).mono ?_);(case bz=>exact bD aj);(case bB=>exact ax.o);(case cg=>exact bD bN);(case cm=>exact cA.o);rintro e w5 ⟨rfl,hb⟩;replace HB:=aM HB hb))
 go_ret;exact⟨bE,ai HB⟩
def Dl.f(l0 l1:List Int):Option (List Int):=if X.aW l0=true∧l1.all X.dE=true then some (X.fw l0 (X.dm l1)) else none
theorem Dl.calls(A0:Option Addr)(c0:Nat)(l0:List Int)(A1:Option Addr)(c1:Nat)(l1:List Int)(r:List Int)(w:World)(hr0:Kd.C (Kd.int .i64) w A0 l0.length l0)(hc0:l0.length≤c0)(hr1:Kd.C (Kd.int .i64) w A1 l1.length l1)(hc1:l1.length≤c1)(h:Dl.f l0 l1=some r):
  Calls Tryz.prog 138 #[.slice A0 l0.length c0,.slice A1 l1.length c1] w fun e w'=> ∃bO:Value,e=.returned (bO)∧Kd.R (Kd.int .i64) 3 w' w.heap.size (fun _=>True) bO r∧Below w.heap.size w w':=by
 unfold Dl.f at h;by_cases hn:X.aW l0=true∧l1.all X.dE=true
 ·rw[ah hn] at h;obtain rfl:=au h;exact X.TT A0 c0 l0 A1 c1 l1 w hr0 hc0 hr1 hn.1 (fun x hx=>X.eB.1 (List.all_eq_true.1 hn.2 x hx))
 ·rw[ag hn] at h;exact absurd h bn
def jP.l0:Nat→List Int→List Int→Int→Option (List Int×Bool)
 |0,_,_,_=>none
 |k+1,x0,x4,x5=>if x5<9 then((lh.f k x0 x5).bind fun Qq=>(if Qq=true then(if x4.length<17592186044416 then(jP.l0 k x0 (x4++[x5]) (wrap64 (x5+1))) else none) else(jP.l0 k x0 x4 (wrap64 (x5+1))))) else(some (x4,true))
def jP.f(k:Nat)(l0:List Int):Option (List Int×Bool):=(some (([]:List Int):List Int)).bind fun Jm=>((cu.f k l0).bind fun Qr=>(if Qr=true then(jP.l0 k l0 Jm 0) else(some (Jm,false))))
theorem jP.calls(k:Nat)(A0:Option Addr)(c0:Nat)(l0:List Int)(r1:List Int)(r2:Bool)(w:World)(hr0:Kd.C (Kd.int .i64) w A0 l0.length l0)(hc0:l0.length≤c0)(h:jP.f k l0=some (r1,r2)):
  Calls Tryz.prog 102 #[.slice A0 l0.length c0] w fun e w'=> ∃bO:Value,e=.returned (.tuple #[bO,.bool r2])∧Kd.R (Kd.int .i64) 3 w' w.heap.size (fun _=>True) bO r1∧Below w.heap.size w w':=by
 have aj:=af.mk hr0;have ax:=af.mk hc0;clear hr0 hc0;have HB:=af.mk (Below.refl w.heap.size w);have H:=h;clear h;unfold jP.f at H;replace H:=lw H;obtain⟨Jm,Jn,H⟩:=H;replace H:=aA.mp H;obtain⟨Qr,cW,H⟩:=H;have A2:=af.mk cW;clear cW;by_cases c3:Qr=true
 case neg=>
  replace c3:=bU c3;subst c3;rw[ag bV] at H;simp only[Option.some.injEq,Prod.mk.injEq] at H;obtain⟨rfl,rfl⟩:=H;go_enter Tryz.func102,Tryz.ntmps102;go_wp2_with (first|((with_reducible refine db (N:=6) rfl ?_);refine Kd.dV (Kd.int .i64) _ 3 ?hg (N:=6) ?hd (xs:=([]:List Int)) (inner:=[]) (ok:=fun _=>True) (bp:=fun _=>True) ?hr ?hp (fun _ hk=>hk) trivial (Below.refl _ _) (aH _) bn ?_;(case hd=>rfl);(case hg=>rfl);(case hr=>first|(go_simp;done)|(go_simp;rfl));(case hp=>exact(aE.none _ _));intro ant sS Fh hb bq br;clear bq br;(first|rw[←Jn.o] at Fh|(simp only[Int.reduceToNat] at Fh;rw[←Jn.o] at Fh));have yl:=af.mk (Kd.cv Fh (aZ (ai HB)));replace HB:=aM HB hb;clear hb Fh)|(refine aY 8 Tryz.func118 #[.slice A0 l0.length c0] ?_;(with_reducible refine(cu.calls k _ _ l0 false _ ?_ ?_ A2.o).mono ?_);exact cG aj HB;exact ax.o;rintro e ju ⟨rfl,hb⟩;refine⟨_,rfl,?_⟩;replace yl:=af.mk (Kd.dB (aX yl) hb);replace HB:=aM HB hb))
  go_ret2
  exact⟨_,bE,aX yl,ai HB⟩
 subst c3;rw[ah rfl] at H;have H':=af.mk H;clear H;go_enter Tryz.func102,Tryz.ntmps102;go_wp2_with (first|((with_reducible refine db (N:=6) rfl ?_);refine Kd.dV (Kd.int .i64) _ 3 ?hg (N:=6) ?hd (xs:=([]:List Int)) (inner:=[]) (ok:=fun _=>True) (bp:=fun _=>True) ?hr ?hp (fun _ hk=>hk) trivial (Below.refl _ _) (aH _) bn ?_;(case hd=>rfl);(case hg=>rfl);(case hr=>first|(go_simp;done)|(go_simp;rfl));(case hp=>exact(aE.none _ _));intro ant w4 dv hb bq br;clear bq br;(first|rw[←Jn.o] at dv|(simp only[Int.reduceToNat] at dv;rw[←Jn.o] at dv));have yl:=af.mk (Kd.cv dv (aZ (ai HB)));replace HB:=aM HB hb;clear hb dv)|(refine aY 8 Tryz.func118 #[.slice A0 l0.length c0] ?_;(with_reducible refine(cu.calls k _ _ l0 true _ ?_ ?_ A2.o).mono ?_);exact cG aj HB;exact ax.o;rintro e w6 ⟨rfl,hb⟩;refine⟨_,rfl,?_⟩;replace yl:=af.mk (Kd.dB (aX yl) hb);replace HB:=aM HB hb))
 go_loopg [4,5] k (fun kq v4 v5 w'=> ∃(bx:List Int) (aw:Int),v5=.int .i64 aw∧af (jP.l0 kq l0 bx aw=some (r1,r2))∧af (kq≤k)∧af (Kd.R (Kd.int .i64) 3 w' w.heap.size (fun _=>True) v4 bx)∧af (Below w.heap.size w w'))
 case atStart=>exact⟨(Jm),(0),ak,H',⟨aH _⟩,⟨aX yl⟩,⟨ai HB⟩⟩
 case round=>
  clear H';obtain⟨bx,aw,rfl,HA,aC,cE,HB⟩:=hrel;cases gk with
  |zero=>exact absurd HA.o (by simp[jP.l0])
  |succ k1=>
   have H:=HA.o;clear HA;simp only[jP.l0] at H;by_cases c7:aw<9
   case neg=>
    rw[ag c7] at H;have eN:=aD c7;clear c7;simp only[Option.some.injEq,Prod.mk.injEq] at H;obtain⟨rfl,rfl⟩:=H;go_wp2;go_ret2
    exact⟨_,bE,aX cE,ai HB⟩
   rw[ah c7] at H;have eN:=ap c7;clear c7;replace H:=aA.mp H;obtain⟨Qq,eG,H⟩:=H;have A8:=af.mk eG;clear eG;by_cases c9:Qq=true
   case neg=>
    replace c9:=bU c9;subst c9;rw[ag bV] at H;have H':=af.mk H;clear H;go_wp2_with ((refine aY 17 Tryz.func172 #[.slice A0 l0.length c0,.int .i64 aw] ?_;(with_reducible refine(lh.calls k1 _ _ l0 aw false _ ?_ ?_ A8.o).mono ?_);exact cG aj HB;exact ax.o;rintro e w' ⟨rfl,⟨nd,rfl⟩⟩;refine⟨_,rfl,?_⟩))
    go_roundg k1
    case measure=>have:=aC.o;omega
    case rel=>exact⟨(bx),(wrap64 (aw+1)),ak,H',⟨by have:=aC.o;omega⟩,⟨aX cE⟩,⟨ai HB⟩⟩
   subst c9;rw[ah rfl] at H;by_cases c10:bx.length<17592186044416
   case neg=>
    rw[ag c10] at H;cases H
   rw[ah c10] at H;have wg:=af.mk c10;clear c10;generalize Y0:((bx++[aw]):List Int)=anu at H;have anv:=af.mk Y0.symm;clear Y0;have H':=af.mk H;clear H;go_wp2_with (first|(refine aY 17 Tryz.func172 #[.slice A0 l0.length c0,.int .i64 aw] ?_;(with_reducible refine(lh.calls k1 _ _ l0 aw true _ ?_ ?_ A8.o).mono ?_);exact cG aj HB;exact ax.o;rintro e w' ⟨rfl,⟨nd,rfl⟩⟩;refine⟨_,rfl,?_⟩)|(at_builtin;refine Kd.jW (Kd.int .i64) (w0:=w) w.heap.size rfl (.tmp 18) (.tmp 20) 31 3 (.int .i64 0) 8 rfl Tryz.underlying31 info3 rfl ao ae u4 bx aw [.int .i64 aw] (fun _=>True) (fun _=>False) rfl rfl ?aP (fun _ hk=>hk.elim) ?aF ?aO ?aB ?aS ?aL ?_;(case aP=>exact rfl);(case aB=>exact(ai HB));(case aF=>exact(fun _ _=>trivial));(case aO=>exact(aX cE));(case aS=>exact(aZ (ai HB)));(case aL=>have:=wg.o;omega);intro as9 mG ho hb hg hat;rw[←anv.o] at ho;replace HB:=af.mk (hb);have anw:=af.mk (ho);clear cE;clear ho hb hg hat))
   go_roundg k1
   case measure=>have:=aC.o;omega
   case rel=>exact⟨(anu),(wrap64 (aw+1)),ak,H',⟨by have:=aC.o;omega⟩,⟨aX anw⟩,⟨ai HB⟩⟩
def vo.f(k:Nat)(l0:List Int):Option (Bool):=(jP.f k l0).bind fun Y1=>(if Y1.2=true then(some ((Y1.1.length:Int)==9)) else(some false))
theorem vo.calls(k:Nat)(A0:Option Addr)(c0:Nat)(l0:List Int)(r:Bool)(w:World)(hr0:Kd.C (Kd.int .i64) w A0 l0.length l0)(hc0:l0.length≤c0)(h:vo.f k l0=some r):
  Calls Tryz.prog 106 #[.slice A0 l0.length c0] w fun e w'=>e=.returned (.bool r)∧Below w.heap.size w w':=by
 have aj:=af.mk hr0;have ax:=af.mk hc0;clear hr0 hc0;have HB:=af.mk (Below.refl w.heap.size w);have H:=h;clear h;unfold vo.f at H;replace H:=aA.mp H;obtain⟨⟨Y2,anx⟩,cW,H⟩:=H;have A2:=af.mk cW;clear cW;by_cases c3:anx=true
 case neg=>
  replace c3:=bU c3;subst c3;rw[ag bV] at H;obtain rfl:=au H;go_enter Tryz.func106,Tryz.ntmps106;go_wp2_with ((refine aY 7 Tryz.func102 #[.slice A0 l0.length c0] ?_;(with_reducible refine(jP.calls k _ _ l0 Y2 false _ ?_ ?_ A2.o).mono ?_);exact bD aj;exact ax.o;rintro e w6 ⟨anz,rfl,ho0,hb⟩;refine⟨_,rfl,?_⟩;have Y3:=af.mk (Kd.cv ho0 (aZ (ai HB)));replace HB:=aM HB hb))
  go_ret;exact⟨bE,ai HB⟩
 subst c3;rw[ah rfl] at H;obtain rfl:=au H;go_enter Tryz.func106,Tryz.ntmps106;go_wp2_with ((refine aY 7 Tryz.func102 #[.slice A0 l0.length c0] ?_;(with_reducible refine(jP.calls k _ _ l0 Y2 true _ ?_ ?_ A2.o).mono ?_);exact bD aj;exact ax.o;rintro e w4 ⟨anz,rfl,ho0,hb⟩;refine⟨_,rfl,?_⟩;have Y3:=af.mk (Kd.cv ho0 (aZ (ai HB)));replace HB:=aM HB hb;obtain⟨Ao5,co5,eo5⟩:=Kd.bJ Y3.o;subst eo5))
 go_ret;exact⟨bE,ai HB⟩
end P
end Go.Proofs.YtiobedekgnfjcaaGreatDoor
