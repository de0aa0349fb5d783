/- The law FnExecuteTwice of the given program: for every input the call returns true, and each argument reads afterwards as it read before. No conditions. (Part 3 of 3.) -/
import Derived.Test.YtiobedekgnfjcaaGreatDoorMD5
import Derived.Test.YtiobedekgnfjcaaGreatDoorMD6
import Derived.Test.YtiobedekgnfjcaaGreatDoorMFnExecuteTwice1
set_option linter.unusedVariables false
set_option linter.unusedSimpArgs false
set_option maxHeartbeats 8000000
set_option maxRecDepth 100000
namespace Go.Proofs.YtiobedekgnfjcaaGreatDoor
namespace P
end P
namespace X
end X
open Go.Proofs.YtiobedekgnfjcaaGreatDoor.P Go.Proofs.YtiobedekgnfjcaaGreatDoor.X Go.Proofs.YtiobedekgnfjcaaGreatDoorW.aq Go.Proofs.YtiobedekgnfjcaaGreatDoorW.ay Go.RowKit
namespace P
def km.f(k:Nat)(l0:List Int):Option (Bool):=if(l0.length:Int)>1048576 then(some true) else((gR.f k l0).bind fun jf=>((fj.f k jf).bind fun BA=>((jQ.f k jf).bind fun BD=>(if BA.toList=BD.toList then((jd.f k jf).bind fun iS=>(if(iS.size:Int)>590 then(some true) else((fj.f k iS).bind fun eS=>((jx.f k eS).bind fun cU=>(if iS.size+5≤9223372036854775807 then((fj.f k (iS++(⟨#[98,111,116,104,10]⟩:ByteArray))).bind fun cJ=>(if 0≤(wrap64 ((eS.size:Int) - (cU.size:Int))) then(if(wrap64 ((eS.size:Int) - (cU.size:Int)))≤(wrap64 ((cJ.size:Int) - (cU.size:Int))) then(if(wrap64 ((cJ.size:Int) - (cU.size:Int)))≤(cJ.size:Int) then(if iS.size+10≤9223372036854775807 then((fj.f k (iS++(⟨#[98,111,116,104,10,98,111,116,104,10]⟩:ByteArray))).bind fun FM=>(if(wrap64 ((eS.size:Int) - (cU.size:Int)))≤(eS.size:Int) then(if(eS.extract 0 ((wrap64 ((eS.size:Int) - (cU.size:Int))):Int).toNat).size+(cJ.extract ((wrap64 ((eS.size:Int) - (cU.size:Int))):Int).toNat ((wrap64 ((cJ.size:Int) - (cU.size:Int))):Int).toNat).size≤9223372036854775807 then(if((eS.extract 0 ((wrap64 ((eS.size:Int) - (cU.size:Int))):Int).toNat)++(cJ.extract ((wrap64 ((eS.size:Int) - (cU.size:Int))):Int).toNat ((wrap64 ((cJ.size:Int) - (cU.size:Int))):Int).toNat)).size+(cJ.extract ((wrap64 ((eS.size:Int) - (cU.size:Int))):Int).toNat ((wrap64 ((cJ.size:Int) - (cU.size:Int))):Int).toNat).size≤9223372036854775807 then(if(((eS.extract 0 ((wrap64 ((eS.size:Int) - (cU.size:Int))):Int).toNat)++(cJ.extract ((wrap64 ((eS.size:Int) - (cU.size:Int))):Int).toNat ((wrap64 ((cJ.size:Int) - (cU.size:Int))):Int).toNat))++(cJ.extract ((wrap64 ((eS.size:Int) - (cU.size:Int))):Int).toNat ((wrap64 ((cJ.size:Int) - (cU.size:Int))):Int).toNat)).size+cU.size≤9223372036854775807 then(some (FM.toList==((((eS.extract 0 ((wrap64 ((eS.size:Int) - (cU.size:Int))):Int).toNat)++(cJ.extract ((wrap64 ((eS.size:Int) - (cU.size:Int))):Int).toNat ((wrap64 ((cJ.size:Int) - (cU.size:Int))):Int).toNat))++(cJ.extract ((wrap64 ((eS.size:Int) - (cU.size:Int))):Int).toNat ((wrap64 ((cJ.size:Int) - (cU.size:Int))):Int).toNat))++cU).toList)) else none) else none) else none) else none)) else none) else none) else none) else none)) else none))))) else(some false)))))
def km.T15:Bool×List (List Nat×List Nat):=(true,[([],[]),([0],[0]),([1],[1]),([],[]),([],[]),([4],[4]),([],[]),([6],[6]),([5,7],[5,7]),([3,8],[3,8]),([],[]),([9,10],[9,10]),([],[]),([11,12],[11,12]),([],[]),([13,14],[13,14]),([2,15],[2,15]),([16,2,0,1,2,3,4,5,6,7,8,9,10,11,12,13,14,15,16],[16])])
def km.B15:List Nat:=[0,1,3,0,0,16,0,64,240,504,0,2040,0,8184,0,32760,65535,131071]
theorem km.ap7:fD .any (opsOf Tryz.f4 15)=km.T15:=by kernel_rfl
theorem km.ap8:nj km.T15.2 km.B15=true:=by kernel_rfl
theorem km.calls(k:Nat)(A0:Option Addr)(c0:Nat)(l0:List Int)(r:Bool)(dD:Int)(w:World)(gn:w.cell? ⟨0,0,none⟩=some (.int .i64 dD))(hr0:Kd.C (Kd.int .u8) w A0 l0.length l0)(hc0:l0.length≤c0)(h:km.f k l0=some r):
  Calls Tryz.prog 4 #[.slice A0 l0.length c0] w fun e w'=>e=.returned (.bool r)∧Below w.heap.size w w':=by
 have aj:=af.mk hr0;have ax:=af.mk hc0;clear hr0 hc0;have fm:=af.mk gn;clear gn;have HB:=af.mk (Below.refl w.heap.size w);have H:=h;clear h;unfold km.f at H;by_cases c2:(l0.length:Int)>1048576
 case neg=>
  rw[ag c2] at H;have eM:=aD c2;have mb:decide (1048576<l0.length)=false:=aD ae;clear c2;replace H:=aA.mp H;obtain⟨jf,bW,H⟩:=H;have A3:=af.mk bW;clear bW;replace H:=aA.mp H;obtain⟨BA,cX,H⟩:=H;have A4:=af.mk cX;clear cX;replace H:=aA.mp H;obtain⟨BD,cY,H⟩:=H;have A5:=af.mk cY;clear cY;by_cases c6:BA.toList=BD.toList
  case neg=>
   rw[ag c6] at H;have dU:=cV c6;have j9:=bne_iff_ne.mpr c6;obtain rfl:=au H;go_enter Tryz.func4,Tryz.ntmps4;go_wp2_with (first|(refine aY 15 Tryz.func9 #[.slice A0 l0.length c0] ?_;(with_reducible refine(gR.calls k _ _ l0 jf _ ?_ ?_ A3.o).mono ?_);exact bD aj;exact ax.o;rintro e w34 ⟨rfl,hb⟩;refine⟨_,rfl,?_⟩;replace HB:=aM HB hb)|(refine aY 17 Tryz.func10 #[.string jf] ?_;(with_reducible refine(fj.calls k jf BA dD _ ?eJ A4.o).mono ?_);(case eJ=>exact dw HB fm.o);rintro e w35 ⟨rfl,hb⟩;refine⟨_,rfl,?_⟩;replace HB:=aM HB hb)|(refine aY 19 Tryz.func11 #[.string jf] ?_;(with_reducible refine(jQ.calls k jf BD _ A5.o).mono ?_);rintro e D_ ⟨rfl,hb⟩;refine⟨_,rfl,?_⟩;replace HB:=aM HB hb))
   go_ret;exact⟨bE,ai HB⟩
  rw[ah c6] at H;have dU:=beq_iff_eq.mpr c6;have j9:=bne_eq_false_iff_eq.mpr c6;clear c6;replace H:=aA.mp H;obtain⟨iS,dy,H⟩:=H;have A7:=af.mk dy;clear dy;by_cases c8:(iS.size:Int)>590
  case neg=>
   rw[ag c8] at H;have fF:=aD c8;have td:decide (590<iS.size)=false:=aD ae;clear c8;replace H:=aA.mp H;obtain⟨eS,fI,H⟩:=H;have iW:=af.mk fI;clear fI;replace H:=aA.mp H;obtain⟨cU,nE,H⟩:=H;have p9:=af.mk nE;clear nE;by_cases c14:iS.size+5≤9223372036854775807
   case neg=>
    rw[ag c14] at H;cases H
   rw[ah c14] at H;have pV:=av c14;have Ir:=ap c14;try have apH:(9223372036854775807<iS.size+5)=False:=eq_false (Nat.not_lt.2 c14)
   replace H:=aA.mp H;obtain⟨cJ,nM,H⟩:=H;have oA:=af.mk nM;clear nM;obtain⟨da,jg⟩:∃j_:Int,(wrap64 ((eS.size:Int) - (cU.size:Int)))=j_:=⟨_,rfl⟩;replace H:(if 0≤(da) then(if(da)≤(wrap64 ((cJ.size:Int) - (cU.size:Int))) then(if(wrap64 ((cJ.size:Int) - (cU.size:Int)))≤(cJ.size:Int) then(if iS.size+10≤9223372036854775807 then((fj.f k (iS++(⟨#[98,111,116,104,10,98,111,116,104,10]⟩:ByteArray))).bind fun FM=>(if(da)≤(eS.size:Int) then(if(eS.extract 0 ((da):Int).toNat).size+(cJ.extract ((da):Int).toNat ((wrap64 ((cJ.size:Int) - (cU.size:Int))):Int).toNat).size≤9223372036854775807 then(if((eS.extract 0 ((da):Int).toNat)++(cJ.extract ((da):Int).toNat ((wrap64 ((cJ.size:Int) - (cU.size:Int))):Int).toNat)).size+(cJ.extract ((da):Int).toNat ((wrap64 ((cJ.size:Int) - (cU.size:Int))):Int).toNat).size≤9223372036854775807 then(if(((eS.extract 0 ((da):Int).toNat)++(cJ.extract ((da):Int).toNat ((wrap64 ((cJ.size:Int) - (cU.size:Int))):Int).toNat))++(cJ.extract ((da):Int).toNat ((wrap64 ((cJ.size:Int) - (cU.size:Int))):Int).toNat)).size+cU.size≤9223372036854775807 then(some (FM.toList==((((eS.extract 0 ((da):Int).toNat)++(cJ.extract ((da):Int).toNat ((wrap64 ((cJ.size:Int) - (cU.size:Int))):Int).toNat))++(cJ.extract ((da):Int).toNat ((wrap64 ((cJ.size:Int) - (cU.size:Int))):Int).toNat))++cU).toList)) else none) else none) else none) else none)) else none) else none) else none) else none)=some r:=by first|(rw[jg] at H;exact H)|(simp only[jg] at H ⊢;exact H)
   (try rw[jg] at A3)
   (try rw[jg] at A4)
   (try rw[jg] at A5)
   (try rw[jg] at A7)
   (try rw[jg] at iW)
   (try rw[jg] at p9)
   (try rw[jg] at oA)
   have ap9:(IntKind.i64.wrap ((eS.size:Int) - (cU.size:Int)))=da:=(dh _).trans jg;by_cases c17:0≤(da)
   case neg=>
    rw[ag c17] at H;cases H
   rw[ah c17] at H;have sG:=av c17;have GA:=ap c17;clear c17;by_cases c18:(da)≤(wrap64 ((cJ.size:Int) - (cU.size:Int)))
   case neg=>
    rw[ag c18] at H;cases H
   rw[ah c18] at H;have rv:=av c18;have ap_:=ap c18;clear c18;by_cases c19:(wrap64 ((cJ.size:Int) - (cU.size:Int)))≤(cJ.size:Int)
   case neg=>
    rw[ag c19] at H;cases H
   rw[ah c19] at H;have wE:=av c19;have aqa:=ap c19;clear c19;by_cases rQ:iS.size+10≤9223372036854775807
   case neg=>
    rw[ag rQ] at H;cases H
   rw[ah rQ] at H;have Ha:=av rQ;have ajw:=ap rQ;try have aty:(9223372036854775807<iS.size+10)=False:=eq_false (Nat.not_lt.2 rQ)
   replace H:=aA.mp H;obtain⟨FM,aaq,H⟩:=H;have A21:=af.mk aaq;clear aaq;have UO:=av (aJ:0≤(da));by_cases FN:(da)≤(eS.size:Int)
   case neg=>
    rw[ag FN] at H;cases H
   rw[ah FN] at H;have ah0:=av FN;have atz:=ap FN;clear FN;by_cases nQ:(eS.extract 0 ((da):Int).toNat).size+(cJ.extract ((da):Int).toNat ((wrap64 ((cJ.size:Int) - (cU.size:Int))):Int).toNat).size≤9223372036854775807
   case neg=>
    rw[ag nQ] at H;cases H
   rw[ah nQ] at H;have Hb:=av nQ;have ZH:=ap nQ;try have atA:(9223372036854775807<(eS.extract 0 ((da):Int).toNat).size+(cJ.extract ((da):Int).toNat ((wrap64 ((cJ.size:Int) - (cU.size:Int))):Int).toNat).size)=False:=eq_false (Nat.not_lt.2 nQ)
   try have atB:(9223372036854775807<((da):Int).toNat+(((wrap64 ((cJ.size:Int) - (cU.size:Int))):Int).toNat - ((da):Int).toNat))=False:=eq_false (fun h_=>by have q_:=nQ;simp only[ByteArray.size_append,ByteArray.size_extract,decide_eq_true_eq] at*;omega)
   by_cases BF:((eS.extract 0 ((da):Int).toNat)++(cJ.extract ((da):Int).toNat ((wrap64 ((cJ.size:Int) - (cU.size:Int))):Int).toNat)).size+(cJ.extract ((da):Int).toNat ((wrap64 ((cJ.size:Int) - (cU.size:Int))):Int).toNat).size≤9223372036854775807
   case neg=>
    rw[ag BF] at H;cases H
   rw[ah BF] at H;have ags:=av BF;have atC:=ap BF;try have atD:(9223372036854775807<((eS.extract 0 ((da):Int).toNat)++(cJ.extract ((da):Int).toNat ((wrap64 ((cJ.size:Int) - (cU.size:Int))):Int).toNat)).size+(cJ.extract ((da):Int).toNat ((wrap64 ((cJ.size:Int) - (cU.size:Int))):Int).toNat).size)=False:=eq_false (Nat.not_lt.2 BF)
   try have atE:(9223372036854775807<((da):Int).toNat+(((wrap64 ((cJ.size:Int) - (cU.size:Int))):Int).toNat - ((da):Int).toNat)+(((wrap64 ((cJ.size:Int) - (cU.size:Int))):Int).toNat - ((da):Int).toNat))=False:=eq_false (fun h_=>by have q_:=BF;simp only[ByteArray.size_append,ByteArray.size_extract,decide_eq_true_eq] at*;omega)
   by_cases kW:(((eS.extract 0 ((da):Int).toNat)++(cJ.extract ((da):Int).toNat ((wrap64 ((cJ.size:Int) - (cU.size:Int))):Int).toNat))++(cJ.extract ((da):Int).toNat ((wrap64 ((cJ.size:Int) - (cU.size:Int))):Int).toNat)).size+cU.size≤9223372036854775807
   case neg=>
    rw[ag kW] at H;cases H
   rw[ah kW] at H;have aiw:=av kW;have aix:=ap kW;try have atF:(9223372036854775807<(((eS.extract 0 ((da):Int).toNat)++(cJ.extract ((da):Int).toNat ((wrap64 ((cJ.size:Int) - (cU.size:Int))):Int).toNat))++(cJ.extract ((da):Int).toNat ((wrap64 ((cJ.size:Int) - (cU.size:Int))):Int).toNat)).size+cU.size)=False:=eq_false (Nat.not_lt.2 kW)
   try have atG:(9223372036854775807<((da):Int).toNat+(((wrap64 ((cJ.size:Int) - (cU.size:Int))):Int).toNat - ((da):Int).toNat)+(((wrap64 ((cJ.size:Int) - (cU.size:Int))):Int).toNat - ((da):Int).toNat)+cU.size)=False:=eq_false (fun h_=>by have q_:=kW;simp only[ByteArray.size_append,ByteArray.size_extract,decide_eq_true_eq] at*;omega)
   try have atH:(9223372036854775807<(eS.extract 0 ((da):Int).toNat).size+(cJ.extract ((da):Int).toNat ((wrap64 ((cJ.size:Int) - (cU.size:Int))):Int).toNat).size+(cJ.extract ((da):Int).toNat ((wrap64 ((cJ.size:Int) - (cU.size:Int))):Int).toNat).size+cU.size)=False:=by have q_:=kW;simp only[ByteArray.size_append] at q_;exact eq_false (Nat.not_lt.2 q_)
   obtain rfl:=au H;go_enter Tryz.func4,Tryz.ntmps4;try go_wp2_with (first|(refine aY 15 Tryz.func9 #[.slice A0 l0.length c0] ?_;(with_reducible refine(gR.calls k _ _ l0 jf _ ?_ ?_ A3.o).mono ?_);exact bD aj;exact ax.o;rintro e Ml ⟨rfl,hb⟩;refine⟨_,rfl,?_⟩;replace HB:=aM HB hb)|(refine aY 17 Tryz.func10 #[.string jf] ?_;(with_reducible refine(fj.calls k jf BA dD _ ?eJ A4.o).mono ?_);(case eJ=>exact dw HB fm.o);rintro e E5 ⟨rfl,hb⟩;refine⟨_,rfl,?_⟩;replace HB:=aM HB hb)|(refine aY 19 Tryz.func11 #[.string jf] ?_;(with_reducible refine(jQ.calls k jf BD _ A5.o).mono ?_);rintro e Q9 ⟨rfl,hb⟩;refine⟨_,rfl,?_⟩;replace HB:=aM HB hb)|(refine cx 24 Tryz.func12 #[.string jf] (jd.calls k jf iS _ A7.o) fun nd=>?_)|(refine aY 29 Tryz.func10 #[.string iS] ?_;(with_reducible refine(fj.calls k iS eS dD _ ?eJ iW.o).mono ?_);(case eJ=>exact dw HB fm.o);rintro e Ma ⟨rfl,hb⟩;refine⟨_,rfl,?_⟩;replace HB:=aM HB hb)|(refine cx 31 Tryz.func13 #[.string eS] (jx.calls k eS cU _ p9.o) fun nd=>?_)|(refine aY 34 Tryz.func10 #[.string (iS++(⟨#[98,111,116,104,10]⟩:ByteArray))] ?_;(with_reducible refine(fj.calls k (iS++(⟨#[98,111,116,104,10]⟩:ByteArray)) cJ dD _ ?eJ oA.o).mono ?_);(case eJ=>exact dw HB fm.o);rintro e qm ⟨rfl,hb⟩;refine⟨_,rfl,?_⟩;replace HB:=aM HB hb))
   replace HB:=af.mk (bR HB.o);refine jA (n:=18) (S:=fun w'=>True) (ds:=[]) #[F_,F_,F_,F_,F_,F_,F_,F_,F_,F_,F_,F_,F_,F_,F_,F_,F_,F_] am rfl rfl trivial (fun hHeld=>?_);refine nk km.ap7 km.ap8 (fun az gX=>?_);generalize qm.drew=w32 at HB hHeld ⊢;refine p_ 0 47 (m_ 18 1) az.o ?_;refine p_ 1 48 (m_ 18 3) az.o ?_;refine p_ 3 50 (m_ 18 11) az.o ?_;refine p_ 4 51 (m_ 18 27) az.o ?_;refine p_ 5 52 (m_ 18 59) az.o ?_;refine p_ 6 53 (m_ 18 123) az.o ?_;refine p_ 7 54 (m_ 18 251) az.o ?_;refine p_ 8 55 (m_ 18 507) az.o ?_;refine p_ 9 56 (m_ 18 1019) az.o ?_;refine p_ 10 57 (m_ 18 2043) az.o ?_;refine p_ 11 58 (m_ 18 4091) az.o ?_;refine p_ 12 59 (m_ 18 8187) az.o ?_;refine p_ 13 60 (m_ 18 16379) az.o ?_;refine p_ 14 61 (m_ 18 32763) az.o ?_;refine p_ 15 62 (m_ 18 65531) az.o ?_;refine fa (i:=2) (N:=some 49) (m_ 18 65535) rfl rfl (gj az.o am) ao (fun K hK=>?_);refine lV Tryz.func10 am rfl #[.string (iS++(⟨#[98,111,116,104,10,98,111,116,104,10]⟩:ByteArray))] (by rfl) rfl rfl qQ ?_;with_reducible refine(fj.calls k (iS++(⟨#[98,111,116,104,10,98,111,116,104,10]⟩:ByteArray)) FM dD _ ?eJ A21.o).mono ?_
   (case eJ=>exact dw HB fm.o)
   rintro e Hy ⟨rfl,hb⟩;refine⟨_,rfl,?_⟩;replace HB:=aM HB hb;(try clear hb)
   (try clear hb2)
   (try clear hk)
   (try clear hi)
   refine hK.out _ _ trivial (fun hHeld=>?_);clear hK K;refine fl 49 ?_;refine p_ 16 63 (m_ 18 131071) az.o ?_;refine p_ 17 2 (m_ 18 262143) az.o ?_;refine jB (ni az.o am) ?_;try go_wp2
   go_ret;exact⟨by first|rfl|(simp[mv,mw]<;>rfl)|(simp only[←jg];first|rfl|(simp[mv,mw]<;>rfl))|(simp[*,mv,mw]<;>rfl),ai HB⟩
  rw[ah c8] at H;have fF:=ap c8;have td:decide (590<iS.size)=true:=ap ae;clear c8;obtain rfl:=au H;go_enter Tryz.func4,Tryz.ntmps4;go_wp2_with (first|(refine aY 15 Tryz.func9 #[.slice A0 l0.length c0] ?_;(with_reducible refine(gR.calls k _ _ l0 jf _ ?_ ?_ A3.o).mono ?_);exact bD aj;exact ax.o;rintro e w9 ⟨rfl,hb⟩;refine⟨_,rfl,?_⟩;replace HB:=aM HB hb)|(refine aY 17 Tryz.func10 #[.string jf] ?_;(with_reducible refine(fj.calls k jf BA dD _ ?eJ A4.o).mono ?_);(case eJ=>exact dw HB fm.o);rintro e mH ⟨rfl,hb⟩;refine⟨_,rfl,?_⟩;replace HB:=aM HB hb)|(refine aY 19 Tryz.func11 #[.string jf] ?_;(with_reducible refine(jQ.calls k jf BD _ A5.o).mono ?_);rintro e mG ⟨rfl,hb⟩;refine⟨_,rfl,?_⟩;replace HB:=aM HB hb)|(refine cx 24 Tryz.func12 #[.string jf] (jd.calls k jf iS _ A7.o) fun nd=>?_))
  go_ret;exact⟨bE,ai HB⟩
 rw[ah c2] at H;have eM:=ap c2;have mb:decide (1048576<l0.length)=true:=ap ae;clear c2;obtain rfl:=au H;go_enter Tryz.func4,Tryz.ntmps4;go_wp2;go_ret;exact⟨bE,ai HB⟩
def km.Pure:Prop:=∀(l0:List Int),l0.length≤maxLen→l0.length*1≤140737488351232→(∀x∈l0,(Lit.int .u8 x).wf=true)→∃k,km.f k l0=some true
theorem km.walk(P:km.Pure)(a0:Option Addr)(iu iw:Nat)(z0:List Int)(dD:Int)(w:World)(gn:w.cell? ⟨0,0,none⟩=some (.int .i64 dD))(w0:(a0=none∧iu=0∧iw=0∧z0=[])∨∃x,a0=some x∧iu≤iw∧iw≤maxLen∧z0.length=iw∧(∀i,i<z0.length→w.cell? (x.add i)=some (.int .u8 (z0.getD i 0)))∧∀n∈z0,(Lit.int .u8 n).wf=true)(y0:iu*1≤140737488351232):
  Calls Tryz.prog 4 #[.slice a0 iu iw] w fun e w'=>e=.returned (.bool true)∧Below w.heap.size w w':=by
 obtain⟨l0,rfl,hr0,hm0,hw0,hc0⟩:=jj.JO w0;obtain⟨k,h⟩:=P l0 hm0 y0 hw0;refine(km.calls k _ _ l0 true dD w gn (Kd.BJ (d:=(0:Int)) (h1:=fun _=>rfl) hr0) hc0 h).mono ?_;rintro e w' ⟨rfl,hd⟩;exact⟨rfl,hd⟩
end P
namespace Pure
theorem FnExecuteTwice:km.Pure:=by
 intro l0 _ _ hu;refine Ev.rounds ?_;unfold km.f;obtain⟨f,hf⟩:=Jw;by_cases hb:(l0.length:Int)>1048576
 ·exact Ev.pos hb (Ev.done rfl)
 obtain⟨s,hs,es⟩:=Rn l0 hu;refine Ev.neg hb (Ev.bind es (Ev.bind (qD hf s) (Ev.bind (Ju hf s) (Ev.pos rfl ?_))));obtain⟨c,hc,ec⟩:=Ri s ae;obtain⟨⟨L,hL⟩, -⟩:=Rl (f:=f) hc;replace hL:Whole (B c).data.toList L:=by simpa [B] using hL
 refine Ev.bind ec ?_;by_cases h5:((B c).size:Int)>590
 ·exact Ev.pos h5 (Ev.done rfl)
 refine Ev.neg h5 ?_;obtain⟨ea,za,la⟩:=yR hf (s:=B c) ae;obtain⟨g,zr⟩:=Fu hf (text:=B c) ae;have ia:=qD hf (B c);have ib:=qD hf (B c++⟨#[98,111,116,104,10]⟩);have ic:=qD hf (B c++⟨#[98,111,116,104,10,98,111,116,104,10]⟩);have rb:=Rg (f:=f) hL (y:=⟨#[98,111,116,104,10]⟩) [[98,111,116,104]] rfl;have rc:=Rg (f:=f) hL (y:=⟨#[98,111,116,104,10,98,111,116,104,10]⟩) [[98,111,116,104],[98,111,116,104]] rfl;have eb:=(yR hf (s:=B c++⟨#[98,111,116,104,10]⟩) (by rw[ByteArray.size_append,show(⟨#[98,111,116,104,10]⟩:ByteArray).size=5 from rfl];omega)).1;have Rp:=(yR hf (s:=B c++⟨#[98,111,116,104,10,98,111,116,104,10]⟩) (by rw[ByteArray.size_append,show(⟨#[98,111,116,104,10,98,111,116,104,10]⟩:ByteArray).size=10 from rfl];omega)).1;obtain⟨⟨⟨t,p⟩,R⟩,hS⟩:∃S,gg f (B c)=S:=⟨_,rfl⟩;rw[hS] at ea la g zr rb rc;have st:=apW hf g;obtain⟨o,ho⟩:∃o,l6 (aW t&&l5 t)++f_=o:=⟨_,rfl⟩
 have zo:o.size≤10:=by
  rw[←ho,ByteArray.size_append];unfold l6
  split<;>decide
 have Rq:gg f (B c++⟨#[98,111,116,104,10]⟩)=((t,p),R++o):=by
  rw[rb, ←ho];exact apR R st
 have rc':gg f (B c++⟨#[98,111,116,104,10,98,111,116,104,10]⟩)=((t,p),(R++o)++o):=by
  rw[rc, ←ho];exact aam R st st
 rw[Rq] at eb;rw[rc'] at Rp;have ze:=Rk g.len;dsimp only at ea la eb Rp zr ze;rw[ea] at ia la;rw[eb] at ib;rw[Rp] at ic;obtain⟨E,hE⟩:∃E,oI p=E:=⟨_,rfl⟩;rw[hE] at ia la ib ic ze;have s1:(R++E).size=R.size+E.size:=ByteArray.size_append;have s2:(R++o).size=R.size+o.size:=ByteArray.size_append;have s3:((R++o)++E).size=R.size+o.size+E.size:=by rw[ByteArray.size_append,s2]
 have s4:((R++o)++o).size=R.size+o.size+o.size:=by rw[ByteArray.size_append,s2]
 have wa:wrap64 (((R++E).size:Int) - (E.size:Int))=(R.size:Int):=by rw[bI ae ae];omega
 have wb:wrap64 ((((R++o)++E).size:Int) - (E.size:Int))=((R++o).size:Int):=by rw[bI ae ae];omega
 refine Ev.bind ia (Ev.bind la (Ev.pos ae (Ev.bind ib ?_)));rw[wa,wb];have x1:(R++E).extract 0 (R.size:Int).toNat=R:=FH (by rw[Lib.extract_data,oK,List.drop_zero,Int.toNat_natCast,Nat.sub_zero,Lib.size_eq,List.take_left])
 have x2:((R++o)++E).extract (R.size:Int).toNat ((R++o).size:Int).toNat=o:=FH (by
  rw[Lib.extract_data,oK (R++o) E,oK R o,Int.toNat_natCast,Int.toNat_natCast,s2,List.append_assoc,Lib.size_eq R,List.drop_left,Nat.add_sub_cancel_left,Lib.size_eq o,List.take_left])
 rw[x1,x2];refine Ev.pos ae (Ev.pos ae (Ev.pos ae (Ev.pos ae (Ev.bind ic ?_))));refine Ev.pos ae (Ev.pos ae (Ev.pos ae (Ev.pos ae (Ev.done ?_))));simp
end Pure
end Go.Proofs.YtiobedekgnfjcaaGreatDoor
namespace Go.Proofs.YtiobedekgnfjcaaGreatDoor.fnExecuteTwice
open Go.ChangeShapes Go.WideShapes Go.ChangeAt Go.RowKit
open Go.ChangeMaps (open_string shut_string)
theorem own:ownKnob Tryz.prog.godebug=none:=by kernel_rfl
theorem laidOut:laidOutB Tryz.prog=true:=by kernel_rfl
def FI(k:IntKind)(w:World)(a:Option Addr)(len cap:Nat)(zs:List Int):Prop:=
 (a=none∧len=0∧cap=0∧zs=[])∨
 ∃x,a=some x∧len≤cap∧cap≤maxLen∧zs.length=cap∧(∀i,i<zs.length→w.cell? (x.add i)=some (.int k (zs.getD i 0)))∧∀n∈zs,(Lit.int k n).wf=true
theorem lifted(os:Os)(started:os.Started)(H:Type)(enc:TypeId×Value→H):
  ReturnsInHanded {} Tryz.checked os 4 .any (fun w args=>(Rows.fnExecuteTwiceSpec.pre enc Tryz.prog Tryz.f4 Rows.fnExecuteTwiceRow.domain false w args∧laidMetH Tryz.prog Rows.fnExecuteTwiceRow.laid w)∧sizedMet enc Tryz.prog Tryz.f4 (OpenSpec.ofChange Rows.fnExecuteTwiceSpec) false w args) (Rows.fnExecuteTwiceSpec.post enc Tryz.prog Tryz.f4 false true false false):=by
 refine X.Jx (C:=Tryz.checked) (X:=fun w _=>laidMetH Tryz.prog Rows.fnExecuteTwiceRow.laid w) (fun _ _ _ hh h=>h.of_heap hh) own started am Tryz.func4
  (ChangeSpec.witness_shaped (enc:=enc) (C:=Tryz.checked) (os:=os) (X:=fun w _=>laidMetH Tryz.prog Rows.fnExecuteTwiceRow.laid w) false (World.laidAll Tryz.prog os Rows.fnExecuteTwiceRow.laid) #[.slice none 0 0] 8 (World.laidAll_os _ _ _)
   (World.shaped_of_ZipB am am) am am am
   (by rw[MakeChecks.laidMetH_plain _ _ _ am];exact laidMet_laidAll _ am am)) ?_
 intro W base args ds gs before qF hW hcnd qG _ hsh _;obtain⟨dD,gn⟩:=Tryz.laysM146.s1_3 W hsh;have hsz:(DataW.weightsEach Tryz.prog (Tryz.f4.params.toList++Rows.fnExecuteTwiceSpec.plain.varTypes Tryz.prog) (ds++gs)).all (·≤reachBytes)=true:=qG;have hval:∀(j:Nat) t v,Tryz.f4.params[j]?=some t→args[j]?=some v→Value.okWide Tryz.prog W .any base t v:=qF;have hW':=hW;obtain⟨p,q,qH,hV,rfl,hfz,hnd⟩:=hW;have hA:DataW.TrodAll enc Tryz.prog W 0 (fun _=>true) true Tryz.f4.params.toList args.toList ds p:=qH;rw[Tryz.params4] at hA hval hsz;obtain⟨v0,QT,d0,QU,p0,q0,hargs,rfl,rfl,h0,r0⟩:=trodAll_cons hA;obtain⟨rfl,rfl,rfl⟩:=trodAll_nil r0;obtain rfl:args=#[v0]:=by cases args;simp_all
 obtain⟨rfl,rfl⟩:=trodVars_none hV;obtain⟨a0,iu,iw,rfl⟩:=okWide_slice Tryz.underlying22 (hval 0 22 v0 rfl rfl);have k0:=h0;have FJ:∀x∈p0,x.block<W.heap.size:=by obtain⟨m,hm⟩:=k0;exact DataW.trod_lt m _ _ _ hm
 obtain⟨z0,w0⟩:∃zs,FI .u8 W a0 iu iw zs:=by
  obtain⟨fuel,hf⟩:=h0;rcases open_ints Tryz.underlying22 Tryz.underlying5 am hf with⟨hcs,_⟩|⟨x,l,c,zs,hcs,_,hl,hm,hz,_,hcell,FL⟩
  ·simp[Value.cells] at hcs;obtain⟨rfl,rfl,rfl⟩:=hcs;exact⟨[],.inl ⟨rfl,rfl,rfl,rfl⟩⟩
  ·simp[Value.cells] at hcs;obtain⟨rfl,rfl,rfl⟩:=hcs;exact⟨zs,.inr ⟨_,rfl,hl,hm,by simpa using hz,hcell,FL⟩⟩
 have y0:iu*1≤140737488351232:=Go.Proofs.YtiobedekgnfjcaaGreatDoorW.aq.Ro hsz (j:=0) (t:=22) rfl rfl Tryz.underlying22 Tryz.underlying5 am am h0;clear qH qF qG hsz;refine(P.km.walk Pure.FnExecuteTwice a0 iu iw z0 dD W gn w0 y0).mono fun e W' ⟨he,sc⟩=>?_;subst he;exact⟨_,rfl,_,_,_,[],_,[],hW',trodAll_mk1 (shut_bool Tryz.underlying4 _),(trodAll_cons_mk (Below.trod laidOut am (of_decide_eq_true am) k0 sc FJ) trodAll_mk0),rfl,sc.frame _,fun h=>by cases h⟩
theorem over:Rows.FnExecuteTwiceSaid:=yH lifted
theorem card:Rows.FnExecuteTwiceCardSaid:=yM over
#print axioms card
end Go.Proofs.YtiobedekgnfjcaaGreatDoor.fnExecuteTwice
namespace Go.Proofs.YtiobedekgnfjcaaGreatDoor
theorem fnExecuteTwice_holds:Rows.FnExecuteTwiceCardSaid:=fnExecuteTwice.card
end Go.Proofs.YtiobedekgnfjcaaGreatDoor
