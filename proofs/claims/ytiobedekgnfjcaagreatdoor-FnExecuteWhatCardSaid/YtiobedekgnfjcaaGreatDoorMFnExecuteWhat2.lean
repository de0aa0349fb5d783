/- The law FnExecuteWhat of the given program: for every input the call returns true, and each argument reads afterwards as it read before. No conditions. (Part 3 of 3.) -/
import Derived.Test.YtiobedekgnfjcaaGreatDoorMD5
import Derived.Test.YtiobedekgnfjcaaGreatDoorMD6
import Derived.Test.YtiobedekgnfjcaaGreatDoorMFnExecuteWhat1
set_option linter.unusedVariables false
set_option linter.unusedSimpArgs false
set_option maxHeartbeats 8000000
set_option maxRecDepth 100000
namespace Go.Proofs.YtiobedekgnfjcaaGreatDoor
namespace P
end P
namespace X
end X
open Go.Proofs.YtiobedekgnfjcaaGreatDoor.P Go.Proofs.YtiobedekgnfjcaaGreatDoor.X Go.Proofs.YtiobedekgnfjcaaGreatDoorW.aq Go.Proofs.YtiobedekgnfjcaaGreatDoorW.ay Go.RowKit
namespace P
def kn.f(k:Nat)(l0:List Int):Option (Bool):=if(l0.length:Int)>1048576 then(some true) else((gR.f k l0).bind fun jh=>((fj.f k jh).bind fun BG=>((jQ.f k jh).bind fun BH=>(if BG.toList=BH.toList then((jd.f k jh).bind fun mq=>(if(mq.size:Int)>589 then(some true) else((fj.f k mq).bind fun gu=>(if mq.size+11≤9223372036854775807 then((fj.f k (mq++(⟨#[122,122,122,10,107,105,110,100,32,120,10]⟩:ByteArray))).bind fun JF=>((jx.f k gu).bind fun tD=>(if 0≤(wrap64 ((gu.size:Int) - (tD.size:Int))) then(if(wrap64 ((gu.size:Int) - (tD.size:Int)))≤(gu.size:Int) then(if(gu.extract 0 ((wrap64 ((gu.size:Int) - (tD.size:Int))):Int).toNat).size+8≤9223372036854775807 then((jx.f k gu).bind fun qM=>(if((gu.extract 0 ((wrap64 ((gu.size:Int) - (tD.size:Int))):Int).toNat)++(⟨#[119,104,97,116,10,110,111,10]⟩:ByteArray)).size+qM.size≤9223372036854775807 then(some (JF.toList==(((gu.extract 0 ((wrap64 ((gu.size:Int) - (tD.size:Int))):Int).toNat)++(⟨#[119,104,97,116,10,110,111,10]⟩:ByteArray))++qM).toList)) else none)) else none) else none) else none))) else none)))) else(some false)))))
def kn.T12:Bool×List (List Nat×List Nat):=(true,[([],[]),([0],[0]),([1],[1]),([],[]),([],[]),([4],[4]),([],[]),([6,2],[6]),([7],[7]),([5,8],[5,8]),([3,9],[3,9]),([10],[10]),([],[]),([12,7],[12]),([11,13],[11,13]),([2,14],[2,14]),([15,13,0,1,2,3,4,5,6,7,8,9,10,11,12,13,14,15],[15])])
def kn.B12:List Nat:=[0,1,3,0,0,16,0,71,199,503,1023,2047,0,4295,16383,32767,65535]
theorem kn.aqb:fD .any (opsOf Tryz.f5 12)=kn.T12:=by kernel_rfl
theorem kn.aqc:nj kn.T12.2 kn.B12=true:=by kernel_rfl
theorem kn.calls(k:Nat)(A0:Option Addr)(c0:Nat)(l0:List Int)(r:Bool)(dD:Int)(w:World)(gn:w.cell? ⟨0,0,none⟩=some (.int .i64 dD))(hr0:Kd.C (Kd.int .u8) w A0 l0.length l0)(hc0:l0.length≤c0)(h:kn.f k l0=some r):
  Calls Tryz.prog 5 #[.slice A0 l0.length c0] w fun e w'=>e=.returned (.bool r)∧Below w.heap.size w w':=by
 have aj:=af.mk hr0;have ax:=af.mk hc0;clear hr0 hc0;have fm:=af.mk gn;clear gn;have HB:=af.mk (Below.refl w.heap.size w);have H:=h;clear h;unfold kn.f at H;by_cases c2:(l0.length:Int)>1048576
 case neg=>
  rw[ag c2] at H;have eM:=aD c2;have mb:decide (1048576<l0.length)=false:=aD ae;clear c2;replace H:=aA.mp H;obtain⟨jh,bW,H⟩:=H;have A3:=af.mk bW;clear bW;replace H:=aA.mp H;obtain⟨BG,cX,H⟩:=H;have A4:=af.mk cX;clear cX;replace H:=aA.mp H;obtain⟨BH,cY,H⟩:=H;have A5:=af.mk cY;clear cY;by_cases c6:BG.toList=BH.toList
  case neg=>
   rw[ag c6] at H;have dU:=cV c6;have j9:=bne_iff_ne.mpr c6;obtain rfl:=au H;go_enter Tryz.func5,Tryz.ntmps5;go_wp2_with (first|(refine aY 12 Tryz.func9 #[.slice A0 l0.length c0] ?_;(with_reducible refine(gR.calls k _ _ l0 jh _ ?_ ?_ A3.o).mono ?_);exact bD aj;exact ax.o;rintro e E5 ⟨rfl,hb⟩;refine⟨_,rfl,?_⟩;replace HB:=aM HB hb)|(refine aY 14 Tryz.func10 #[.string jh] ?_;(with_reducible refine(fj.calls k jh BG dD _ ?eJ A4.o).mono ?_);(case eJ=>exact dw HB fm.o);rintro e Q9 ⟨rfl,hb⟩;refine⟨_,rfl,?_⟩;replace HB:=aM HB hb)|(refine aY 16 Tryz.func11 #[.string jh] ?_;(with_reducible refine(jQ.calls k jh BH _ A5.o).mono ?_);rintro e Ma ⟨rfl,hb⟩;refine⟨_,rfl,?_⟩;replace HB:=aM HB hb))
   go_ret;exact⟨bE,ai HB⟩
  rw[ah c6] at H;have dU:=beq_iff_eq.mpr c6;have j9:=bne_eq_false_iff_eq.mpr c6;clear c6;replace H:=aA.mp H;obtain⟨mq,dy,H⟩:=H;have A7:=af.mk dy;clear dy;by_cases c8:(mq.size:Int)>589
  case neg=>
   rw[ag c8] at H;have fF:=aD c8;have td:decide (589<mq.size)=false:=aD ae;clear c8;replace H:=aA.mp H;obtain⟨gu,fI,H⟩:=H;have iW:=af.mk fI;clear fI;by_cases c13:mq.size+11≤9223372036854775807
   case neg=>
    rw[ag c13] at H;cases H
   rw[ah c13] at H;have j6:=av c13;have tS:=ap c13;try have Ou:(9223372036854775807<mq.size+11)=False:=eq_false (Nat.not_lt.2 c13)
   replace H:=aA.mp H;obtain⟨JF,Cl,H⟩:=H;have Cm:=af.mk Cl;clear Cl;replace H:=aA.mp H;obtain⟨tD,nM,H⟩:=H;have oA:=af.mk nM;clear nM;obtain⟨da,jg⟩:∃j_:Int,(wrap64 ((gu.size:Int) - (tD.size:Int)))=j_:=⟨_,rfl⟩;replace H:(if 0≤(da) then(if(da)≤(gu.size:Int) then(if(gu.extract 0 ((da):Int).toNat).size+8≤9223372036854775807 then((jx.f k gu).bind fun qM=>(if((gu.extract 0 ((da):Int).toNat)++(⟨#[119,104,97,116,10,110,111,10]⟩:ByteArray)).size+qM.size≤9223372036854775807 then(some (JF.toList==(((gu.extract 0 ((da):Int).toNat)++(⟨#[119,104,97,116,10,110,111,10]⟩:ByteArray))++qM).toList)) else none)) else none) else none) else none)=some r:=by first|(rw[jg] at H;exact H)|(simp only[jg] at H ⊢;exact H)
   (try rw[jg] at A3)
   (try rw[jg] at A4)
   (try rw[jg] at A5)
   (try rw[jg] at A7)
   (try rw[jg] at iW)
   (try rw[jg] at Cm)
   (try rw[jg] at oA)
   have ap9:(IntKind.i64.wrap ((gu.size:Int) - (tD.size:Int)))=da:=(dh _).trans jg;by_cases c17:0≤(da)
   case neg=>
    rw[ag c17] at H;cases H
   rw[ah c17] at H;have sG:=av c17;have GA:=ap c17;clear c17;by_cases c18:(da)≤(gu.size:Int)
   case neg=>
    rw[ag c18] at H;cases H
   rw[ah c18] at H;have rv:=av c18;have ap_:=ap c18;clear c18;by_cases c19:(gu.extract 0 ((da):Int).toNat).size+8≤9223372036854775807
   case neg=>
    rw[ag c19] at H;cases H
   rw[ah c19] at H;have wE:=av c19;have aqa:=ap c19;try have atI:(9223372036854775807<(gu.extract 0 ((da):Int).toNat).size+8)=False:=eq_false (Nat.not_lt.2 c19)
   try have atJ:(9223372036854775807<((da):Int).toNat+8)=False:=eq_false (fun h_=>by have q_:=c19;simp only[ByteArray.size_append,ByteArray.size_extract,decide_eq_true_eq] at*;omega)
   replace H:=aA.mp H;obtain⟨qM,pW,H⟩:=H;have cW:=af.mk pW;clear pW;by_cases fN:((gu.extract 0 ((da):Int).toNat)++(⟨#[119,104,97,116,10,110,111,10]⟩:ByteArray)).size+qM.size≤9223372036854775807
   case neg=>
    rw[ag fN] at H;cases H
   rw[ah fN] at H;have UN:=av fN;have atK:=ap fN;try have atM:(9223372036854775807<((gu.extract 0 ((da):Int).toNat)++(⟨#[119,104,97,116,10,110,111,10]⟩:ByteArray)).size+qM.size)=False:=eq_false (Nat.not_lt.2 fN)
   try have atN:(9223372036854775807<((da):Int).toNat+8+qM.size)=False:=eq_false (fun h_=>by have z0_:(⟨#[119,104,97,116,10,110,111,10]⟩:ByteArray).size=8:=rfl;have q_:=fN;simp only[ByteArray.size_append,ByteArray.size_extract,decide_eq_true_eq] at*;omega)
   try have atO:(9223372036854775807<(gu.extract 0 ((da):Int).toNat).size+8+qM.size)=False:=by have q_:=fN;simp only[ByteArray.size_append] at q_;exact eq_false (Nat.not_lt.2 q_)
   obtain rfl:=au H;go_enter Tryz.func5,Tryz.ntmps5;try go_wp2_with (first|(refine aY 12 Tryz.func9 #[.slice A0 l0.length c0] ?_;(with_reducible refine(gR.calls k _ _ l0 jh _ ?_ ?_ A3.o).mono ?_);exact bD aj;exact ax.o;rintro e ny ⟨rfl,hb⟩;refine⟨_,rfl,?_⟩;replace HB:=aM HB hb)|(refine aY 14 Tryz.func10 #[.string jh] ?_;(with_reducible refine(fj.calls k jh BG dD _ ?eJ A4.o).mono ?_);(case eJ=>exact dw HB fm.o);rintro e xx ⟨rfl,hb⟩;refine⟨_,rfl,?_⟩;replace HB:=aM HB hb)|(refine aY 16 Tryz.func11 #[.string jh] ?_;(with_reducible refine(jQ.calls k jh BH _ A5.o).mono ?_);rintro e Ok ⟨rfl,hb⟩;refine⟨_,rfl,?_⟩;replace HB:=aM HB hb)|(refine cx 21 Tryz.func12 #[.string jh] (jd.calls k jh mq _ A7.o) fun nd=>?_)|(refine aY 26 Tryz.func10 #[.string mq] ?_;(with_reducible refine(fj.calls k mq gu dD _ ?eJ iW.o).mono ?_);(case eJ=>exact dw HB fm.o);rintro e Ep ⟨rfl,hb⟩;refine⟨_,rfl,?_⟩;replace HB:=aM HB hb))
   replace HB:=af.mk (bR HB.o);refine jA (n:=17) (S:=fun w'=>True) (ds:=[]) #[F_,F_,F_,F_,F_,F_,F_,F_,F_,F_,F_,F_,F_,F_,F_,F_,F_] am rfl rfl trivial (fun hHeld=>?_);refine nk kn.aqb kn.aqc (fun az gX=>?_);generalize Ep.drew=w26 at HB hHeld ⊢;refine p_ 0 27 (m_ 17 1) az.o ?_;refine p_ 1 28 (m_ 17 3) az.o ?_;refine p_ 3 30 (m_ 17 11) az.o ?_;refine p_ 4 31 (m_ 17 27) az.o ?_;refine p_ 5 32 (m_ 17 59) az.o ?_;refine p_ 6 33 (m_ 17 123) az.o ?_;refine p_ 12 39 (m_ 17 4219) az.o ?_;refine fa (i:=2) (N:=some 29) (m_ 17 4223) rfl rfl (gj az.o am) ao (fun K hK=>?_);refine lV Tryz.func10 am rfl #[.string (mq++(⟨#[122,122,122,10,107,105,110,100,32,120,10]⟩:ByteArray))] (by rfl) rfl rfl qQ ?_;with_reducible refine(fj.calls k (mq++(⟨#[122,122,122,10,107,105,110,100,32,120,10]⟩:ByteArray)) JF dD _ ?eJ Cm.o).mono ?_
   (case eJ=>exact dw HB fm.o)
   rintro e Ml ⟨rfl,hb⟩;refine⟨_,rfl,?_⟩;replace HB:=aM HB hb;(try clear hb)
   (try clear hb2)
   (try clear hk)
   (try clear hi)
   refine hK.out _ _ trivial (fun hHeld=>?_);clear hK K;refine fl 29 ?_;refine fa (i:=7) (N:=some 34) (m_ 17 4351) rfl rfl (gj az.o am) ao (fun K hK=>?_);refine lV Tryz.func13 am rfl #[.string gu] (by rfl) rfl rfl qQ ?_;with_reducible refine(jx.calls k gu tD _ oA.o).mono ?_
   rintro e w' ⟨rfl,⟨nd,rfl⟩⟩;refine⟨_,rfl,?_⟩;refine hK.out _ _ trivial (fun hHeld=>?_);clear hK K;refine fl 34 ?_;refine p_ 8 35 (m_ 17 4607) az.o ?_;refine p_ 9 36 (m_ 17 5119) az.o ?_;refine p_ 10 37 (m_ 17 6143) az.o ?_;refine p_ 11 38 (m_ 17 8191) az.o ?_;refine fa (i:=13) (N:=some 40) (m_ 17 16383) rfl rfl (gj az.o am) ao (fun K hK=>?_);refine lV Tryz.func13 am rfl #[.string gu] (by rfl) rfl rfl qQ ?_;with_reducible refine(jx.calls k gu qM _ cW.o).mono ?_
   rintro e w' ⟨rfl,⟨nd,rfl⟩⟩;refine⟨_,rfl,?_⟩;refine hK.out _ _ trivial (fun hHeld=>?_);clear hK K;refine fl 40 ?_;refine p_ 14 41 (m_ 17 32767) az.o ?_;refine p_ 15 42 (m_ 17 65535) az.o ?_;refine p_ 16 2 (m_ 17 131071) az.o ?_;refine jB (ni az.o am) ?_;try go_wp2
   go_ret;exact⟨by first|rfl|(simp[mv,mw]<;>rfl)|(simp only[←jg];first|rfl|(simp[mv,mw]<;>rfl))|(simp[*,mv,mw]<;>rfl),ai HB⟩
  rw[ah c8] at H;have fF:=ap c8;have td:decide (589<mq.size)=true:=ap ae;clear c8;obtain rfl:=au H;go_enter Tryz.func5,Tryz.ntmps5;go_wp2_with (first|(refine aY 12 Tryz.func9 #[.slice A0 l0.length c0] ?_;(with_reducible refine(gR.calls k _ _ l0 jh _ ?_ ?_ A3.o).mono ?_);exact bD aj;exact ax.o;rintro e w9 ⟨rfl,hb⟩;refine⟨_,rfl,?_⟩;replace HB:=aM HB hb)|(refine aY 14 Tryz.func10 #[.string jh] ?_;(with_reducible refine(fj.calls k jh BG dD _ ?eJ A4.o).mono ?_);(case eJ=>exact dw HB fm.o);rintro e mH ⟨rfl,hb⟩;refine⟨_,rfl,?_⟩;replace HB:=aM HB hb)|(refine aY 16 Tryz.func11 #[.string jh] ?_;(with_reducible refine(jQ.calls k jh BH _ A5.o).mono ?_);rintro e mG ⟨rfl,hb⟩;refine⟨_,rfl,?_⟩;replace HB:=aM HB hb)|(refine cx 21 Tryz.func12 #[.string jh] (jd.calls k jh mq _ A7.o) fun nd=>?_))
  go_ret;exact⟨bE,ai HB⟩
 rw[ah c2] at H;have eM:=ap c2;have mb:decide (1048576<l0.length)=true:=ap ae;clear c2;obtain rfl:=au H;go_enter Tryz.func5,Tryz.ntmps5;go_wp2;go_ret;exact⟨bE,ai HB⟩
def kn.Pure:Prop:=∀(l0:List Int),l0.length≤maxLen→l0.length*1≤140737488351232→(∀x∈l0,(Lit.int .u8 x).wf=true)→∃k,kn.f k l0=some true
theorem kn.walk(P:kn.Pure)(a0:Option Addr)(iu iw:Nat)(z0:List Int)(dD:Int)(w:World)(gn:w.cell? ⟨0,0,none⟩=some (.int .i64 dD))(w0:(a0=none∧iu=0∧iw=0∧z0=[])∨∃x,a0=some x∧iu≤iw∧iw≤maxLen∧z0.length=iw∧(∀i,i<z0.length→w.cell? (x.add i)=some (.int .u8 (z0.getD i 0)))∧∀n∈z0,(Lit.int .u8 n).wf=true)(y0:iu*1≤140737488351232):
  Calls Tryz.prog 5 #[.slice a0 iu iw] w fun e w'=>e=.returned (.bool true)∧Below w.heap.size w w':=by
 obtain⟨l0,rfl,hr0,hm0,hw0,hc0⟩:=jj.JO w0;obtain⟨k,h⟩:=P l0 hm0 y0 hw0;refine(kn.calls k _ _ l0 true dD w gn (Kd.BJ (d:=(0:Int)) (h1:=fun _=>rfl) hr0) hc0 h).mono ?_;rintro e w' ⟨rfl,hd⟩;exact⟨rfl,hd⟩
end P
namespace Pure
theorem FnExecuteWhat:kn.Pure:=by
 intro l0 _ _ hu;refine Ev.rounds ?_;unfold kn.f;obtain⟨f,hf⟩:=Jw;by_cases hb:(l0.length:Int)>1048576
 ·exact Ev.pos hb (Ev.done rfl)
 obtain⟨s,hs,es⟩:=Rn l0 hu;refine Ev.neg hb (Ev.bind es (Ev.bind (qD hf s) (Ev.bind (Ju hf s) (Ev.pos rfl ?_))));obtain⟨c,hc,ec⟩:=Ri s ae;obtain⟨⟨L,hL⟩, -⟩:=Rl (f:=f) hc;replace hL:Whole (B c).data.toList L:=by simpa [B] using hL
 refine Ev.bind ec ?_;by_cases h5:((B c).size:Int)>589
 ·exact Ev.pos h5 (Ev.done rfl)
 refine Ev.neg h5 ?_;obtain⟨ea,za,la⟩:=yR hf (s:=B c) ae;obtain⟨g,zr⟩:=Fu hf (text:=B c) ae;have ia:=qD hf (B c);have ib:=qD hf (B c++⟨#[122,122,122,10,107,105,110,100,32,120,10]⟩);have rb:=Rg (f:=f) hL (y:=⟨#[122,122,122,10,107,105,110,100,32,120,10]⟩) [[122,122,122],[107,105,110,100,32,120]] rfl;have eb:=(yR hf (s:=B c++⟨#[122,122,122,10,107,105,110,100,32,120,10]⟩) (by rw[ByteArray.size_append,show(⟨#[122,122,122,10,107,105,110,100,32,120,10]⟩:ByteArray).size=11 from rfl];omega)).1;obtain⟨⟨⟨t,p⟩,R⟩,hS⟩:∃S,gg f (B c)=S:=⟨_,rfl⟩;rw[hS] at ea la g zr rb
 have Rq:gg f (B c++⟨#[122,122,122,10,107,105,110,100,32,120,10]⟩)=((t,p),R++⟨#[119,104,97,116,10,110,111,10]⟩):=by
  rw[rb];refine(aam R (apV hf g) (apX hf g)).trans ?_;rw[ByteArray.append_assoc];rfl
 rw[Rq] at eb;have ze:=Rk g.len;dsimp only at ea la eb zr ze;rw[ea] at ia la;rw[eb] at ib;obtain⟨E,hE⟩:∃E,oI p=E:=⟨_,rfl⟩;rw[hE] at ia la ib ze;have s1:(R++E).size=R.size+E.size:=ByteArray.size_append;have s2:(R++(⟨#[119,104,97,116,10,110,111,10]⟩:ByteArray)).size=R.size+8:=ByteArray.size_append;have wa:wrap64 (((R++E).size:Int) - (E.size:Int))=(R.size:Int):=by rw[bI ae ae];omega
 refine Ev.bind ia (Ev.pos ae (Ev.bind ib (Ev.bind la ?_)));rw[wa];have x1:(R++E).extract 0 (R.size:Int).toNat=R:=FH (by rw[Lib.extract_data,oK,List.drop_zero,Int.toNat_natCast,Nat.sub_zero,Lib.size_eq,List.take_left]);rw[x1];refine Ev.pos ae (Ev.pos ae (Ev.pos ae (Ev.bind la (Ev.pos ae (Ev.done ?_)))));simp
end Pure
end Go.Proofs.YtiobedekgnfjcaaGreatDoor
namespace Go.Proofs.YtiobedekgnfjcaaGreatDoor.fnExecuteWhat
open Go.ChangeShapes Go.WideShapes Go.ChangeAt Go.RowKit
open Go.ChangeMaps (open_string shut_string)
theorem own:ownKnob Tryz.prog.godebug=none:=by kernel_rfl
theorem laidOut:laidOutB Tryz.prog=true:=by kernel_rfl
def FI(k:IntKind)(w:World)(a:Option Addr)(len cap:Nat)(zs:List Int):Prop:=
 (a=none∧len=0∧cap=0∧zs=[])∨
 ∃x,a=some x∧len≤cap∧cap≤maxLen∧zs.length=cap∧(∀i,i<zs.length→w.cell? (x.add i)=some (.int k (zs.getD i 0)))∧∀n∈zs,(Lit.int k n).wf=true
theorem lifted(os:Os)(started:os.Started)(H:Type)(enc:TypeId×Value→H):
  ReturnsInHanded {} Tryz.checked os 5 .any (fun w args=>(Rows.fnExecuteWhatSpec.pre enc Tryz.prog Tryz.f5 Rows.fnExecuteWhatRow.domain false w args∧laidMetH Tryz.prog Rows.fnExecuteWhatRow.laid w)∧sizedMet enc Tryz.prog Tryz.f5 (OpenSpec.ofChange Rows.fnExecuteWhatSpec) false w args) (Rows.fnExecuteWhatSpec.post enc Tryz.prog Tryz.f5 false true false false):=by
 refine X.Jx (C:=Tryz.checked) (X:=fun w _=>laidMetH Tryz.prog Rows.fnExecuteWhatRow.laid w) (fun _ _ _ hh h=>h.of_heap hh) own started am Tryz.func5
  (ChangeSpec.witness_shaped (enc:=enc) (C:=Tryz.checked) (os:=os) (X:=fun w _=>laidMetH Tryz.prog Rows.fnExecuteWhatRow.laid w) false (World.laidAll Tryz.prog os Rows.fnExecuteWhatRow.laid) #[.slice none 0 0] 8 (World.laidAll_os _ _ _)
   (World.shaped_of_ZipB am am) am am am
   (by rw[MakeChecks.laidMetH_plain _ _ _ am];exact laidMet_laidAll _ am am)) ?_
 intro W base args ds gs before qF hW hcnd qG _ hsh _;obtain⟨dD,gn⟩:=Tryz.laysM146.s1_3 W hsh;have hsz:(DataW.weightsEach Tryz.prog (Tryz.f5.params.toList++Rows.fnExecuteWhatSpec.plain.varTypes Tryz.prog) (ds++gs)).all (·≤reachBytes)=true:=qG;have hval:∀(j:Nat) t v,Tryz.f5.params[j]?=some t→args[j]?=some v→Value.okWide Tryz.prog W .any base t v:=qF;have hW':=hW;obtain⟨p,q,qH,hV,rfl,hfz,hnd⟩:=hW;have hA:DataW.TrodAll enc Tryz.prog W 0 (fun _=>true) true Tryz.f5.params.toList args.toList ds p:=qH;rw[Tryz.params5] at hA hval hsz;obtain⟨v0,QT,d0,QU,p0,q0,hargs,rfl,rfl,h0,r0⟩:=trodAll_cons hA;obtain⟨rfl,rfl,rfl⟩:=trodAll_nil r0;obtain rfl:args=#[v0]:=by cases args;simp_all
 obtain⟨rfl,rfl⟩:=trodVars_none hV;obtain⟨a0,iu,iw,rfl⟩:=okWide_slice Tryz.underlying22 (hval 0 22 v0 rfl rfl);have k0:=h0;have FJ:∀x∈p0,x.block<W.heap.size:=by obtain⟨m,hm⟩:=k0;exact DataW.trod_lt m _ _ _ hm
 obtain⟨z0,w0⟩:∃zs,FI .u8 W a0 iu iw zs:=by
  obtain⟨fuel,hf⟩:=h0;rcases open_ints Tryz.underlying22 Tryz.underlying5 am hf with⟨hcs,_⟩|⟨x,l,c,zs,hcs,_,hl,hm,hz,_,hcell,FL⟩
  ·simp[Value.cells] at hcs;obtain⟨rfl,rfl,rfl⟩:=hcs;exact⟨[],.inl ⟨rfl,rfl,rfl,rfl⟩⟩
  ·simp[Value.cells] at hcs;obtain⟨rfl,rfl,rfl⟩:=hcs;exact⟨zs,.inr ⟨_,rfl,hl,hm,by simpa using hz,hcell,FL⟩⟩
 have y0:iu*1≤140737488351232:=Go.Proofs.YtiobedekgnfjcaaGreatDoorW.aq.Ro hsz (j:=0) (t:=22) rfl rfl Tryz.underlying22 Tryz.underlying5 am am h0;clear qH qF qG hsz;refine(P.kn.walk Pure.FnExecuteWhat a0 iu iw z0 dD W gn w0 y0).mono fun e W' ⟨he,sc⟩=>?_;subst he;exact⟨_,rfl,_,_,_,[],_,[],hW',trodAll_mk1 (shut_bool Tryz.underlying4 _),(trodAll_cons_mk (Below.trod laidOut am (of_decide_eq_true am) k0 sc FJ) trodAll_mk0),rfl,sc.frame _,fun h=>by cases h⟩
theorem over:Rows.FnExecuteWhatSaid:=yH lifted
theorem card:Rows.FnExecuteWhatCardSaid:=yM over
#print axioms card
end Go.Proofs.YtiobedekgnfjcaaGreatDoor.fnExecuteWhat
namespace Go.Proofs.YtiobedekgnfjcaaGreatDoor
theorem fnExecuteWhat_holds:Rows.FnExecuteWhatCardSaid:=fnExecuteWhat.card
end Go.Proofs.YtiobedekgnfjcaaGreatDoor
