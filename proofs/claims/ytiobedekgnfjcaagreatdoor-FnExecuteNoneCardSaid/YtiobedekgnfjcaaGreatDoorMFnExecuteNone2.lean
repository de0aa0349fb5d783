/- The law FnExecuteNone of the given program: for every input the call returns true, and each argument reads afterwards as it read before. No conditions. (Part 3 of 3.) -/
import Derived.Test.YtiobedekgnfjcaaGreatDoorMD5
import Derived.Test.YtiobedekgnfjcaaGreatDoorMD6
import Derived.Test.YtiobedekgnfjcaaGreatDoorMFnExecuteNone1
set_option linter.unusedVariables false
set_option linter.unusedSimpArgs false
set_option maxHeartbeats 8000000
set_option maxRecDepth 100000
namespace Go.Proofs.YtiobedekgnfjcaaGreatDoor
namespace P
end P
namespace X
end X
open Go.Proofs.YtiobedekgnfjcaaGreatDoor.P Go.Proofs.YtiobedekgnfjcaaGreatDoor.X Go.Proofs.YtiobedekgnfjcaaGreatDoorW.aq Go.Proofs.YtiobedekgnfjcaaGreatDoorW.ay Go.RowKit
namespace P
def qL.f(k:Nat)(l0:List Int):Option (Bool):=if(l0.length:Int)>1048576 then(some true) else((gR.f k l0).bind fun fC=>((fj.f k fC).bind fun pz=>((jQ.f k fC).bind fun vv=>(if pz.toList=vv.toList then(if(fC.size:Int)>600 then(some (pz.toList==([116,111,111,32,108,111,110,103,10]:List UInt8))) else(if pz.toList=([]:List UInt8) then(some false) else((fj.f k (⟨#[]⟩:ByteArray)).bind fun FG=>(if FG.toList=([112,111,105,110,116,115,32,48,10]:List UInt8) then((jd.f k fC).bind fun JD=>((fj.f k JD).bind fun Rf=>(some (Rf.toList==pz.toList)))) else(some false))))) else(some false)))))
theorem qL.calls(k:Nat)(A0:Option Addr)(c0:Nat)(l0:List Int)(r:Bool)(dD:Int)(w:World)(gn:w.cell? ⟨0,0,none⟩=some (.int .i64 dD))(hr0:Kd.C (Kd.int .u8) w A0 l0.length l0)(hc0:l0.length≤c0)(h:qL.f k l0=some r):
  Calls Tryz.prog 3 #[.slice A0 l0.length c0] w fun e w'=>e=.returned (.bool r)∧Below w.heap.size w w':=by
 have aj:=af.mk hr0;have ax:=af.mk hc0;clear hr0 hc0;have fm:=af.mk gn;clear gn;have HB:=af.mk (Below.refl w.heap.size w);have H:=h;clear h;unfold qL.f at H;by_cases c2:(l0.length:Int)>1048576
 case neg=>
  rw[ag c2] at H;have eM:=aD c2;have mb:decide (1048576<l0.length)=false:=aD ae;clear c2;replace H:=aA.mp H;obtain⟨fC,bW,H⟩:=H;have A3:=af.mk bW;clear bW;replace H:=aA.mp H;obtain⟨pz,cX,H⟩:=H;have A4:=af.mk cX;clear cX;replace H:=aA.mp H;obtain⟨vv,cY,H⟩:=H;have A5:=af.mk cY;clear cY;by_cases c6:pz.toList=vv.toList
  case neg=>
   rw[ag c6] at H;have dU:=cV c6;have j9:=bne_iff_ne.mpr c6;obtain rfl:=au H;go_enter Tryz.func3,Tryz.ntmps3;go_wp2_with (first|(refine aY 10 Tryz.func9 #[.slice A0 l0.length c0] ?_;(with_reducible refine(gR.calls k _ _ l0 fC _ ?_ ?_ A3.o).mono ?_);exact bD aj;exact ax.o;rintro e E5 ⟨rfl,hb⟩;refine⟨_,rfl,?_⟩;replace HB:=aM HB hb)|(refine aY 12 Tryz.func10 #[.string fC] ?_;(with_reducible refine(fj.calls k fC pz dD _ ?eJ A4.o).mono ?_);(case eJ=>exact dw HB fm.o);rintro e Q9 ⟨rfl,hb⟩;refine⟨_,rfl,?_⟩;replace HB:=aM HB hb)|(refine aY 14 Tryz.func11 #[.string fC] ?_;(with_reducible refine(jQ.calls k fC vv _ A5.o).mono ?_);rintro e Ma ⟨rfl,hb⟩;refine⟨_,rfl,?_⟩;replace HB:=aM HB hb))
   go_ret;exact⟨bE,ai HB⟩
  rw[ah c6] at H;have dU:=beq_iff_eq.mpr c6;have j9:=bne_eq_false_iff_eq.mpr c6;clear c6;by_cases c7:(fC.size:Int)>600
  case neg=>
   rw[ag c7] at H;have eN:=aD c7;have pT:decide (600<fC.size)=false:=aD ae;clear c7;by_cases c11:pz.toList=([]:List UInt8)
   case neg=>
    rw[ag c11] at H;have j5:=cV c11;have zT:=bne_iff_ne.mpr c11;replace H:=aA.mp H;obtain⟨FG,nM,H⟩:=H;have oA:=af.mk nM;clear nM;by_cases c16:FG.toList=([112,111,105,110,116,115,32,48,10]:List UInt8)
    case neg=>
     rw[ag c16] at H;have oh:=cV c16;have OO:=bne_iff_ne.mpr c16;obtain rfl:=au H;go_enter Tryz.func3,Tryz.ntmps3;go_wp2_with (first|(refine aY 10 Tryz.func9 #[.slice A0 l0.length c0] ?_;(with_reducible refine(gR.calls k _ _ l0 fC _ ?_ ?_ A3.o).mono ?_);exact bD aj;exact ax.o;rintro e Ok ⟨rfl,hb⟩;refine⟨_,rfl,?_⟩;replace HB:=aM HB hb)|(refine aY 12 Tryz.func10 #[.string fC] ?_;(with_reducible refine(fj.calls k fC pz dD _ ?eJ A4.o).mono ?_);(case eJ=>exact dw HB fm.o);rintro e Ep ⟨rfl,hb⟩;refine⟨_,rfl,?_⟩;replace HB:=aM HB hb)|(refine aY 14 Tryz.func11 #[.string fC] ?_;(with_reducible refine(jQ.calls k fC vv _ A5.o).mono ?_);rintro e w26 ⟨rfl,hb⟩;refine⟨_,rfl,?_⟩;replace HB:=aM HB hb)|(go_at_call 10;(with_reducible refine(fj.calls k (⟨#[]⟩:ByteArray) FG dD _ ?eJ oA.o).mono ?_);(case eJ=>exact dw HB fm.o);rintro e Ml ⟨rfl,hb⟩;replace HB:=aM HB hb))
     go_ret;exact⟨bE,ai HB⟩
    rw[ah c16] at H;have oh:=beq_iff_eq.mpr c16;have OO:=bne_eq_false_iff_eq.mpr c16;clear c16;replace H:=aA.mp H;obtain⟨JD,qv,H⟩:=H;have rR:=af.mk qv;clear qv;replace H:=aA.mp H;obtain⟨Rf,Ez,H⟩:=H;have OP:=af.mk Ez;clear Ez;obtain rfl:=au H;go_enter Tryz.func3,Tryz.ntmps3;go_wp2_with (first|(refine aY 10 Tryz.func9 #[.slice A0 l0.length c0] ?_;(with_reducible refine(gR.calls k _ _ l0 fC _ ?_ ?_ A3.o).mono ?_);exact bD aj;exact ax.o;rintro e tU ⟨rfl,hb⟩;refine⟨_,rfl,?_⟩;replace HB:=aM HB hb)|(refine aY 12 Tryz.func10 #[.string fC] ?_;(with_reducible refine(fj.calls k fC pz dD _ ?eJ A4.o).mono ?_);(case eJ=>exact dw HB fm.o);rintro e Co ⟨rfl,hb⟩;refine⟨_,rfl,?_⟩;replace HB:=aM HB hb)|(refine aY 14 Tryz.func11 #[.string fC] ?_;(with_reducible refine(jQ.calls k fC vv _ A5.o).mono ?_);rintro e Kq ⟨rfl,hb⟩;refine⟨_,rfl,?_⟩;replace HB:=aM HB hb)|(go_at_call 10;(with_reducible refine(fj.calls k (⟨#[]⟩:ByteArray) FG dD _ ?eJ oA.o).mono ?_);(case eJ=>exact dw HB fm.o);rintro e ny ⟨rfl,hb⟩;replace HB:=aM HB hb)|(go_at_call 12;(with_reducible refine(jd.calls k fC JD _ rR.o).mono ?_);rintro e w' ⟨rfl,⟨nd,rfl⟩⟩)|(go_at_call 10;(with_reducible refine(fj.calls k JD Rf dD _ ?eJ OP.o).mono ?_);(case eJ=>exact dw HB fm.o);rintro e xx ⟨rfl,hb⟩;replace HB:=aM HB hb))
    go_ret;exact⟨bE,ai HB⟩
   rw[ah c11] at H;have j5:=beq_iff_eq.mpr c11;have zT:=bne_eq_false_iff_eq.mpr c11;clear c11;obtain rfl:=au H;go_enter Tryz.func3,Tryz.ntmps3;go_wp2_with (first|(refine aY 10 Tryz.func9 #[.slice A0 l0.length c0] ?_;(with_reducible refine(gR.calls k _ _ l0 fC _ ?_ ?_ A3.o).mono ?_);exact bD aj;exact ax.o;rintro e sS ⟨rfl,hb⟩;refine⟨_,rfl,?_⟩;replace HB:=aM HB hb)|(refine aY 12 Tryz.func10 #[.string fC] ?_;(with_reducible refine(fj.calls k fC pz dD _ ?eJ A4.o).mono ?_);(case eJ=>exact dw HB fm.o);rintro e rk ⟨rfl,hb⟩;refine⟨_,rfl,?_⟩;replace HB:=aM HB hb)|(refine aY 14 Tryz.func11 #[.string fC] ?_;(with_reducible refine(jQ.calls k fC vv _ A5.o).mono ?_);rintro e ju ⟨rfl,hb⟩;refine⟨_,rfl,?_⟩;replace HB:=aM HB hb))
   go_ret;exact⟨bE,ai HB⟩
  rw[ah c7] at H;have eN:=ap c7;have pT:decide (600<fC.size)=true:=ap ae;clear c7;obtain rfl:=au H;go_enter Tryz.func3,Tryz.ntmps3;go_wp2_with (first|(refine aY 10 Tryz.func9 #[.slice A0 l0.length c0] ?_;(with_reducible refine(gR.calls k _ _ l0 fC _ ?_ ?_ A3.o).mono ?_);exact bD aj;exact ax.o;rintro e w8 ⟨rfl,hb⟩;refine⟨_,rfl,?_⟩;replace HB:=aM HB hb)|(refine aY 12 Tryz.func10 #[.string fC] ?_;(with_reducible refine(fj.calls k fC pz dD _ ?eJ A4.o).mono ?_);(case eJ=>exact dw HB fm.o);rintro e w9 ⟨rfl,hb⟩;refine⟨_,rfl,?_⟩;replace HB:=aM HB hb)|(refine aY 14 Tryz.func11 #[.string fC] ?_;(with_reducible refine(jQ.calls k fC vv _ A5.o).mono ?_);rintro e mH ⟨rfl,hb⟩;refine⟨_,rfl,?_⟩;replace HB:=aM HB hb))
  go_ret;exact⟨bE,ai HB⟩
 rw[ah c2] at H;have eM:=ap c2;have mb:decide (1048576<l0.length)=true:=ap ae;clear c2;obtain rfl:=au H;go_enter Tryz.func3,Tryz.ntmps3;go_wp2;go_ret;exact⟨bE,ai HB⟩
def qL.Pure:Prop:=∀(l0:List Int),l0.length≤maxLen→l0.length*1≤140737488351232→(∀x∈l0,(Lit.int .u8 x).wf=true)→∃k,qL.f k l0=some true
theorem qL.walk(P:qL.Pure)(a0:Option Addr)(iu iw:Nat)(z0:List Int)(dD:Int)(w:World)(gn:w.cell? ⟨0,0,none⟩=some (.int .i64 dD))(w0:(a0=none∧iu=0∧iw=0∧z0=[])∨∃x,a0=some x∧iu≤iw∧iw≤maxLen∧z0.length=iw∧(∀i,i<z0.length→w.cell? (x.add i)=some (.int .u8 (z0.getD i 0)))∧∀n∈z0,(Lit.int .u8 n).wf=true)(y0:iu*1≤140737488351232):
  Calls Tryz.prog 3 #[.slice a0 iu iw] w fun e w'=>e=.returned (.bool true)∧Below w.heap.size w w':=by
 obtain⟨l0,rfl,hr0,hm0,hw0,hc0⟩:=jj.JO w0;obtain⟨k,h⟩:=P l0 hm0 y0 hw0;refine(qL.calls k _ _ l0 true dD w gn (Kd.BJ (d:=(0:Int)) (h1:=fun _=>rfl) hr0) hc0 h).mono ?_;rintro e w' ⟨rfl,hd⟩;exact⟨rfl,hd⟩
end P
namespace Pure
theorem FnExecuteNone:qL.Pure:=by
 intro l0 _ _ hu;refine Ev.rounds ?_;unfold qL.f;obtain⟨f,hf⟩:=Jw;by_cases hb:(l0.length:Int)>1048576
 ·exact Ev.pos hb (Ev.done rfl)
 obtain⟨s,hs,es⟩:=Rn l0 hu;refine Ev.neg hb (Ev.bind es (Ev.bind (qD hf s) (Ev.bind (Ju hf s) (Ev.pos rfl ?_))));by_cases h6:(s.size:Int)>600
 ·refine Ev.pos h6 (Ev.done ?_);rw[show py f s=Zv from ag ae,ByteArray.toList_eq];rfl
 have e1:=(yR hf (s:=s) ae).1;refine Ev.neg h6 (Ev.neg ?_ ?_)
 ·rw[ByteArray.toList_eq,e1,oK,Rj];simp
 have e0:py f ⟨#[]⟩=⟨#[]⟩++oI []:=by
  unfold py;rw[ah ao,JE (L:=[]) rfl];rfl
 refine Ev.bind (qD hf ⟨#[]⟩) (Ev.pos ?_ ?_)
 ·rw[e0,ByteArray.toList_eq];rfl
 obtain⟨c,hc,ec⟩:=Ri s ae;have hz:=ap2 hc;refine Ev.bind ec (Ev.bind (qD hf (B c)) (Ev.done ?_));rw[(yR hf (s:=B c) ae).1,e1,(Rl hc).2];simp
end Pure
end Go.Proofs.YtiobedekgnfjcaaGreatDoor
namespace Go.Proofs.YtiobedekgnfjcaaGreatDoor.fnExecuteNone
open Go.ChangeShapes Go.WideShapes Go.ChangeAt Go.RowKit
open Go.ChangeMaps (open_string shut_string)
theorem own:ownKnob Tryz.prog.godebug=none:=by kernel_rfl
theorem laidOut:laidOutB Tryz.prog=true:=by kernel_rfl
def FI(k:IntKind)(w:World)(a:Option Addr)(len cap:Nat)(zs:List Int):Prop:=
 (a=none∧len=0∧cap=0∧zs=[])∨
 ∃x,a=some x∧len≤cap∧cap≤maxLen∧zs.length=cap∧(∀i,i<zs.length→w.cell? (x.add i)=some (.int k (zs.getD i 0)))∧∀n∈zs,(Lit.int k n).wf=true
theorem lifted(os:Os)(started:os.Started)(H:Type)(enc:TypeId×Value→H):
  ReturnsInHanded {} Tryz.checked os 3 .any (fun w args=>(Rows.fnExecuteNoneSpec.pre enc Tryz.prog Tryz.f3 Rows.fnExecuteNoneRow.domain false w args∧laidMetH Tryz.prog Rows.fnExecuteNoneRow.laid w)∧sizedMet enc Tryz.prog Tryz.f3 (OpenSpec.ofChange Rows.fnExecuteNoneSpec) false w args) (Rows.fnExecuteNoneSpec.post enc Tryz.prog Tryz.f3 false true false false):=by
 refine X.Jx (C:=Tryz.checked) (X:=fun w _=>laidMetH Tryz.prog Rows.fnExecuteNoneRow.laid w) (fun _ _ _ hh h=>h.of_heap hh) own started am Tryz.func3
  (ChangeSpec.witness_shaped (enc:=enc) (C:=Tryz.checked) (os:=os) (X:=fun w _=>laidMetH Tryz.prog Rows.fnExecuteNoneRow.laid w) false (World.laidAll Tryz.prog os Rows.fnExecuteNoneRow.laid) #[.slice none 0 0] 8 (World.laidAll_os _ _ _)
   (World.shaped_of_ZipB am am) am am am
   (by rw[MakeChecks.laidMetH_plain _ _ _ am];exact laidMet_laidAll _ am am)) ?_
 intro W base args ds gs before qF hW hcnd qG _ hsh _;obtain⟨dD,gn⟩:=Tryz.laysM146.s1_3 W hsh;have hsz:(DataW.weightsEach Tryz.prog (Tryz.f3.params.toList++Rows.fnExecuteNoneSpec.plain.varTypes Tryz.prog) (ds++gs)).all (·≤reachBytes)=true:=qG;have hval:∀(j:Nat) t v,Tryz.f3.params[j]?=some t→args[j]?=some v→Value.okWide Tryz.prog W .any base t v:=qF;have hW':=hW;obtain⟨p,q,qH,hV,rfl,hfz,hnd⟩:=hW;have hA:DataW.TrodAll enc Tryz.prog W 0 (fun _=>true) true Tryz.f3.params.toList args.toList ds p:=qH;rw[Tryz.params3] at hA hval hsz;obtain⟨v0,QT,d0,QU,p0,q0,hargs,rfl,rfl,h0,r0⟩:=trodAll_cons hA;obtain⟨rfl,rfl,rfl⟩:=trodAll_nil r0;obtain rfl:args=#[v0]:=by cases args;simp_all
 obtain⟨rfl,rfl⟩:=trodVars_none hV;obtain⟨a0,iu,iw,rfl⟩:=okWide_slice Tryz.underlying22 (hval 0 22 v0 rfl rfl);have k0:=h0;have FJ:∀x∈p0,x.block<W.heap.size:=by obtain⟨m,hm⟩:=k0;exact DataW.trod_lt m _ _ _ hm
 obtain⟨z0,w0⟩:∃zs,FI .u8 W a0 iu iw zs:=by
  obtain⟨fuel,hf⟩:=h0;rcases open_ints Tryz.underlying22 Tryz.underlying5 am hf with⟨hcs,_⟩|⟨x,l,c,zs,hcs,_,hl,hm,hz,_,hcell,FL⟩
  ·simp[Value.cells] at hcs;obtain⟨rfl,rfl,rfl⟩:=hcs;exact⟨[],.inl ⟨rfl,rfl,rfl,rfl⟩⟩
  ·simp[Value.cells] at hcs;obtain⟨rfl,rfl,rfl⟩:=hcs;exact⟨zs,.inr ⟨_,rfl,hl,hm,by simpa using hz,hcell,FL⟩⟩
 have y0:iu*1≤140737488351232:=Go.Proofs.YtiobedekgnfjcaaGreatDoorW.aq.Ro hsz (j:=0) (t:=22) rfl rfl Tryz.underlying22 Tryz.underlying5 am am h0;clear qH qF qG hsz;refine(P.qL.walk Pure.FnExecuteNone a0 iu iw z0 dD W gn w0 y0).mono fun e W' ⟨he,sc⟩=>?_;subst he;exact⟨_,rfl,_,_,_,[],_,[],hW',trodAll_mk1 (shut_bool Tryz.underlying4 _),(trodAll_cons_mk (Below.trod laidOut am (of_decide_eq_true am) k0 sc FJ) trodAll_mk0),rfl,sc.frame _,fun h=>by cases h⟩
theorem over:Rows.FnExecuteNoneSaid:=yH lifted
theorem card:Rows.FnExecuteNoneCardSaid:=yM over
#print axioms card
end Go.Proofs.YtiobedekgnfjcaaGreatDoor.fnExecuteNone
namespace Go.Proofs.YtiobedekgnfjcaaGreatDoor
theorem fnExecuteNone_holds:Rows.FnExecuteNoneCardSaid:=fnExecuteNone.card
end Go.Proofs.YtiobedekgnfjcaaGreatDoor
