/- The law FnExactExecute of the given program: for every input the call returns true, and each argument reads afterwards as it read before. No conditions. (Part 3 of 3.) -/
import Derived.Test.YtiobedekgnfjcaaGreatDoorME27
import Derived.Test.YtiobedekgnfjcaaGreatDoorMFnExactExecute1
set_option linter.unusedVariables false
set_option linter.unusedSimpArgs false
set_option maxHeartbeats 8000000
set_option maxRecDepth 100000
namespace Go.Proofs.YtiobedekgnfjcaaGreatDoor
namespace P
end P
namespace X
end X
open Go.Proofs.YtiobedekgnfjcaaGreatDoor.P Go.Proofs.YtiobedekgnfjcaaGreatDoor.X Go.Proofs.YtiobedekgnfjcaaGreatDoorW.aq Go.Proofs.YtiobedekgnfjcaaGreatDoorW.ay Go.RowKit
namespace P
def qC.f(k:Nat)(a0:ByteArray):Option (Bool):=if(a0.size:Int)>1048576 then(some true) else((jQ.f k a0).bind fun Fp=>((fj.f k a0).bind fun Fq=>(if Fq.toList=Fp.toList then(some true) else(some false))))
theorem qC.calls(k:Nat)(a0:ByteArray)(r:Bool)(dD:Int)(w:World)(gn:w.cell? ⟨0,0,none⟩=some (.int .i64 dD))(h:qC.f k a0=some r):
  Calls Tryz.prog 8 #[.string a0] w fun e w'=>e=.returned (.bool r)∧Below w.heap.size w w':=by
 have fm:=af.mk gn;clear gn;have HB:=af.mk (Below.refl w.heap.size w);have H:=h;clear h;unfold qC.f at H;by_cases c2:(a0.size:Int)>1048576
 case neg=>
  rw[ag c2] at H;have eM:=aD c2;have mb:decide (1048576<a0.size)=false:=aD ae;clear c2;replace H:=aA.mp H;obtain⟨Fp,bW,H⟩:=H;have A3:=af.mk bW;clear bW;replace H:=aA.mp H;obtain⟨Fq,cX,H⟩:=H;have A4:=af.mk cX;clear cX;by_cases c5:Fq.toList=Fp.toList
  case neg=>
   rw[ag c5] at H;have dC:=cV c5;have oe:=bne_iff_ne.mpr c5;obtain rfl:=au H;go_enter Tryz.func8,Tryz.ntmps8;go_wp2_with (first|(refine aY 9 Tryz.func11 #[.string a0] ?_;(with_reducible refine(jQ.calls k a0 Fp _ A3.o).mono ?_);rintro e w8 ⟨rfl,hb⟩;refine⟨_,rfl,?_⟩;replace HB:=aM HB hb)|(refine aY 11 Tryz.func10 #[.string a0] ?_;(with_reducible refine(fj.calls k a0 Fq dD _ ?eJ A4.o).mono ?_);(case eJ=>exact dw HB fm.o);rintro e w9 ⟨rfl,hb⟩;refine⟨_,rfl,?_⟩;replace HB:=aM HB hb))
   go_ret;exact⟨bE,ai HB⟩
  rw[ah c5] at H;have dC:=beq_iff_eq.mpr c5;have oe:=bne_eq_false_iff_eq.mpr c5;clear c5;obtain rfl:=au H;go_enter Tryz.func8,Tryz.ntmps8;go_wp2_with (first|(refine aY 9 Tryz.func11 #[.string a0] ?_;(with_reducible refine(jQ.calls k a0 Fp _ A3.o).mono ?_);rintro e w6 ⟨rfl,hb⟩;refine⟨_,rfl,?_⟩;replace HB:=aM HB hb)|(refine aY 11 Tryz.func10 #[.string a0] ?_;(with_reducible refine(fj.calls k a0 Fq dD _ ?eJ A4.o).mono ?_);(case eJ=>exact dw HB fm.o);rintro e w7 ⟨rfl,hb⟩;refine⟨_,rfl,?_⟩;replace HB:=aM HB hb))
  go_ret;exact⟨bE,ai HB⟩
 rw[ah c2] at H;have eM:=ap c2;have mb:decide (1048576<a0.size)=true:=ap ae;clear c2;obtain rfl:=au H;go_enter Tryz.func8,Tryz.ntmps8;go_wp2;go_ret;exact⟨bE,ai HB⟩
def qC.Pure:Prop:=∀(a0:ByteArray),a0.size≤140737488351232→∃k,qC.f k a0=some true
theorem qC.walk(P:qC.Pure)(a0:ByteArray)(dD:Int)(w:World)(gn:w.cell? ⟨0,0,none⟩=some (.int .i64 dD))(w0:a0.size≤140737488351232):
  Calls Tryz.prog 8 #[.string a0] w fun e w'=>e=.returned (.bool true)∧Below w.heap.size w w':=by
 obtain⟨k,h⟩:=P a0 w0;refine(qC.calls k a0 true dD w gn h).mono ?_;rintro e w' ⟨rfl,hd⟩;exact⟨rfl,hd⟩
end P
namespace Pure
theorem FnExactExecute:qC.Pure:=by
 intro a0 _;refine Ev.rounds ?_;unfold qC.f;obtain⟨f,hf⟩:=Jw;by_cases hb:(a0.size:Int)>1048576
 ·exact Ev.pos hb (Ev.done rfl)
 exact Ev.neg hb (Ev.bind (Ju hf a0) (Ev.bind (qD hf a0) (Ev.pos rfl (Ev.done rfl))))
end Pure
end Go.Proofs.YtiobedekgnfjcaaGreatDoor
namespace Go.Proofs.YtiobedekgnfjcaaGreatDoor.fnExactExecute
open Go.ChangeShapes Go.WideShapes Go.ChangeAt Go.RowKit
open Go.ChangeMaps (open_string shut_string)
theorem own:ownKnob Tryz.prog.godebug=none:=by kernel_rfl
theorem lifted(os:Os)(started:os.Started)(H:Type)(enc:TypeId×Value→H):
  ReturnsInHanded {} Tryz.checked os 8 .any (fun w args=>(Rows.fnExactExecuteSpec.pre enc Tryz.prog Tryz.f8 Rows.fnExactExecuteRow.domain false w args∧laidMetH Tryz.prog Rows.fnExactExecuteRow.laid w)∧sizedMet enc Tryz.prog Tryz.f8 (OpenSpec.ofChange Rows.fnExactExecuteSpec) false w args) (Rows.fnExactExecuteSpec.post enc Tryz.prog Tryz.f8 false true false false):=by
 refine X.Jx (C:=Tryz.checked) (X:=fun w _=>laidMetH Tryz.prog Rows.fnExactExecuteRow.laid w) (fun _ _ _ hh h=>h.of_heap hh) own started am Tryz.func8
  (ChangeSpec.witness_shaped (enc:=enc) (C:=Tryz.checked) (os:=os) (X:=fun w _=>laidMetH Tryz.prog Rows.fnExactExecuteRow.laid w) false (World.laidAll Tryz.prog os Rows.fnExactExecuteRow.laid) #[.string ByteArray.empty] 8 (World.laidAll_os _ _ _)
   (World.shaped_of_ZipB am am) am am am
   (by rw[MakeChecks.laidMetH_plain _ _ _ am];exact laidMet_laidAll _ am am)) ?_
 intro W base args ds gs before qF hW hcnd qG _ hsh _;obtain⟨dD,gn⟩:=Tryz.laysM146.s1_3 W hsh;have hsz:(DataW.weightsEach Tryz.prog (Tryz.f8.params.toList++Rows.fnExactExecuteSpec.plain.varTypes Tryz.prog) (ds++gs)).all (·≤reachBytes)=true:=qG;have hval:∀(j:Nat) t v,Tryz.f8.params[j]?=some t→args[j]?=some v→Value.okWide Tryz.prog W .any base t v:=qF;have hW':=hW;obtain⟨p,q,qH,hV,rfl,hfz,hnd⟩:=hW;have hA:DataW.TrodAll enc Tryz.prog W 0 (fun _=>true) true Tryz.f8.params.toList args.toList ds p:=qH;rw[Tryz.params8] at hA hval hsz;obtain⟨v0,QT,d0,QU,p0,q0,hargs,rfl,rfl,h0,r0⟩:=trodAll_cons hA;obtain⟨rfl,rfl,rfl⟩:=trodAll_nil r0;obtain rfl:args=#[v0]:=by cases args;simp_all
 obtain⟨rfl,rfl⟩:=trodVars_none hV;obtain⟨a0,rfl,rfl,rfl,y0⟩:=open_string Tryz.underlying9 (hval 0 9 v0 rfl rfl) h0
 have w0:a0.size≤140737488351232:=by
  have z:=sized_string hsz (j:=0) (t:=9) rfl rfl;rw[Array.length_toList] at z;exact z
 clear qH qF qG hsz;refine(P.qC.walk Pure.FnExactExecute a0 dD W gn w0).mono fun e W' ⟨he,sc⟩=>?_;subst he;exact⟨_,rfl,_,_,_,[],_,[],hW',trodAll_mk1 (shut_bool Tryz.underlying4 _),(trodAll_cons_mk (shut_string Tryz.underlying9 y0) trodAll_mk0),rfl,sc.frame _,fun h=>by cases h⟩
theorem over:Rows.FnExactExecuteSaid:=yH lifted
theorem card:Rows.FnExactExecuteCardSaid:=yM over
#print axioms card
end Go.Proofs.YtiobedekgnfjcaaGreatDoor.fnExactExecute
namespace Go.Proofs.YtiobedekgnfjcaaGreatDoor
theorem fnExactExecute_holds:Rows.FnExactExecuteCardSaid:=fnExactExecute.card
end Go.Proofs.YtiobedekgnfjcaaGreatDoor
