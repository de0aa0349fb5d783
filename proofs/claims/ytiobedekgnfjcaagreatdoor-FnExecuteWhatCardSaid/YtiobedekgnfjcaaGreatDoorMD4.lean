/- The drawn script, and scripts put together. No conditions. (Part 5 of 7.) -/
import Derived.Test.YtiobedekgnfjcaaGreatDoorMD1
import Derived.Test.YtiobedekgnfjcaaGreatDoorMD2
set_option linter.unusedVariables false
set_option linter.unusedSimpArgs false
set_option maxHeartbeats 8000000
set_option maxRecDepth 100000
namespace Go.Proofs.YtiobedekgnfjcaaGreatDoor
open Go.Proofs.YtiobedekgnfjcaaGreatDoorW.aq Go.Proofs.YtiobedekgnfjcaaGreatDoorW.ay Go.RowKit
namespace P
def gR.l0:Nat→ByteArray→Int→Int→List Int→Int→Option (ByteArray)
 |0,_,_,_,_,_=>none
 |k+1,x4,x5,x6,Rc,aae=>if x6<x5 then((mo.f k Rc aae).bind fun JC=>(if x4.size+JC.1.size≤9223372036854775807 then(if(x4++JC.1).size+1≤9223372036854775807 then(gR.l0 k ((x4++JC.1)++(⟨#[10]⟩:ByteArray)) x5 (wrap64 (x6+1)) Rc JC.2) else none) else none)) else((f7.f k Rc aae 24).bind fun aaf=>(if aaf.1=0 then(if x4.size+4≤9223372036854775807 then(some (x4++(⟨#[98,111,116,104]⟩:ByteArray))) else none) else(if aaf.1=1 then((jS.f k (⟨#[98,111,116,104,10]⟩:ByteArray) 130).bind fun By=>(if x4.size+By.size≤9223372036854775807 then(some (x4++By)) else none)) else(some x4))))
def gR.f(k:Nat)(l0:List Int):Option (ByteArray):=(xA.f l0).bind fun Rd=>((f7.f k Rd.1 Rd.2 9).bind fun aag=>(gR.l0 k (⟨#[]⟩:ByteArray) aag.1 0 Rd.1 aag.2))
theorem gR.calls(k:Nat)(A0:Option Addr)(c0:Nat)(l0:List Int)(r:ByteArray)(w:World)(hr0:Kd.C (Kd.int .u8) w A0 l0.length l0)(hc0:l0.length≤c0)(h:gR.f k l0=some r):
  Calls Tryz.prog 9 #[.slice A0 l0.length c0] w fun e w'=>e=.returned (.string r)∧Below w.heap.size w w':=by
 have aj:=af.mk hr0;have ax:=af.mk hc0;clear hr0 hc0;have HB:=af.mk (Below.refl w.heap.size w);have H:=h;clear h;unfold gR.f at H;replace H:=aA.mp H;obtain⟨⟨vu,t164⟩,cW,H⟩:=H;have A2:=af.mk cW;clear cW;replace H:=aA.mp H;obtain⟨⟨Re,t167⟩,bW,H⟩:=H;have A3:=af.mk bW;clear bW;have H':=af.mk H;clear H;go_enter Tryz.func9,Tryz.ntmps9;go_wp2_with (first|(refine aY 8 Tryz.func23 #[.slice A0 l0.length c0] ?_;(with_reducible refine(xA.calls _ _ l0 vu t164 w _ ?bz ?bB ?cg A2.o).mono ?_);(case bz=>repeat(first|(with_reducible first|exact HB.o|apply cS|apply bb|apply bR)|exact HB.o));(case bB=>exact aj.o);(case cg=>exact ax.o);rintro e w4 ⟨qK,rfl,hi,hb,hb2⟩;refine⟨_,rfl,?_⟩;replace HB:=af.mk (hb);have je:=af.mk (hi))|(refine aY 10 Tryz.func24 #[.pointer (some ⟨qK,0,none⟩),.int .i64 9] ?_;(with_reducible refine(f7.calls k qK vu t164 9 Re t167 w _ ?bz ?bB A3.o).mono ?_);(case bz=>exact dp je);(case bB=>exact dO HB je);rintro e w5 ⟨rfl,hi,hb,hk⟩;refine⟨_,rfl,?_⟩;replace HB:=af.mk (hb);replace je:=af.mk (hi)))
 go_loopg [4,6] k (fun kq v4 v6 w'=> ∃(bx:ByteArray) (bH:Int) (yQ:Int),v4=.string bx∧v6=.int .i64 bH∧af (gR.l0 kq bx Re bH vu yQ=some r)∧af (kq≤k)∧af (bS w w' qK vu yQ)∧af (Below w.heap.size w w'))
 case atStart=>exact⟨((⟨#[]⟩:ByteArray)),(0),t167,ak,ak,H',⟨aH _⟩,⟨dp je⟩,⟨dO HB je⟩⟩
 case round=>
  clear H';obtain⟨bx,bH,yQ,rfl,rfl,HA,aC,je,HB⟩:=hrel;cases gk with
  |zero=>exact absurd HA.o (by simp[gR.l0])
  |succ k1=>
   have H:=HA.o;clear HA;simp only[gR.l0] at H;by_cases c6:bH<Re
   case neg=>
    rw[ag c6] at H;have dU:=aD c6;clear c6;replace H:=aA.mp H;obtain⟨⟨FF,t171⟩,ka,H⟩:=H;have jH:=af.mk ka;clear ka;by_cases c12:FF=0
    case neg=>
     rw[ag c12] at H;have jC:=cV c12;have sv:=bne_iff_ne.mpr c12;by_cases c15:FF=1
     case neg=>
      rw[ag c15] at H;have n4:=cV c15;have Gi:=bne_iff_ne.mpr c15;obtain rfl:=au H;go_wp2_with ((refine aY 22 Tryz.func24 #[.pointer (some ⟨qK,0,none⟩),.int .i64 24] ?_;(with_reducible refine(f7.calls k1 qK vu yQ 24 FF t171 w _ ?bz ?bB jH.o).mono ?_);(case bz=>exact dp je);(case bB=>exact dO HB je);rintro e tU ⟨rfl,hi,hb,hk⟩;refine⟨_,rfl,?_⟩;replace HB:=af.mk (hb);replace je:=af.mk (hi)))
      go_ret;exact⟨bE,dO HB je⟩
     rw[ah c15] at H;have n4:=beq_iff_eq.mpr c15;have Gi:=bne_eq_false_iff_eq.mpr c15;clear c15;replace H:=aA.mp H;obtain⟨By,pL,H⟩:=H;have nz:=af.mk pL;clear pL;by_cases c17:bx.size+By.size≤9223372036854775807
     case neg=>
      rw[ag c17] at H;cases H
     rw[ah c17] at H;have sG:=av c17;have GA:=ap c17;try have atw:(9223372036854775807<bx.size+By.size)=False:=eq_false (Nat.not_lt.2 c17)
     obtain rfl:=au H;go_wp2_with (first|(refine aY 22 Tryz.func24 #[.pointer (some ⟨qK,0,none⟩),.int .i64 24] ?_;(with_reducible refine(f7.calls k1 qK vu yQ 24 FF t171 w _ ?bz ?bB jH.o).mono ?_);(case bz=>exact dp je);(case bB=>exact dO HB je);rintro e tT ⟨rfl,hi,hb,hk⟩;refine⟨_,rfl,?_⟩;replace HB:=af.mk (hb);replace je:=af.mk (hi))|(refine cx 30 Tryz.func26 #[.string (⟨#[98,111,116,104,10]⟩:ByteArray),.int .i64 130] (jS.calls k1 (⟨#[98,111,116,104,10]⟩:ByteArray) 130 By _ nz.o) fun nd=>?_))
     go_ret;exact⟨bE,dO HB je⟩
    rw[ah c12] at H;have jC:=beq_iff_eq.mpr c12;have sv:=bne_eq_false_iff_eq.mpr c12;clear c12;by_cases c13:bx.size+4≤9223372036854775807
    case neg=>
     rw[ag c13] at H;cases H
    rw[ah c13] at H;have j6:=av c13;have tS:=ap c13;try have Ou:(9223372036854775807<bx.size+4)=False:=eq_false (Nat.not_lt.2 c13)
    obtain rfl:=au H;go_wp2_with ((refine aY 22 Tryz.func24 #[.pointer (some ⟨qK,0,none⟩),.int .i64 24] ?_;(with_reducible refine(f7.calls k1 qK vu yQ 24 FF t171 w _ ?bz ?bB jH.o).mono ?_);(case bz=>exact dp je);(case bB=>exact dO HB je);rintro e ju ⟨rfl,hi,hb,hk⟩;refine⟨_,rfl,?_⟩;replace HB:=af.mk (hb);replace je:=af.mk (hi)))
    go_ret;exact⟨bE,dO HB je⟩
   rw[ah c6] at H;have dU:=ap c6;clear c6;replace H:=aA.mp H;obtain⟨⟨t168,aah⟩,dy,H⟩:=H;have A7:=af.mk dy;clear dy;by_cases c8:bx.size+t168.size≤9223372036854775807
   case neg=>
    rw[ag c8] at H;cases H
   rw[ah c8] at H;have fF:=av c8;have td:=ap c8;try have atx:(9223372036854775807<bx.size+t168.size)=False:=eq_false (Nat.not_lt.2 c8)
   by_cases c9:(bx++t168).size+1≤9223372036854775807
   case neg=>
    rw[ag c9] at H;cases H
   rw[ah c9] at H;have gU:=av c9;have wm:=ap c9;try have amT:(9223372036854775807<(bx++t168).size+1)=False:=eq_false (Nat.not_lt.2 c9)
   try have amU:(9223372036854775807<bx.size+t168.size+1)=False:=by have q_:=c9;simp only[ByteArray.size_append] at q_;exact eq_false (Nat.not_lt.2 q_)
   have H':=af.mk H;clear H;go_wp2_with ((refine aY 18 Tryz.func25 #[.pointer (some ⟨qK,0,none⟩)] ?_;(with_reducible refine(mo.calls k1 qK vu yQ t168 aah w _ ?bz ?bB A7.o).mono ?_);(case bz=>exact dp je);(case bB=>exact dO HB je);rintro e mH ⟨rfl,hi,hb,hk⟩;refine⟨_,rfl,?_⟩;replace HB:=af.mk (hb);replace je:=af.mk (hi)))
   go_roundg k1
   case measure=>have:=aC.o;omega
   case rel=>exact⟨((bx++t168)++(⟨#[10]⟩:ByteArray)),(wrap64 (bH+1)),(aah),ak,ak,H',⟨by have:=aC.o;omega⟩,⟨dp je⟩,⟨dO HB je⟩⟩
end P
end Go.Proofs.YtiobedekgnfjcaaGreatDoor
