/- The drawn script, and scripts put together. No conditions. (Part 4 of 7.) -/
import Derived.Test.YtiobedekgnfjcaaGreatDoorME3
set_option linter.unusedVariables false
set_option linter.unusedSimpArgs false
set_option maxHeartbeats 8000000
set_option maxRecDepth 100000
namespace Go.Proofs.YtiobedekgnfjcaaGreatDoor
open Go.Proofs.YtiobedekgnfjcaaGreatDoorW.aq Go.Proofs.YtiobedekgnfjcaaGreatDoorW.ay Go.RowKit
namespace P
def jx.l0:Nat→ByteArray→Int→Option (ByteArray)
 |0,_,_=>none
 |k+1,x0,x3=>if x3≥0 then(if 0≤x3 then(if x3<(x0.size:Int) then(if(bt x0 x3)=10 then(if 0≤(wrap64 (x3+1)) then(if(wrap64 (x3+1))≤(x0.size:Int) then(some (x0.extract ((wrap64 (x3+1)):Int).toNat x0.size)) else none) else none) else(jx.l0 k x0 (wrap64 (x3 - 1)))) else none) else none) else(some x0)
def jx.f(k:Nat)(a0:ByteArray):Option (ByteArray):=jx.l0 k a0 (wrap64 ((a0.size:Int) - 2))
theorem jx.calls(k:Nat)(a0:ByteArray)(r:ByteArray)(w:World)(h:jx.f k a0=some r):
  Calls Tryz.prog 13 #[.string a0] w fun e w'=>e=.returned (.string r)∧aG w w':=by
 have H:=h;clear h;unfold jx.f at H;have H':=af.mk H;clear H;go_enter Tryz.func13,Tryz.ntmps13;go_wp2;go_loopg [3] k (fun kq v3 w'=> ∃(aV:Int),v3=.int .i64 aV∧af (jx.l0 kq a0 aV=some r)∧af (kq≤k)∧aG w w')
 case atStart=>exact⟨(wrap64 ((a0.size:Int) - 2)),ak,H',⟨aH _⟩,aQ⟩
 case round=>
  clear H';obtain⟨aV,rfl,HA,aC,⟨m1,rfl⟩⟩:=hrel;cases gk with
  |zero=>exact absurd HA.o (by simp[jx.l0])
  |succ k1=>
   have H:=HA.o;clear HA;simp only[jx.l0] at H;by_cases c2:aV≥0
   case neg=>
    rw[ag c2] at H;have eM:=aD c2;clear c2;obtain rfl:=au H;go_wp2;go_ret;exact⟨ak,aQ⟩
   rw[ah c2] at H;have eM:=ap c2;clear c2;replace H:=bC H;obtain⟨eU,H⟩:=H;replace H:=bC H;obtain⟨dK,H⟩:=H;by_cases c6:(bt a0 aV)=10
   case neg=>
    rw[ag c6] at H;have dU:=cV c6;have j9:=bne_iff_ne.mpr c6;have H':=af.mk H;clear H;have p5:0≤(aV:Int):=aJ;have q5:aV<(a0.size:Int):=aJ;have hx5:=kI a0 aV;replace p5:=av p5;replace q5:=av q5;go_wp2;go_roundg k1
    case measure=>have:=aC.o;omega
    case rel=>exact⟨(wrap64 (aV - 1)),ak,H',⟨by have:=aC.o;omega⟩,aQ⟩
   rw[ah c6] at H;have dU:=beq_iff_eq.mpr c6;have j9:=bne_eq_false_iff_eq.mpr c6;clear c6;obtain⟨nP,tv⟩:∃j_:Int,(wrap64 (aV+1))=j_:=⟨_,rfl⟩;replace H:(if 0≤(nP) then(if(nP)≤(a0.size:Int) then(some (a0.extract ((nP):Int).toNat a0.size)) else none) else none)=some r:=by first|(rw[tv] at H;exact H)|(simp only[tv] at H ⊢;exact H)
   have ank:(IntKind.i64.wrap (aV+1))=nP:=(dh _).trans tv;by_cases c8:0≤(nP)
   case neg=>
    rw[ag c8] at H;cases H
   rw[ah c8] at H;have fF:=av c8;have td:=ap c8;clear c8;by_cases c9:(nP)≤(a0.size:Int)
   case neg=>
    rw[ag c9] at H;cases H
   rw[ah c9] at H;have gU:=av c9;have wm:=ap c9;clear c9;obtain rfl:=au H;have p5:0≤(aV:Int):=aJ;have q5:aV<(a0.size:Int):=aJ;have hx5:=kI a0 aV;replace p5:=av p5;replace q5:=av q5;go_wp2;go_ret;exact⟨by first|rfl|(simp;done)|(simp only[←tv]<;>(first|rfl|simp))|(simp[*];done),aQ⟩
end P
end Go.Proofs.YtiobedekgnfjcaaGreatDoor
