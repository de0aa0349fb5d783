/- The drawn script, and scripts put together. No conditions. (Part 2 of 7.) -/
import Derived.Test.YtiobedekgnfjcaaGreatDoorME3
set_option linter.unusedVariables false
set_option linter.unusedSimpArgs false
set_option maxHeartbeats 8000000
set_option maxRecDepth 100000
namespace Go.Proofs.YtiobedekgnfjcaaGreatDoor
open Go.Proofs.YtiobedekgnfjcaaGreatDoorW.aq Go.Proofs.YtiobedekgnfjcaaGreatDoorW.ay Go.RowKit
namespace P
def jS.l0:Nat→ByteArray→Int→ByteArray→Option (ByteArray)
 |0,_,_,_=>none
 |k+1,x0,x1,x5=>if x1>0 then(if(Int.tmod x1 2)=1 then(if x5.size+x0.size≤9223372036854775807 then(if x0.size+x0.size≤9223372036854775807 then(jS.l0 k (x0++x0) (wrap64 (Int.tdiv x1 2)) (x5++x0)) else none) else none) else(if x0.size+x0.size≤9223372036854775807 then(jS.l0 k (x0++x0) (wrap64 (Int.tdiv x1 2)) x5) else none)) else(some x5)
def jS.f(k:Nat)(a0:ByteArray)(a1:Int):Option (ByteArray):=jS.l0 k a0 a1 (⟨#[]⟩:ByteArray)
theorem jS.calls(k:Nat)(a0:ByteArray)(a1:Int)(r:ByteArray)(w:World)(h:jS.f k a0 a1=some r):
  Calls Tryz.prog 26 #[.string a0,.int .i64 a1] w fun e w'=>e=.returned (.string r)∧aG w w':=by
 have H:=h;clear h;unfold jS.f at H;have H':=af.mk H;clear H;go_enter Tryz.func26,Tryz.ntmps26;go_wp2;go_loopg [0,1,5] k (fun kq v0 v1 v5 w'=> ∃(gB:ByteArray) (mf:Int) (aw:ByteArray),v0=.string gB∧v1=.int .i64 mf∧v5=.string aw∧af (jS.l0 kq gB mf aw=some r)∧af (kq≤k)∧aG w w')
 case atStart=>exact⟨(a0),(a1),((⟨#[]⟩:ByteArray)),ak,ak,ak,H',⟨aH _⟩,aQ⟩
 case round=>
  clear H';obtain⟨gB,mf,aw,rfl,rfl,rfl,HA,aC,⟨m1,rfl⟩⟩:=hrel;cases gk with
  |zero=>exact absurd HA.o (by simp[jS.l0])
  |succ k1=>
   have H:=HA.o;clear HA;simp only[jS.l0] at H;by_cases c3:mf>0
   case neg=>
    rw[ag c3] at H;have eU:=aD c3;clear c3;obtain rfl:=au H;go_wp2;go_ret;exact⟨ak,aQ⟩
   rw[ah c3] at H;have eU:=ap c3;clear c3;by_cases c4:(Int.tmod mf 2)=1
   case neg=>
    rw[ag c4] at H;have dK:=cV c4;have nX:=bne_iff_ne.mpr c4;by_cases c7:gB.size+gB.size≤9223372036854775807
    case neg=>
     rw[ag c7] at H;cases H
    rw[ah c7] at H;have eN:=av c7;have pT:=ap c7;try have atj:(9223372036854775807<gB.size+gB.size)=False:=eq_false (Nat.not_lt.2 c7)
    have H':=af.mk H;clear H;go_wp2;go_roundg k1
    case measure=>have:=aC.o;omega
    case rel=>exact⟨(gB++gB),(wrap64 (Int.tdiv mf 2)),(aw),ak,ak,ak,H',⟨by have:=aC.o;omega⟩,aQ⟩
   rw[ah c4] at H;have dK:=beq_iff_eq.mpr c4;have nX:=bne_eq_false_iff_eq.mpr c4;clear c4;by_cases c5:aw.size+gB.size≤9223372036854775807
   case neg=>
    rw[ag c5] at H;cases H
   rw[ah c5] at H;have dC:=av c5;have oe:=ap c5;try have YE:(9223372036854775807<aw.size+gB.size)=False:=eq_false (Nat.not_lt.2 c5)
   by_cases c6:gB.size+gB.size≤9223372036854775807
   case neg=>
    rw[ag c6] at H;cases H
   rw[ah c6] at H;have dU:=av c6;have j9:=ap c6;try have amS:(9223372036854775807<gB.size+gB.size)=False:=eq_false (Nat.not_lt.2 c6)
   have H':=af.mk H;clear H;go_wp2;go_roundg k1
   case measure=>have:=aC.o;omega
   case rel=>exact⟨(gB++gB),(wrap64 (Int.tdiv mf 2)),(aw++gB),ak,ak,ak,H',⟨by have:=aC.o;omega⟩,aQ⟩
end P
end Go.Proofs.YtiobedekgnfjcaaGreatDoor
