/- The drawn script, and scripts put together. No conditions. (Part 1 of 7.) -/
import Derived.Test.YtiobedekgnfjcaaGreatDoorME3
import Derived.SizedLaws
import Derived.ChangeSlices
set_option linter.unusedVariables false
set_option linter.unusedSimpArgs false
set_option maxHeartbeats 8000000
set_option maxRecDepth 100000
namespace Go.Proofs.YtiobedekgnfjcaaGreatDoor
open Go.Proofs.YtiobedekgnfjcaaGreatDoorW.aq Go.Proofs.YtiobedekgnfjcaaGreatDoorW.ay Go.RowKit
namespace P
def jd.l0:Nat→ByteArray→Int→Option (ByteArray)
 |0,_,_=>none
 |k+1,x0,x3=>if x3>0 then(if 0≤(wrap64 (x3 - 1)) then(if(wrap64 (x3 - 1))<(x0.size:Int) then(if(bt x0 (wrap64 (x3 - 1)))=10 then(if 0≤x3 then(if x3≤(x0.size:Int) then(some (x0.extract 0 (x3:Int).toNat)) else none) else none) else(jd.l0 k x0 (wrap64 (x3 - 1)))) else none) else none) else(some (⟨#[]⟩:ByteArray))
def jd.f(k:Nat)(a0:ByteArray):Option (ByteArray):=jd.l0 k a0 (a0.size:Int)
theorem jd.calls(k:Nat)(a0:ByteArray)(r:ByteArray)(w:World)(h:jd.f k a0=some r):
  Calls Tryz.prog 12 #[.string a0] w fun e w'=>e=.returned (.string r)∧aG w w':=by
 have H:=h;clear h;unfold jd.f at H;have H':=af.mk H;clear H;go_enter Tryz.func12,Tryz.ntmps12;go_wp2;go_loopg [3] k (fun kq v3 w'=> ∃(aV:Int),v3=.int .i64 aV∧af (jd.l0 kq a0 aV=some r)∧af (kq≤k)∧aG w w')
 case atStart=>exact⟨((a0.size:Int)),ak,H',⟨aH _⟩,aQ⟩
 case round=>
  clear H';obtain⟨aV,rfl,HA,aC,⟨m1,rfl⟩⟩:=hrel;cases gk with
  |zero=>exact absurd HA.o (by simp[jd.l0])
  |succ k1=>
   have H:=HA.o;clear HA;simp only[jd.l0] at H;by_cases c2:aV>0
   case neg=>
    rw[ag c2] at H;have eM:=aD c2;clear c2;obtain rfl:=au H;go_wp2;go_ret;exact⟨ak,aQ⟩
   rw[ah c2] at H;have eM:=ap c2;clear c2;obtain⟨oJ,Fv⟩:∃j_:Int,(wrap64 (aV - 1))=j_:=⟨_,rfl⟩;replace H:(if 0≤(oJ) then(if(oJ)<(a0.size:Int) then(if(bt a0 (oJ))=10 then(if 0≤aV then(if aV≤(a0.size:Int) then(some (a0.extract 0 (aV:Int).toNat)) else none) else none) else(jd.l0 k1 a0 oJ)) else none) else none)=some r:=by first|(rw[Fv] at H;exact H)|(simp only[Fv] at H ⊢;exact H)
   have ati:(IntKind.i64.wrap (aV - 1))=oJ:=(dh _).trans Fv;replace H:=bC H;obtain⟨dK,H⟩:=H;replace H:=bC H;obtain⟨dC,H⟩:=H;by_cases c7:(bt a0 (oJ))=10
   case neg=>
    rw[ag c7] at H;have eN:=cV c7;have pT:=bne_iff_ne.mpr c7;have H':=af.mk H;clear H;have p6:0≤((oJ):Int):=aJ;have q6:(oJ)<(a0.size:Int):=aJ;have I5:=kI a0 (oJ);replace p6:=av p6;replace q6:=av q6;go_wp2;go_roundg k1
    case measure=>have:=aC.o;omega
    case rel=>exact⟨(oJ),(by first|rfl|(simp;done)|(simp only[←Fv]<;>(first|rfl|simp))|(simp[*];done)),H',⟨by have:=aC.o;omega⟩,aQ⟩
   rw[ah c7] at H;have eN:=beq_iff_eq.mpr c7;have pT:=bne_eq_false_iff_eq.mpr c7;clear c7;by_cases c8:0≤aV
   case neg=>
    rw[ag c8] at H;cases H
   rw[ah c8] at H;have fF:=av c8;have td:=ap c8;clear c8;by_cases c9:aV≤(a0.size:Int)
   case neg=>
    rw[ag c9] at H;cases H
   rw[ah c9] at H;have gU:=av c9;have wm:=ap c9;clear c9;obtain rfl:=au H;have p6:0≤((oJ):Int):=aJ;have q6:(oJ)<(a0.size:Int):=aJ;have I5:=kI a0 (oJ);replace p6:=av p6;replace q6:=av q6;go_wp2;go_ret;exact⟨by first|rfl|(simp;done)|(simp only[←Fv]<;>(first|rfl|simp))|(simp[*];done),aQ⟩
end P
end Go.Proofs.YtiobedekgnfjcaaGreatDoor
namespace Go.Proofs.YtiobedekgnfjcaaGreatDoorW.aq
open Go.ChangeShapes Go.WideShapes
theorem Ro{H:Type}{enc:TypeId×Value→H}{P:Program}{W:World}{base:Nat}{spare:Nat→Bool}{held:Bool}{t e:TypeId}{k:IntKind}{a:Option Addr}{len cap:Nat}{d:DataW H}{ps:List MemPlace}{ts:List TypeId}{ds:List (DataW H)}{j:Nat}
  (hsz:(DataW.weightsEach P ts ds).all (·≤reachBytes)=true) (ht:ts[j]?=some t) (hd:ds[j]?=some d) (hu:P.underlying t=some (.slice e)) (he:P.underlying e=some (.int k)) (hc:P.cellsOf e=1) {B:Nat} (hB:P.bytesOf e=B)
  (h:DataW.Trod enc P W base spare held t (.slice a len cap) d ps):len*B≤140737488351232:=by
 obtain⟨fuel,hf⟩:=h;rcases open_ints hu he hc hf with⟨hcs,_⟩|⟨x,l,c,zs,hcs,_,hl,_,hz,hx,_,_⟩
 ·simp[Value.cells] at hcs;obtain⟨rfl,rfl,rfl⟩:=hcs;simp
 ·simp[Value.cells] at hcs;obtain⟨rfl,rfl,rfl⟩:=hcs;obtain⟨hx,_⟩:=Prod.mk.inj hx;subst hx;have z:=sized_slice hsz ht hd hu;rw[hB] at z
  have hl2:len≤zs.length:=by
   rw[hz]
   split
   ·exact hl
   ·exact Nat.le_refl _
  have h1:(lits (H:=H) k (zs.take len)).length+(lits (H:=H) k (zs.drop len)).length=zs.length:=by
   simp[lits];omega
  rw[h1] at z;exact Nat.le_trans (Nat.mul_le_mul_right _ hl2) z
end Go.Proofs.YtiobedekgnfjcaaGreatDoorW.aq
