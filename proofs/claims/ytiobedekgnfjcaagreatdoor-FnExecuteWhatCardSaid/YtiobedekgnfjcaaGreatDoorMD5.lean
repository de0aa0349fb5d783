/- The drawn script, and scripts put together. No conditions. (Part 6 of 7.) -/
import Derived.Test.YtiobedekgnfjcaaGreatDoorMD0
import Derived.Test.YtiobedekgnfjcaaGreatDoorMD3
import Derived.Test.YtiobedekgnfjcaaGreatDoorME27
set_option linter.unusedVariables false
set_option linter.unusedSimpArgs false
namespace Go.Proofs.YtiobedekgnfjcaaGreatDoor
namespace P
end P
open Go.Proofs.YtiobedekgnfjcaaGreatDoor.P Go.Proofs.YtiobedekgnfjcaaGreatDoorW.aq Go.Proofs.YtiobedekgnfjcaaGreatDoorW.ay Go.RowKit
namespace X
theorem aai(c:UInt8):∀(x y:List UInt8),eK c (x++c::y)=eK c x++eK c y
 |[],y=>by simp[eK]
 |b::x,y=>by
  have ih:=aai c x y;rw[List.cons_append];by_cases h:b=c
  ·subst h;rw[eK,ah rfl,eK,ah rfl,ih];rfl
  ·rw[eK,ag h,eK,ag h,ih];cases hs:eK c x with
   |nil=>exact absurd hs (vq c x)
   |cons a l=>rfl
theorem aaj(c:UInt8):∀(x:List UInt8),(∀b∈x,b≠c)→eK c x=[x]
 |[],_=>rfl
 |b::x,h=>by
  rw[eK,ag (h b (List.mem_cons_self ..)),aaj c x fun b hb=>h b (List.mem_cons_of_mem _ hb)];rfl
def Whole(s:List UInt8)(L:List (List UInt8)):Prop:=∀y,eK 10 (s++y)=L++eK 10 y
theorem apO{s:List UInt8}(h:s=[]∨∃x,s=x++[10]):∃L,Whole s L:=by
 rcases h with rfl|⟨x,rfl⟩
 ·exact⟨[],fun y=>rfl⟩
 ·exact⟨eK 10 x,fun y=>by rw[List.append_assoc];exact aai 10 x y⟩
theorem oK(a b:ByteArray):(a++b).data.toList=a.data.toList++b.data.toList:=by simp
theorem apP{s:ByteArray}{L:List (List UInt8)}(h:(eK 10 s.data.toList).dropLast=L):(gS s).dropLast=L.map B:=by
 apply QG;rw[map_dropLast,show(gS s).map (·.data.toList)=eK 10 s.data.toList from QF 10 s,h,List.map_map];exact(List.map_id' L).symm
theorem JE{f:StepT}{s:ByteArray}{L:List (List UInt8)}(h:(eK 10 s.data.toList).dropLast=L):gg f s=kk f (L.map B) ((dS 0,[]),⟨#[]⟩):=by
 unfold gg;rw[apP h]
theorem aak{f:StepT}{s:ByteArray}{L:List (List UInt8)}(h:Whole s.data.toList L):gg f s=kk f (L.map B) ((dS 0,[]),⟨#[]⟩):=by
 refine JE ?_;have:=h [];rw[List.append_nil] at this;rw[this];simp[eK]
theorem Rg{f:StepT}{s y:ByteArray}{L:List (List UInt8)}(h:Whole s.data.toList L)(M:List (List UInt8))(hy:(eK 10 y.data.toList).dropLast=M):gg f (s++y)=kk f (M.map B) (gg f s):=by
 rw[aak h,JE (L:=L++M) (by rw[oK,h,List.dropLast_append_of_ne_nil (vq _ _),hy]),List.map_append,Zs]
theorem aal(f:StepT):∀(ls:List ByteArray) (s:St),(s.2=⟨#[]⟩∨∃x,s.2=x++f_)→(kk f ls s).2=⟨#[]⟩∨∃x,(kk f ls s).2=x++f_
 |[],s,h=>h
 |l::ls,s,h=>aal f ls _ (.inr ⟨s.2++(f s.1.1 s.1.2 l).2,by rw[ByteArray.append_assoc]⟩)
theorem apQ(f:StepT)(s:ByteArray):(gg f s).2=⟨#[]⟩∨∃x,(gg f s).2=x++f_:=aal f _ _ (.inl rfl)
theorem apR{f:StepT}{t p:List Int}{a x:ByteArray}(o:ByteArray)(h:f t p a=((t,p),x)):kk f [a] ((t,p),o)=((t,p),o++(x++f_)):=by simp only[kk,h]
theorem aam{f:StepT}{t p:List Int}{a b x y:ByteArray}(o:ByteArray)(h:f t p a=((t,p),x))(k:f t p b=((t,p),y)):kk f [a,b] ((t,p),o)=((t,p),(o++(x++f_))++(y++f_)):=by simp only[kk,h,k]
theorem Rh{f:StepT}(hf:oH f){t p:List Int}(g:Good t p){l:ByteArray}(hl:l.size≤600){r:(List Int×List Int)×ByteArray}(h:Ev (fun k=>qx k t p l) r):f t p l=r:=Ev.QO (hf t p l g hl).impl h
def apS:ByteArray:=⟨#[122,122,122]⟩
def apT:ByteArray:=⟨#[98,111,116,104]⟩
def apU:ByteArray:=⟨#[107,105,110,100,32,120]⟩
theorem apV{f:StepT}(hf:oH f){t p:List Int}(g:Good t p):f t p apS=((t,p),Gv):=by
 refine Rh hf g ao ?_;unfold qx;refine Ev.pos ao (Ev.done ?_);rfl
theorem apW{f:StepT}(hf:oH f){t p:List Int}(g:Good t p):f t p apT=((t,p),l6 (aW t&&l5 t)):=by
 refine Rh hf g ao ?_;unfold qx;refine Ev.pos ao (Ev.done ?_);rfl
theorem apX{f:StepT}(hf:oH f){t p:List Int}(g:Good t p):f t p apU=((t,p),iO):=by
 refine Rh hf g ao ?_;unfold qx;refine Ev.neg ao (Ev.neg ao ?_);refine Ev.bind (a:=([],false)) ⟨3,fun k hk=>?_⟩ (Ev.pos rfl (Ev.done rfl));obtain⟨d,rfl⟩:=Nat.exists_eq_add_of_le' hk
 kernel_rfl
theorem FH{a b:ByteArray}(h:a.data.toList=b.data.toList):a=b:=by
 have:=QG (a:=[a]) (b:=[b]) (by simp[h])
 simpa using this
theorem apY(s:ByteArray)(n:Nat):s.extract 0 n=B (s.data.toList.take n):=FH (by rw[Lib.extract_data];simp[B])
def Cut(s:ByteArray)(c:List UInt8):Prop:=∃tail,s.data.toList=c++tail∧(∀b∈tail,b≠10)∧(c=[]∨∃x,c=x++[10])
theorem aan(s:ByteArray)(h:s.size≤1000000):∀i:Nat,i≤s.size→(∀b∈s.data.toList.drop i,b≠10)→∃c,Cut s c∧Ev (fun k=>jd.l0 k s (i:Int)) (B c)
 |0,_,hf=>by
  refine⟨[],⟨s.data.toList,rfl,hf,.inl rfl⟩,Ev.step (fun k=>by rw[jd.l0]) ?_⟩;exact Ev.neg ae (Ev.done rfl)
 |i+1,hi,hf=>by
  have hl:i<s.data.toList.length:=by rw[←Lib.size_eq];omega
  have e:wrap64 (((i+1:Nat):Int) - 1)=(i:Int):=by rw[bI ae ae];omega
  have hz:(10:UInt8).toNat=10:=rfl;by_cases hb:s.data.toList[i]=10
  ·refine⟨s.data.toList.take (i+1),⟨s.data.toList.drop (i+1),(List.take_append_drop _ _).symm,hf,.inr ⟨s.data.toList.take i,?_⟩⟩,?_⟩
   ·rw[List.take_add_one,List.getElem?_eq_getElem hl,hb];rfl
   ·refine Ev.step (fun k=>by rw[jd.l0]) ?_;rw[e];refine Ev.pos ae (Ev.pos ae (Ev.pos ae (Ev.pos (by rw[uX s i hl,hb];rfl) (Ev.pos ae (Ev.pos ae (Ev.done ?_))))));rw[show((i+1:Nat):Int).toNat=i+1 from rfl,apY]
  ·obtain⟨c,hc,ev⟩:=aan s h i ae (fun b hb'=>by
    rw[List.drop_eq_getElem_cons hl] at hb';rcases List.mem_cons.1 hb' with rfl|hb'
    ·exact hb
    ·exact hf b hb')
   refine⟨c,hc,Ev.step (fun k=>by rw[jd.l0]) ?_⟩;rw[e];refine Ev.pos ae (Ev.pos ae (Ev.pos ae (Ev.neg ?_ ev)));rw[uX s i hl];exact fun e2=>hb (UInt8.toNat_inj.1 ae)
theorem Ri(s:ByteArray)(h:s.size≤1000000):∃c,Cut s c∧Ev (fun k=>jd.f k s) (B c):=
 aan s h s.size (aH _) (fun b hb=>by rw[List.drop_eq_nil_of_le (by rw[←Lib.size_eq];omega)] at hb;cases hb)
theorem kI{s:ByteArray}{a b:List UInt8}{c:UInt8}(h:s.data.toList=a++c::b):bt s (a.length:Int)=(c.toNat:Int):=by
 have hl:a.length<s.data.toList.length:=by rw[h];simp
 rw[uX s a.length hl,List.getElem_of_eq h hl,List.getElem_append_right (aH _)];simp
theorem apZ{R E:ByteArray}{e:List UInt8}(hE:E.data.toList=e++[10])(he:∀b∈e,b≠10)(hR:R=⟨#[]⟩∨∃x,R=x++f_)(hs:(R++E).size≤1000000):∀j:Nat,j≤e.length→Ev (fun k=>jx.l0 k (R++E) ((R.size:Int)+j - 1)) E:=by
 have hz:(10:UInt8).toNat=10:=rfl;have hzE:E.size=e.length+1:=by rw[Lib.size_eq,hE];simp
 have hzR:(R++E).size=R.size+E.size:=ByteArray.size_append;intro j
 induction j with
 |zero=>
  intro _;refine Ev.step (fun k=>by rw[jx.l0]) ?_;rcases hR with rfl|⟨x,rfl⟩
  ·have e0:(⟨#[]⟩:ByteArray)++E=E:=ByteArray.empty_append;refine Ev.neg (by rw[show(⟨#[]⟩:ByteArray).size=0 from rfl];omega) (Ev.done ?_);rw[e0]
  ·have hx:(x++f_).size=x.size+1:=ByteArray.size_append;have e1:((x++f_).size:Int)+(0:Nat) - 1=(x.data.toList.length:Int):=by rw[hx,Lib.size_eq];omega
   have hb:bt ((x++f_)++E) (x.data.toList.length:Int)=((10:UInt8).toNat:Int):=kI (b:=E.data.toList) (by rw[oK,oK,List.append_assoc];rfl);have hq:x.data.toList.length=x.size:=(Lib.size_eq x).symm;rw[e1];refine Ev.pos ae (Ev.pos ae (Ev.pos ae (Ev.pos (by rw[hb];rfl) (Ev.pos (by rw[bI ae ae];omega) (Ev.pos (by rw[bI ae ae];omega) (Ev.done ?_))))));rw[bI ae ae,show((x.data.toList.length:Int)+1).toNat=(x++f_).data.toList.length by rw[oK,List.length_append,show f_.data.toList.length=1 from rfl];omega];exact congrArg some (FH (by rw[Lib.extract_to_end,oK (x++f_) E,List.drop_left]))
 |succ j ih=>
  intro hj;have hlt:j<e.length:=ae
  have hb:bt (R++E) ((R.data.toList++e.take j).length:Int)=(e[j].toNat:Int):=kI (b:=e.drop (j+1)++[10]) (by
   rw[oK,hE,List.append_assoc]
   congr 1
   rw[←List.cons_append, ←List.drop_eq_getElem_cons hlt, ←List.append_assoc,List.take_append_drop])
  have el:(R.data.toList++e.take j).length=R.size+j:=by rw[List.length_append,List.length_take, ←Lib.size_eq];omega
  rw[el] at hb;refine Ev.step (fun k=>by rw[jx.l0]) ?_;rw[show(R.size:Int)+(j+1:Nat) - 1=((R.size+j:Nat):Int) by omega];refine Ev.pos ae (Ev.pos ae (Ev.pos ae (Ev.neg ?_ ?_)))
  ·rw[hb];exact fun e2=>he e[j] (List.getElem_mem hlt) (UInt8.toNat_inj.1 ae)
  ·rw[bI ae ae,show((R.size+j:Nat):Int) - 1=(R.size:Int)+j - 1 by omega];exact ih ae
theorem ap0{R E:ByteArray}{e:List UInt8}(hE:E.data.toList=e++[10])(he:∀b∈e,b≠10)(hR:R=⟨#[]⟩∨∃x,R=x++f_)(hs:(R++E).size≤1000000):Ev (fun k=>jx.f k (R++E)) E:=by
 have hzE:E.size=e.length+1:=by rw[Lib.size_eq,hE];simp
 have hzR:(R++E).size=R.size+E.size:=ByteArray.size_append;unfold jx.f;rw[bI ae ae,show((R++E).size:Int) - 2=(R.size:Int)+e.length - 1 by omega];exact apZ hE he hR hs e.length (aH _)
theorem ap1:∀n:Fin 11,∀b∈zq.data.toList++fV n.val,b≠10:=ao
theorem Rj(p:List Int):(oI p).data.toList=(zq.data.toList++fV p.length)++[10]:=by
 unfold oI;rw[oK,oK];simp[f_]
theorem Rk{p:List Int}(h:p.length≤10):(oI p).size≤20:=by
 rw[Lib.size_eq,Rj];have h1:=vr p.length;have h2:zq.data.toList.length=7:=rfl;simp only[List.length_append,h2,List.length_cons,List.length_nil];omega
theorem yR{f:StepT}(hf:oH f){s:ByteArray}(h6:s.size≤600):py f s=(gg f s).2++oI (gg f s).1.2∧(py f s).size≤200000∧Ev (fun k=>jx.f k (py f s)) (oI (gg f s).1.2):=by
 have g:=Fu hf h6;have e:py f s=(gg f s).2++oI (gg f s).1.2:=by unfold py;rw[ah h6]
 have hz:=Rk g.1.len;have hs:((gg f s).2++oI (gg f s).1.2).size≤200000:=by rw[ByteArray.size_append];have:=g.2;omega
 refine⟨e,by rw[e];exact hs,?_⟩;rw[e];exact ap0 (Rj _) (ap1 ⟨_,by have:=g.1.len;omega⟩) (apQ f s) ae
theorem Rl{f:StepT}{s:ByteArray}{c:List UInt8}(h:Cut s c):(∃L,Whole c L)∧gg f (B c)=gg f s:=by
 obtain⟨tail,hs,hf,hc⟩:=h;obtain⟨L,hL⟩:=apO hc;refine⟨⟨L,hL⟩,?_⟩;rw[aak (s:=B c) (L:=L) (by simpa [B] using hL)];refine(JE ?_).symm;rw[hs,hL,aaj 10 tail hf];simp
theorem ap2{s:ByteArray}{c:List UInt8}(h:Cut s c):(B c).size≤s.size:=by
 obtain⟨tail,hs,_,_⟩:=h;rw[po,Lib.size_eq,hs,List.length_append];omega
end X
end Go.Proofs.YtiobedekgnfjcaaGreatDoor
