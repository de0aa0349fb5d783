/- What both Executes come to: contracts and plain laws, for the laws on Execute. No conditions. (Part 4 of 28.) -/
import Derived.Test.YtiobedekgnfjcaaGreatDoorME0
import Derived.Test.YtiobedekgnfjcaaGreatDoorME1
import Derived.Test.YtiobedekgnfjcaaGreatDoorME2
import Derived.Test.YtiobedekgnfjcaaGreatDoorProg
set_option linter.unusedVariables false
set_option linter.unusedSimpArgs false
set_option maxHeartbeats 8000000
set_option maxRecDepth 100000
namespace Go.Proofs.YtiobedekgnfjcaaGreatDoorW.ay
open Go.Proofs.YtiobedekgnfjcaaGreatDoorW.aq (af)
def y7(md:Region.Mode)(o:Oper):List Nat:=(o.after.toList.filter (fun e=>Region.binds md e)).map (fun e=>e.on)
def JU(md:Region.Mode)(ops:Array Oper)(i:Nat)(oi:Oper):List Nat:=(List.range ops.size).filter fun j=>!(j==i)&&match ops[j]? with
 |some oj=>!(oj.after.any (fun e=>Region.binds md e&&e.on==i)||oi.apart ops oj)
 |none=>false
def fD(md:Region.Mode)(ops:Array Oper):Bool×List (List Nat×List Nat):=(Region.noSelect ops,(List.range ops.size).map fun i=>match ops[i]? with
 |some o=>(y7 md o,JU md ops i o)
 |none=>([],[]))
def tK(T:List (List Nat×List Nat))(l:List Bool)(i:Nat):Bool:=!l.getD i true&&match T[i]? with
 |some r=>r.1.all (fun j=>l.getD j false)
 |none=>false
def y8(T:List (List Nat×List Nat))(l:List Bool):List Nat:=(List.range T.length).filter (tK T l)
def BW(T:List (List Nat×List Nat))(l:List Bool)(i:Nat):Bool:=match T[i]? with
 |some r=>r.2.all (fun j=>l.getD j true)
 |none=>false
def F0(T:List (List Nat×List Nat))(l:List Bool):Bool:=(List.range T.length).all fun j=>!l.getD j false||match T[j]? with
 |some r=>r.1.all (fun k=>l.getD k false)
 |none=>true
def y9(T:List (List Nat×List Nat))(i:Nat):Nat→Nat→Bool
 |0,_=>false
 |fuel+1,d=>match T[d]? with
  |some r=>r.1.any fun j=>j==i||y9 T i fuel j
  |none=>false
def F1(T:List (List Nat×List Nat))(l:List Bool)(ds:List Nat)(i:Nat):Bool:=ds.all fun d=>l.getD d true||y9 T i T.length d
section
variable {md:Region.Mode} {ops:Array Oper} {T:Bool×List (List Nat×List Nat)} {l l' li lj lk:Array Bool} {ds:List Nat} {i j k:Nat}
theorem gd(l:Array Bool)(j:Nat)(b:Bool):l.getD j b=l.toList.getD j b:=by simp[Array.getD_eq_getD_getElem?,List.getD_eq_getElem?_getD]
theorem RS(o:Oper)(p:Nat→Bool):o.after.all (fun e=>!Region.binds md e||p e.on)=(y7 md o).all p:=by
 unfold y7;rw[←Array.all_toList]
 induction o.after.toList with
 |nil=>rfl
 |cons e r ih=>
  rw[List.all_cons,ih,List.filter_cons];cases h:Region.binds md e<;>simp
theorem abe(o:Oper)(p:Nat→Bool):o.after.any (fun e=>Region.binds md e&&p e.on)=(y7 md o).any p:=by
 unfold y7;rw[←Array.any_toList]
 induction o.after.toList with
 |nil=>rfl
 |cons e r ih=>
  rw[List.any_cons,ih,List.filter_cons];cases h:Region.binds md e<;>simp
theorem F2:(fD md ops).2.length=ops.size:=by simp[fD]
theorem F3{o:Oper}(h:ops[i]?=some o):(fD md ops).2[i]?=some (y7 md o,JU md ops i o):=by
 have hi:=(Array.getElem?_eq_some_iff.1 h).1;unfold fD;rw[List.getElem?_map,List.getElem?_range hi,Option.map_some,h]
theorem F4(h:ops[i]?=none):(fD md ops).2[i]?=none:=by
 have hi:ops.size≤i:=Array.getElem?_eq_none_iff.1 h;exact List.getElem?_eq_none (by rw[F2];exact hi)
theorem abf:tK (fD md ops).2 l.toList i=(!l.getD i true&&((ops[i]?).map (·.after.all fun e=>!Region.binds md e||l.getD e.on false)).getD false):=by
 unfold tK;rw[gd];cases h:ops[i]? with
 |none=>rw[F4 h];rfl
 |some o=>
  rw[F3 h];simp only[Option.map_some,Option.getD_some];rw[←RS];simp only[gd]
theorem F5:Region.ready md ops l=y8 (fD md ops).2 l.toList:=by
 unfold Region.ready y8;rw[F2];refine List.filter_congr (fun i _=>?_);rw[abf]
theorem RT:Region.free md ops l i=BW (fD md ops).2 l.toList i:=by
 unfold Region.free BW;cases h:ops[i]? with
 |none=>rw[F4 h]
 |some oi=>
  rw[F3 h];simp only[JU];rw[List.all_filter]
  congr 1
  funext j
  rw[gd];cases hj:ops[j]? with
  |none=>cases (j==i)<;>cases (l.toList.getD j true)<;>simp
  |some oj=>
   cases (j==i)<;>cases (l.toList.getD j true)<;>cases (oj.after.any (fun e=>Region.binds md e&&e.on==i)||oi.apart ops oj)<;>simp_all
theorem abg:Region.BT md ops l=F0 (fD md ops).2 l.toList:=by
 unfold Region.BT F0;rw[F2]
 congr 1
 funext j
 rw[gd];cases h:ops[j]? with
 |none=>rw[F4 h]
 |some o=>
  rw[F3 h];simp only;rw[←RS];simp only[gd]
theorem RU:∀(fuel d:Nat),Region.oM md ops i fuel d=y9 (fD md ops).2 i fuel d
 |0,_=>rfl
 |fuel+1,d=>by
  unfold Region.oM y9;cases h:ops[d]? with
  |none=>rw[F4 h]
  |some o=>
   rw[F3 h];simp only;rw[←abe]
   congr 1
   funext e
   rw[RU fuel]
theorem abh:Region.FZ md ops l ds i=F1 (fD md ops).2 l.toList ds i:=by
 unfold Region.FZ F1;rw[F2]
 congr 1
 funext d
 rw[gd,RU]
theorem RV(h:tK T.2 l.toList i=true)(hT:fD md ops=T):(Region.ready md ops l).contains i=true:=by
 subst hT;rw[F5];unfold y8;rw[List.contains_iff_mem,List.mem_filter,List.mem_range];refine⟨?_,h⟩;unfold tK at h;rw[Bool.and_eq_true] at h;cases hq:(fD md ops).2[i]? with
 |none=>rw[hq] at h;simp at h
 |some r=>exact(List.getElem?_eq_some_iff.1 hq).1
theorem BX(h:(l.toList.set i true==l'.toList)=true):(l.setIfInBounds i true==l')=true:=by
 rw[beq_iff_eq] at h ⊢;apply Array.ext';rw[Array.toList_setIfInBounds];exact h
def F6(T:Bool×List (List Nat×List Nat))(l l':List Bool)(i:Nat):Bool:=T.1&&BW T.2 l i&&tK T.2 l i&&(l.set i true==l')
theorem RW(hT:fD md ops=T)(h:F6 T l.toList l'.toList i=true):BU md ops l l' i=true:=by
 simp only[F6,Bool.and_eq_true] at h;obtain⟨⟨⟨h1,h2⟩,h3⟩,h4⟩:=h;have h5:=RV h3 hT;have h6:=BX h4;subst hT;simp only[BU,Bool.and_eq_true];exact⟨⟨⟨h1,by rw[RT];exact h2⟩,h5⟩,h6⟩
def JV(T:Bool×List (List Nat×List Nat))(ds:List Nat)(l l':List Bool)(i:Nat):Bool:=T.1&&BW T.2 l i&&tK T.2 l i&&F0 T.2 l&&F1 T.2 l ds i&&(l.set i true==l')
theorem abj(hT:fD md ops=T)(h:JV T ds l.toList l'.toList i=true):vC md ops ds l l' i=true:=by
 simp only[JV,Bool.and_eq_true] at h;obtain⟨⟨⟨⟨⟨h1,h2⟩,h3⟩,h4⟩,h5⟩,h6⟩:=h;have h7:=RV h3 hT;have h8:=BX h6;subst hT;simp only[vC,Bool.and_eq_true];exact⟨⟨⟨⟨⟨h1,by rw[RT];exact h2⟩,h7⟩,by rw[abg];exact h4⟩,by rw[abh];exact h5⟩,h8⟩
theorem gj(hT:fD md ops=T)(h:(y8 T.2 l.toList==[i]&&l.toList.set i true==l'.toList)=true):yZ md ops l l' i=true:=by
 simp only[Bool.and_eq_true] at h;obtain⟨h1,h2⟩:=h;subst hT;simp only[yZ,Bool.and_eq_true];exact⟨by rw[F5];exact h1,BX h2⟩
theorem zd(hT:fD md ops=T)(h:(y8 T.2 l.toList==[i,j]&&l.toList.set i true==li.toList&&l.toList.set j true==lj.toList)=true):(Region.ready md ops l==[i,j]&&l.setIfInBounds i true==li&&l.setIfInBounds j true==lj)=true:=by
 simp only[Bool.and_eq_true] at h ⊢;obtain⟨⟨h1,h2⟩,h3⟩:=h;subst hT;exact⟨⟨by rw[F5];exact h1,BX h2⟩,BX h3⟩
theorem ni(hT:fD md ops=T)(h:(y8 T.2 l.toList==[])=true):(Region.ready md ops l==[])=true:=by
 subst hT;rw[F5];exact h
def vD(B:List Nat)(d:Nat):List Nat→Nat
 |[]=>0
 |n::r=>(2 ^ n|||(if n<d then B.getD n 0 else 0))|||vD B d r
def nj(T:List (List Nat×List Nat))(B:List Nat):Bool:=(List.range T.length).all fun d=>match T[d]? with
 |some r=>(B.getD d 0|||vD B d r.1)==vD B d r.1
 |none=>false
theorem RX{B:List Nat}{d i:Nat}:∀{ns:List Nat},(vD B d ns).testBit i=true→∃n∈ns,n=i∨(n<d∧(B.getD n 0).testBit i=true)
 |[],h=>by simp[vD] at h
 |n::r,h=>by
  unfold vD at h;rw[Nat.testBit_or,Nat.testBit_or,Bool.or_eq_true,Bool.or_eq_true] at h;rcases h with(h|h)|h
  ·rw[Nat.testBit_two_pow] at h;exact⟨n,List.mem_cons_self,.inl (by simpa using h)⟩
  ·by_cases hn:n<d
   ·rw[if_pos hn] at h;exact⟨n,List.mem_cons_self,.inr ⟨hn,h⟩⟩
   ·rw[if_neg hn] at h;simp at h
  ·obtain⟨m,hm,h2⟩:=RX h;exact⟨m,List.mem_cons_of_mem _ hm,h2⟩
theorem RY{T:List (List Nat×List Nat)}{B:List Nat}(hB:nj T B=true):∀(fuel d:Nat),d<fuel→d<T.length→(B.getD d 0).testBit i=true→y9 T i fuel d=true
 |0,d,h,_,_=>by omega
 |fuel+1,d,h,hd,hb=>by
  have h1:=List.all_eq_true.1 hB d (List.mem_range.2 hd);cases hr:T[d]? with
  |none=>rw[hr] at h1;simp at h1
  |some r=>
   rw[hr] at h1;simp only[beq_iff_eq] at h1;have h2:(vD B d r.1).testBit i=true:=by rw[←h1,Nat.testBit_or,hb,Bool.true_or]
   obtain⟨n,hn,h3⟩:=RX h2;unfold y9;rw[hr];simp only;rw[List.any_eq_true];refine⟨n,hn,?_⟩;rcases h3 with rfl|⟨h4,h5⟩
   ·simp
   ·rw[RY hB fuel n (by omega) (by omega) h5,Bool.or_true]
def RZ(T:List (List Nat×List Nat))(B:List Nat)(l:List Bool)(ds:List Nat)(i:Nat):Bool:=ds.all fun d=>l.getD d true||(decide (d<T.length)&&(B.getD d 0).testBit i)
def JW(T:Bool×List (List Nat×List Nat))(B:List Nat)(ds:List Nat)(l l':List Bool)(i:Nat):Bool:=T.1&&BW T.2 l i&&tK T.2 l i&&F0 T.2 l&&RZ T.2 B l ds i&&(l.set i true==l')
theorem abk{B:List Nat}(hT:fD md ops=T)(hB:nj T.2 B=true)(h:JW T B ds l.toList l'.toList i=true):vC md ops ds l l' i=true:=by
 refine abj hT ?_;simp only[JW,JV,Bool.and_eq_true] at h ⊢;obtain⟨⟨⟨⟨⟨h1,h2⟩,h3⟩,h4⟩,h5⟩,h6⟩:=h;refine⟨⟨⟨⟨⟨h1,h2⟩,h3⟩,h4⟩,?_⟩,h6⟩;unfold RZ at h5;unfold F1;rw[List.all_eq_true] at h5 ⊢;intro d hd;have h7:=h5 d hd;rw[Bool.or_eq_true,Bool.and_eq_true,decide_eq_true_eq] at h7;rcases h7 with h7|⟨h8,h9⟩
 ·rw[h7,Bool.true_or]
 ·rw[RY hB _ d h8 h8 h9,Bool.or_true]
theorem nk{P:Program}{Q:Exit→Act→World→Prop}{S:World→Prop}{n:Nat}{a:Act}{w:World}{B:List Nat}(hT:fD md ops=T)(hB:nj T.2 B=true)(h:af (fD md ops=T)→af (nj T.2 B=true)→dI P md ops Q S ds n l a w):dI P md ops Q S ds n l a w:=h ⟨hT⟩ ⟨hB⟩
end
def qP:Code→Nat→Option (Array Oper)
 |.region id ops _,k=>if id==k then some ops else none
 |.seq a b,k=>match qP a k with
  |some o=>some o
  |none=>qP b k
 |.cond _ a b,k=>match qP a k with
  |some o=>some o
  |none=>qP b k
 |.block _ c,k=>qP c k
 |.loop c,k=>qP c k
 |.scope c,k=>qP c k
 |.rangeFunc _ _ a b,k=>match qP a k with
  |some o=>some o
  |none=>qP b k
 |_,_=>none
def opsOf(f:Func)(k:Nat):Array Oper:=((f.body.bind fun c=>qP c k)).getD #[]
end Go.Proofs.YtiobedekgnfjcaaGreatDoorW.ay
namespace Go.Proofs.YtiobedekgnfjcaaGreatDoor
open Go.Proofs.YtiobedekgnfjcaaGreatDoorW.aq Go.Proofs.YtiobedekgnfjcaaGreatDoorW.ay Go.RowKit
namespace P
def JX:Option Int→Value
 |none=>.nilIface
 |some c=>.iface 149 (.int .i64 c)
theorem mv:JX none=.nilIface:=rfl
theorem mw(c:Int):JX (some c)=.iface 149 (.int .i64 c):=rfl
theorem info3:(Tryz.prog.info? 3).map (fun i=>(i.zero,i.size,i.bytes))=some (some (.int .i64 0),1,8):=by kernel_rfl
theorem F7:(Tryz.prog.info? 4).map (fun i=>(i.zero,i.size,i.bytes))=some (some (.bool false),1,1):=by kernel_rfl
theorem abl:(Tryz.prog.info? 5).map (fun i=>(i.zero,i.size,i.bytes))=some (some (.int .u8 0),1,1):=by kernel_rfl
theorem abm:(Tryz.prog.info? 9).map (fun i=>(i.zero,i.size,i.bytes))=some (some (.string ⟨#[]⟩),1,16):=by kernel_rfl
theorem kL:(Tryz.prog.info? 31).map (fun i=>(i.zero,i.size,i.bytes))=some (some (.slice none 0 0),1,24):=by kernel_rfl
def aT(xs:List (List Int))(i:Int):(List Int):=xs.getD i.toNat ([]:List Int)
theorem g8{w:World}{A:Option Addr}{n:Nat}{xs:List (List Int)}(h:Kd.C (Kd.slice 3 (Kd.int .i64)) w A n xs)(i:Int)(h0:0≤i)(h1:i<n):∃ad A0 c0,A=some ad∧w.cell? (ad.add i.toNat)=some (.slice A0 (aT xs i).length c0)∧(aT xs i).length≤c0∧(Kd.int .i64).C w A0 (aT xs i).length (aT xs i):=by
 obtain⟨ad,c,e,_,hK,hc0⟩:=Kd.FR h ([]:List Int) i h0 h1;have hc:∀j u,c[j]?=some u→w.cell? (ad.add (i.toNat*1+j))=some u:=hc0;obtain⟨A0,c0,rfl,l0,g0⟩:=hK;exact⟨ad,A0,c0,e,by have hq:=hc 0 _ rfl;rwa [Nat.mul_one,Nat.add_zero] at hq,l0,g0⟩
theorem vE(w:World)(n:Nat):w.drewN n=w.drewN n:=rfl
theorem aX{p q:Prop}(h:af p)(f:p→q:=by(intro h_;(with_reducible repeat(first|apply Kd.iJ|apply Kd.iy|apply Kd.fU));exact h_)):q:=f h.o
theorem ai{p q:Prop}(h:af p)(f:p→q:=by(intro h_;repeat(first|(with_reducible first|exact h_|apply cS|apply bb|apply bR)|exact h_))):q:=f h.o
theorem pE{p q:Prop}(h:af p)(f:p→q:=by(intro h_;repeat(first|exact(Kd.bm h_).2.2|(with_reducible refine Kd.g7 ?_ _)|(with_reducible refine Kd.e8 ?_ _)|(with_reducible refine Kd.iz ?_)))):q:=f h.o
theorem bD{p q:Prop}(h:af p)(f:p→q:=by(intro h_;repeat(first|exact h_|(with_reducible refine Kd.g7 ?_ _)|(with_reducible refine Kd.e8 ?_ _)|(with_reducible refine Kd.iz ?_)))):q:=f h.o
theorem aJ{p:Prop}[Decidable p](h:decide p=true:=by first|(with_reducible assumption)|assumption):p:=of_decide_eq_true h
theorem qQ{p:Prop}(h:p:=by((try simp only[List.map_toArray,List.map_cons,List.map_nil]);first|done|rfl|(simp only[List.length_drop,List.length_take];rfl))):p:=h
theorem bE{p:Prop}(h:p:=by first|rfl|(simp[mv,mw]<;>rfl)|(simp[*,mv,mw]<;>rfl)):p:=h
theorem cG{p q:Prop}{w W:World}{n:Nat}(h:af p)(h2:af (Below n w W))(f:p→Below n w W→q:=by(intro h_ hb_;repeat(first|exact(Kd.aN h_ hb_)|(with_reducible refine Kd.g7 ?_ _)|(with_reducible refine Kd.e8 ?_ _)|(with_reducible refine Kd.iz ?_)))):q:=f h.o h2.o
theorem dw{w W:World}{p:Addr}{v:Value}{q:Prop}(h:af (Below w.heap.size w W))(hx:w.cell? p=some v)(f:W.cell? p=some v→q:=by exact fun h_=>h_):q:=f ((h.o.cell (World.block_lt_of_cell? w _ hx)).trans hx)
def m_(n b:Nat):Array Bool:=((List.range n).map fun i=>b.testBit i).toArray
abbrev T_:=true
abbrev F_:=false
section
variable {P:Program} {md:Region.Mode} {ops:Array Oper} {Q:Exit→Act→World→Prop} {S:World→Prop} {ds:List Nat} {T:Bool×List (List Nat×List Nat)} {B:List Nat} {oi:Oper} {v:Value} {fuel:Nat} {l:Array Bool} {a a':Act} {w:World}
theorem p_(i:Nat)(N:Tmp)(l':Array Bool)(hT:fD md ops=T)(h:dI P md ops Q S ds fuel l' a' w)
  (hi:ops[i]?=some oi:=by rfl) (hN:oi.dst=some N:=by rfl) (hc:F6 T l.toList l'.toList i=true:=by kernel_rfl) (hQ:∀c a w,Q (.panic c) (a.put oi.dst v) w→Q (.panic c) a w:=by exact fun _ _ _ h=>h)
  (hy:Yields P ops oi v a:=by exact Or.inl ⟨by rfl,by intro w';go_simp;with_reducible rfl⟩) (ha:a.put (some N) v=a':=by simp only[Act.put,List.setIfInBounds_toArray,List.set_cons_zero,List.set_cons_succ,dh,fb];rfl):dI P md ops Q S ds (fuel+1) l a w:=
 JR (i:=i) (N:=some N) l' hi hN (RW hT hc) hQ hy ha h
theorem eF(i:Nat)(N:Tmp)(l':Array Bool)(h:dI P md ops Q S ds fuel l' a' w)
  (hi:ops[i]?=some oi:=by rfl) (hN:oi.dst=some N:=by rfl) (hc:BU md ops l l' i=true:=by kernel_rfl) (hQ:∀c a w,Q (.panic c) (a.put oi.dst v) w→Q (.panic c) a w:=by exact fun _ _ _ h=>h)
  (hy:Yields P ops oi v a:=by exact Or.inl ⟨by rfl,by intro w';go_simp;with_reducible rfl⟩) (ha:a.put (some N) v=a':=by simp only[Act.put,List.setIfInBounds_toArray,List.set_cons_zero,List.set_cons_succ,dh,fb];rfl):dI P md ops Q S ds (fuel+1) l a w:=
 JR (i:=i) (N:=some N) l' hi hN hc hQ hy ha h
theorem u_(i:Nat)(N:Tmp)(l':Array Bool)(hT:fD md ops=T)(h:dI P md ops Q S ds fuel l' a' w)
  (hi:ops[i]?=some oi:=by rfl) (hN:oi.dst=some N:=by rfl) (hc:F6 T l.toList l'.toList i=true:=by kernel_rfl) (hQ:∀c a w,Q (.panic c) (a.put oi.dst undef) w→Q (.panic c) a w:=by exact fun _ _ _ h=>h)
  (hy:Yields P ops oi undef a:=by exact Or.inr ⟨by rfl,rfl⟩) (ha:a.put (some N) undef=a':=by simp only[Act.put,List.setIfInBounds_toArray,List.set_cons_zero,List.set_cons_succ,dh,fb];rfl):dI P md ops Q S ds (fuel+1) l a w:=
 JR (i:=i) (N:=some N) l' hi hN (RW hT hc) hQ hy ha h
theorem nn(i:Nat)(N:Tmp)(l':Array Bool)(hT:fD md ops=T)(hB:nj T.2 B=true)(hS:S w)(h:dI P md ops Q S ds fuel l' a' w)
  (hi:ops[i]?=some oi:=by rfl) (hN:oi.dst=some N:=by rfl) (hc:JW T B ds l.toList l'.toList i=true:=by kernel_rfl) (hQ:∀c a w,Q (.panic c) (a.put oi.dst v) w→Q (.panic c) a w:=by exact fun _ _ _ h=>h)
  (hy:YieldsIf P ops S oi v a:=by exact Or.inl ⟨by rfl,by rintro w' ⟨s0,s1⟩;go_simp;with_reducible rfl⟩) (ha:a.put (some N) v=a':=by simp only[Act.put,List.setIfInBounds_toArray,List.set_cons_zero,List.set_cons_succ,dh,fb];rfl):dI P md ops Q S ds (fuel+1) l a w:=
 yT (i:=i) (N:=some N) l' hi hN (abk hT hB hc) hQ hy hS ha h
theorem qR(i:Nat)(N:Tmp)(l':Array Bool)(hS:S w)(h:dI P md ops Q S ds fuel l' a' w)
  (hi:ops[i]?=some oi:=by rfl) (hN:oi.dst=some N:=by rfl) (hc:vC md ops ds l l' i=true:=by kernel_rfl) (hQ:∀c a w,Q (.panic c) (a.put oi.dst v) w→Q (.panic c) a w:=by exact fun _ _ _ h=>h)
  (hy:YieldsIf P ops S oi v a:=by exact Or.inl ⟨by rfl,by rintro w' ⟨s0,s1⟩;go_simp;with_reducible rfl⟩) (ha:a.put (some N) v=a':=by simp only[Act.put,List.setIfInBounds_toArray,List.set_cons_zero,List.set_cons_succ,dh,fb];rfl):dI P md ops Q S ds (fuel+1) l a w:=
 yT (i:=i) (N:=some N) l' hi hN hc hQ hy hS ha h
theorem JY(i:Nat)(N:Tmp)(l':Array Bool)(hS:S w)(h:dI P md ops Q S ds fuel l' a' w)
  (hi:ops[i]?=some oi:=by rfl) (hN:oi.dst=some N:=by rfl) (hc:vC md ops ds l l' i=true:=by kernel_rfl) (hQ:∀c a w,Q (.panic c) (a.put oi.dst v) w→Q (.panic c) a w:=by exact fun _ _ _ h=>h)
  (hy:YieldsIf P ops S oi v a:=by exact Or.inl ⟨by rfl,by rintro w' ⟨s0,s1,s2⟩;go_simp;with_reducible rfl⟩) (ha:a.put (some N) v=a':=by simp only[Act.put,List.setIfInBounds_toArray,List.set_cons_zero,List.set_cons_succ,dh,fb];rfl):dI P md ops Q S ds (fuel+1) l a w:=
 yT (i:=i) (N:=some N) l' hi hN hc hQ hy hS ha h
end
end P
namespace P
theorem ak{p:Prop}(h:p:=by first|rfl|(simp;done)|(simp[*];done)):p:=h
theorem np{p:Prop}(h:p:=by first|omega|exact aH _):p:=h
theorem B_{p q:Prop}(h:af p)(f:p→q:=by(intro h_;first|omega|exact aH _)):q:=f h.o
theorem aQ{p:Prop}(h:p:=by repeat(first|exact aG.refl _|apply aG.step)):p:=h
theorem Ga{p q:Prop}(h:af p)(f:p→q:=by(intro h_;repeat(first|(with_reducible first|exact h_|apply Kept.alloc|apply Kept.drewN|apply Kept.drew)|exact h_))):q:=f h.o
theorem cn{p q:Prop}(h:af p)(f:p→q:=by(intro h_;(with_reducible repeat(first|apply Kd.dX|apply Kd.dY|apply Kd.dJ));exact h_)):q:=f h.o
theorem bM{p q:Prop}(h:af p)(f:p→q:=by(intro h_;(with_reducible repeat(first|apply Kd.tM|apply Kd.tN|apply Kd.tO));exact h_)):q:=f h.o
theorem eA{p:Prop}(h:p:=by first|exact⟨rfl,_,World.drewN_drewN _ _ _⟩|exact⟨rfl,_,Eq.trans (World.drewN_drewN _ _ _) (congrArg (World.drewN _) (Nat.add_assoc _ _ _))⟩):p:=h
theorem lw{α β:Type}{e:α}{f:α→Option β}{r:Option β}(h:(some e).bind f=r):∃y,af (y=e)∧f y=r:=⟨e,⟨rfl⟩,h⟩
theorem bC{c:Prop}[Decidable c]{α:Type}{x:Option α}{r:α}(h:(if c then x else none)=some r):decide c=true∧x=some r:=by
 by_cases k:c
 ·rw[ah k] at h;exact⟨ap k,h⟩
 ·rw[ag k] at h;cases h
theorem eu{k:IntKind}{w:World}{A:Option Addr}{n:Nat}{xs:List Int}(h:af ((Kd.int k).C w A n xs))(i:Int)(p:decide (0≤i)=true:=by first|(with_reducible assumption)|assumption)(q:decide (i<(n:Int))=true:=by first|(with_reducible assumption)|assumption):∃ad,A=some ad∧w.cell? (ad.add i.toNat)=some (.int k (rd xs i))∧(0≤i)=True∧(i<(n:Int))=True:=by
 obtain⟨ad,e,hx⟩:=Kd.ck h.o i (of_decide_eq_true p) (of_decide_eq_true q);exact⟨ad,e,hx,av (of_decide_eq_true p),av (of_decide_eq_true q)⟩
theorem fW{k:IntKind}{w:World}{ad:Addr}{n:Nat}{xs:List Int}(h:af ((Kd.int k).C w (some ad) n xs))(i:Int)(p:decide (0≤i)=true:=by first|(with_reducible assumption)|assumption)(q:decide (i<(n:Int))=true:=by first|(with_reducible assumption)|assumption):w.cell? (ad.add i.toNat)=some (.int k (rd xs i))∧(0≤i)=True∧(i<(n:Int))=True:=by
 obtain⟨ad,e,hx⟩:=Kd.ck h.o i (of_decide_eq_true p) (of_decide_eq_true q);cases e;exact⟨hx,av (of_decide_eq_true p),av (of_decide_eq_true q)⟩
theorem fl{P:Program}{md:Region.Mode}{ops:Array Oper}{Q:Exit→Act→World→Prop}{S:World→Prop}{ds:List Nat}{fuel:Nat}{l:Array Bool}{a a':Act}{w:World}(N:Tmp){v:Value}(h:dI P md ops Q S ds fuel l a' w)(ha:a.put (some N) v=a':=by simp only[Act.put,List.setIfInBounds_toArray,List.set_cons_zero,List.set_cons_succ,dh,fb];rfl):dI P md ops Q S ds fuel l (a.put (some N) v) w:=eE ha h
theorem aY{P:Program}{ops:Array Oper}{Q:Exit→Act→World→Prop}{rest:List Oper}{oi:Oper}{a:Act}{w:World}(N:Tmp){f:FuncId}{fn:Func}{pC:Array Operand}{ts:Array TypeId}(hf:P.funcs[f]?=some fn)(args:Array Value)
  (h:Calls P f args w fun e w'=> ∃v,e=.returned v∧wpList P ops Q rest (a.put (some N) v) w') (hd:oi.dst=some N:=by rfl) (hg:oi.guard=none:=by rfl) (hname:(fn.name== "runtime.NumGoroutine")=false:=by kernel_rfl) (hb:fn.body.isSome=true:=by rfl)
  (hop:oi.op=.call { callee:=.value (.func f),args:=pC,argTypes:=ts }:=by rfl) (hargs:pC.map a.eval=args:=by((try simp only[List.map_toArray,List.map_cons,List.map_nil]);first|done|rfl|(simp only[List.length_drop,List.length_take];rfl))):wpList P ops Q (oi::rest) a w:=
 y6 (some N) hd hg hf hname hb args hop hargs h
theorem cx{P:Program}{ops:Array Oper}{Q:Exit→Act→World→Prop}{rest:List Oper}{oi:Oper}{a:Act}{w:World}(N:Tmp){f:FuncId}{fn:Func}{pC:Array Operand}{ts:Array TypeId}(hf:P.funcs[f]?=some fn)(args:Array Value){v:Value}
  (hc:Calls P f args w fun e w'=>e=.returned v∧aG w w') (h:∀n,wpList P ops Q rest (a.put (some N) v) (w.drewN n)) (hd:oi.dst=some N:=by rfl) (hg:oi.guard=none:=by rfl) (hname:(fn.name== "runtime.NumGoroutine")=false:=by kernel_rfl) (hb:fn.body.isSome=true:=by rfl)
  (hop:oi.op=.call { callee:=.value (.func f),args:=pC,argTypes:=ts }:=by rfl) (hargs:pC.map a.eval=args:=by((try simp only[List.map_toArray,List.map_cons,List.map_nil]);first|done|rfl|(simp only[List.length_drop,List.length_take];rfl))):wpList P ops Q (oi::rest) a w:=
 y6 (some N) hd hg hf hname hb args hop hargs (hc.mono (by
  rintro e w' ⟨rfl,⟨n,rfl⟩⟩;exact⟨_,rfl,h n⟩))
theorem aM{p:Prop}{w W w2:World}(h:af p)(hb:Below W.heap.size W w2)(f:p→Below w.heap.size w W:=by(intro h_;repeat(first|(with_reducible first|exact h_|apply cS|apply bb|apply bR)|exact h_))):af (Below w.heap.size w w2):=⟨mr (f h.o) hb⟩
theorem dp{p q:Prop}(h:af p)(f:p→q:=by(intro h_;repeat(first|(with_reducible first|exact h_|apply bS.alloc|apply bS.drewN|apply bS.drew|apply bS.abI)|exact h_))):q:=f h.o
theorem dO{p q r:Prop}(h:af p)(g:af r)(f:p→r→q:=by(intro h_ g_;repeat(first|(with_reducible first|exact h_|apply cS|apply bb|apply bR|refine mu ?_ (bS.ge g_))|exact h_))):q:=f h.o g.o
theorem dT{p q:Prop}(h:af p)(f:p→q:=by(intro h_;repeat(first|(with_reducible first|exact h_|apply cF.Ry|apply aaZ|apply aa2|apply aa0)|exact h_))):q:=f h.o
def lY.f(a0:Int)(a1:Int):Option (Int):=some (wrap64 ((Int.tmod (wrap64 ((Int.tmod a0 3)+3)) 3)+(wrap64 (3*(Int.tmod (wrap64 ((Int.tmod a1 3)+3)) 3)))))
theorem lY.calls(a0:Int)(a1:Int)(r:Int)(w:World)(h:lY.f a0 a1=some r):
  Calls Tryz.prog 64 #[.int .i64 a0,.int .i64 a1] w fun e w'=>e=.returned (.int .i64 r)∧aG w w':=by
 have H:=h;clear h;unfold lY.f at H;obtain rfl:=au H;go_enter Tryz.func64,Tryz.ntmps64;go_wp2;go_ret;exact⟨ak,aQ⟩
def eP.f(a0:Int)(a1:Int):Option (Int):=(lY.f (wrap64 ((wrap64 ((Int.tmod a0 3)*(Int.tmod a1 3))) - (wrap64 ((wrap64 (Int.tdiv a0 3))*(wrap64 (Int.tdiv a1 3)))))) (wrap64 ((wrap64 ((Int.tmod a0 3)*(wrap64 (Int.tdiv a1 3))))+(wrap64 ((wrap64 (Int.tdiv a0 3))*(Int.tmod a1 3)))))).bind fun t173=>(some t173)
theorem eP.calls(a0:Int)(a1:Int)(r:Int)(w:World)(h:eP.f a0 a1=some r):
  Calls Tryz.prog 71 #[.int .i64 a0,.int .i64 a1] w fun e w'=>e=.returned (.int .i64 r)∧aG w w':=by
 have H:=h;clear h;unfold eP.f at H;replace H:=aA.mp H;obtain⟨t173,bW,H⟩:=H;have A3:=af.mk bW;clear bW;obtain rfl:=au H;go_enter Tryz.func71,Tryz.ntmps71;go_wp2_with ((refine cx 31 Tryz.func64 #[.int .i64 (wrap64 ((wrap64 ((Int.tmod a0 3)*(Int.tmod a1 3))) - (wrap64 ((wrap64 (Int.tdiv a0 3))*(wrap64 (Int.tdiv a1 3)))))),.int .i64 (wrap64 ((wrap64 ((Int.tmod a0 3)*(wrap64 (Int.tdiv a1 3))))+(wrap64 ((wrap64 (Int.tdiv a0 3))*(Int.tmod a1 3)))))] (lY.calls (wrap64 ((wrap64 ((Int.tmod a0 3)*(Int.tmod a1 3))) - (wrap64 ((wrap64 (Int.tdiv a0 3))*(wrap64 (Int.tdiv a1 3)))))) (wrap64 ((wrap64 ((Int.tmod a0 3)*(wrap64 (Int.tdiv a1 3))))+(wrap64 ((wrap64 (Int.tdiv a0 3))*(Int.tmod a1 3))))) t173 _ A3.o) fun nd=>?_))
 go_ret;exact⟨ak,aQ⟩
def vJ.f(a0:Int):Option (Int):=(eP.f a0 a0).bind fun t175=>((eP.f a0 t175).bind fun J2=>(some J2))
theorem vJ.calls(a0:Int)(r:Int)(w:World)(h:vJ.f a0=some r):
  Calls Tryz.prog 72 #[.int .i64 a0] w fun e w'=>e=.returned (.int .i64 r)∧aG w w':=by
 have H:=h;clear h;unfold vJ.f at H;replace H:=aA.mp H;obtain⟨t175,cW,H⟩:=H;have A2:=af.mk cW;clear cW;replace H:=aA.mp H;obtain⟨J2,bW,H⟩:=H;have A3:=af.mk bW;clear bW;obtain rfl:=au H;go_enter Tryz.func72,Tryz.ntmps72;go_wp2_with (first|(refine cx 6 Tryz.func71 #[.int .i64 a0,.int .i64 a0] (eP.calls a0 a0 t175 _ A2.o) fun nd=>?_)|(refine cx 7 Tryz.func71 #[.int .i64 a0,.int .i64 t175] (eP.calls a0 t175 J2 _ A3.o) fun nd=>?_))
 go_ret;exact⟨ak,aQ⟩
def nW.l0:Nat→Int→Int→Option (Bool)
 |0,_,_=>none
 |k+1,x0,x3=>if x3<9 then((eP.f x3 x3).bind fun Ca=>(if Ca=x0 then(some true) else(nW.l0 k x0 (wrap64 (x3+1))))) else(some false)
def nW.f(k:Nat)(a0:Int):Option (Bool):=nW.l0 k a0 1
theorem nW.calls(k:Nat)(a0:Int)(r:Bool)(w:World)(h:nW.f k a0=some r):
  Calls Tryz.prog 70 #[.int .i64 a0] w fun e w'=>e=.returned (.bool r)∧aG w w':=by
 have H:=h;clear h;unfold nW.f at H;have H':=af.mk H;clear H;go_enter Tryz.func70,Tryz.ntmps70;go_wp2;go_loopg [3] k (fun kq v3 w'=> ∃(aV:Int),v3=.int .i64 aV∧af (nW.l0 kq a0 aV=some r)∧af (kq≤k)∧aG w w')
 case atStart=>exact⟨(1),ak,H',⟨aH _⟩,aQ⟩
 case round=>
  clear H';obtain⟨aV,rfl,HA,aC,⟨m1,rfl⟩⟩:=hrel;cases gk with
  |zero=>exact absurd HA.o (by simp[nW.l0])
  |succ k1=>
   have H:=HA.o;clear HA;simp only[nW.l0] at H;by_cases c2:aV<9
   case neg=>
    rw[ag c2] at H;have eM:=aD c2;clear c2;obtain rfl:=au H;go_wp2;go_ret;exact⟨ak,aQ⟩
   rw[ah c2] at H;have eM:=ap c2;clear c2;replace H:=aA.mp H;obtain⟨Ca,bW,H⟩:=H;have A3:=af.mk bW;clear bW;by_cases c4:Ca=a0
   case neg=>
    rw[ag c4] at H;have dK:=cV c4;have nX:=bne_iff_ne.mpr c4;have H':=af.mk H;clear H;go_wp2_with ((refine cx 10 Tryz.func71 #[.int .i64 aV,.int .i64 aV] (eP.calls aV aV Ca _ A3.o) fun nd=>?_))
    go_roundg k1
    case measure=>have:=aC.o;omega
    case rel=>exact⟨(wrap64 (aV+1)),ak,H',⟨by have:=aC.o;omega⟩,aQ⟩
   rw[ah c4] at H;have dK:=beq_iff_eq.mpr c4;have nX:=bne_eq_false_iff_eq.mpr c4;clear c4;obtain rfl:=au H;go_wp2_with ((refine cx 10 Tryz.func71 #[.int .i64 aV,.int .i64 aV] (eP.calls aV aV Ca _ A3.o) fun nd=>?_))
   go_ret;exact⟨ak,aQ⟩
def nY.f(a0:Int)(a1:Int):Option (Int):=(lY.f (wrap64 ((Int.tmod a0 3)+(Int.tmod a1 3))) (wrap64 ((wrap64 (Int.tdiv a0 3))+(wrap64 (Int.tdiv a1 3))))).bind fun t208=>(some t208)
theorem nY.calls(a0:Int)(a1:Int)(r:Int)(w:World)(h:nY.f a0 a1=some r):
  Calls Tryz.prog 36 #[.int .i64 a0,.int .i64 a1] w fun e w'=>e=.returned (.int .i64 r)∧aG w w':=by
 have H:=h;clear h;unfold nY.f at H;replace H:=aA.mp H;obtain⟨t208,bW,H⟩:=H;have A3:=af.mk bW;clear bW;obtain rfl:=au H;go_enter Tryz.func36,Tryz.ntmps36;go_wp2_with ((refine cx 15 Tryz.func64 #[.int .i64 (wrap64 ((Int.tmod a0 3)+(Int.tmod a1 3))),.int .i64 (wrap64 ((wrap64 (Int.tdiv a0 3))+(wrap64 (Int.tdiv a1 3))))] (lY.calls (wrap64 ((Int.tmod a0 3)+(Int.tmod a1 3))) (wrap64 ((wrap64 (Int.tdiv a0 3))+(wrap64 (Int.tdiv a1 3)))) t208 _ A3.o) fun nd=>?_))
 go_ret;exact⟨ak,aQ⟩
def zu.f(a0:Int):Option (Int):=(lY.f (wrap64 (-(Int.tmod a0 3))) (wrap64 (-(wrap64 (Int.tdiv a0 3))))).bind fun J8=>(some J8)
theorem zu.calls(a0:Int)(r:Int)(w:World)(h:zu.f a0=some r):
  Calls Tryz.prog 69 #[.int .i64 a0] w fun e w'=>e=.returned (.int .i64 r)∧aG w w':=by
 have H:=h;clear h;unfold zu.f at H;replace H:=aA.mp H;obtain⟨J8,cW,H⟩:=H;have A2:=af.mk cW;clear cW;obtain rfl:=au H;go_enter Tryz.func69,Tryz.ntmps69;go_wp2_with ((refine cx 9 Tryz.func64 #[.int .i64 (wrap64 (-(Int.tmod a0 3))),.int .i64 (wrap64 (-(wrap64 (Int.tdiv a0 3))))] (lY.calls (wrap64 (-(Int.tmod a0 3))) (wrap64 (-(wrap64 (Int.tdiv a0 3)))) J8 _ A2.o) fun nd=>?_))
 go_ret;exact⟨ak,aQ⟩
def zv.f(a0:Int):Option (Bool):=if a0≥0 then(some (decide (a0<9))) else(some false)
theorem zv.calls(a0:Int)(r:Bool)(w:World)(h:zv.f a0=some r):
  Calls Tryz.prog 35 #[.int .i64 a0] w fun e w'=>e=.returned (.bool r)∧aG w w':=by
 have H:=h;clear h;unfold zv.f at H;by_cases c2:a0≥0
 case neg=>
  rw[ag c2] at H;have eM:=aD c2;clear c2;obtain rfl:=au H;go_enter Tryz.func35,Tryz.ntmps35;go_wp2;go_ret;exact⟨ak,aQ⟩
 rw[ah c2] at H;have eM:=ap c2;clear c2;obtain rfl:=au H;go_enter Tryz.func35,Tryz.ntmps35;go_wp2;go_ret;exact⟨ak,aQ⟩
def iM.f(l0:List Int)(a1:Int)(a2:Int):Option (Bool):=if a2=90 then(some (decide (a1≥81))) else(if a2≥81 then(if a1=90 then(some true) else(if a1<81 then(some ((wrap64 (Int.tdiv a1 9))==(wrap64 (a2 - 81)))) else(some false))) else(if a1≥81 then(some (a1==(wrap64 (81+(wrap64 (Int.tdiv a2 9)))))) else(if 0≤(wrap64 ((wrap64 (9*(wrap64 (Int.tdiv a1 9))))+(wrap64 (Int.tdiv a2 9)))) then(if(wrap64 ((wrap64 (9*(wrap64 (Int.tdiv a1 9))))+(wrap64 (Int.tdiv a2 9))))<(l0.length:Int) then((nY.f (rd l0 (wrap64 ((wrap64 (9*(wrap64 (Int.tdiv a1 9))))+(wrap64 (Int.tdiv a2 9))))) (Int.tmod a2 9)).bind fun Cv=>(some ((Int.tmod a1 9)==Cv))) else none) else none)))
theorem iM.calls(A0:Option Addr)(c0:Nat)(l0:List Int)(a1:Int)(a2:Int)(r:Bool)(w:World)(hr0:Kd.C (Kd.int .i64) w A0 l0.length l0)(hc0:l0.length≤c0)(h:iM.f l0 a1 a2=some r):
  Calls Tryz.prog 139 #[.slice A0 l0.length c0,.int .i64 a1,.int .i64 a2] w fun e w'=>e=.returned (.bool r)∧aG w w':=by
 have aj:=af.mk hr0;have ax:=af.mk hc0;clear hr0 hc0;have H:=h;clear h;unfold iM.f at H;by_cases c4:a2=90
 case neg=>
  rw[ag c4] at H;have dK:=cV c4;have nX:=bne_iff_ne.mpr c4;by_cases c5:a2≥81
  case neg=>
   rw[ag c5] at H;have dC:=aD c5;clear c5;by_cases c8:a1≥81
   case neg=>
    rw[ag c8] at H;have fF:=aD c8;clear c8;obtain⟨cN,ft⟩:∃j_:Int,(wrap64 ((wrap64 (9*(wrap64 (Int.tdiv a1 9))))+(wrap64 (Int.tdiv a2 9))))=j_:=⟨_,rfl⟩;replace H:(if 0≤(cN) then(if(cN)<(l0.length:Int) then((nY.f (rd l0 (cN)) (Int.tmod a2 9)).bind fun Cv=>(some ((Int.tmod a1 9)==Cv))) else none) else none)=some r:=by first|(rw[ft] at H;exact H)|(simp only[ft] at H ⊢;exact H)
    have Cw:(IntKind.i64.wrap ((wrap64 (9*(wrap64 (Int.tdiv a1 9))))+(wrap64 (Int.tdiv a2 9))))=cN:=(dh _).trans ft;by_cases c10:0≤(cN)
    case neg=>
     rw[ag c10] at H;cases H
    rw[ah c10] at H;have gH:=ap c10;clear c10;replace H:=bC H;obtain⟨j5,H⟩:=H;replace H:=aA.mp H;obtain⟨Cv,fI,H⟩:=H;have iW:=af.mk fI;clear fI;obtain rfl:=au H;obtain⟨aqk,rfl,aql,aqm,aqn⟩:=eu aj (cN);go_enter Tryz.func139,Tryz.ntmps139;go_wp2_with ((refine y6 (some 49) rfl rfl Tryz.func36 am rfl #[.int .i64 (rd l0 (cN)),.int .i64 (Int.tmod a2 9)] rfl (by(try simp only[List.map_toArray,List.map_cons,List.map_nil]);first|done|(simp only[ft];rfl)|rfl|(simp only[List.length_drop,List.length_take];rfl)) ?_;(with_reducible refine(nY.calls (rd l0 (cN)) (Int.tmod a2 9) Cv _ iW.o).mono ?_);rintro e w' ⟨rfl,⟨nd,rfl⟩⟩;refine⟨_,rfl,?_⟩))
    go_ret;exact⟨by first|rfl|(simp;done)|(simp only[←ft]<;>(first|rfl|simp))|(simp[*];done),aQ⟩
   rw[ah c8] at H;have fF:=ap c8;clear c8;obtain rfl:=au H;go_enter Tryz.func139,Tryz.ntmps139;go_wp2;go_ret;exact⟨ak,aQ⟩
  rw[ah c5] at H;have dC:=ap c5;clear c5;by_cases c6:a1=90
  case neg=>
   rw[ag c6] at H;have dU:=cV c6;have j9:=bne_iff_ne.mpr c6;by_cases c7:a1<81
   case neg=>
    rw[ag c7] at H;have eN:=aD c7;clear c7;obtain rfl:=au H;go_enter Tryz.func139,Tryz.ntmps139;go_wp2;go_ret;exact⟨ak,aQ⟩
   rw[ah c7] at H;have eN:=ap c7;clear c7;obtain rfl:=au H;go_enter Tryz.func139,Tryz.ntmps139;go_wp2;go_ret;exact⟨ak,aQ⟩
  rw[ah c6] at H;have dU:=beq_iff_eq.mpr c6;have j9:=bne_eq_false_iff_eq.mpr c6;clear c6;obtain rfl:=au H;go_enter Tryz.func139,Tryz.ntmps139;go_wp2;go_ret;exact⟨ak,aQ⟩
 rw[ah c4] at H;have dK:=beq_iff_eq.mpr c4;have nX:=bne_eq_false_iff_eq.mpr c4;clear c4;obtain rfl:=au H;go_enter Tryz.func139,Tryz.ntmps139;go_wp2;go_ret;exact⟨ak,aQ⟩
def lZ.l0:Nat→List Int→Int→Int→Int→Option (Int)
 |0,_,_,_,_=>none
 |k+1,x0,x1,x7,x8=>if x8<x7 then(if 0≤x8 then(if x8<(x0.length:Int) then(if x1=(rd x0 x8) then(some x8) else(lZ.l0 k x0 x1 x7 (wrap64 (x8+1)))) else none) else none) else(some (-1))
def lZ.f(k:Nat)(l0:List Int)(a1:Int):Option (Int):=lZ.l0 k l0 a1 (l0.length:Int) 0
theorem lZ.calls(k:Nat)(A0:Option Addr)(c0:Nat)(l0:List Int)(a1:Int)(r:Int)(w:World)(hr0:Kd.C (Kd.int .i64) w A0 l0.length l0)(hc0:l0.length≤c0)(h:lZ.f k l0 a1=some r):
  Calls Tryz.prog 241 #[.slice A0 l0.length c0,.int .i64 a1] w fun e w'=>e=.returned (.int .i64 r)∧aG w w':=by
 have aj:=af.mk hr0;have ax:=af.mk hc0;clear hr0 hc0;have H:=h;clear h;unfold lZ.f at H;have H':=af.mk H;clear H;go_enter Tryz.func241,Tryz.ntmps241;go_wp2;go_loopg [8] k (fun kq v8 w'=> ∃(dj:Int),v8=.int .i64 dj∧af (lZ.l0 kq l0 a1 (l0.length:Int) dj=some r)∧af (kq≤k)∧aG w w')
 case atStart=>exact⟨(0),ak,H',⟨aH _⟩,aQ⟩
 case round=>
  clear H';obtain⟨dj,rfl,HA,aC,⟨m1,rfl⟩⟩:=hrel;cases gk with
  |zero=>exact absurd HA.o (by simp[lZ.l0])
  |succ k1=>
   have H:=HA.o;clear HA;simp only[lZ.l0] at H;by_cases c3:dj<(l0.length:Int)
   case neg=>
    rw[ag c3] at H;have eU:=aD c3;clear c3;obtain rfl:=au H;go_wp2;go_ret;exact⟨ak,aQ⟩
   rw[ah c3] at H;have eU:=ap c3;clear c3;replace H:=bC H;obtain⟨dK,H⟩:=H;replace H:=bC H;obtain⟨dC,H⟩:=H;by_cases c6:a1=(rd l0 dj)
   case neg=>
    rw[ag c6] at H;have dU:=cV c6;have j9:=bne_iff_ne.mpr c6;have H':=af.mk H;clear H;obtain⟨adg,rfl,adh,adi,adj⟩:=eu aj dj;go_wp2;go_roundg k1
    case measure=>have:=aC.o;omega
    case rel=>exact⟨(wrap64 (dj+1)),ak,H',⟨by have:=aC.o;omega⟩,aQ⟩
   rw[ah c6] at H;have dU:=beq_iff_eq.mpr c6;have j9:=bne_eq_false_iff_eq.mpr c6;clear c6;obtain rfl:=au H;obtain⟨adg,rfl,adh,adi,adj⟩:=eu aj dj;go_wp2;go_ret;exact⟨ak,aQ⟩
def pQ.f(k:Nat)(l0:List Int)(a1:Int):Option (Bool):=(lZ.f k l0 a1).bind fun t227=>(some (decide (t227≥0)))
theorem pQ.calls(k:Nat)(A0:Option Addr)(c0:Nat)(l0:List Int)(a1:Int)(r:Bool)(w:World)(hr0:Kd.C (Kd.int .i64) w A0 l0.length l0)(hc0:l0.length≤c0)(h:pQ.f k l0 a1=some r):
  Calls Tryz.prog 202 #[.slice A0 l0.length c0,.int .i64 a1] w fun e w'=>e=.returned (.bool r)∧aG w w':=by
 have aj:=af.mk hr0;have ax:=af.mk hc0;clear hr0 hc0;have H:=h;clear h;unfold pQ.f at H;replace H:=aA.mp H;obtain⟨t227,bW,H⟩:=H;have A3:=af.mk bW;clear bW;obtain rfl:=au H;go_enter Tryz.func202,Tryz.ntmps202;go_wp2_with ((refine aY 7 Tryz.func241 #[.slice A0 l0.length c0,.int .i64 a1] ?_;(with_reducible refine(lZ.calls k _ _ l0 a1 t227 _ ?_ ?_ A3.o).mono ?_);exact bD aj;exact ax.o;rintro e w' ⟨rfl,⟨nd,rfl⟩⟩;refine⟨_,rfl,?_⟩))
 go_ret;exact⟨ak,aQ⟩
def mF.f(a0:Int)(a1:Int):Option (Int):=some (wrap64 ((Int.tmod (wrap64 ((Int.tmod a0 3)+(Int.tmod a1 3))) 3)+(wrap64 ((Int.tmod (wrap64 ((wrap64 (Int.tdiv a0 3))+(wrap64 (Int.tdiv a1 3)))) 3)*3))))
theorem mF.calls(a0:Int)(a1:Int)(r:Int)(w:World)(h:mF.f a0 a1=some r):
  Calls Tryz.prog 38 #[.int .i64 a0,.int .i64 a1] w fun e w'=>e=.returned (.int .i64 r)∧aG w w':=by
 have H:=h;clear h;unfold mF.f at H;obtain rfl:=au H;go_enter Tryz.func38,Tryz.ntmps38;go_wp2;go_ret;exact⟨ak,aQ⟩
def zH.f(a0:Int):Option (Int):=some (wrap64 ((Int.tmod (wrap64 (3 - (Int.tmod a0 3))) 3)+(wrap64 ((Int.tmod (wrap64 (3 - (wrap64 (Int.tdiv a0 3)))) 3)*3))))
theorem zH.calls(a0:Int)(r:Int)(w:World)(h:zH.f a0=some r):
  Calls Tryz.prog 238 #[.int .i64 a0] w fun e w'=>e=.returned (.int .i64 r)∧aG w w':=by
 have H:=h;clear h;unfold zH.f at H;obtain rfl:=au H;go_enter Tryz.func238,Tryz.ntmps238;go_wp2;go_ret;exact⟨ak,aQ⟩
def gW.f(a0:Int):Option (Bool):=if a0≥0 then(some (decide (a0<91))) else(some false)
theorem gW.calls(a0:Int)(r:Bool)(w:World)(h:gW.f a0=some r):
  Calls Tryz.prog 49 #[.int .i64 a0] w fun e w'=>e=.returned (.bool r)∧aG w w':=by
 have H:=h;clear h;unfold gW.f at H;by_cases c2:a0≥0
 case neg=>
  rw[ag c2] at H;have eM:=aD c2;clear c2;obtain rfl:=au H;go_enter Tryz.func49,Tryz.ntmps49;go_wp2;go_ret;exact⟨ak,aQ⟩
 rw[ah c2] at H;have eM:=ap c2;clear c2;obtain rfl:=au H;go_enter Tryz.func49,Tryz.ntmps49;go_wp2;go_ret;exact⟨ak,aQ⟩
def iD.l0:Nat→List Int→Int→Int→Int→Option (Int)
 |0,_,_,_,_=>none
 |k+1,x0,x1,x2,x8=>if x8<91 then((iM.f x0 x1 x8).bind fun KM=>(if KM=true then((iM.f x0 x2 x8).bind fun KN=>(if KN=true then(some x8) else(iD.l0 k x0 x1 x2 (wrap64 (x8+1))))) else(iD.l0 k x0 x1 x2 (wrap64 (x8+1))))) else(some (-1))
def iD.f(k:Nat)(l0:List Int)(a1:Int)(a2:Int):Option (Int):=iD.l0 k l0 a1 a2 0
theorem iD.calls(k:Nat)(A0:Option Addr)(c0:Nat)(l0:List Int)(a1:Int)(a2:Int)(r:Int)(w:World)(hr0:Kd.C (Kd.int .i64) w A0 l0.length l0)(hc0:l0.length≤c0)(h:iD.f k l0 a1 a2=some r):
  Calls Tryz.prog 94 #[.slice A0 l0.length c0,.int .i64 a1,.int .i64 a2] w fun e w'=>e=.returned (.int .i64 r)∧aG w w':=by
 have aj:=af.mk hr0;have ax:=af.mk hc0;clear hr0 hc0;have H:=h;clear h;unfold iD.f at H;have H':=af.mk H;clear H;go_enter Tryz.func94,Tryz.ntmps94;go_wp2;go_loopg [8] k (fun kq v8 w'=> ∃(dj:Int),v8=.int .i64 dj∧af (iD.l0 kq l0 a1 a2 dj=some r)∧af (kq≤k)∧aG w w')
 case atStart=>exact⟨(0),ak,H',⟨aH _⟩,aQ⟩
 case round=>
  clear H';obtain⟨dj,rfl,HA,aC,⟨m1,rfl⟩⟩:=hrel;cases gk with
  |zero=>exact absurd HA.o (by simp[iD.l0])
  |succ k1=>
   have H:=HA.o;clear HA;simp only[iD.l0] at H;by_cases c4:dj<91
   case neg=>
    rw[ag c4] at H;have dK:=aD c4;clear c4;obtain rfl:=au H;go_wp2;go_ret;exact⟨ak,aQ⟩
   rw[ah c4] at H;have dK:=ap c4;clear c4;replace H:=aA.mp H;obtain⟨KM,cY,H⟩:=H;have A5:=af.mk cY;clear cY;by_cases c6:KM=true
   case neg=>
    replace c6:=bU c6;subst c6;rw[ag bV] at H;have H':=af.mk H;clear H;go_wp2_with ((refine aY 14 Tryz.func139 #[.slice A0 l0.length c0,.int .i64 a1,.int .i64 dj] ?_;(with_reducible refine(iM.calls _ _ l0 a1 dj false _ ?_ ?_ A5.o).mono ?_);exact bD aj;exact ax.o;rintro e w' ⟨rfl,⟨nd,rfl⟩⟩;refine⟨_,rfl,?_⟩))
    go_roundg k1
    case measure=>have:=aC.o;omega
    case rel=>exact⟨(wrap64 (dj+1)),ak,H',⟨by have:=aC.o;omega⟩,aQ⟩
   subst c6;rw[ah rfl] at H;replace H:=aA.mp H;obtain⟨KN,dy,H⟩:=H;have A7:=af.mk dy;clear dy;by_cases c8:KN=true
   case neg=>
    replace c8:=bU c8;subst c8;rw[ag bV] at H;have H':=af.mk H;clear H;go_wp2_with (first|(refine aY 14 Tryz.func139 #[.slice A0 l0.length c0,.int .i64 a1,.int .i64 dj] ?_;(with_reducible refine(iM.calls _ _ l0 a1 dj true _ ?_ ?_ A5.o).mono ?_);exact bD aj;exact ax.o;rintro e w' ⟨rfl,⟨nd,rfl⟩⟩;refine⟨_,rfl,?_⟩)|(go_at_call 139;(with_reducible refine(iM.calls _ _ l0 a2 dj false _ ?_ ?_ A7.o).mono ?_);exact bD aj;exact ax.o;rintro e w' ⟨rfl,⟨nd,rfl⟩⟩))
    go_roundg k1
    case measure=>have:=aC.o;omega
    case rel=>exact⟨(wrap64 (dj+1)),ak,H',⟨by have:=aC.o;omega⟩,aQ⟩
   subst c8;rw[ah rfl] at H;obtain rfl:=au H;go_wp2_with (first|(refine aY 14 Tryz.func139 #[.slice A0 l0.length c0,.int .i64 a1,.int .i64 dj] ?_;(with_reducible refine(iM.calls _ _ l0 a1 dj true _ ?_ ?_ A5.o).mono ?_);exact bD aj;exact ax.o;rintro e w' ⟨rfl,⟨nd,rfl⟩⟩;refine⟨_,rfl,?_⟩)|(go_at_call 139;(with_reducible refine(iM.calls _ _ l0 a2 dj true _ ?_ ?_ A7.o).mono ?_);exact bD aj;exact ax.o;rintro e w' ⟨rfl,⟨nd,rfl⟩⟩))
   go_ret;exact⟨ak,aQ⟩
def jE.l0:Nat→List Int→Int→Int→Int→Option (Int)
 |0,_,_,_,_=>none
 |k+1,x0,x1,x2,x8=>if x8<91 then((iM.f x0 x8 x1).bind fun KO=>(if KO=true then((iM.f x0 x8 x2).bind fun KP=>(if KP=true then(some x8) else(jE.l0 k x0 x1 x2 (wrap64 (x8+1))))) else(jE.l0 k x0 x1 x2 (wrap64 (x8+1))))) else(some (-1))
def jE.f(k:Nat)(l0:List Int)(a1:Int)(a2:Int):Option (Int):=jE.l0 k l0 a1 a2 0
theorem jE.calls(k:Nat)(A0:Option Addr)(c0:Nat)(l0:List Int)(a1:Int)(a2:Int)(r:Int)(w:World)(hr0:Kd.C (Kd.int .i64) w A0 l0.length l0)(hc0:l0.length≤c0)(h:jE.f k l0 a1 a2=some r):
  Calls Tryz.prog 95 #[.slice A0 l0.length c0,.int .i64 a1,.int .i64 a2] w fun e w'=>e=.returned (.int .i64 r)∧aG w w':=by
 have aj:=af.mk hr0;have ax:=af.mk hc0;clear hr0 hc0;have H:=h;clear h;unfold jE.f at H;have H':=af.mk H;clear H;go_enter Tryz.func95,Tryz.ntmps95;go_wp2;go_loopg [8] k (fun kq v8 w'=> ∃(dj:Int),v8=.int .i64 dj∧af (jE.l0 kq l0 a1 a2 dj=some r)∧af (kq≤k)∧aG w w')
 case atStart=>exact⟨(0),ak,H',⟨aH _⟩,aQ⟩
 case round=>
  clear H';obtain⟨dj,rfl,HA,aC,⟨m1,rfl⟩⟩:=hrel;cases gk with
  |zero=>exact absurd HA.o (by simp[jE.l0])
  |succ k1=>
   have H:=HA.o;clear HA;simp only[jE.l0] at H;by_cases c4:dj<91
   case neg=>
    rw[ag c4] at H;have dK:=aD c4;clear c4;obtain rfl:=au H;go_wp2;go_ret;exact⟨ak,aQ⟩
   rw[ah c4] at H;have dK:=ap c4;clear c4;replace H:=aA.mp H;obtain⟨KO,cY,H⟩:=H;have A5:=af.mk cY;clear cY;by_cases c6:KO=true
   case neg=>
    replace c6:=bU c6;subst c6;rw[ag bV] at H;have H':=af.mk H;clear H;go_wp2_with ((refine aY 14 Tryz.func139 #[.slice A0 l0.length c0,.int .i64 dj,.int .i64 a1] ?_;(with_reducible refine(iM.calls _ _ l0 dj a1 false _ ?_ ?_ A5.o).mono ?_);exact bD aj;exact ax.o;rintro e w' ⟨rfl,⟨nd,rfl⟩⟩;refine⟨_,rfl,?_⟩))
    go_roundg k1
    case measure=>have:=aC.o;omega
    case rel=>exact⟨(wrap64 (dj+1)),ak,H',⟨by have:=aC.o;omega⟩,aQ⟩
   subst c6;rw[ah rfl] at H;replace H:=aA.mp H;obtain⟨KP,dy,H⟩:=H;have A7:=af.mk dy;clear dy;by_cases c8:KP=true
   case neg=>
    replace c8:=bU c8;subst c8;rw[ag bV] at H;have H':=af.mk H;clear H;go_wp2_with (first|(refine aY 14 Tryz.func139 #[.slice A0 l0.length c0,.int .i64 dj,.int .i64 a1] ?_;(with_reducible refine(iM.calls _ _ l0 dj a1 true _ ?_ ?_ A5.o).mono ?_);exact bD aj;exact ax.o;rintro e w' ⟨rfl,⟨nd,rfl⟩⟩;refine⟨_,rfl,?_⟩)|(go_at_call 139;(with_reducible refine(iM.calls _ _ l0 dj a2 false _ ?_ ?_ A7.o).mono ?_);exact bD aj;exact ax.o;rintro e w' ⟨rfl,⟨nd,rfl⟩⟩))
    go_roundg k1
    case measure=>have:=aC.o;omega
    case rel=>exact⟨(wrap64 (dj+1)),ak,H',⟨by have:=aC.o;omega⟩,aQ⟩
   subst c8;rw[ah rfl] at H;obtain rfl:=au H;go_wp2_with (first|(refine aY 14 Tryz.func139 #[.slice A0 l0.length c0,.int .i64 dj,.int .i64 a1] ?_;(with_reducible refine(iM.calls _ _ l0 dj a1 true _ ?_ ?_ A5.o).mono ?_);exact bD aj;exact ax.o;rintro e w' ⟨rfl,⟨nd,rfl⟩⟩;refine⟨_,rfl,?_⟩)|(go_at_call 139;(with_reducible refine(iM.calls _ _ l0 dj a2 true _ ?_ ?_ A7.o).mono ?_);exact bD aj;exact ax.o;rintro e w' ⟨rfl,⟨nd,rfl⟩⟩))
   go_ret;exact⟨ak,aQ⟩
def zL.f(a0:Bool):Option (ByteArray):=if a0=true then(some (⟨#[121,101,115]⟩:ByteArray)) else(some (⟨#[110,111,116]⟩:ByteArray))
theorem zL.calls(a0:Bool)(r:ByteArray)(w:World)(h:zL.f a0=some r):
  Calls Tryz.prog 79 #[.bool a0] w fun e w'=>e=.returned (.string r)∧aG w w':=by
 have H:=h;clear h;unfold zL.f at H;by_cases c2:a0=true
 case neg=>
  replace c2:=bU c2;subst c2;rw[ag bV] at H;obtain rfl:=au H;go_enter Tryz.func79,Tryz.ntmps79;go_wp2;go_ret;exact⟨ak,aQ⟩
 subst c2;rw[ah rfl] at H;obtain rfl:=au H;go_enter Tryz.func79,Tryz.ntmps79;go_wp2;go_ret;exact⟨ak,aQ⟩
def fJ.f(a0:Int)(a1:Int)(a2:Int):Option (Bool):=if a0≥a1 then(some (decide (a0≤a2))) else(some false)
theorem fJ.calls(a0:Int)(a1:Int)(a2:Int)(r:Bool)(w:World)(h:fJ.f a0 a1 a2=some r):
  Calls Tryz.prog 39 #[.int .i64 a0,.int .i64 a1,.int .i64 a2] w fun e w'=>e=.returned (.bool r)∧aG w w':=by
 have H:=h;clear h;unfold fJ.f at H;by_cases c4:a0≥a1
 case neg=>
  rw[ag c4] at H;have dK:=aD c4;clear c4;obtain rfl:=au H;go_enter Tryz.func39,Tryz.ntmps39;go_wp2;go_ret;exact⟨ak,aQ⟩
 rw[ah c4] at H;have dK:=ap c4;clear c4;obtain rfl:=au H;go_enter Tryz.func39,Tryz.ntmps39;go_wp2;go_ret;exact⟨ak,aQ⟩
def jw.f(a0:Int):Option (Bool):=(fJ.f a0 0 8).bind fun K_=>(some K_)
theorem jw.calls(a0:Int)(r:Bool)(w:World)(h:jw.f a0=some r):
  Calls Tryz.prog 37 #[.int .i64 a0] w fun e w'=>e=.returned (.bool r)∧aG w w':=by
 have H:=h;clear h;unfold jw.f at H;replace H:=aA.mp H;obtain⟨K_,cW,H⟩:=H;have A2:=af.mk cW;clear cW;obtain rfl:=au H;go_enter Tryz.func37,Tryz.ntmps37;go_wp2_with ((refine cx 4 Tryz.func39 #[.int .i64 a0,.int .i64 0,.int .i64 8] (fJ.calls a0 0 8 K_ _ A2.o) fun nd=>?_))
 go_ret;exact⟨ak,aQ⟩
def lA.l0:Nat→List Int→Int→Option (Bool)
 |0,_,_=>none
 |k+1,x0,x3=>if x3<(x0.length:Int) then(if 0≤x3 then((jw.f (rd x0 x3)).bind fun La=>(if La=true then(lA.l0 k x0 (wrap64 (x3+1))) else(some false))) else none) else(some ((x0.length:Int)==81))
def lA.f(k:Nat)(l0:List Int):Option (Bool):=lA.l0 k l0 0
theorem lA.calls(k:Nat)(A0:Option Addr)(c0:Nat)(l0:List Int)(r:Bool)(w:World)(hr0:Kd.C (Kd.int .i64) w A0 l0.length l0)(hc0:l0.length≤c0)(h:lA.f k l0=some r):
  Calls Tryz.prog 188 #[.slice A0 l0.length c0] w fun e w'=>e=.returned (.bool r)∧aG w w':=by
 have aj:=af.mk hr0;have ax:=af.mk hc0;clear hr0 hc0;have H:=h;clear h;unfold lA.f at H;have H':=af.mk H;clear H;go_enter Tryz.func188,Tryz.ntmps188;go_wp2;go_loopg [3] k (fun kq v3 w'=> ∃(aV:Int),v3=.int .i64 aV∧af (lA.l0 kq l0 aV=some r)∧af (kq≤k)∧aG w w')
 case atStart=>exact⟨(0),ak,H',⟨aH _⟩,aQ⟩
 case round=>
  clear H';obtain⟨aV,rfl,HA,aC,⟨m1,rfl⟩⟩:=hrel;cases gk with
  |zero=>exact absurd HA.o (by simp[lA.l0])
  |succ k1=>
   have H:=HA.o;clear HA;simp only[lA.l0] at H;by_cases c2:aV<(l0.length:Int)
   case neg=>
    rw[ag c2] at H;have eM:=aD c2;clear c2;obtain rfl:=au H;go_wp2;go_ret;exact⟨ak,aQ⟩
   rw[ah c2] at H;have eM:=ap c2;clear c2;replace H:=bC H;obtain⟨eU,H⟩:=H;replace H:=aA.mp H;obtain⟨La,cX,H⟩:=H;have A4:=af.mk cX;clear cX;by_cases c5:La=true
   case neg=>
    replace c5:=bU c5;subst c5;rw[ag bV] at H;obtain rfl:=au H;obtain⟨aef,rfl,aeg,aeh,aei⟩:=eu aj aV;go_wp2_with ((refine cx 14 Tryz.func37 #[.int .i64 (rd l0 aV)] (jw.calls (rd l0 aV) false _ A4.o) fun nd=>?_))
    go_ret;exact⟨ak,aQ⟩
   subst c5;rw[ah rfl] at H;have H':=af.mk H;clear H;obtain⟨aef,rfl,aeg,aeh,aei⟩:=eu aj aV;go_wp2_with ((refine cx 14 Tryz.func37 #[.int .i64 (rd l0 aV)] (jw.calls (rd l0 aV) true _ A4.o) fun nd=>?_))
   go_roundg k1
   case measure=>have:=aC.o;omega
   case rel=>exact⟨(wrap64 (aV+1)),ak,H',⟨by have:=aC.o;omega⟩,aQ⟩
def kA.l0:Nat→List Int→Int→Option (Bool)
 |0,_,_=>none
 |k+1,x0,x3=>if x3<9 then(if 0≤x3 then(if x3<(x0.length:Int) then(if(rd x0 x3)=0 then(if 0≤(wrap64 (9*x3)) then(if(wrap64 (9*x3))<(x0.length:Int) then(if(rd x0 (wrap64 (9*x3)))=0 then(if 0≤(wrap64 (9+x3)) then(if(wrap64 (9+x3))<(x0.length:Int) then(if(rd x0 (wrap64 (9+x3)))=x3 then(if 0≤(wrap64 ((wrap64 (9*x3))+1)) then(if(wrap64 ((wrap64 (9*x3))+1))<(x0.length:Int) then(if(rd x0 (wrap64 ((wrap64 (9*x3))+1)))=x3 then(kA.l0 k x0 (wrap64 (x3+1))) else(some false)) else none) else none) else(some false)) else none) else none) else(some false)) else none) else none) else(some false)) else none) else none) else(some true)
def kA.f(k:Nat)(l0:List Int):Option (Bool):=kA.l0 k l0 0
theorem kA.calls(k:Nat)(A0:Option Addr)(c0:Nat)(l0:List Int)(r:Bool)(w:World)(hr0:Kd.C (Kd.int .i64) w A0 l0.length l0)(hc0:l0.length≤c0)(h:kA.f k l0=some r):
  Calls Tryz.prog 189 #[.slice A0 l0.length c0] w fun e w'=>e=.returned (.bool r)∧aG w w':=by
 have aj:=af.mk hr0;have ax:=af.mk hc0;clear hr0 hc0;have H:=h;clear h;unfold kA.f at H;have H':=af.mk H;clear H;go_enter Tryz.func189,Tryz.ntmps189;go_wp2;go_loopg [3] k (fun kq v3 w'=> ∃(aV:Int),v3=.int .i64 aV∧af (kA.l0 kq l0 aV=some r)∧af (kq≤k)∧aG w w')
 case atStart=>exact⟨(0),ak,H',⟨aH _⟩,aQ⟩
 case round=>
  clear H';obtain⟨aV,rfl,HA,aC,⟨m1,rfl⟩⟩:=hrel;cases gk with
  |zero=>exact absurd HA.o (by simp[kA.l0])
  |succ k1=>
   have H:=HA.o;clear HA;simp only[kA.l0] at H;by_cases c2:aV<9
   case neg=>
    rw[ag c2] at H;have eM:=aD c2;clear c2;obtain rfl:=au H;go_wp2;go_ret;exact⟨ak,aQ⟩
   rw[ah c2] at H;have eM:=ap c2;clear c2;replace H:=bC H;obtain⟨eU,H⟩:=H;replace H:=bC H;obtain⟨dK,H⟩:=H;by_cases c5:(rd l0 aV)=0
   case neg=>
    rw[ag c5] at H;have dC:=cV c5;have oe:=bne_iff_ne.mpr c5;obtain rfl:=au H;obtain⟨Gw,rfl,Gx,Gy,Gz⟩:=eu aj aV;go_wp2;go_ret;exact⟨ak,aQ⟩
   rw[ah c5] at H;have dC:=beq_iff_eq.mpr c5;have oe:=bne_eq_false_iff_eq.mpr c5;clear c5;obtain⟨lB,zO⟩:∃j_:Int,(wrap64 (9*aV))=j_:=⟨_,rfl⟩;replace H:(if 0≤(lB) then(if(lB)<(l0.length:Int) then(if(rd l0 (lB))=0 then(if 0≤(wrap64 (9+aV)) then(if(wrap64 (9+aV))<(l0.length:Int) then(if(rd l0 (wrap64 (9+aV)))=aV then(if 0≤(wrap64 ((lB)+1)) then(if(wrap64 ((lB)+1))<(l0.length:Int) then(if(rd l0 (wrap64 ((lB)+1)))=aV then(kA.l0 k1 l0 (wrap64 (aV+1))) else(some false)) else none) else none) else(some false)) else none) else none) else(some false)) else none) else none)=some r:=by first|(rw[zO] at H;exact H)|(simp only[zO] at H ⊢;exact H)
   have aqt:(IntKind.i64.wrap (9*aV))=lB:=(dh _).trans zO;replace H:=bC H;obtain⟨eN,H⟩:=H;replace H:=bC H;obtain⟨fF,H⟩:=H;by_cases c9:(rd l0 (lB))=0
   case neg=>
    rw[ag c9] at H;have gU:=cV c9;have wm:=bne_iff_ne.mpr c9;obtain rfl:=au H;obtain⟨Gw,rfl,Gx,Gy,Gz⟩:=eu aj aV;obtain⟨Lb,Lc,Ld⟩:=fW aj (lB);go_wp2;go_ret;exact⟨by first|rfl|(simp;done)|(simp only[←zO]<;>(first|rfl|simp))|(simp[*];done),aQ⟩
   rw[ah c9] at H;have gU:=beq_iff_eq.mpr c9;have wm:=bne_eq_false_iff_eq.mpr c9;clear c9;obtain⟨uf,CM⟩:∃j_:Int,(wrap64 (9+aV))=j_:=⟨_,rfl⟩;replace H:(if 0≤(uf) then(if(uf)<(l0.length:Int) then(if(rd l0 (uf))=aV then(if 0≤(wrap64 ((lB)+1)) then(if(wrap64 ((lB)+1))<(l0.length:Int) then(if(rd l0 (wrap64 ((lB)+1)))=aV then(kA.l0 k1 l0 (wrap64 (aV+1))) else(some false)) else none) else none) else(some false)) else none) else none)=some r:=by first|(rw[CM] at H;exact H)|(simp only[CM] at H ⊢;exact H)
   have aqu:(IntKind.i64.wrap (9+aV))=uf:=(dh _).trans CM;replace H:=bC H;obtain⟨j5,H⟩:=H;replace H:=bC H;obtain⟨jC,H⟩:=H;by_cases c13:(rd l0 (uf))=aV
   case neg=>
    rw[ag c13] at H;have j6:=cV c13;have tS:=bne_iff_ne.mpr c13;obtain rfl:=au H;obtain⟨Gw,rfl,Gx,Gy,Gz⟩:=eu aj aV;obtain⟨Lb,Lc,Ld⟩:=fW aj (lB);obtain⟨Tq,Tr,Ts⟩:=fW aj (uf);go_wp2;go_ret;exact⟨by first|rfl|(simp;done)|(simp only[←zO, ←CM]<;>(first|rfl|simp))|(simp[*];done),aQ⟩
   rw[ah c13] at H;have j6:=beq_iff_eq.mpr c13;have tS:=bne_eq_false_iff_eq.mpr c13;clear c13;obtain⟨gy,oW⟩:∃j_:Int,(wrap64 ((lB)+1))=j_:=⟨_,rfl⟩;replace H:(if 0≤(gy) then(if(gy)<(l0.length:Int) then(if(rd l0 (gy))=aV then(kA.l0 k1 l0 (wrap64 (aV+1))) else(some false)) else none) else none)=some r:=by first|(rw[oW] at H;exact H)|(simp only[oW] at H ⊢;exact H)
   have aej:(IntKind.i64.wrap ((lB)+1))=gy:=(dh _).trans oW;replace H:=bC H;obtain⟨n4,H⟩:=H;replace H:=bC H;obtain⟨oh,H⟩:=H;by_cases c17:(rd l0 (gy))=aV
   case neg=>
    rw[ag c17] at H;have sG:=cV c17;have GA:=bne_iff_ne.mpr c17;obtain rfl:=au H;obtain⟨Gw,rfl,Gx,Gy,Gz⟩:=eu aj aV;obtain⟨Lb,Lc,Ld⟩:=fW aj (lB);obtain⟨Tq,Tr,Ts⟩:=fW aj (uf);obtain⟨aek,ael,aem⟩:=fW aj (gy);go_wp2;go_ret;exact⟨by first|rfl|(simp;done)|(simp only[←zO, ←CM, ←oW]<;>(first|rfl|simp))|(simp[*];done),aQ⟩
   rw[ah c17] at H;have sG:=beq_iff_eq.mpr c17;have GA:=bne_eq_false_iff_eq.mpr c17;clear c17;have H':=af.mk H;clear H;obtain⟨Gw,rfl,Gx,Gy,Gz⟩:=eu aj aV;obtain⟨Lb,Lc,Ld⟩:=fW aj (lB);obtain⟨Tq,Tr,Ts⟩:=fW aj (uf);obtain⟨aek,ael,aem⟩:=fW aj (gy);go_wp2;go_roundg k1
   case measure=>have:=aC.o;omega
   case rel=>exact⟨(wrap64 (aV+1)),ak,H',⟨by have:=aC.o;omega⟩,aQ⟩
def eH.f(a0:Int):Option (Bool):=(fJ.f a0 0 90).bind fun Li=>(some Li)
theorem eH.calls(a0:Int)(r:Bool)(w:World)(h:eH.f a0=some r):
  Calls Tryz.prog 62 #[.int .i64 a0] w fun e w'=>e=.returned (.bool r)∧aG w w':=by
 have H:=h;clear h;unfold eH.f at H;replace H:=aA.mp H;obtain⟨Li,cW,H⟩:=H;have A2:=af.mk cW;clear cW;obtain rfl:=au H;go_enter Tryz.func62,Tryz.ntmps62;go_wp2_with ((refine cx 4 Tryz.func39 #[.int .i64 a0,.int .i64 0,.int .i64 90] (fJ.calls a0 0 90 Li _ A2.o) fun nd=>?_))
 go_ret;exact⟨ak,aQ⟩
def gA.f(l0:List Int)(a1:Int)(a2:Int):Option (Bool):=if a2=90 then(some (decide (a1≥81))) else(if a2≥81 then(if a1=90 then(some true) else(if a1<81 then(some ((wrap64 (Int.tdiv a1 9))==(wrap64 (a2 - 81)))) else(some false))) else(if a1≥81 then(some ((wrap64 (a1 - 81))==(wrap64 (Int.tdiv a2 9)))) else(if 0≤(wrap64 ((wrap64 ((wrap64 (Int.tdiv a1 9))*9))+(wrap64 (Int.tdiv a2 9)))) then(if(wrap64 ((wrap64 ((wrap64 (Int.tdiv a1 9))*9))+(wrap64 (Int.tdiv a2 9))))<(l0.length:Int) then((mF.f (rd l0 (wrap64 ((wrap64 ((wrap64 (Int.tdiv a1 9))*9))+(wrap64 (Int.tdiv a2 9))))) (Int.tmod a2 9)).bind fun CO=>(some ((Int.tmod a1 9)==CO))) else none) else none)))
theorem gA.calls(A0:Option Addr)(c0:Nat)(l0:List Int)(a1:Int)(a2:Int)(r:Bool)(w:World)(hr0:Kd.C (Kd.int .i64) w A0 l0.length l0)(hc0:l0.length≤c0)(h:gA.f l0 a1 a2=some r):
  Calls Tryz.prog 181 #[.slice A0 l0.length c0,.int .i64 a1,.int .i64 a2] w fun e w'=>e=.returned (.bool r)∧aG w w':=by
 have aj:=af.mk hr0;have ax:=af.mk hc0;clear hr0 hc0;have H:=h;clear h;unfold gA.f at H;by_cases c4:a2=90
 case neg=>
  rw[ag c4] at H;have dK:=cV c4;have nX:=bne_iff_ne.mpr c4;by_cases c5:a2≥81
  case neg=>
   rw[ag c5] at H;have dC:=aD c5;clear c5;by_cases c8:a1≥81
   case neg=>
    rw[ag c8] at H;have fF:=aD c8;clear c8;obtain⟨cN,ft⟩:∃j_:Int,(wrap64 ((wrap64 ((wrap64 (Int.tdiv a1 9))*9))+(wrap64 (Int.tdiv a2 9))))=j_:=⟨_,rfl⟩;replace H:(if 0≤(cN) then(if(cN)<(l0.length:Int) then((mF.f (rd l0 (cN)) (Int.tmod a2 9)).bind fun CO=>(some ((Int.tmod a1 9)==CO))) else none) else none)=some r:=by first|(rw[ft] at H;exact H)|(simp only[ft] at H ⊢;exact H)
    have Cw:(IntKind.i64.wrap ((wrap64 ((wrap64 (Int.tdiv a1 9))*9))+(wrap64 (Int.tdiv a2 9))))=cN:=(dh _).trans ft;by_cases c10:0≤(cN)
    case neg=>
     rw[ag c10] at H;cases H
    rw[ah c10] at H;have gH:=ap c10;clear c10;replace H:=bC H;obtain⟨j5,H⟩:=H;replace H:=aA.mp H;obtain⟨CO,fI,H⟩:=H;have iW:=af.mk fI;clear fI;obtain rfl:=au H;obtain⟨aqv,rfl,aqw,aqx,aqy⟩:=eu aj (cN);go_enter Tryz.func181,Tryz.ntmps181;go_wp2_with ((refine y6 (some 49) rfl rfl Tryz.func38 am rfl #[.int .i64 (rd l0 (cN)),.int .i64 (Int.tmod a2 9)] rfl (by(try simp only[List.map_toArray,List.map_cons,List.map_nil]);first|done|(simp only[ft];rfl)|rfl|(simp only[List.length_drop,List.length_take];rfl)) ?_;(with_reducible refine(mF.calls (rd l0 (cN)) (Int.tmod a2 9) CO _ iW.o).mono ?_);rintro e w' ⟨rfl,⟨nd,rfl⟩⟩;refine⟨_,rfl,?_⟩))
    go_ret;exact⟨by first|rfl|(simp;done)|(simp only[←ft]<;>(first|rfl|simp))|(simp[*];done),aQ⟩
   rw[ah c8] at H;have fF:=ap c8;clear c8;obtain rfl:=au H;go_enter Tryz.func181,Tryz.ntmps181;go_wp2;go_ret;exact⟨ak,aQ⟩
  rw[ah c5] at H;have dC:=ap c5;clear c5;by_cases c6:a1=90
  case neg=>
   rw[ag c6] at H;have dU:=cV c6;have j9:=bne_iff_ne.mpr c6;by_cases c7:a1<81
   case neg=>
    rw[ag c7] at H;have eN:=aD c7;clear c7;obtain rfl:=au H;go_enter Tryz.func181,Tryz.ntmps181;go_wp2;go_ret;exact⟨ak,aQ⟩
   rw[ah c7] at H;have eN:=ap c7;clear c7;obtain rfl:=au H;go_enter Tryz.func181,Tryz.ntmps181;go_wp2;go_ret;exact⟨ak,aQ⟩
  rw[ah c6] at H;have dU:=beq_iff_eq.mpr c6;have j9:=bne_eq_false_iff_eq.mpr c6;clear c6;obtain rfl:=au H;go_enter Tryz.func181,Tryz.ntmps181;go_wp2;go_ret;exact⟨ak,aQ⟩
 rw[ah c4] at H;have dK:=beq_iff_eq.mpr c4;have nX:=bne_eq_false_iff_eq.mpr c4;clear c4;obtain rfl:=au H;go_enter Tryz.func181,Tryz.ntmps181;go_wp2;go_ret;exact⟨ak,aQ⟩
def l8.l0:Nat→List Int→Int→List Int→Int→Option (List Int)
 |0,_,_,_,_=>none
 |k+1,x0,x1,x5,x6=>if x6<91 then((gA.f x0 x6 x1).bind fun Lj=>(if Lj=true then(if x5.length<17592186044416 then(l8.l0 k x0 x1 (x5++[x6]) (wrap64 (x6+1))) else none) else(l8.l0 k x0 x1 x5 (wrap64 (x6+1))))) else(some x5)
def l8.f(k:Nat)(l0:List Int)(a1:Int):Option (List Int):=l8.l0 k l0 a1 (([]:List Int)) 0
theorem l8.calls(k:Nat)(A0:Option Addr)(c0:Nat)(l0:List Int)(a1:Int)(r:List Int)(w:World)(hr0:Kd.C (Kd.int .i64) w A0 l0.length l0)(hc0:l0.length≤c0)(h:l8.f k l0 a1=some r):
  Calls Tryz.prog 119 #[.slice A0 l0.length c0,.int .i64 a1] w fun e w'=> ∃bO:Value,e=.returned (bO)∧Kd.R (Kd.int .i64) 3 w' w.heap.size (fun _=>True) bO r∧Below w.heap.size w w':=by
 have aj:=af.mk hr0;have ax:=af.mk hc0;clear hr0 hc0;have HB:=af.mk (Below.refl w.heap.size w);have H:=h;clear h;unfold l8.f at H;generalize Tw:((([]:List Int)):List Int)=aeu at H;have Tx:=af.mk Tw.symm;clear Tw;have H':=af.mk H;clear H;go_enter Tryz.func119,Tryz.ntmps119;go_wp2_with (((with_reducible refine db (N:=7) rfl ?_);refine Kd.dV (Kd.int .i64) _ 3 ?hg (N:=7) ?hd (xs:=([]:List Int)) (inner:=[]) (ok:=fun _=>True) (bp:=fun _=>True) ?hr ?hp (fun _ hk=>hk) trivial (Below.refl _ _) (aH _) bn ?_;(case hd=>rfl);(case hg=>rfl);(case hr=>first|(go_simp;done)|(go_simp;rfl));(case hp=>exact(aE.none _ _));intro aqz w3 ie hb bq br;clear bq br;(first|rw[←Tx.o] at ie|(simp only[Int.reduceToNat] at ie;rw[←Tx.o] at ie));have aev:=af.mk (Kd.cv ie (aZ (ai HB)));replace HB:=aM HB hb;clear hb ie))
 go_loopg [5,6] k (fun kq v5 v6 w'=> ∃(aw:List Int) (bH:Int),v6=.int .i64 bH∧af (l8.l0 kq l0 a1 aw bH=some r)∧af (kq≤k)∧af (Kd.R (Kd.int .i64) 3 w' w.heap.size (fun _=>True) v5 aw)∧af (Below w.heap.size w w'))
 case atStart=>exact⟨(aeu),(0),ak,H',⟨aH _⟩,⟨aX aev⟩,⟨ai HB⟩⟩
 case round=>
  clear H';obtain⟨aw,bH,rfl,HA,aC,bG,HB⟩:=hrel;cases gk with
  |zero=>exact absurd HA.o (by simp[l8.l0])
  |succ k1=>
   have H:=HA.o;clear HA;simp only[l8.l0] at H;by_cases c5:bH<91
   case neg=>
    rw[ag c5] at H;have dC:=aD c5;clear c5;obtain rfl:=au H;go_wp2;go_ret;exact⟨_,bE,aX bG,ai HB⟩
   rw[ah c5] at H;have dC:=ap c5;clear c5;replace H:=aA.mp H;obtain⟨Lj,dQ,H⟩:=H;have A6:=af.mk dQ;clear dQ;by_cases c7:Lj=true
   case neg=>
    replace c7:=bU c7;subst c7;rw[ag bV] at H;have H':=af.mk H;clear H;go_wp2_with ((refine aY 15 Tryz.func181 #[.slice A0 l0.length c0,.int .i64 bH,.int .i64 a1] ?_;(with_reducible refine(gA.calls _ _ l0 bH a1 false _ ?_ ?_ A6.o).mono ?_);exact cG aj HB;exact ax.o;rintro e w' ⟨rfl,⟨nd,rfl⟩⟩;refine⟨_,rfl,?_⟩))
    go_roundg k1
    case measure=>have:=aC.o;omega
    case rel=>exact⟨(aw),(wrap64 (bH+1)),ak,H',⟨by have:=aC.o;omega⟩,⟨aX bG⟩,⟨ai HB⟩⟩
   subst c7;rw[ah rfl] at H;by_cases c8:aw.length<17592186044416
   case neg=>
    rw[ag c8] at H;cases H
   rw[ah c8] at H;have aew:=af.mk c8;clear c8;generalize Tz:((aw++[bH]):List Int)=aex at H;have aey:=af.mk Tz.symm;clear Tz;have H':=af.mk H;clear H;go_wp2_with (first|(refine aY 15 Tryz.func181 #[.slice A0 l0.length c0,.int .i64 bH,.int .i64 a1] ?_;(with_reducible refine(gA.calls _ _ l0 bH a1 true _ ?_ ?_ A6.o).mono ?_);exact cG aj HB;exact ax.o;rintro e w' ⟨rfl,⟨nd,rfl⟩⟩;refine⟨_,rfl,?_⟩)|(at_builtin;refine Kd.jW (Kd.int .i64) (w0:=w) w.heap.size rfl (.tmp 16) (.tmp 18) 31 3 (.int .i64 0) 8 rfl Tryz.underlying31 info3 rfl ao ae u5 aw bH [.int .i64 bH] (fun _=>True) (fun _=>False) rfl rfl ?aP (fun _ hk=>hk.elim) ?aF ?aO ?aB ?aS ?aL ?_;(case aP=>exact rfl);(case aB=>exact(ai HB));(case aF=>exact(fun _ _=>trivial));(case aO=>exact(aX bG));(case aS=>exact(aZ (ai HB)));(case aL=>have:=aew.o;omega);intro aqA w9 ho hb hg hat;rw[←aey.o] at ho;replace HB:=af.mk (hb);have aez:=af.mk (ho);clear bG;clear ho hb hg hat))
   go_roundg k1
   case measure=>have:=aC.o;omega
   case rel=>exact⟨(aex),(wrap64 (bH+1)),ak,H',⟨by have:=aC.o;omega⟩,⟨aX aez⟩,⟨ai HB⟩⟩
def iX.l0:Nat→List Int→Int→Int→Int→Option (Int)
 |0,_,_,_,_=>none
 |k+1,x0,x1,x2,x7=>if x7<91 then((gA.f x0 x1 x7).bind fun Lk=>(if Lk=true then((gA.f x0 x2 x7).bind fun Ll=>(if Ll=true then(some x7) else(iX.l0 k x0 x1 x2 (wrap64 (x7+1))))) else(iX.l0 k x0 x1 x2 (wrap64 (x7+1))))) else(some 0)
def iX.f(k:Nat)(l0:List Int)(a1:Int)(a2:Int):Option (Int):=iX.l0 k l0 a1 a2 0
theorem iX.calls(k:Nat)(A0:Option Addr)(c0:Nat)(l0:List Int)(a1:Int)(a2:Int)(r:Int)(w:World)(hr0:Kd.C (Kd.int .i64) w A0 l0.length l0)(hc0:l0.length≤c0)(h:iX.f k l0 a1 a2=some r):
  Calls Tryz.prog 180 #[.slice A0 l0.length c0,.int .i64 a1,.int .i64 a2] w fun e w'=>e=.returned (.int .i64 r)∧aG w w':=by
 have aj:=af.mk hr0;have ax:=af.mk hc0;clear hr0 hc0;have H:=h;clear h;unfold iX.f at H;have H':=af.mk H;clear H;go_enter Tryz.func180,Tryz.ntmps180;go_wp2;go_loopg [7] k (fun kq v7 w'=> ∃(cB:Int),v7=.int .i64 cB∧af (iX.l0 kq l0 a1 a2 cB=some r)∧af (kq≤k)∧aG w w')
 case atStart=>exact⟨(0),ak,H',⟨aH _⟩,aQ⟩
 case round=>
  clear H';obtain⟨cB,rfl,HA,aC,⟨m1,rfl⟩⟩:=hrel;cases gk with
  |zero=>exact absurd HA.o (by simp[iX.l0])
  |succ k1=>
   have H:=HA.o;clear HA;simp only[iX.l0] at H;by_cases c4:cB<91
   case neg=>
    rw[ag c4] at H;have dK:=aD c4;clear c4;obtain rfl:=au H;go_wp2;go_ret;exact⟨ak,aQ⟩
   rw[ah c4] at H;have dK:=ap c4;clear c4;replace H:=aA.mp H;obtain⟨Lk,cY,H⟩:=H;have A5:=af.mk cY;clear cY;by_cases c6:Lk=true
   case neg=>
    replace c6:=bU c6;subst c6;rw[ag bV] at H;have H':=af.mk H;clear H;go_wp2_with ((refine aY 15 Tryz.func181 #[.slice A0 l0.length c0,.int .i64 a1,.int .i64 cB] ?_;(with_reducible refine(gA.calls _ _ l0 a1 cB false _ ?_ ?_ A5.o).mono ?_);exact bD aj;exact ax.o;rintro e w' ⟨rfl,⟨nd,rfl⟩⟩;refine⟨_,rfl,?_⟩))
    go_roundg k1
    case measure=>have:=aC.o;omega
    case rel=>exact⟨(wrap64 (cB+1)),ak,H',⟨by have:=aC.o;omega⟩,aQ⟩
   subst c6;rw[ah rfl] at H;replace H:=aA.mp H;obtain⟨Ll,dy,H⟩:=H;have A7:=af.mk dy;clear dy;by_cases c8:Ll=true
   case neg=>
    replace c8:=bU c8;subst c8;rw[ag bV] at H;have H':=af.mk H;clear H;go_wp2_with (first|(refine aY 15 Tryz.func181 #[.slice A0 l0.length c0,.int .i64 a1,.int .i64 cB] ?_;(with_reducible refine(gA.calls _ _ l0 a1 cB true _ ?_ ?_ A5.o).mono ?_);exact bD aj;exact ax.o;rintro e w' ⟨rfl,⟨nd,rfl⟩⟩;refine⟨_,rfl,?_⟩)|(go_at_call 181;(with_reducible refine(gA.calls _ _ l0 a2 cB false _ ?_ ?_ A7.o).mono ?_);exact bD aj;exact ax.o;rintro e w' ⟨rfl,⟨nd,rfl⟩⟩))
    go_roundg k1
    case measure=>have:=aC.o;omega
    case rel=>exact⟨(wrap64 (cB+1)),ak,H',⟨by have:=aC.o;omega⟩,aQ⟩
   subst c8;rw[ah rfl] at H;obtain rfl:=au H;go_wp2_with (first|(refine aY 15 Tryz.func181 #[.slice A0 l0.length c0,.int .i64 a1,.int .i64 cB] ?_;(with_reducible refine(gA.calls _ _ l0 a1 cB true _ ?_ ?_ A5.o).mono ?_);exact bD aj;exact ax.o;rintro e w' ⟨rfl,⟨nd,rfl⟩⟩;refine⟨_,rfl,?_⟩)|(go_at_call 181;(with_reducible refine(gA.calls _ _ l0 a2 cB true _ ?_ ?_ A7.o).mono ?_);exact bD aj;exact ax.o;rintro e w' ⟨rfl,⟨nd,rfl⟩⟩))
   go_ret;exact⟨ak,aQ⟩
def jI.l0:Nat→List Int→Int→Int→Int→Option (Int)
 |0,_,_,_,_=>none
 |k+1,x0,x1,x2,x7=>if x7<91 then((gA.f x0 x7 x1).bind fun Lm=>(if Lm=true then((gA.f x0 x7 x2).bind fun Lp=>(if Lp=true then(some x7) else(jI.l0 k x0 x1 x2 (wrap64 (x7+1))))) else(jI.l0 k x0 x1 x2 (wrap64 (x7+1))))) else(some 0)
def jI.f(k:Nat)(l0:List Int)(a1:Int)(a2:Int):Option (Int):=jI.l0 k l0 a1 a2 0
theorem jI.calls(k:Nat)(A0:Option Addr)(c0:Nat)(l0:List Int)(a1:Int)(a2:Int)(r:Int)(w:World)(hr0:Kd.C (Kd.int .i64) w A0 l0.length l0)(hc0:l0.length≤c0)(h:jI.f k l0 a1 a2=some r):
  Calls Tryz.prog 187 #[.slice A0 l0.length c0,.int .i64 a1,.int .i64 a2] w fun e w'=>e=.returned (.int .i64 r)∧aG w w':=by
 have aj:=af.mk hr0;have ax:=af.mk hc0;clear hr0 hc0;have H:=h;clear h;unfold jI.f at H;have H':=af.mk H;clear H;go_enter Tryz.func187,Tryz.ntmps187;go_wp2;go_loopg [7] k (fun kq v7 w'=> ∃(cB:Int),v7=.int .i64 cB∧af (jI.l0 kq l0 a1 a2 cB=some r)∧af (kq≤k)∧aG w w')
 case atStart=>exact⟨(0),ak,H',⟨aH _⟩,aQ⟩
 case round=>
  clear H';obtain⟨cB,rfl,HA,aC,⟨m1,rfl⟩⟩:=hrel;cases gk with
  |zero=>exact absurd HA.o (by simp[jI.l0])
  |succ k1=>
   have H:=HA.o;clear HA;simp only[jI.l0] at H;by_cases c4:cB<91
   case neg=>
    rw[ag c4] at H;have dK:=aD c4;clear c4;obtain rfl:=au H;go_wp2;go_ret;exact⟨ak,aQ⟩
   rw[ah c4] at H;have dK:=ap c4;clear c4;replace H:=aA.mp H;obtain⟨Lm,cY,H⟩:=H;have A5:=af.mk cY;clear cY;by_cases c6:Lm=true
   case neg=>
    replace c6:=bU c6;subst c6;rw[ag bV] at H;have H':=af.mk H;clear H;go_wp2_with ((refine aY 15 Tryz.func181 #[.slice A0 l0.length c0,.int .i64 cB,.int .i64 a1] ?_;(with_reducible refine(gA.calls _ _ l0 cB a1 false _ ?_ ?_ A5.o).mono ?_);exact bD aj;exact ax.o;rintro e w' ⟨rfl,⟨nd,rfl⟩⟩;refine⟨_,rfl,?_⟩))
    go_roundg k1
    case measure=>have:=aC.o;omega
    case rel=>exact⟨(wrap64 (cB+1)),ak,H',⟨by have:=aC.o;omega⟩,aQ⟩
   subst c6;rw[ah rfl] at H;replace H:=aA.mp H;obtain⟨Lp,dy,H⟩:=H;have A7:=af.mk dy;clear dy;by_cases c8:Lp=true
   case neg=>
    replace c8:=bU c8;subst c8;rw[ag bV] at H;have H':=af.mk H;clear H;go_wp2_with (first|(refine aY 15 Tryz.func181 #[.slice A0 l0.length c0,.int .i64 cB,.int .i64 a1] ?_;(with_reducible refine(gA.calls _ _ l0 cB a1 true _ ?_ ?_ A5.o).mono ?_);exact bD aj;exact ax.o;rintro e w' ⟨rfl,⟨nd,rfl⟩⟩;refine⟨_,rfl,?_⟩)|(go_at_call 181;(with_reducible refine(gA.calls _ _ l0 cB a2 false _ ?_ ?_ A7.o).mono ?_);exact bD aj;exact ax.o;rintro e w' ⟨rfl,⟨nd,rfl⟩⟩))
    go_roundg k1
    case measure=>have:=aC.o;omega
    case rel=>exact⟨(wrap64 (cB+1)),ak,H',⟨by have:=aC.o;omega⟩,aQ⟩
   subst c8;rw[ah rfl] at H;obtain rfl:=au H;go_wp2_with (first|(refine aY 15 Tryz.func181 #[.slice A0 l0.length c0,.int .i64 cB,.int .i64 a1] ?_;(with_reducible refine(gA.calls _ _ l0 cB a1 true _ ?_ ?_ A5.o).mono ?_);exact bD aj;exact ax.o;rintro e w' ⟨rfl,⟨nd,rfl⟩⟩;refine⟨_,rfl,?_⟩)|(go_at_call 181;(with_reducible refine(gA.calls _ _ l0 cB a2 true _ ?_ ?_ A7.o).mono ?_);exact bD aj;exact ax.o;rintro e w' ⟨rfl,⟨nd,rfl⟩⟩))
   go_ret;exact⟨ak,aQ⟩
def zQ.f(k:Nat)(l0:List Int)(a1:Int)(a2:Int)(a3:Int):Option (Bool):=(iD.f k l0 a1 a2).bind fun t228=>((iM.f l0 a3 t228).bind fun t229=>(some t229))
theorem zQ.calls(k:Nat)(A0:Option Addr)(c0:Nat)(l0:List Int)(a1:Int)(a2:Int)(a3:Int)(r:Bool)(w:World)(hr0:Kd.C (Kd.int .i64) w A0 l0.length l0)(hc0:l0.length≤c0)(h:zQ.f k l0 a1 a2 a3=some r):
  Calls Tryz.prog 201 #[.slice A0 l0.length c0,.int .i64 a1,.int .i64 a2,.int .i64 a3] w fun e w'=>e=.returned (.bool r)∧aG w w':=by
 have aj:=af.mk hr0;have ax:=af.mk hc0;clear hr0 hc0;have H:=h;clear h;unfold zQ.f at H;replace H:=aA.mp H;obtain⟨t228,cY,H⟩:=H;have A5:=af.mk cY;clear cY;replace H:=aA.mp H;obtain⟨t229,dQ,H⟩:=H;have A6:=af.mk dQ;clear dQ;obtain rfl:=au H;go_enter Tryz.func201,Tryz.ntmps201;go_wp2_with (first|(refine aY 14 Tryz.func94 #[.slice A0 l0.length c0,.int .i64 a1,.int .i64 a2] ?_;(with_reducible refine(iD.calls k _ _ l0 a1 a2 t228 _ ?_ ?_ A5.o).mono ?_);exact bD aj;exact ax.o;rintro e w' ⟨rfl,⟨nd,rfl⟩⟩;refine⟨_,rfl,?_⟩)|(refine aY 15 Tryz.func139 #[.slice A0 l0.length c0,.int .i64 a3,.int .i64 t228] ?_;(with_reducible refine(iM.calls _ _ l0 a3 t228 t229 _ ?_ ?_ A6.o).mono ?_);exact bD aj;exact ax.o;rintro e w' ⟨rfl,⟨nd,rfl⟩⟩;refine⟨_,rfl,?_⟩))
 go_ret;exact⟨ak,aQ⟩
def mJ.f(k:Nat)(l0:List Int)(a1:Int)(a2:Int)(a3:Int):Option (Bool):=(iX.f k l0 a1 a2).bind fun CP=>((gA.f l0 a3 CP).bind fun Lq=>(some Lq))
theorem mJ.calls(k:Nat)(A0:Option Addr)(c0:Nat)(l0:List Int)(a1:Int)(a2:Int)(a3:Int)(r:Bool)(w:World)(hr0:Kd.C (Kd.int .i64) w A0 l0.length l0)(hc0:l0.length≤c0)(h:mJ.f k l0 a1 a2 a3=some r):
  Calls Tryz.prog 232 #[.slice A0 l0.length c0,.int .i64 a1,.int .i64 a2,.int .i64 a3] w fun e w'=>e=.returned (.bool r)∧aG w w':=by
 have aj:=af.mk hr0;have ax:=af.mk hc0;clear hr0 hc0;have H:=h;clear h;unfold mJ.f at H;replace H:=aA.mp H;obtain⟨CP,cY,H⟩:=H;have A5:=af.mk cY;clear cY;replace H:=aA.mp H;obtain⟨Lq,dQ,H⟩:=H;have A6:=af.mk dQ;clear dQ;obtain rfl:=au H;go_enter Tryz.func232,Tryz.ntmps232;go_wp2_with (first|(refine aY 14 Tryz.func180 #[.slice A0 l0.length c0,.int .i64 a1,.int .i64 a2] ?_;(with_reducible refine(iX.calls k _ _ l0 a1 a2 CP _ ?_ ?_ A5.o).mono ?_);exact bD aj;exact ax.o;rintro e w' ⟨rfl,⟨nd,rfl⟩⟩;refine⟨_,rfl,?_⟩)|(refine aY 15 Tryz.func181 #[.slice A0 l0.length c0,.int .i64 a3,.int .i64 CP] ?_;(with_reducible refine(gA.calls _ _ l0 a3 CP Lq _ ?_ ?_ A6.o).mono ?_);exact bD aj;exact ax.o;rintro e w' ⟨rfl,⟨nd,rfl⟩⟩;refine⟨_,rfl,?_⟩))
 go_ret;exact⟨ak,aQ⟩
def kR.f(k:Nat)(l0:List Int)(a1:Int)(a2:Int)(a3:Int)(a4:Int):Option (Int):=(iX.f k l0 a1 a2).bind fun CT=>((iX.f k l0 a3 a4).bind fun CU=>((jI.f k l0 CT CU).bind fun Lr=>(some Lr)))
theorem kR.calls(k:Nat)(A0:Option Addr)(c0:Nat)(l0:List Int)(a1:Int)(a2:Int)(a3:Int)(a4:Int)(r:Int)(w:World)(hr0:Kd.C (Kd.int .i64) w A0 l0.length l0)(hc0:l0.length≤c0)(h:kR.f k l0 a1 a2 a3 a4=some r):
  Calls Tryz.prog 177 #[.slice A0 l0.length c0,.int .i64 a1,.int .i64 a2,.int .i64 a3,.int .i64 a4] w fun e w'=>e=.returned (.int .i64 r)∧aG w w':=by
 have aj:=af.mk hr0;have ax:=af.mk hc0;clear hr0 hc0;have H:=h;clear h;unfold kR.f at H;replace H:=aA.mp H;obtain⟨CT,dQ,H⟩:=H;have A6:=af.mk dQ;clear dQ;replace H:=aA.mp H;obtain⟨CU,dy,H⟩:=H;have A7:=af.mk dy;clear dy;replace H:=aA.mp H;obtain⟨Lr,eG,H⟩:=H;have A8:=af.mk eG;clear eG;obtain rfl:=au H;go_enter Tryz.func177,Tryz.ntmps177;go_wp2_with (first|(refine aY 15 Tryz.func180 #[.slice A0 l0.length c0,.int .i64 a1,.int .i64 a2] ?_;(with_reducible refine(iX.calls k _ _ l0 a1 a2 CT _ ?_ ?_ A6.o).mono ?_);exact bD aj;exact ax.o;rintro e w' ⟨rfl,⟨nd,rfl⟩⟩;refine⟨_,rfl,?_⟩)|(refine aY 19 Tryz.func180 #[.slice A0 l0.length c0,.int .i64 a3,.int .i64 a4] ?_;(with_reducible refine(iX.calls k _ _ l0 a3 a4 CU _ ?_ ?_ A7.o).mono ?_);exact bD aj;exact ax.o;rintro e w' ⟨rfl,⟨nd,rfl⟩⟩;refine⟨_,rfl,?_⟩)|(refine aY 20 Tryz.func187 #[.slice A0 l0.length c0,.int .i64 CT,.int .i64 CU] ?_;(with_reducible refine(jI.calls k _ _ l0 CT CU Lr _ ?_ ?_ A8.o).mono ?_);exact bD aj;exact ax.o;rintro e w' ⟨rfl,⟨nd,rfl⟩⟩;refine⟨_,rfl,?_⟩))
 go_ret;exact⟨ak,aQ⟩
def kb.f(k:Nat)(l0:List Int)(a1:Int)(a2:Int)(a3:Int)(a4:Int):Option (Int):=(iD.f k l0 a1 a2).bind fun t232=>((iD.f k l0 a3 a4).bind fun t233=>((jE.f k l0 t232 t233).bind fun t234=>(some t234)))
theorem kb.calls(k:Nat)(A0:Option Addr)(c0:Nat)(l0:List Int)(a1:Int)(a2:Int)(a3:Int)(a4:Int)(r:Int)(w:World)(hr0:Kd.C (Kd.int .i64) w A0 l0.length l0)(hc0:l0.length≤c0)(h:kb.f k l0 a1 a2 a3 a4=some r):
  Calls Tryz.prog 135 #[.slice A0 l0.length c0,.int .i64 a1,.int .i64 a2,.int .i64 a3,.int .i64 a4] w fun e w'=>e=.returned (.int .i64 r)∧aG w w':=by
 have aj:=af.mk hr0;have ax:=af.mk hc0;clear hr0 hc0;have H:=h;clear h;unfold kb.f at H;replace H:=aA.mp H;obtain⟨t232,dQ,H⟩:=H;have A6:=af.mk dQ;clear dQ;replace H:=aA.mp H;obtain⟨t233,dy,H⟩:=H;have A7:=af.mk dy;clear dy;replace H:=aA.mp H;obtain⟨t234,eG,H⟩:=H;have A8:=af.mk eG;clear eG;obtain rfl:=au H;go_enter Tryz.func135,Tryz.ntmps135;go_wp2_with (first|(refine aY 15 Tryz.func94 #[.slice A0 l0.length c0,.int .i64 a1,.int .i64 a2] ?_;(with_reducible refine(iD.calls k _ _ l0 a1 a2 t232 _ ?_ ?_ A6.o).mono ?_);exact bD aj;exact ax.o;rintro e w' ⟨rfl,⟨nd,rfl⟩⟩;refine⟨_,rfl,?_⟩)|(refine aY 19 Tryz.func94 #[.slice A0 l0.length c0,.int .i64 a3,.int .i64 a4] ?_;(with_reducible refine(iD.calls k _ _ l0 a3 a4 t233 _ ?_ ?_ A7.o).mono ?_);exact bD aj;exact ax.o;rintro e w' ⟨rfl,⟨nd,rfl⟩⟩;refine⟨_,rfl,?_⟩)|(refine aY 20 Tryz.func95 #[.slice A0 l0.length c0,.int .i64 t232,.int .i64 t233] ?_;(with_reducible refine(jE.calls k _ _ l0 t232 t233 t234 _ ?_ ?_ A8.o).mono ?_);exact bD aj;exact ax.o;rintro e w' ⟨rfl,⟨nd,rfl⟩⟩;refine⟨_,rfl,?_⟩))
 go_ret;exact⟨ak,aQ⟩
mutual
def iF.l0:Nat→List Int→Int→Option (Bool)
 |0,_,_=>none
 |k+1,x0,x3=>if x3<(x0.length:Int) then(if 0≤x3 then((eH.f (rd x0 x3)).bind fun Lv=>(if Lv=true then(iF.l1 k x0 x3 0) else(some false))) else none) else(some true)
def iF.l1:Nat→List Int→Int→Int→Option (Bool)
 |0,_,_,_=>none
 |k+1,x0,x3,x4=>if x4<x3 then(if 0≤x4 then(if x4<(x0.length:Int) then(if 0≤x3 then(if x3<(x0.length:Int) then(if(rd x0 x4)=(rd x0 x3) then(some false) else(iF.l1 k x0 x3 (wrap64 (x4+1)))) else none) else none) else none) else none) else(iF.l0 k x0 (wrap64 (x3+1)))
end
def iF.f(k:Nat)(l0:List Int):Option (Bool):=iF.l0 k l0 0
theorem iF.calls(k:Nat)(A0:Option Addr)(c0:Nat)(l0:List Int)(r:Bool)(w:World)(hr0:Kd.C (Kd.int .i64) w A0 l0.length l0)(hc0:l0.length≤c0)(h:iF.f k l0=some r):
  Calls Tryz.prog 233 #[.slice A0 l0.length c0] w fun e w'=>e=.returned (.bool r)∧aG w w':=by
 have aj:=af.mk hr0;have ax:=af.mk hc0;clear hr0 hc0;have H:=h;clear h;unfold iF.f at H;have H':=af.mk H;clear H;go_enter Tryz.func233,Tryz.ntmps233;go_wp2;repeat(go_quiet (fail);try go_wp2)
 go_loopg [3] k (fun kq v3 w'=> ∃(aV:Int),v3=.int .i64 aV∧af (iF.l0 kq l0 aV=some r)∧af (kq≤k)∧aG w w')
 case atStart=>exact⟨(0),ak,H',⟨aH _⟩,aQ⟩
 case round=>
  clear H';obtain⟨aV,rfl,HA,aC,⟨m1,rfl⟩⟩:=hrel;cases gk with
  |zero=>exact absurd HA.o (by simp[iF.l0])
  |succ k1=>
   have H:=HA.o;clear HA;simp only[iF.l0] at H;by_cases c2:aV<(l0.length:Int)
   case neg=>
    rw[ag c2] at H;have eM:=aD c2;clear c2;obtain rfl:=au H;go_wp2;repeat(go_quiet (fail);try go_wp2)
    go_ret;exact⟨ak,aQ⟩
   rw[ah c2] at H;have eM:=ap c2;clear c2;replace H:=bC H;obtain⟨eU,H⟩:=H;replace H:=aA.mp H;obtain⟨Lv,cX,H⟩:=H;have A4:=af.mk cX;clear cX;by_cases c5:Lv=true
   case neg=>
    replace c5:=bU c5;subst c5;rw[ag bV] at H;obtain rfl:=au H;obtain⟨aeI,rfl,aeJ,aeK,aeL⟩:=eu aj aV;have Lw:=trivial;repeat((first|clear Lw|go_quiet (fail));go_wp2_with ((go_at_call 62;(with_reducible refine(eH.calls (rd l0 aV) false _ A4.o).mono ?_);rintro e w' ⟨rfl,⟨nd,rfl⟩⟩;(try exact eA))))
    go_ret;exact⟨ak,aQ⟩
   subst c5;rw[ah rfl] at H;have H':=af.mk H;clear H;obtain⟨aeI,rfl,aeJ,aeK,aeL⟩:=eu aj aV;have Lw:=trivial;repeat((first|clear Lw|go_quiet (fail));go_wp2_with ((go_at_call 62;(with_reducible refine(eH.calls (rd l0 aV) true _ A4.o).mono ?_);rintro e w' ⟨rfl,⟨nd,rfl⟩⟩;(try exact eA))))
   go_loopg [4] k1 (fun kq v4 w'=> ∃(fK:Int),v4=.int .i64 fK∧af (iF.l1 kq l0 aV fK=some r)∧af (kq≤k1)∧aG w w')
   case atStart=>exact⟨(0),ak,H',⟨aH _⟩,aQ⟩
   case round=>
    clear H';obtain⟨fK,rfl,HA,bw,⟨m2,rfl⟩⟩:=hrel;cases gk with
    |zero=>exact absurd HA.o (by simp[iF.l1])
    |succ k2=>
     have H:=HA.o;clear HA;simp only[iF.l1] at H;by_cases c6:fK<aV
     case neg=>
      rw[ag c6] at H;have dU:=aD c6;clear c6;have H':=af.mk H;clear H;go_wp2;repeat(go_quiet (fail);try go_wp2)
      go_roundg k2
      case measure=>have:=aC.o;have:=bw.o;omega
      case rel=>exact⟨(wrap64 (aV+1)),ak,H',⟨by have:=aC.o;have:=bw.o;omega⟩,aQ⟩
     rw[ah c6] at H;have dU:=ap c6;clear c6;replace H:=bC H;obtain⟨eN,H⟩:=H;replace H:=bC H;obtain⟨fF,H⟩:=H;replace H:=bC H;obtain⟨gU,H⟩:=H;replace H:=bC H;obtain⟨gH,H⟩:=H;by_cases c11:(rd l0 fK)=(rd l0 aV)
     case neg=>
      rw[ag c11] at H;have j5:=cV c11;have zT:=bne_iff_ne.mpr c11;have H':=af.mk H;clear H;obtain⟨aeM,aeN,aeO⟩:=fW aj fK;obtain⟨aeP,aeQ,aeR⟩:=fW aj aV;go_wp2;repeat(go_quiet (fail);try go_wp2)
      go_roundg k2
      case measure=>have:=aC.o;have:=bw.o;omega
      case rel=>exact⟨(wrap64 (fK+1)),ak,H',⟨by have:=aC.o;have:=bw.o;omega⟩,aQ⟩
     rw[ah c11] at H;have j5:=beq_iff_eq.mpr c11;have zT:=bne_eq_false_iff_eq.mpr c11;clear c11;obtain rfl:=au H;obtain⟨aeM,aeN,aeO⟩:=fW aj fK;obtain⟨aeP,aeQ,aeR⟩:=fW aj aV;go_wp2;repeat(go_quiet (fail);try go_wp2)
     go_ret;exact⟨ak,aQ⟩
def sN.f(k:Nat)(l0:List Int)(a1:Int)(a2:Int)(a3:Int):Option (Bool):=if a1=a2 then(some true) else(if a1=a3 then(some true) else(if a2=a3 then(some true) else((mJ.f k l0 a1 a2 a3).bind fun Lx=>(some Lx))))
theorem sN.calls(k:Nat)(A0:Option Addr)(c0:Nat)(l0:List Int)(a1:Int)(a2:Int)(a3:Int)(r:Bool)(w:World)(hr0:Kd.C (Kd.int .i64) w A0 l0.length l0)(hc0:l0.length≤c0)(h:sN.f k l0 a1 a2 a3=some r):
  Calls Tryz.prog 175 #[.slice A0 l0.length c0,.int .i64 a1,.int .i64 a2,.int .i64 a3] w fun e w'=>e=.returned (.bool r)∧aG w w':=by
 have aj:=af.mk hr0;have ax:=af.mk hc0;clear hr0 hc0;have H:=h;clear h;unfold sN.f at H;by_cases c5:a1=a2
 case neg=>
  rw[ag c5] at H;have dC:=cV c5;have oe:=bne_iff_ne.mpr c5;by_cases c6:a1=a3
  case neg=>
   rw[ag c6] at H;have dU:=cV c6;have j9:=bne_iff_ne.mpr c6;by_cases c7:a2=a3
   case neg=>
    rw[ag c7] at H;have eN:=cV c7;have pT:=bne_iff_ne.mpr c7;replace H:=aA.mp H;obtain⟨Lx,eG,H⟩:=H;have A8:=af.mk eG;clear eG;obtain rfl:=au H;go_enter Tryz.func175,Tryz.ntmps175;go_wp2_with ((go_at_call 232;(with_reducible refine(mJ.calls k _ _ l0 a1 a2 a3 Lx _ ?_ ?_ A8.o).mono ?_);exact bD aj;exact ax.o;rintro e w' ⟨rfl,⟨nd,rfl⟩⟩))
    go_ret;exact⟨ak,aQ⟩
   rw[ah c7] at H;have eN:=beq_iff_eq.mpr c7;have pT:=bne_eq_false_iff_eq.mpr c7;clear c7;obtain rfl:=au H;go_enter Tryz.func175,Tryz.ntmps175;go_wp2;go_ret;exact⟨ak,aQ⟩
  rw[ah c6] at H;have dU:=beq_iff_eq.mpr c6;have j9:=bne_eq_false_iff_eq.mpr c6;clear c6;obtain rfl:=au H;go_enter Tryz.func175,Tryz.ntmps175;go_wp2;go_ret;exact⟨ak,aQ⟩
 rw[ah c5] at H;have dC:=beq_iff_eq.mpr c5;have oe:=bne_eq_false_iff_eq.mpr c5;clear c5;obtain rfl:=au H;go_enter Tryz.func175,Tryz.ntmps175;go_wp2;go_ret;exact⟨ak,aQ⟩
mutual
def fx.l0:Nat→List Int→List Int→Int→Option (Bool)
 |0,_,_,_=>none
 |k+1,x0,x1,x5=>if x5<(x1.length:Int) then(if 0≤x5 then((eH.f (rd x1 x5)).bind fun LZ=>(if LZ=true then(fx.l1 k x0 x1 x5 0) else(some false))) else none) else(some true)
def fx.l1:Nat→List Int→List Int→Int→Int→Option (Bool)
 |0,_,_,_,_=>none
 |k+1,x0,x1,x5,x6=>if x6<x5 then(if 0≤x6 then(if x6<(x1.length:Int) then(if 0≤x5 then(if x5<(x1.length:Int) then(if(rd x1 x6)=(rd x1 x5) then(some false) else(fx.l2 k x0 x1 x5 x6 0)) else none) else none) else none) else none) else(fx.l0 k x0 x1 (wrap64 (x5+1)))
def fx.l2:Nat→List Int→List Int→Int→Int→Int→Option (Bool)
 |0,_,_,_,_,_=>none
 |k+1,x0,x1,x5,x6,x7=>if x7<x6 then(if 0≤x5 then(if x5<(x1.length:Int) then(if 0≤x6 then(if x6<(x1.length:Int) then(if 0≤x7 then(if x7<(x1.length:Int) then((mJ.f k x0 (rd x1 x5) (rd x1 x6) (rd x1 x7)).bind fun L0=>(if L0=true then(some false) else(fx.l2 k x0 x1 x5 x6 (wrap64 (x7+1))))) else none) else none) else none) else none) else none) else none) else(fx.l1 k x0 x1 x5 (wrap64 (x6+1)))
end
def fx.f(k:Nat)(l0:List Int)(l1:List Int):Option (Bool):=fx.l0 k l0 l1 0
theorem fx.calls(k:Nat)(A0:Option Addr)(c0:Nat)(l0:List Int)(A1:Option Addr)(c1:Nat)(l1:List Int)(r:Bool)(w:World)(hr0:Kd.C (Kd.int .i64) w A0 l0.length l0)(hc0:l0.length≤c0)(hr1:Kd.C (Kd.int .i64) w A1 l1.length l1)(hc1:l1.length≤c1)(h:fx.f k l0 l1=some r):
  Calls Tryz.prog 234 #[.slice A0 l0.length c0,.slice A1 l1.length c1] w fun e w'=>e=.returned (.bool r)∧aG w w':=by
 have aj:=af.mk hr0;have ax:=af.mk hc0;clear hr0 hc0;have bN:=af.mk hr1;have cA:=af.mk hc1;clear hr1 hc1;have H:=h;clear h;unfold fx.f at H;have H':=af.mk H;clear H;go_enter Tryz.func234,Tryz.ntmps234;go_wp2;repeat(go_quiet (fail);try go_wp2)
 go_loopg [5] k (fun kq v5 w'=> ∃(aw:Int),v5=.int .i64 aw∧af (fx.l0 kq l0 l1 aw=some r)∧af (kq≤k)∧aG w w')
 case atStart=>exact⟨(0),ak,H',⟨aH _⟩,aQ⟩
 case round=>
  clear H';obtain⟨aw,rfl,HA,aC,⟨m1,rfl⟩⟩:=hrel;cases gk with
  |zero=>exact absurd HA.o (by simp[fx.l0])
  |succ k1=>
   have H:=HA.o;clear HA;simp only[fx.l0] at H;by_cases c3:aw<(l1.length:Int)
   case neg=>
    rw[ag c3] at H;have eU:=aD c3;clear c3;obtain rfl:=au H;go_wp2;repeat(go_quiet (fail);try go_wp2)
    go_ret;exact⟨ak,aQ⟩
   rw[ah c3] at H;have eU:=ap c3;clear c3;replace H:=bC H;obtain⟨dK,H⟩:=H;replace H:=aA.mp H;obtain⟨LZ,cY,H⟩:=H;have A5:=af.mk cY;clear cY;by_cases c6:LZ=true
   case neg=>
    replace c6:=bU c6;subst c6;rw[ag bV] at H;obtain rfl:=au H;obtain⟨afH,rfl,afI,afJ,afK⟩:=eu bN aw;go_wp2_with ((go_at_call 62;(with_reducible refine(eH.calls (rd l1 aw) false _ A5.o).mono ?_);rintro e w' ⟨rfl,⟨nd,rfl⟩⟩;(try exact eA)))
    repeat(go_quiet ((go_at_call 62;(with_reducible refine(eH.calls (rd l1 aw) false _ A5.o).mono ?_);rintro e w' ⟨rfl,⟨nd,rfl⟩⟩;(try exact eA)));try go_wp2)
    go_ret;exact⟨ak,aQ⟩
   subst c6;rw[ah rfl] at H;have H':=af.mk H;clear H;obtain⟨afH,rfl,afI,afJ,afK⟩:=eu bN aw;go_wp2_with ((go_at_call 62;(with_reducible refine(eH.calls (rd l1 aw) true _ A5.o).mono ?_);rintro e w' ⟨rfl,⟨nd,rfl⟩⟩;(try exact eA)))
   repeat(go_quiet ((go_at_call 62;(with_reducible refine(eH.calls (rd l1 aw) true _ A5.o).mono ?_);rintro e w' ⟨rfl,⟨nd,rfl⟩⟩;(try exact eA)));try go_wp2)
   go_loopg [6] k1 (fun kq v6 w'=> ∃(cC:Int),v6=.int .i64 cC∧af (fx.l1 kq l0 l1 aw cC=some r)∧af (kq≤k1)∧aG w w')
   case atStart=>exact⟨(0),ak,H',⟨aH _⟩,aQ⟩
   case round=>
    clear H';obtain⟨cC,rfl,HA,bw,⟨m2,rfl⟩⟩:=hrel;cases gk with
    |zero=>exact absurd HA.o (by simp[fx.l1])
    |succ k2=>
     have H:=HA.o;clear HA;simp only[fx.l1] at H;by_cases c7:cC<aw
     case neg=>
      rw[ag c7] at H;have eN:=aD c7;clear c7;have H':=af.mk H;clear H;go_wp2;repeat(go_quiet (fail);try go_wp2)
      go_roundg k2
      case measure=>have:=aC.o;have:=bw.o;omega
      case rel=>exact⟨(wrap64 (aw+1)),ak,H',⟨by have:=aC.o;have:=bw.o;omega⟩,aQ⟩
     rw[ah c7] at H;have eN:=ap c7;clear c7;replace H:=bC H;obtain⟨fF,H⟩:=H;replace H:=bC H;obtain⟨gU,H⟩:=H;replace H:=bC H;obtain⟨gH,H⟩:=H;replace H:=bC H;obtain⟨j5,H⟩:=H;by_cases c12:(rd l1 cC)=(rd l1 aw)
     case neg=>
      rw[ag c12] at H;have jC:=cV c12;have sv:=bne_iff_ne.mpr c12;have H':=af.mk H;clear H;obtain⟨afL,afM,afN⟩:=fW bN cC;obtain⟨afO,afP,afQ⟩:=fW bN aw;go_wp2;repeat(go_quiet (fail);try go_wp2)
      go_loopg [7] k2 (fun kq v7 w'=> ∃(pU:Int),v7=.int .i64 pU∧af (fx.l2 kq l0 l1 aw cC pU=some r)∧af (kq≤k2)∧aG w w')
      case atStart=>exact⟨(0),ak,H',⟨aH _⟩,aQ⟩
      case round=>
       clear H';obtain⟨pU,rfl,HA,dt,⟨m3,rfl⟩⟩:=hrel;cases gk with
       |zero=>exact absurd HA.o (by simp[fx.l2])
       |succ k3=>
        have H:=HA.o;clear HA;simp only[fx.l2] at H;by_cases c13:pU<cC
        case neg=>
         rw[ag c13] at H;have j6:=aD c13;clear c13;have H':=af.mk H;clear H;go_wp2;repeat(go_quiet (fail);try go_wp2)
         go_roundg k3
         case measure=>have:=aC.o;have:=bw.o;have:=dt.o;omega
         case rel=>exact⟨(wrap64 (cC+1)),ak,H',⟨by have:=aC.o;have:=bw.o;have:=dt.o;omega⟩,aQ⟩
        rw[ah c13] at H;have j6:=ap c13;clear c13;replace H:=bC H;obtain⟨pV,H⟩:=H;replace H:=bC H;obtain⟨n4,H⟩:=H;replace H:=bC H;obtain⟨oh,H⟩:=H;replace H:=bC H;obtain⟨sG,H⟩:=H;replace H:=bC H;obtain⟨rv,H⟩:=H;replace H:=bC H;obtain⟨wE,H⟩:=H;replace H:=aA.mp H;obtain⟨L0,pW,H⟩:=H;have cW:=af.mk pW;clear pW;by_cases fN:L0=true
        case neg=>
         replace fN:=bU fN;subst fN;rw[ag bV] at H;have H':=af.mk H;clear H;obtain⟨afR,afS,afT⟩:=fW bN aw;obtain⟨afU,afV,afW⟩:=fW bN cC;obtain⟨afX,afY,afZ⟩:=fW bN pU;go_wp2_with ((go_at_call 232;(with_reducible refine(mJ.calls k3 _ _ l0 (rd l1 aw) (rd l1 cC) (rd l1 pU) false _ ?_ ?_ cW.o).mono ?_);exact bD aj;exact ax.o;rintro e w' ⟨rfl,⟨nd,rfl⟩⟩;(try exact eA)))
         repeat(go_quiet ((go_at_call 232;(with_reducible refine(mJ.calls k3 _ _ l0 (rd l1 aw) (rd l1 cC) (rd l1 pU) false _ ?_ ?_ cW.o).mono ?_);exact bD aj;exact ax.o;rintro e w' ⟨rfl,⟨nd,rfl⟩⟩;(try exact eA)));try go_wp2)
         go_roundg k3
         case measure=>have:=aC.o;have:=bw.o;have:=dt.o;omega
         case rel=>exact⟨(wrap64 (pU+1)),ak,H',⟨by have:=aC.o;have:=bw.o;have:=dt.o;omega⟩,aQ⟩
        subst fN;rw[ah rfl] at H;obtain rfl:=au H;obtain⟨afR,afS,afT⟩:=fW bN aw;obtain⟨afU,afV,afW⟩:=fW bN cC;obtain⟨afX,afY,afZ⟩:=fW bN pU;go_wp2_with ((go_at_call 232;(with_reducible refine(mJ.calls k3 _ _ l0 (rd l1 aw) (rd l1 cC) (rd l1 pU) true _ ?_ ?_ cW.o).mono ?_);exact bD aj;exact ax.o;rintro e w' ⟨rfl,⟨nd,rfl⟩⟩;(try exact eA)))
        repeat(go_quiet ((go_at_call 232;(with_reducible refine(mJ.calls k3 _ _ l0 (rd l1 aw) (rd l1 cC) (rd l1 pU) true _ ?_ ?_ cW.o).mono ?_);exact bD aj;exact ax.o;rintro e w' ⟨rfl,⟨nd,rfl⟩⟩;(try exact eA)));try go_wp2)
        go_ret;exact⟨ak,aQ⟩
     rw[ah c12] at H;have jC:=beq_iff_eq.mpr c12;have sv:=bne_eq_false_iff_eq.mpr c12;clear c12;obtain rfl:=au H;obtain⟨afL,afM,afN⟩:=fW bN cC;obtain⟨afO,afP,afQ⟩:=fW bN aw;go_wp2;repeat(go_quiet (fail);try go_wp2)
     go_ret;exact⟨ak,aQ⟩
mutual
def f6.l0:Nat→List Int→List Bool→List Int→Int→Option (List Int)
 |0,_,_,_,_=>none
 |k+1,x0,x1,x5,x6=>if x6<91 then(f6.l1 k x0 x1 x5 x6 0 0) else(some x5)
def f6.l1:Nat→List Int→List Bool→List Int→Int→Int→Int→Option (List Int)
 |0,_,_,_,_,_,_=>none
 |k+1,x0,x1,x5,x6,x7,x8=>if x8<91 then(if 0≤x8 then(if x8<(x1.length:Int) then(if dM false x1 x8=true then((gA.f x0 x8 x6).bind fun Dg=>(if Dg=true then(f6.l1 k x0 x1 x5 x6 (wrap64 (x7+1)) (wrap64 (x8+1))) else(f6.l1 k x0 x1 x5 x6 x7 (wrap64 (x8+1))))) else(f6.l1 k x0 x1 x5 x6 x7 (wrap64 (x8+1)))) else none) else none) else(if x7>1 then(if x5.length<17592186044416 then(f6.l0 k x0 x1 (x5++[x6]) (wrap64 (x6+1))) else none) else(f6.l0 k x0 x1 x5 (wrap64 (x6+1))))
end
def f6.f(k:Nat)(l0:List Int)(l1:List Bool):Option (List Int):=f6.l0 k l0 l1 (([]:List Int)) 0
theorem f6.calls(k:Nat)(A0:Option Addr)(c0:Nat)(l0:List Int)(A1:Option Addr)(c1:Nat)(l1:List Bool)(r:List Int)(w:World)(hr0:Kd.C (Kd.int .i64) w A0 l0.length l0)(hc0:l0.length≤c0)(hr1:Kd.C Kd.bool w A1 l1.length l1)(hc1:l1.length≤c1)(h:f6.f k l0 l1=some r):
  Calls Tryz.prog 235 #[.slice A0 l0.length c0,.slice A1 l1.length c1] w fun e w'=> ∃bO:Value,e=.returned (bO)∧Kd.R (Kd.int .i64) 3 w' w.heap.size (fun _=>True) bO r∧Below w.heap.size w w':=by
 have aj:=af.mk hr0;have ax:=af.mk hc0;clear hr0 hc0;have bN:=af.mk hr1;have cA:=af.mk hc1;clear hr1 hc1;have HB:=af.mk (Below.refl w.heap.size w);have H:=h;clear h;unfold f6.f at H;generalize Uu:((([]:List Int)):List Int)=af5 at H;have Uv:=af.mk Uu.symm;clear Uu;have H':=af.mk H;clear H;go_enter Tryz.func235,Tryz.ntmps235;go_wp2_with (((with_reducible refine db (N:=9) rfl ?_);refine Kd.dV (Kd.int .i64) _ 3 ?hg (N:=9) ?hd (xs:=([]:List Int)) (inner:=[]) (ok:=fun _=>True) (bp:=fun _=>True) ?hr ?hp (fun _ hk=>hk) trivial (Below.refl _ _) (aH _) bn ?_;(case hd=>rfl);(case hg=>rfl);(case hr=>first|(go_simp;done)|(go_simp;rfl));(case hp=>exact(aE.none _ _));intro aqI w3 ie hb bq br;clear bq br;(first|rw[←Uv.o] at ie|(simp only[Int.reduceToNat] at ie;rw[←Uv.o] at ie));have af6:=af.mk (Kd.cv ie (aZ (ai HB)));replace HB:=aM HB hb;clear hb ie))
 go_loopg [5,6] k (fun kq v5 v6 w'=> ∃(aw:List Int) (bH:Int),v6=.int .i64 bH∧af (f6.l0 kq l0 l1 aw bH=some r)∧af (kq≤k)∧af (Kd.R (Kd.int .i64) 3 w' w.heap.size (fun _=>True) v5 aw)∧af (Below w.heap.size w w'))
 case atStart=>exact⟨(af5),(0),ak,H',⟨aH _⟩,⟨aX af6⟩,⟨ai HB⟩⟩
 case round=>
  clear H';obtain⟨aw,bH,rfl,HA,aC,bG,HB⟩:=hrel;cases gk with
  |zero=>exact absurd HA.o (by simp[f6.l0])
  |succ k1=>
   have H:=HA.o;clear HA;simp only[f6.l0] at H;by_cases c5:bH<91
   case neg=>
    rw[ag c5] at H;have dC:=aD c5;clear c5;obtain rfl:=au H;go_wp2;go_ret;exact⟨_,bE,aX bG,ai HB⟩
   rw[ah c5] at H;have dC:=ap c5;clear c5;have H':=af.mk H;clear H;go_wp2;go_loopg [7,8] k1 (fun kq v7 v8 w'=> ∃(bf:Int) (fc:Int),v7=.int .i64 bf∧v8=.int .i64 fc∧af (f6.l1 kq l0 l1 aw bH bf fc=some r)∧af (kq≤k1)∧af (Kd.R (Kd.int .i64) 3 w' w.heap.size (fun _=>True) u5 aw)∧af (Below w.heap.size w w'))
   case atStart=>exact⟨(0),(0),ak,ak,H',⟨aH _⟩,⟨aX bG⟩,⟨ai HB⟩⟩
   case round=>
    clear H';obtain⟨bf,fc,rfl,rfl,HA,bw,bG,HB⟩:=hrel;cases gk with
    |zero=>exact absurd HA.o (by simp[f6.l1])
    |succ k2=>
     have H:=HA.o;clear HA;simp only[f6.l1] at H;by_cases c6:fc<91
     case neg=>
      rw[ag c6] at H;have dU:=aD c6;clear c6;by_cases c13:bf>1
      case neg=>
       rw[ag c13] at H;have j6:=aD c13;clear c13;have H':=af.mk H;clear H;go_wp2;go_roundg k2
       case measure=>have:=aC.o;have:=bw.o;omega
       case rel=>exact⟨(aw),(wrap64 (bH+1)),ak,H',⟨by have:=aC.o;have:=bw.o;omega⟩,⟨aX bG⟩,⟨ai HB⟩⟩
      rw[ah c13] at H;have j6:=ap c13;clear c13;by_cases c14:aw.length<17592186044416
      case neg=>
       rw[ag c14] at H;cases H
      rw[ah c14] at H;have af7:=af.mk c14;clear c14;generalize Uw:((aw++[bH]):List Int)=af8 at H;have af9:=af.mk Uw.symm;clear Uw;have H':=af.mk H;clear H;go_wp2_with ((at_builtin;refine Kd.jW (Kd.int .i64) (w0:=w) w.heap.size rfl (.tmp 32) (.tmp 34) 31 3 (.int .i64 0) 8 rfl Tryz.underlying31 info3 rfl ao ae u5 aw bH [.int .i64 bH] (fun _=>True) (fun _=>False) rfl rfl ?aP (fun _ hk=>hk.elim) ?aF ?aO ?aB ?aS ?aL ?_;(case aP=>exact rfl);(case aB=>exact(ai HB));(case aF=>exact(fun _ _=>trivial));(case aO=>exact(aX bG));(case aS=>exact(aZ (ai HB)));(case aL=>have:=af7.o;omega);intro aqJ hY ho hb hg hat;rw[←af9.o] at ho;replace HB:=af.mk (hb);have af_:=af.mk (ho);clear bG;clear ho hb hg hat))
      go_roundg k2
      case measure=>have:=aC.o;have:=bw.o;omega
      case rel=>exact⟨(af8),(wrap64 (bH+1)),ak,H',⟨by have:=aC.o;have:=bw.o;omega⟩,⟨aX af_⟩,⟨ai HB⟩⟩
     rw[ah c6] at H;have dU:=ap c6;clear c6;replace H:=bC H;obtain⟨eN,H⟩:=H;replace H:=bC H;obtain⟨fF,H⟩:=H;obtain⟨Ux,L6⟩:∃b_:Bool,b_=(dM false l1 fc):=⟨_,rfl⟩;replace H:(if Ux=true then((gA.f l0 fc bH).bind fun Dg=>(if Dg=true then(f6.l1 k2 l0 l1 aw bH (wrap64 (bf+1)) (wrap64 (fc+1))) else(f6.l1 k2 l0 l1 aw bH bf (wrap64 (fc+1))))) else(f6.l1 k2 l0 l1 aw bH bf (wrap64 (fc+1))))=some r:=by rw[←L6] at H;exact H
     have L7:=af.mk L6;clear L6;by_cases c10:Ux=true
     case neg=>
      replace c10:=bU c10;subst c10;rw[ag bV] at H;have H':=af.mk H;clear H;have pX:0≤(fc:Int):=aJ;have pY:fc<(l1.length:Int):=aJ;obtain⟨Uy,Dh,pZ⟩:=Kd.se bN.o fc pX pY;(try rw[←L7.o] at pZ)
      cases Dh;replace pZ:=dw HB pZ;replace pX:=av pX;replace pY:=av pY;go_wp2;go_roundg k2
      case measure=>have:=aC.o;have:=bw.o;omega
      case rel=>exact⟨(bf),(wrap64 (fc+1)),ak,ak,H',⟨by have:=aC.o;have:=bw.o;omega⟩,⟨aX bG⟩,⟨ai HB⟩⟩
     subst c10;rw[ah rfl] at H;replace H:=aA.mp H;obtain⟨Dg,ka,H⟩:=H;have jH:=af.mk ka;clear ka;by_cases c12:Dg=true
     case neg=>
      replace c12:=bU c12;subst c12;rw[ag bV] at H;have H':=af.mk H;clear H;have pX:0≤(fc:Int):=aJ;have pY:fc<(l1.length:Int):=aJ;obtain⟨Uy,Dh,pZ⟩:=Kd.se bN.o fc pX pY;(try rw[←L7.o] at pZ)
      cases Dh;replace pZ:=dw HB pZ;replace pX:=av pX;replace pY:=av pY;go_wp2_with ((go_at_call 181;(with_reducible refine(gA.calls _ _ l0 fc bH false _ ?_ ?_ jH.o).mono ?_);exact cG aj HB;exact ax.o;rintro e w' ⟨rfl,⟨nd,rfl⟩⟩))
      go_roundg k2
      case measure=>have:=aC.o;have:=bw.o;omega
      case rel=>exact⟨(bf),(wrap64 (fc+1)),ak,ak,H',⟨by have:=aC.o;have:=bw.o;omega⟩,⟨aX bG⟩,⟨ai HB⟩⟩
     subst c12;rw[ah rfl] at H;have H':=af.mk H;clear H;have pX:0≤(fc:Int):=aJ;have pY:fc<(l1.length:Int):=aJ;obtain⟨Uy,Dh,pZ⟩:=Kd.se bN.o fc pX pY;(try rw[←L7.o] at pZ)
     cases Dh;replace pZ:=dw HB pZ;replace pX:=av pX;replace pY:=av pY;go_wp2_with ((go_at_call 181;(with_reducible refine(gA.calls _ _ l0 fc bH true _ ?_ ?_ jH.o).mono ?_);exact cG aj HB;exact ax.o;rintro e w' ⟨rfl,⟨nd,rfl⟩⟩))
     go_roundg k2
     case measure=>have:=aC.o;have:=bw.o;omega
     case rel=>exact⟨(wrap64 (bf+1)),(wrap64 (fc+1)),ak,ak,H',⟨by have:=aC.o;have:=bw.o;omega⟩,⟨aX bG⟩,⟨ai HB⟩⟩
mutual
def cD.l0:Nat→List Int→List Int→List Bool→Int→Int→Option (List Int)
 |0,_,_,_,_,_=>none
 |k+1,x0,x1,x5,x6,x7=>if x7<(x1.length:Int) then(if 0≤x7 then(if 0≤(rd x1 x7) then(if(rd x1 x7)<(x5.length:Int) then(cD.l0 k x0 x1 (x5.set ((rd x1 x7):Int).toNat true) x6 (wrap64 (x7+1))) else none) else none) else none) else(cD.l1 k x0 x5 x6)
def cD.l1:Nat→List Int→List Bool→Int→Option (List Int)
 |0,_,_,_=>none
 |k+1,x0,x5,x6=>(f6.f k x0 x5).bind fun lD=>(cD.l2 k x0 x5 x6 lD 0)
def cD.l2:Nat→List Int→List Bool→Int→List Int→Int→Option (List Int)
 |0,_,_,_,_,_=>none
 |k+1,x0,x5,x6,x8,x9=>if x9<(x8.length:Int) then(cD.l3 k x0 x5 x6 x8 x9 0) else(cD.l4 k x0 x5 x6 (([]:List Int)) 0)
def cD.l3:Nat→List Int→List Bool→Int→List Int→Int→Int→Option (List Int)
 |0,_,_,_,_,_,_=>none
 |k+1,x0,x5,x6,x8,x9,x10=>if x10<x9 then(if 0≤x9 then(if x9<(x8.length:Int) then(if 0≤x10 then(if x10<(x8.length:Int) then((jI.f k x0 (rd x8 x9) (rd x8 x10)).bind fun p7=>(if 0≤p7 then(if p7<(x5.length:Int) then(cD.l3 k x0 (x5.set (p7:Int).toNat true) x6 x8 x9 (wrap64 (x10+1))) else none) else none)) else none) else none) else none) else none) else(cD.l2 k x0 x5 x6 x8 (wrap64 (x9+1)))
def cD.l4:Nat→List Int→List Bool→Int→List Int→Int→Option (List Int)
 |0,_,_,_,_,_=>none
 |k+1,x0,x5,x6,ky,kz=>if kz<91 then(if 0≤kz then(if kz<(x5.length:Int) then(if dM false x5 kz=true then(if ky.length<17592186044416 then(cD.l4 k x0 x5 x6 (ky++[kz]) (wrap64 (kz+1))) else none) else(cD.l4 k x0 x5 x6 ky (wrap64 (kz+1)))) else none) else none) else(if(ky.length:Int)=x6 then(some ky) else(cD.l1 k x0 x5 (ky.length:Int)))
end
def cD.f(k:Nat)(l0:List Int)(l1:List Int):Option (List Int):=if 91≤281474976710656 then(cD.l0 k l0 l1 (List.replicate 91 false) 0 0) else none
def cD.Uz:Bool×List (List Nat×List Nat):=(true,[([],[]),([],[]),([],[]),([],[]),([2,3],[2,3]),([4],[4]),([],[]),([],[]),([6,7],[6,7]),([8],[8]),([1,5,9],[1,5,9]),([0,10,0,1,2,3,4,5,6,7,8,9,10],[0,10]),([11,10,0,1,2,3,4,5,6,7,8,9,10],[11])])
def cD.B14:List Nat:=[0,0,0,0,12,28,0,0,192,448,1022,2047,4095]
theorem cD.aga:fD .any (opsOf Tryz.f179 14)=cD.Uz:=by kernel_rfl
theorem cD.agb:nj cD.Uz.2 cD.B14=true:=by kernel_rfl
theorem cD.calls(k:Nat)(A0:Option Addr)(c0:Nat)(l0:List Int)(A1:Option Addr)(c1:Nat)(l1:List Int)(r:List Int)(w:World)(hr0:Kd.C (Kd.int .i64) w A0 l0.length l0)(hc0:l0.length≤c0)(hr1:Kd.C (Kd.int .i64) w A1 l1.length l1)(hc1:l1.length≤c1)(h:cD.f k l0 l1=some r):
  Calls Tryz.prog 179 #[.slice A0 l0.length c0,.slice A1 l1.length c1] w fun e w'=> ∃bO:Value,e=.returned (bO)∧Kd.R (Kd.int .i64) 3 w' w.heap.size (fun _=>True) bO r∧Below w.heap.size w w':=by
 have aj:=af.mk hr0;have ax:=af.mk hc0;clear hr0 hc0;have bN:=af.mk hr1;have cA:=af.mk hc1;clear hr1 hc1;have HB:=af.mk (Below.refl w.heap.size w);have H:=h;clear h;unfold cD.f at H;by_cases c3:91≤281474976710656
 case neg=>
  rw[ag c3] at H;cases H
 rw[ah c3] at H;have eU:=av c3;have um:=ap c3;clear c3;generalize UA:((List.replicate 91 false):List Bool)=agc at H;have UB:=af.mk UA.symm;clear UA;have H':=af.mk H;clear H;go_enter Tryz.func179,Tryz.ntmps179;go_wp2_with (((with_reducible refine db (N:=13) rfl ?_);refine Kd.FU Kd.bool _ 4 rfl (N:=13) rfl 160 _ _ rfl 91 rfl rfl Tryz.underlying160 (.bool false) 1 F7 rfl ao ae false (ok:=fun _=>True) (bp:=fun _=>True) rfl (fun _ hk=>hk) trivial ae ae (Below.refl _ _) (aH _) ?_;intro UC w4 dv hb bq br;clear bq br;(first|rw[←UB.o] at dv|(simp only[Int.reduceToNat] at dv;rw[←UB.o] at dv));have agd:=af.mk (Kd.cv dv (aZ (ai HB)));replace HB:=aM HB hb;clear hb dv))
 go_loopg [7] k (fun kq v7 w'=> ∃(aw:List Bool) (cB:Int),v7=.int .i64 cB∧af (cD.l0 kq l0 l1 aw 0 cB=some r)∧af (kq≤k)∧af (Kd.R Kd.bool 4 w' w.heap.size (fun _=>True) UC aw)∧af (Below w.heap.size w w'))
 case atStart=>exact⟨(agc),(0),ak,H',⟨aH _⟩,⟨aX agd⟩,⟨ai HB⟩⟩
 case round=>
  clear H';obtain⟨aw,cB,rfl,HA,aC,bG,HB⟩:=hrel;cases gk with
  |zero=>exact absurd HA.o (by simp[cD.l0])
  |succ k1=>
   have H:=HA.o;clear HA;simp only[cD.l0] at H;by_cases c6:cB<(l1.length:Int)
   case neg=>
    rw[ag c6] at H;have dU:=aD c6;clear c6;have H':=af.mk H;clear H;go_wp2;go_loopg [6] k1 (fun kq v6 w'=> ∃(gp:List Bool) (cC:Int),v6=.int .i64 cC∧af (cD.l1 kq l0 gp cC=some r)∧af (kq≤k1)∧af (Kd.R Kd.bool 4 w' w.heap.size (fun _=>True) UC gp)∧af (Below w.heap.size w w'))
    case atStart=>exact⟨(aw),(0),ak,H',⟨aH _⟩,⟨aX bG⟩,⟨ai HB⟩⟩
    case round=>
     clear H';obtain⟨gp,cC,rfl,HA,bw,bG,HB⟩:=hrel;cases gk with
     |zero=>exact absurd HA.o (by simp[cD.l1])
     |succ k2=>
      have H:=HA.o;clear HA;simp only[cD.l1] at H;replace H:=aA.mp H;obtain⟨lD,nE,H⟩:=H;have p9:=af.mk nE;clear nE;have H':=af.mk H;clear H;obtain⟨G6,G7,age⟩:=Kd.bJ bG.o;subst age;go_wp2_with ((refine aY 28 Tryz.func235 #[.slice A0 l0.length c0,.slice G6 gp.length G7] ?_;(with_reducible refine(f6.calls k2 _ _ l0 _ _ gp lD _ ?bz ?bB ?cg ?cm p9.o).mono ?_);(case bz=>exact cG aj HB);(case bB=>exact ax.o);(case cg=>exact pE bG);(case cm=>exact(Kd.bm bG.o).2.1);rintro e hY ⟨agf,rfl,ho0,hb⟩;refine⟨_,rfl,?_⟩;replace bG:=af.mk (Kd.dB (aX bG) hb);have agh:=af.mk (Kd.cv ho0 (aZ (ai HB)));replace HB:=aM HB hb))
      go_loopg [9] k2 (fun kq v9 w'=> ∃(de:List Bool) (nF:Int),v9=.int .i64 nF∧af (cD.l2 kq l0 de cC lD nF=some r)∧af (kq≤k2)∧af (Kd.R Kd.bool 4 w' w.heap.size (fun _=>True) (.slice G6 gp.length G7) de)∧af (Kd.R (Kd.int .i64) 3 w' w.heap.size (fun _=>True) agf lD)∧af (Below w.heap.size w w'))
      case atStart=>exact⟨(gp),(0),ak,H',⟨aH _⟩,⟨aX bG⟩,⟨aX agh⟩,⟨ai HB⟩⟩
      case round=>
       clear H';obtain⟨de,nF,rfl,HA,dt,bG,ma,HB⟩:=hrel;have kT:=(Kd.bm bG.o).1;rw[kT] at bG;(try simp only[kT])
       (try simp only[kT] at ma)
       cases gk with
       |zero=>exact absurd HA.o (by simp[cD.l2])
       |succ k3=>
        have H:=HA.o;clear HA;simp only[cD.l2] at H;by_cases c16:nF<(lD.length:Int)
        case neg=>
         rw[ag c16] at H;have oh:=aD c16;clear c16;generalize UD:((([]:List Int)):List Int)=agi at H;have UE:=af.mk UD.symm;clear UD;have H':=af.mk H;clear H;obtain⟨agj,L8,L_⟩:=Kd.bJ ma.o;subst L_;go_wp2_with (((with_reducible refine db (N:=52) rfl ?_);refine Kd.dV (Kd.int .i64) _ 3 ?hg (N:=52) ?hd (xs:=([]:List Int)) (inner:=[]) (ok:=fun _=>True) (bp:=fun _=>True) ?hr ?hp (fun _ hk=>hk) trivial (Below.refl _ _) (aH _) bn ?_;(case hd=>rfl);(case hg=>rfl);(case hr=>first|(go_simp;done)|(go_simp;rfl));(case hp=>exact(aE.none _ _));intro aqK Ma Ae hb bq br;clear bq br;(first|rw[←UE.o] at Ae|(simp only[Int.reduceToNat] at Ae;rw[←UE.o] at Ae));replace bG:=af.mk (Kd.dB (aX bG) hb);have agk:=af.mk (Kd.cv (Kd.BM Ae (Kd.sd (aX ma))) (aZ (ai HB)));replace ma:=af.mk (Kd.BL (aX ma) (Kd.kK Ae) hb);replace HB:=aM HB hb;clear hb Ae))
         go_loopg [11,12] k3 (fun kq v11 v12 w'=> ∃(o4:List Int) (kB:Int),v12=.int .i64 kB∧af (cD.l4 kq l0 de cC o4 kB=some r)∧af (kq≤k3)∧af (Kd.R Kd.bool 4 w' w.heap.size (fun _=>True) (.slice G6 de.length G7) de)∧af (Kd.R (Kd.int .i64) 3 w' w.heap.size (fun _=>True) v11 o4)∧af (Below w.heap.size w w'))
         case atStart=>exact⟨(agi),(0),ak,H',⟨aH _⟩,⟨by(try simp only[kT]);(with_reducible repeat(first|apply Kd.iJ|apply Kd.iy|apply Kd.fU));exact bG.o⟩,⟨by(try simp only[kT]);(with_reducible repeat(first|apply Kd.iJ|apply Kd.iy|apply Kd.fU));exact Kd.dq agk.o (fun _ hk=>trivial)⟩,⟨ai HB⟩⟩
         case round=>
          clear H';obtain⟨o4,kB,rfl,HA,qa,bG,wG,HB⟩:=hrel;cases gk with
          |zero=>exact absurd HA.o (by simp[cD.l4])
          |succ k4=>
           have H:=HA.o;clear HA;simp only[cD.l4] at H;by_cases qb:kB<91
           case neg=>
            rw[ag qb] at H;have agl:=aD qb;clear qb;by_cases mL:(o4.length:Int)=cC
            case neg=>
             rw[ag mL] at H;have wH:=cV mL;have Mb:=bne_iff_ne.mpr mL;have H':=af.mk H;clear H;obtain⟨Af,Ag,Di⟩:=Kd.bJ wG.o;subst Di;go_wp2;(try simp only[←kT])
             go_roundg k4
             case measure=>have:=aC.o;have:=bw.o;have:=dt.o;have:=qa.o;omega
             case rel=>exact⟨(de),((o4.length:Int)),ak,H',⟨by have:=aC.o;have:=bw.o;have:=dt.o;have:=qa.o;omega⟩,⟨by(try simp only[kT]);(with_reducible repeat(first|apply Kd.iJ|apply Kd.iy|apply Kd.fU));exact bG.o⟩,⟨ai HB⟩⟩
            rw[ah mL] at H;have wH:=beq_iff_eq.mpr mL;have Mb:=bne_eq_false_iff_eq.mpr mL;clear mL;obtain rfl:=au H;obtain⟨UF,UG,Dj⟩:=Kd.bJ wG.o;subst Dj;go_wp2;go_ret;exact⟨_,bE,aX wG,ai HB⟩
           rw[ah qb] at H;have agl:=ap qb;clear qb;replace H:=bC H;obtain⟨aqL,H⟩:=H;replace H:=bC H;obtain⟨UH,H⟩:=H;obtain⟨UI,Mc⟩:∃b_:Bool,b_=(dM false de kB):=⟨_,rfl⟩;replace H:(if UI=true then(if o4.length<17592186044416 then(cD.l4 k4 l0 de cC (o4++[kB]) (wrap64 (kB+1))) else none) else(cD.l4 k4 l0 de cC o4 (wrap64 (kB+1))))=some r:=by rw[←Mc] at H;exact H
           have UJ:=af.mk Mc;clear Mc;by_cases G8:UI=true
           case neg=>
            replace G8:=bU G8;subst G8;rw[ag bV] at H;have H':=af.mk H;clear H;have wI:0≤(kB:Int):=aJ;have wJ:kB<(de.length:Int):=aJ;obtain⟨agm,Md,Me⟩:=Kd.se (Kd.bm bG.o).2.2 kB wI wJ;(try rw[←UJ.o] at Me)
            cases Md;replace wI:=av wI;replace wJ:=av wJ;go_wp2;go_roundg k4
            case measure=>have:=aC.o;have:=bw.o;have:=dt.o;have:=qa.o;omega
            case rel=>exact⟨(o4),(wrap64 (kB+1)),ak,H',⟨by have:=aC.o;have:=bw.o;have:=dt.o;have:=qa.o;omega⟩,⟨by(try simp only[kT]);(with_reducible repeat(first|apply Kd.iJ|apply Kd.iy|apply Kd.fU));exact bG.o⟩,⟨by(try simp only[kT]);(with_reducible repeat(first|apply Kd.iJ|apply Kd.iy|apply Kd.fU));exact wG.o⟩,⟨ai HB⟩⟩
           subst G8;rw[ah rfl] at H;by_cases G_:o4.length<17592186044416
           case neg=>
            rw[ag G_] at H;cases H
           rw[ah G_] at H;have agn:=af.mk G_;clear G_;generalize UK:((o4++[kB]):List Int)=agp at H;have agq:=af.mk UK.symm;clear UK;have H':=af.mk H;clear H;have wI:0≤(kB:Int):=aJ;have wJ:kB<(de.length:Int):=aJ;obtain⟨agm,Md,Me⟩:=Kd.se (Kd.bm bG.o).2.2 kB wI wJ;(try rw[←UJ.o] at Me)
           cases Md;replace wI:=av wI;replace wJ:=av wJ;go_wp2_with ((at_builtin;refine Kd.jW (Kd.int .i64) (w0:=w) w.heap.size rfl (.tmp 61) (.tmp 63) 31 3 (.int .i64 0) 8 rfl Tryz.underlying31 info3 rfl ao ae u11 o4 kB [.int .i64 kB] (fun _=>True) (fun _=>False) rfl rfl ?aP (fun _ hk=>hk.elim) ?aF ?aO ?aB ?aS ?aL ?_;(case aP=>exact rfl);(case aB=>exact(ai HB));(case aF=>exact(fun _ _=>trivial));(case aO=>exact(aX wG));(case aS=>exact(aZ (ai HB)));(case aL=>have:=agn.o;omega);intro aqM Dk ho hb hg hat;rw[←agq.o] at ho;replace bG:=af.mk (Kd.FV (aX bG) (Kd.BK (aX wG)) ao hg);replace HB:=af.mk (hb);have agr:=af.mk (ho);clear wG;clear ho hb hg hat))
           go_roundg k4
           case measure=>have:=aC.o;have:=bw.o;have:=dt.o;have:=qa.o;omega
           case rel=>exact⟨(agp),(wrap64 (kB+1)),ak,H',⟨by have:=aC.o;have:=bw.o;have:=dt.o;have:=qa.o;omega⟩,⟨by(try simp only[kT]);(with_reducible repeat(first|apply Kd.iJ|apply Kd.iy|apply Kd.fU));exact bG.o⟩,⟨by(try simp only[kT]);(with_reducible repeat(first|apply Kd.iJ|apply Kd.iy|apply Kd.fU));exact agr.o⟩,⟨ai HB⟩⟩
        rw[ah c16] at H;have oh:=ap c16;clear c16;have H':=af.mk H;clear H;obtain⟨UL,UM,Mf⟩:=Kd.bJ ma.o;subst Mf;go_wp2;go_loopg [10] k3 (fun kq v10 w'=> ∃(Ah:List Bool) (o5:Int),v10=.int .i64 o5∧af (cD.l3 kq l0 Ah cC lD nF o5=some r)∧af (kq≤k3)∧af (Kd.R Kd.bool 4 w' w.heap.size (fun _=>True) (.slice G6 de.length G7) Ah)∧af (Kd.R (Kd.int .i64) 3 w' w.heap.size (fun _=>True) (.slice UL lD.length UM) lD)∧af (Below w.heap.size w w'))
        case atStart=>exact⟨(de),(0),ak,H',⟨aH _⟩,⟨by(try simp only[kT]);(with_reducible repeat(first|apply Kd.iJ|apply Kd.iy|apply Kd.fU));exact bG.o⟩,⟨by(try simp only[kT]);(with_reducible repeat(first|apply Kd.iJ|apply Kd.iy|apply Kd.fU));exact ma.o⟩,⟨ai HB⟩⟩
        case round=>
         clear H';obtain⟨Ah,o5,rfl,HA,qa,bG,ma,HB⟩:=hrel;have sT:=(Kd.bm bG.o).1;rw[sT] at bG;(try simp only[sT])
         (try simp only[sT] at ma)
         cases gk with
         |zero=>exact absurd HA.o (by simp[cD.l3])
         |succ k4=>
          have H:=HA.o;clear HA;simp only[cD.l3] at H;by_cases c18:o5<nF
          case neg=>
           rw[ag c18] at H;have rv:=aD c18;clear c18;have H':=af.mk H;clear H;go_wp2;(try simp only[←kT, ←sT])
           go_roundg k4
           case measure=>have:=aC.o;have:=bw.o;have:=dt.o;have:=qa.o;omega
           case rel=>exact⟨(Ah),(wrap64 (nF+1)),ak,H',⟨by have:=aC.o;have:=bw.o;have:=dt.o;have:=qa.o;omega⟩,⟨by(try simp only[kT]);(try simp only[sT]);(with_reducible repeat(first|apply Kd.iJ|apply Kd.iy|apply Kd.fU));exact bG.o⟩,⟨by(try simp only[kT]);(try simp only[sT]);(with_reducible repeat(first|apply Kd.iJ|apply Kd.iy|apply Kd.fU));exact ma.o⟩,⟨ai HB⟩⟩
          rw[ah c18] at H;have rv:=ap c18;clear c18;replace H:=bC H;obtain⟨wE,H⟩:=H;replace H:=bC H;obtain⟨Ha,H⟩:=H;replace H:=bC H;obtain⟨UN,H⟩:=H;replace H:=bC H;obtain⟨UO,H⟩:=H;replace H:=aA.mp H;obtain⟨p7,UQ,H⟩:=H;have A23:=af.mk UQ;clear UQ;replace H:=bC H;obtain⟨Hb,H⟩:=H;replace H:=bC H;obtain⟨ags,H⟩:=H;generalize UR:((Ah.set (p7:Int).toNat true):List Bool)=agt at H;have agu:=af.mk UR.symm;clear UR;have H':=af.mk H;clear H;try go_wp2
          replace bG:=af.mk (Kd.fU bG.o);replace ma:=af.mk (Kd.fU ma.o);replace HB:=af.mk (bR HB.o);have Mg:0≤(nF:Int):=aJ;have Mh:nF<(lD.length:Int):=aJ;obtain⟨Mi,agv,US⟩:=Kd.ck (Kd.bm ma.o).2.2 nF Mg Mh;cases agv;replace Mg:=av Mg;replace Mh:=av Mh;have Mj:0≤(o5:Int):=aJ;have Mk:o5<(lD.length:Int):=aJ;obtain⟨agw,agx,UT⟩:=Kd.ck (Kd.bm ma.o).2.2 o5 Mj Mk;obtain rfl:Mi=agw:=(by injection agx);replace Mj:=av Mj;replace Mk:=av Mk;refine jA (n:=13) (S:=fun w'=>w'.cell? (Mi.add (nF).toNat)=some (.int .i64 (rd lD nF))∧w'.cell? (Mi.add (o5).toNat)=some (.int .i64 (rd lD o5))) (ds:=[12]) #[F_,F_,F_,F_,F_,F_,F_,F_,F_,F_,F_,F_,F_] am rfl rfl ⟨US,UT⟩ (fun hHeld=>?_);refine nk cD.aga cD.agb (fun az gX=>?_);generalize wr.drew=Ml at bG ma HB US UT hHeld ⊢;refine p_ 0 40 (m_ 13 1) az.o ?_;refine p_ 1 41 (m_ 13 3) az.o ?_;refine p_ 2 42 (m_ 13 7) az.o ?_;refine p_ 3 43 (m_ 13 15) az.o ?_;refine p_ 4 44 (m_ 13 31) az.o ?_;refine p_ 6 46 (m_ 13 95) az.o ?_;refine p_ 7 47 (m_ 13 223) az.o ?_;refine p_ 8 48 (m_ 13 479) az.o ?_;refine nn 5 45 (m_ 13 511) az.o gX.o hHeld ?_;refine nn 9 49 (m_ 13 1023) az.o gX.o hHeld ?_;refine fa (i:=10) (N:=some 50) (m_ 13 2047) rfl rfl (gj az.o am) ao (fun K hK=>?_);refine lV Tryz.func187 am rfl #[.slice A0 l0.length c0,.int .i64 (rd lD nF),.int .i64 (rd lD o5)] (by rfl) rfl rfl qQ ?_;with_reducible refine(jI.calls k4 _ _ l0 (rd lD nF) (rd lD o5) p7 _ ?bz ?bB A23.o).mono ?_;(case bz=>exact cG aj HB)
          (case bB=>exact ax.o)
          rintro e w' ⟨rfl,⟨nd,rfl⟩⟩;refine⟨_,rfl,?_⟩;have Mm:0≤(p7:Int):=aJ;have Mn:(p7:Int)<((Ah.length:Int):Int):=aJ;obtain⟨agy,UU,Ai,UW,agz,aqN,UX⟩:=Kd.yX bG.o ae;(first|cases Ai|(injection Ai with eI lE lF;(first|subst eI|(injection eI with eI;subst eI));subst lF;clear lE))
          have agA:=af.mk UW;have agB:=af.mk UX;clear UW agz UX;obtain⟨aqO,aqP⟩:=Kd.sg false bG.o (p7:Int) Mm Mn;replace Mm:=av Mm;replace Mn:=av Mn;have Mp:=Kd.BO bG.o (p7:Int) true;rw[←agu.o] at Mp;have agC:=af.mk Mp;clear Mp;refine hK.out _ _ ⟨hHeld.1,hHeld.2⟩ (fun hHeld=>?_);clear hK K;refine fl 50 ?_;refine p_ 11 51 (m_ 13 4095) az.o ?_;refine oN (i:=12) (N:=none) (m_ 13 8191) rfl rfl (gj az.o am) ao (fun K hK=>?_);refine pD (w1:=?_) (by rfl) rfl ?_ ?_;rotate_left;(go_simp;rfl);refine hK.out _ _ ?_;clear hK K;refine jB (ni az.o am) ?_;try go_wp2
          (try simp only[←sT])
          go_roundg k4
          case measure=>have:=aC.o;have:=bw.o;have:=dt.o;have:=qa.o;omega
          case rel=>exact⟨(agt),(wrap64 (o5+1)),ak,H',⟨by have:=aC.o;have:=bw.o;have:=dt.o;have:=qa.o;omega⟩,⟨by(try simp only[kT]);(try simp only[sT]);(with_reducible repeat(first|apply Kd.iJ|apply Kd.iy|apply Kd.fU));exact agC.o⟩,⟨by(try simp only[kT]);(try simp only[sT]);(with_reducible repeat(first|apply Kd.iJ|apply Kd.iy|apply Kd.fU));exact Kd.dq (Kd.tF (p:=⟨agy,(p7:Int).toNat,none⟩) (Kd.RF ma.o agB.o ao) (fun _ hk=>hk.2) (.bool true)) (fun _ hk=>trivial)⟩,⟨by repeat(first|(with_reducible first|exact HB.o|apply cS|apply bb|apply bR|refine mu ?_ agA.o)|exact HB.o)⟩⟩
   rw[ah c6] at H;have dU:=ap c6;clear c6;replace H:=bC H;obtain⟨eN,H⟩:=H;replace H:=bC H;obtain⟨fF,H⟩:=H;replace H:=bC H;obtain⟨gU,H⟩:=H;generalize UY:((aw.set ((rd l1 cB):Int).toNat true):List Bool)=UZ at H;have agD:=af.mk UY.symm;clear UY;have H':=af.mk H;clear H;have Mq:0≤(cB:Int):=aJ;have Mr:cB<(l1.length:Int):=aJ;obtain⟨aqQ,agE,U0⟩:=Kd.ck bN.o cB Mq Mr;cases agE;replace U0:=dw HB U0;replace Mq:=av Mq;replace Mr:=av Mr;have ry:0≤((rd l1 cB):Int):=aJ;have oa:((rd l1 cB):Int)<((aw.length:Int):Int):=aJ;obtain⟨Ms,Mt,Aj,U1,agF,aqR,U2⟩:=Kd.yX bG.o ae;(first|cases Aj|(injection Aj with eI lE lF;(first|subst eI|(injection eI with eI;subst eI));subst lF;clear lE))
   have agG:=af.mk U1;have aqS:=af.mk U2;clear U1 agF U2;obtain⟨aqT,aqU⟩:=Kd.sg false bG.o ((rd l1 cB):Int) ry oa;replace ry:=av ry;replace oa:=av oa;have Mu:=Kd.BP bG.o ((rd l1 cB):Int) true;go_wp2_with (((with_reducible refine FY (t:=4) (p:=25) rfl ?_);refine FX (t:=4) (p:=25) (v:=?aqV) (w1:=(wr.setCell ⟨Ms,((rd l1 cB):Int).toNat,none⟩ (.bool true))) ?hg ?ho ?hn ?hr ?_;(case ho=>rfl);(case hg=>rfl);(case hn=>rfl);(case hr=>first|(go_simp;done)|(go_simp;rfl));intro sS hw;have hg:wr.grownBy sS (some Ms):=(by rw[hw];exact Mu.2);have qc:Kd.R Kd.bool 4 sS w.heap.size (fun _=>True) (.slice (some ⟨Ms,0,none⟩) aw.length Mt) UZ:=(by rw[hw,agD.o];exact Mu.1);clear Mu;have dz:=af.mk (qc);have dA:=af.mk ((by rw[hw];exact mu (HB.o) agG.o:Below w.heap.size w sS));clear bG;clear HB;have bG:=dz;have HB:=dA;clear dz dA;clear hg hw qc))
   go_roundg k1
   case measure=>have:=aC.o;omega
   case rel=>exact⟨(UZ),(wrap64 (cB+1)),ak,H',⟨by have:=aC.o;omega⟩,⟨aX bG⟩,⟨ai HB⟩⟩
def bits_Len64.f(a0:Int):Option Int:=if a0=9 then some 4 else none
theorem bits_Len64.calls(a0:Int)(r:Int)(w:World)(h:bits_Len64.f a0=some r):
  Calls Tryz.prog 226 #[.int .u64 a0] w fun e w'=>e=.returned (.int .i64 r)∧aG w w':=by
 unfold bits_Len64.f at h;by_cases hc:a0=9
 case neg=>rw[ag hc] at h;exact absurd h bn
 rw[ah hc] at h;obtain rfl:=au h;subst hc;clear h;go_enter Tryz.func226,Tryz.ntmps226;go_wp2;go_ret;exact⟨by kernel_rfl,aG.refl _⟩
def As.f(a0:Int):Option (Int):=(bits_Len64.f a0).bind fun MQ=>(some MQ)
theorem As.calls(a0:Int)(r:Int)(w:World)(h:As.f a0=some r):
  Calls Tryz.prog 208 #[.int .u64 a0] w fun e w'=>e=.returned (.int .i64 r)∧aG w w':=by
 have H:=h;clear h;unfold As.f at H;replace H:=aA.mp H;obtain⟨MQ,cW,H⟩:=H;have A2:=af.mk cW;clear cW;obtain rfl:=au H;go_enter Tryz.func208,Tryz.ntmps208;go_wp2_with ((refine cx 7 Tryz.func226 #[.int .u64 a0] (bits_Len64.calls a0 MQ _ A2.o) fun nd=>?_))
 go_ret;exact⟨ak,aQ⟩
def rE.f(a0:Int)(a1:Int):Option (Int):=(mF.f (wrap64 (Int.tdiv a0 9)) (wrap64 (Int.tdiv a1 9))).bind fun MS=>((mF.f (Int.tmod a0 9) (Int.tmod a1 9)).bind fun MT=>(some (wrap64 ((wrap64 (9*MS))+MT))))
theorem rE.calls(a0:Int)(a1:Int)(r:Int)(w:World)(h:rE.f a0 a1=some r):
  Calls Tryz.prog 275 #[.int .i64 a0,.int .i64 a1] w fun e w'=>e=.returned (.int .i64 r)∧aG w w':=by
 have H:=h;clear h;unfold rE.f at H;replace H:=aA.mp H;obtain⟨MS,bW,H⟩:=H;have A3:=af.mk bW;clear bW;replace H:=aA.mp H;obtain⟨MT,cX,H⟩:=H;have A4:=af.mk cX;clear cX;obtain rfl:=au H;go_enter Tryz.func275,Tryz.ntmps275;go_wp2_with (first|(refine cx 9 Tryz.func38 #[.int .i64 (wrap64 (Int.tdiv a0 9)),.int .i64 (wrap64 (Int.tdiv a1 9))] (mF.calls (wrap64 (Int.tdiv a0 9)) (wrap64 (Int.tdiv a1 9)) MS _ A3.o) fun nd=>?_)|(refine cx 15 Tryz.func38 #[.int .i64 (Int.tmod a0 9),.int .i64 (Int.tmod a1 9)] (mF.calls (Int.tmod a0 9) (Int.tmod a1 9) MT _ A4.o) fun nd=>?_))
 go_ret;exact⟨ak,aQ⟩
def kU.l0:Nat→List Int→Int→Int→Option (Bool)
 |0,_,_,_=>none
 |k+1,x0,x1,x5=>if x5<(x0.length:Int) then(if 0≤x5 then(if(rd x0 x5)=x1 then(some true) else(kU.l0 k x0 x1 (wrap64 (x5+1)))) else none) else(some false)
def kU.f(k:Nat)(l0:List Int)(a1:Int):Option (Bool):=kU.l0 k l0 a1 0
theorem kU.calls(k:Nat)(A0:Option Addr)(c0:Nat)(l0:List Int)(a1:Int)(r:Bool)(w:World)(hr0:Kd.C (Kd.int .i64) w A0 l0.length l0)(hc0:l0.length≤c0)(h:kU.f k l0 a1=some r):
  Calls Tryz.prog 274 #[.slice A0 l0.length c0,.int .i64 a1] w fun e w'=>e=.returned (.bool r)∧aG w w':=by
 have aj:=af.mk hr0;have ax:=af.mk hc0;clear hr0 hc0;have H:=h;clear h;unfold kU.f at H;have H':=af.mk H;clear H;go_enter Tryz.func274,Tryz.ntmps274;go_wp2;go_loopg [5] k (fun kq v5 w'=> ∃(aw:Int),v5=.int .i64 aw∧af (kU.l0 kq l0 a1 aw=some r)∧af (kq≤k)∧aG w w')
 case atStart=>exact⟨(0),ak,H',⟨aH _⟩,aQ⟩
 case round=>
  clear H';obtain⟨aw,rfl,HA,aC,⟨m1,rfl⟩⟩:=hrel;cases gk with
  |zero=>exact absurd HA.o (by simp[kU.l0])
  |succ k1=>
   have H:=HA.o;clear HA;simp only[kU.l0] at H;by_cases c3:aw<(l0.length:Int)
   case neg=>
    rw[ag c3] at H;have eU:=aD c3;clear c3;obtain rfl:=au H;go_wp2;go_ret;exact⟨ak,aQ⟩
   rw[ah c3] at H;have eU:=ap c3;clear c3;replace H:=bC H;obtain⟨dK,H⟩:=H;by_cases c5:(rd l0 aw)=a1
   case neg=>
    rw[ag c5] at H;have dC:=cV c5;have oe:=bne_iff_ne.mpr c5;have H':=af.mk H;clear H;obtain⟨ag9,rfl,ag_,aha,ahb⟩:=eu aj aw;go_wp2;go_roundg k1
    case measure=>have:=aC.o;omega
    case rel=>exact⟨(wrap64 (aw+1)),ak,H',⟨by have:=aC.o;omega⟩,aQ⟩
   rw[ah c5] at H;have dC:=beq_iff_eq.mpr c5;have oe:=bne_eq_false_iff_eq.mpr c5;clear c5;obtain rfl:=au H;obtain⟨ag9,rfl,ag_,aha,ahb⟩:=eu aj aw;go_wp2;go_ret;exact⟨ak,aQ⟩
mutual
def ew.l0:Nat→List Int→Int→Option (Bool)
 |0,_,_=>none
 |k+1,x0,x3=>if x3<9 then(if 0≤x3 then(if x3<(x0.length:Int) then((fJ.f (rd x0 x3) 0 80).bind fun MU=>(if MU=true then(if x3>0 then(if 0≤(wrap64 (x3 - 1)) then(if(wrap64 (x3 - 1))<(x0.length:Int) then(if(rd x0 x3)≤(rd x0 (wrap64 (x3 - 1))) then(some false) else(ew.l0 k x0 (wrap64 (x3+1)))) else none) else none) else(ew.l0 k x0 (wrap64 (x3+1)))) else(some false))) else none) else none) else(ew.l1 k x0 0)
def ew.l1:Nat→List Int→Int→Option (Bool)
 |0,_,_=>none
 |k+1,x0,x4=>if x4<9 then(ew.l2 k x0 x4 0) else(some true)
def ew.l2:Nat→List Int→Int→Int→Option (Bool)
 |0,_,_,_=>none
 |k+1,x0,x4,x5=>if x5<9 then(if 0≤x4 then(if x4<(x0.length:Int) then(if 0≤x5 then(if x5<(x0.length:Int) then((rE.f (rd x0 x4) (rd x0 x5)).bind fun rF=>((kU.f k x0 rF).bind fun MV=>(if MV=true then(ew.l2 k x0 x4 (wrap64 (x5+1))) else(some false)))) else none) else none) else none) else none) else(ew.l1 k x0 (wrap64 (x4+1)))
end
def ew.f(k:Nat)(l0:List Int):Option (Bool):=if(l0.length:Int)=9 then(ew.l0 k l0 0) else(some false)
theorem ew.calls(k:Nat)(A0:Option Addr)(c0:Nat)(l0:List Int)(r:Bool)(w:World)(hr0:Kd.C (Kd.int .i64) w A0 l0.length l0)(hc0:l0.length≤c0)(h:ew.f k l0=some r):
  Calls Tryz.prog 237 #[.slice A0 l0.length c0] w fun e w'=>e=.returned (.bool r)∧aG w w':=by
 have aj:=af.mk hr0;have ax:=af.mk hc0;clear hr0 hc0;have H:=h;clear h;unfold ew.f at H;by_cases c2:(l0.length:Int)=9
 case neg=>
  rw[ag c2] at H;have eM:=cV c2;have mb:=bne_iff_ne.mpr c2;obtain rfl:=au H;go_enter Tryz.func237,Tryz.ntmps237;go_wp2;repeat(go_quiet (fail);try go_wp2)
  go_ret;exact⟨ak,aQ⟩
 rw[ah c2] at H;have eM:=beq_iff_eq.mpr c2;have mb:=bne_eq_false_iff_eq.mpr c2;clear c2;have H':=af.mk H;clear H;go_enter Tryz.func237,Tryz.ntmps237;go_wp2;repeat(go_quiet (fail);try go_wp2)
 go_loopg [3] k (fun kq v3 w'=> ∃(aV:Int),v3=.int .i64 aV∧af (ew.l0 kq l0 aV=some r)∧af (kq≤k)∧aG w w')
 case atStart=>exact⟨(0),ak,H',⟨aH _⟩,aQ⟩
 case round=>
  clear H';obtain⟨aV,rfl,HA,aC,⟨m1,rfl⟩⟩:=hrel;cases gk with
  |zero=>exact absurd HA.o (by simp[ew.l0])
  |succ k1=>
   have H:=HA.o;clear HA;simp only[ew.l0] at H;by_cases c3:aV<9
   case neg=>
    rw[ag c3] at H;have eU:=aD c3;clear c3;have H':=af.mk H;clear H;go_wp2;repeat(go_quiet (fail);try go_wp2)
    go_loopg [4] k1 (fun kq v4 w'=> ∃(fK:Int),v4=.int .i64 fK∧af (ew.l1 kq l0 fK=some r)∧af (kq≤k1)∧aG w w')
    case atStart=>exact⟨(0),ak,H',⟨aH _⟩,aQ⟩
    case round=>
     clear H';obtain⟨fK,rfl,HA,bw,⟨m2,rfl⟩⟩:=hrel;cases gk with
     |zero=>exact absurd HA.o (by simp[ew.l1])
     |succ k2=>
      have H:=HA.o;clear HA;simp only[ew.l1] at H;by_cases c13:fK<9
      case neg=>
       rw[ag c13] at H;have j6:=aD c13;clear c13;obtain rfl:=au H;go_wp2;repeat(go_quiet (fail);try go_wp2)
       go_ret;exact⟨ak,aQ⟩
      rw[ah c13] at H;have j6:=ap c13;clear c13;have H':=af.mk H;clear H;go_wp2;repeat(go_quiet (fail);try go_wp2)
      go_loopg [5] k2 (fun kq v5 w'=> ∃(de:Int),v5=.int .i64 de∧af (ew.l2 kq l0 fK de=some r)∧af (kq≤k2)∧aG w w')
      case atStart=>exact⟨(0),ak,H',⟨aH _⟩,aQ⟩
      case round=>
       clear H';obtain⟨de,rfl,HA,dt,⟨m3,rfl⟩⟩:=hrel;cases gk with
       |zero=>exact absurd HA.o (by simp[ew.l2])
       |succ k3=>
        have H:=HA.o;clear HA;simp only[ew.l2] at H;by_cases c14:de<9
        case neg=>
         rw[ag c14] at H;have pV:=aD c14;clear c14;have H':=af.mk H;clear H;go_wp2;repeat(go_quiet (fail);try go_wp2)
         go_roundg k3
         case measure=>have:=aC.o;have:=bw.o;have:=dt.o;omega
         case rel=>exact⟨(wrap64 (fK+1)),ak,H',⟨by have:=aC.o;have:=bw.o;have:=dt.o;omega⟩,aQ⟩
        rw[ah c14] at H;have pV:=ap c14;clear c14;replace H:=bC H;obtain⟨n4,H⟩:=H;replace H:=bC H;obtain⟨oh,H⟩:=H;replace H:=bC H;obtain⟨sG,H⟩:=H;replace H:=bC H;obtain⟨rv,H⟩:=H;replace H:=aA.mp H;obtain⟨rF,uy,H⟩:=H;have s5:=af.mk uy;clear uy;replace H:=aA.mp H;obtain⟨MV,pW,H⟩:=H;have cW:=af.mk pW;clear pW;by_cases fN:MV=true
        case neg=>
         replace fN:=bU fN;subst fN;rw[ag bV] at H;obtain rfl:=au H;obtain⟨ahc,rfl,ahd,ahe,ahf⟩:=eu aj fK;obtain⟨ahg,ahh,ahi⟩:=fW aj de;go_wp2_with (first|(go_at_call 275;(with_reducible refine(rE.calls (rd l0 fK) (rd l0 de) rF _ s5.o).mono ?_);rintro e w' ⟨rfl,⟨nd,rfl⟩⟩;(try exact eA))|(go_at_call 274;(with_reducible refine(kU.calls k3 _ _ l0 rF false _ ?_ ?_ cW.o).mono ?_);exact bD aj;exact ax.o;rintro e w' ⟨rfl,⟨nd,rfl⟩⟩;(try exact eA)))
         repeat(go_quiet (first|(go_at_call 275;(with_reducible refine(rE.calls (rd l0 fK) (rd l0 de) rF _ s5.o).mono ?_);rintro e w' ⟨rfl,⟨nd,rfl⟩⟩;(try exact eA))|(go_at_call 274;(with_reducible refine(kU.calls k3 _ _ l0 rF false _ ?_ ?_ cW.o).mono ?_);exact bD aj;exact ax.o;rintro e w' ⟨rfl,⟨nd,rfl⟩⟩;(try exact eA)));try go_wp2)
         go_ret;exact⟨ak,aQ⟩
        subst fN;rw[ah rfl] at H;have H':=af.mk H;clear H;obtain⟨ahc,rfl,ahd,ahe,ahf⟩:=eu aj fK;obtain⟨ahg,ahh,ahi⟩:=fW aj de;go_wp2_with (first|(go_at_call 275;(with_reducible refine(rE.calls (rd l0 fK) (rd l0 de) rF _ s5.o).mono ?_);rintro e w' ⟨rfl,⟨nd,rfl⟩⟩;(try exact eA))|(go_at_call 274;(with_reducible refine(kU.calls k3 _ _ l0 rF true _ ?_ ?_ cW.o).mono ?_);exact bD aj;exact ax.o;rintro e w' ⟨rfl,⟨nd,rfl⟩⟩;(try exact eA)))
        repeat(go_quiet (first|(go_at_call 275;(with_reducible refine(rE.calls (rd l0 fK) (rd l0 de) rF _ s5.o).mono ?_);rintro e w' ⟨rfl,⟨nd,rfl⟩⟩;(try exact eA))|(go_at_call 274;(with_reducible refine(kU.calls k3 _ _ l0 rF true _ ?_ ?_ cW.o).mono ?_);exact bD aj;exact ax.o;rintro e w' ⟨rfl,⟨nd,rfl⟩⟩;(try exact eA)));try go_wp2)
        go_roundg k3
        case measure=>have:=aC.o;have:=bw.o;have:=dt.o;omega
        case rel=>exact⟨(wrap64 (de+1)),ak,H',⟨by have:=aC.o;have:=bw.o;have:=dt.o;omega⟩,aQ⟩
   rw[ah c3] at H;have eU:=ap c3;clear c3;replace H:=bC H;obtain⟨dK,H⟩:=H;replace H:=bC H;obtain⟨dC,H⟩:=H;replace H:=aA.mp H;obtain⟨MU,dQ,H⟩:=H;have A6:=af.mk dQ;clear dQ;by_cases c7:MU=true
   case neg=>
    replace c7:=bU c7;subst c7;rw[ag bV] at H;obtain rfl:=au H;obtain⟨qi,rfl,MW,MX,MY⟩:=eu aj aV;go_wp2_with ((go_at_call 39;(with_reducible refine(fJ.calls (rd l0 aV) 0 80 false _ A6.o).mono ?_);rintro e w' ⟨rfl,⟨nd,rfl⟩⟩;(try exact eA)))
    repeat(go_quiet ((go_at_call 39;(with_reducible refine(fJ.calls (rd l0 aV) 0 80 false _ A6.o).mono ?_);rintro e w' ⟨rfl,⟨nd,rfl⟩⟩;(try exact eA)));try go_wp2)
    go_ret;exact⟨ak,aQ⟩
   subst c7;rw[ah rfl] at H;by_cases c8:aV>0
   case neg=>
    rw[ag c8] at H;have fF:=aD c8;clear c8;have H':=af.mk H;clear H;obtain⟨qi,rfl,MW,MX,MY⟩:=eu aj aV;go_wp2_with ((go_at_call 39;(with_reducible refine(fJ.calls (rd l0 aV) 0 80 true _ A6.o).mono ?_);rintro e w' ⟨rfl,⟨nd,rfl⟩⟩;(try exact eA)))
    repeat(go_quiet ((go_at_call 39;(with_reducible refine(fJ.calls (rd l0 aV) 0 80 true _ A6.o).mono ?_);rintro e w' ⟨rfl,⟨nd,rfl⟩⟩;(try exact eA)));try go_wp2)
    go_roundg k1
    case measure=>have:=aC.o;omega
    case rel=>exact⟨(wrap64 (aV+1)),ak,H',⟨by have:=aC.o;omega⟩,aQ⟩
   rw[ah c8] at H;have fF:=ap c8;clear c8;obtain⟨cN,ft⟩:∃j_:Int,(wrap64 (aV - 1))=j_:=⟨_,rfl⟩;replace H:(if 0≤(cN) then(if(cN)<(l0.length:Int) then(if(rd l0 aV)≤(rd l0 (cN)) then(some false) else(ew.l0 k1 l0 (wrap64 (aV+1)))) else none) else none)=some r:=by first|(rw[ft] at H;exact H)|(simp only[ft] at H ⊢;exact H)
   (try rw[ft] at A6)
   have Cw:(IntKind.i64.wrap (aV - 1))=cN:=(dh _).trans ft;replace H:=bC H;obtain⟨gH,H⟩:=H;replace H:=bC H;obtain⟨j5,H⟩:=H;by_cases c12:(rd l0 aV)≤(rd l0 (cN))
   case neg=>
    rw[ag c12] at H;have jC:=aD c12;clear c12;have H':=af.mk H;clear H;obtain⟨qi,rfl,MW,MX,MY⟩:=eu aj aV;go_wp2_with ((go_at_call 39;(with_reducible refine(fJ.calls (rd l0 aV) 0 80 true _ A6.o).mono ?_);rintro e w' ⟨rfl,⟨nd,rfl⟩⟩;(try exact eA);have mN:0≤(aV:Int):=aJ;have mO:aV<(l0.length:Int):=aJ;obtain⟨wV,wW,MZ⟩:=Kd.ck aj.o aV mN mO;obtain rfl:qi=wV:=(by injection wW);replace mN:=av mN;replace mO:=av mO;have mP:0≤((cN):Int):=aJ;have mQ:(cN)<(l0.length:Int):=aJ;obtain⟨wX,wY,M0⟩:=Kd.ck aj.o (cN) mP mQ;obtain rfl:qi=wX:=(by injection wY);replace mP:=av mP;replace mQ:=av mQ))
    repeat(go_quiet ((go_at_call 39;(with_reducible refine(fJ.calls (rd l0 aV) 0 80 true _ A6.o).mono ?_);rintro e w' ⟨rfl,⟨nd,rfl⟩⟩;(try exact eA);have mN:0≤(aV:Int):=aJ;have mO:aV<(l0.length:Int):=aJ;obtain⟨wV,wW,MZ⟩:=Kd.ck aj.o aV mN mO;obtain rfl:qi=wV:=(by injection wW);replace mN:=av mN;replace mO:=av mO;have mP:0≤((cN):Int):=aJ;have mQ:(cN)<(l0.length:Int):=aJ;obtain⟨wX,wY,M0⟩:=Kd.ck aj.o (cN) mP mQ;obtain rfl:qi=wX:=(by injection wY);replace mP:=av mP;replace mQ:=av mQ));try go_wp2)
    go_roundg k1
    case measure=>have:=aC.o;omega
    case rel=>exact⟨(wrap64 (aV+1)),ak,H',⟨by have:=aC.o;omega⟩,aQ⟩
   rw[ah c12] at H;have jC:=ap c12;clear c12;obtain rfl:=au H;obtain⟨qi,rfl,MW,MX,MY⟩:=eu aj aV;go_wp2_with ((go_at_call 39;(with_reducible refine(fJ.calls (rd l0 aV) 0 80 true _ A6.o).mono ?_);rintro e w' ⟨rfl,⟨nd,rfl⟩⟩;(try exact eA);have mN:0≤(aV:Int):=aJ;have mO:aV<(l0.length:Int):=aJ;obtain⟨wV,wW,MZ⟩:=Kd.ck aj.o aV mN mO;obtain rfl:qi=wV:=(by injection wW);replace mN:=av mN;replace mO:=av mO;have mP:0≤((cN):Int):=aJ;have mQ:(cN)<(l0.length:Int):=aJ;obtain⟨wX,wY,M0⟩:=Kd.ck aj.o (cN) mP mQ;obtain rfl:qi=wX:=(by injection wY);replace mP:=av mP;replace mQ:=av mQ))
   repeat(go_quiet ((go_at_call 39;(with_reducible refine(fJ.calls (rd l0 aV) 0 80 true _ A6.o).mono ?_);rintro e w' ⟨rfl,⟨nd,rfl⟩⟩;(try exact eA);have mN:0≤(aV:Int):=aJ;have mO:aV<(l0.length:Int):=aJ;obtain⟨wV,wW,MZ⟩:=Kd.ck aj.o aV mN mO;obtain rfl:qi=wV:=(by injection wW);replace mN:=av mN;replace mO:=av mO;have mP:0≤((cN):Int):=aJ;have mQ:(cN)<(l0.length:Int):=aJ;obtain⟨wX,wY,M0⟩:=Kd.ck aj.o (cN) mP mQ;obtain rfl:qi=wX:=(by injection wY);replace mP:=av mP;replace mQ:=av mQ));try go_wp2)
   go_ret;exact⟨by first|rfl|(simp;done)|(simp only[←ft]<;>(first|rfl|simp))|(simp[*];done),aQ⟩
end P
end Go.Proofs.YtiobedekgnfjcaaGreatDoor
namespace Go.Proofs.YtiobedekgnfjcaaGreatDoorW.ay
section
variable {P:Program} {ops:Array Oper} {Q:Exit→Act→World→Prop} {md:Region.Mode} {T:Bool×List (List Nat×List Nat)} {B:List Nat} {O:List Nat} {b:Nat→Bool} {i j n:Nat}
end
end Go.Proofs.YtiobedekgnfjcaaGreatDoorW.ay
