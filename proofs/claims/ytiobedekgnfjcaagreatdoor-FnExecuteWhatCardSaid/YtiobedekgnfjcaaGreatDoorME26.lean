/- What both Executes come to: contracts and plain laws, for the laws on Execute. No conditions. (Part 27 of 28.) -/
import Derived.Test.YtiobedekgnfjcaaGreatDoorME23
import Derived.Test.YtiobedekgnfjcaaGreatDoorME24
import Derived.Lib.SlTrimSet
set_option linter.unusedVariables false
set_option linter.unusedSimpArgs false
set_option maxHeartbeats 16000000
set_option maxRecDepth 100000
namespace Go.Proofs.YtiobedekgnfjcaaGreatDoor
namespace P
end P
open Go.Proofs.YtiobedekgnfjcaaGreatDoor.P Go.Proofs.YtiobedekgnfjcaaGreatDoorW.aq Go.Proofs.YtiobedekgnfjcaaGreatDoorW.ay Go.RowKit
namespace X
def gZ(l:List UInt8):Nat:=(l.takeWhile (· !=32)).length
theorem P6(l:List UInt8):gZ l≤l.length:=by
 unfold gZ;exact(List.takeWhile_prefix _).length_le
theorem YJ:∀(l:List UInt8) (i:Nat) (h:i<l.length),i<gZ l→l[i]≠32
 |[],_,h,_=>by simp at h
 |b::l,i,h,hi=>by
  unfold gZ at hi;by_cases hb:(b !=32)=true
  ·rw[List.takeWhile_cons,ah hb] at hi;cases i with
   |zero=>simpa using hb
   |succ i=>exact YJ l i (by simpa using h) (by unfold gZ;simpa using hi)
  ·rw[List.takeWhile_cons,ag hb] at hi;simp at hi
theorem YK:∀(l:List UInt8) (h:gZ l<l.length),l[gZ l]=32
 |[],h=>by simp at h
 |b::l,h=>by
  by_cases hb:(b !=32)=true
  ·have e:gZ (b::l)=gZ l+1:=by unfold gZ;rw[List.takeWhile_cons,ah hb,List.length_cons]
   simp only[e,List.getElem_cons_succ];exact YK l (by rw[e] at h;simpa using h)
  ·have e:gZ (b::l)=0:=by unfold gZ;rw[List.takeWhile_cons,ag hb];rfl
   simp only[e,List.getElem_cons_zero]
   simpa using hb
theorem uX(s:ByteArray)(i:Nat)(h:i<s.data.toList.length):bt s (i:Int)=(s.data.toList[i].toNat:Int):=by
 have h':i<s.size:=by rw[←JH];exact h
 rw[←kI s (i:Int) h'];rfl
theorem amY(s:ByteArray)(i:Int)(h0:0≤i)(h:i<gZ s.data.toList):bt s i≠32:=by
 obtain⟨n,rfl⟩:=Int.eq_ofNat_of_zero_le h0;have hl:n<s.data.toList.length:=by have:=P6 s.data.toList;omega
 rw[uX s n hl];intro e;refine YJ _ n hl ae ?_;have:s.data.toList[n].toNat=32:=ae;exact UInt8.toNat_inj.1 (by rw[this];rfl)
theorem amZ(s:ByteArray)(h:gZ s.data.toList<s.size):bt s (gZ s.data.toList:Int)=32:=by
 have hl:gZ s.data.toList<s.data.toList.length:=by rw[JH];exact h
 rw[uX s _ hl,YK _ hl];rfl
structure YL(W:World)(e:Ending)(t p:List Int)(r:ByteArray):Prop where
 o:∃A0 c0 A1 c1,e=.returned (.tuple #[.agg #[.slice A0 t.length c0,.slice A1 p.length c1],.string r])∧Kd.C (Kd.int .i64) W A0 t.length t∧t.length≤c0∧Kd.C (Kd.int .i64) W A1 p.length p∧p.length≤c1
def YM(bare:List Int→List Int→ByteArray→Option ByteArray):Prop:=
 ∀(A0:Option Addr) (c0:Nat) (t:List Int) (A1:Option Addr) (c1:Nat) (p:List Int) (s r:ByteArray) (w:World),Kd.C (Kd.int .i64) w A0 t.length t→t.length≤c0→Kd.C (Kd.int .i64) w A1 p.length p→p.length≤c1→bare t p s=some r→
  Calls Tryz.prog 57 #[.agg #[.slice A0 t.length c0,.slice A1 p.length c1],.string s] w fun e w'=>e=.returned (.string r)∧Below w.heap.size w w'
def YN(two:List Int→List Int→ByteArray→ByteArray→Option ByteArray):Prop:=
 ∀(A0:Option Addr) (c0:Nat) (t:List Int) (A1:Option Addr) (c1:Nat) (p:List Int) (s q r:ByteArray) (w:World),Kd.C (Kd.int .i64) w A0 t.length t→t.length≤c0→Kd.C (Kd.int .i64) w A1 p.length p→p.length≤c1→two t p s q=some r→
  Calls Tryz.prog 58 #[.agg #[.slice A0 t.length c0,.slice A1 p.length c1],.string s,.string q] w fun e w'=>e=.returned (.string r)∧Below w.heap.size w w'
structure tq(w W:World)(A0:Option Addr)(c0:Nat)(t:List Int)(A1:Option Addr)(c1:Nat)(p:List Int):Prop where
 s0:W.cell? ⟨w.heap.size,0,none⟩=some (.slice A0 t.length c0)
 s1:W.cell? ⟨w.heap.size,1,none⟩=some (.slice A1 p.length c1)
 r0:W.cell? ⟨w.heap.size+1,0,none⟩=some (.slice none 0 0)
 r1:W.cell? ⟨w.heap.size+1,1,none⟩=some (.slice none 0 0)
 f0:W.frozen? ⟨w.heap.size+1,0,none⟩=false
 f1:W.frozen? ⟨w.heap.size+1,1,none⟩=false
 bl:Below w.heap.size w W
theorem tq.below{w W W':World}{A0:Option Addr}{c0:Nat}{t:List Int}{A1:Option Addr}{c1:Nat}{p:List Int}(h:tq w W A0 c0 t A1 c1 p)(hb:Below W.heap.size W W'):tq w W' A0 c0 t A1 c1 p:=
  have l0:w.heap.size<W.heap.size:=World.block_lt_of_cell? _ _ h.s0;have l1:w.heap.size+1<W.heap.size:=World.block_lt_of_cell? _ _ h.r0
  ⟨(hb.cell (p:=⟨w.heap.size,0,none⟩) l0).trans h.s0,(hb.cell (p:=⟨w.heap.size,1,none⟩) l0).trans h.s1,(hb.cell (p:=⟨w.heap.size+1,0,none⟩) l1).trans h.r0,(hb.cell (p:=⟨w.heap.size+1,1,none⟩) l1).trans h.r1,
   (hb.frozen (p:=⟨w.heap.size+1,0,none⟩) l1).trans h.f0,(hb.frozen (p:=⟨w.heap.size+1,1,none⟩) l1).trans h.f1,aU h.bl hb⟩
theorem I_(w:World)(o:Obj)(c:Array Value)(ty:TypeId)(i:Nat):((w.alloc o).alloc (.cells c ty)).cell? ⟨w.heap.size+1,i,none⟩=c[i]?:=by
 have h:=World.cell?_alloc_new (w.alloc o) c ty i
 rwa [show(w.alloc o).heap.size=w.heap.size+1 by simp] at h
theorem Ja(w:World)(o:Obj)(c:Array Value)(ty:TypeId)(i:Nat):((w.alloc o).alloc (.cells c ty)).frozen? ⟨w.heap.size+1,i,none⟩=false:=by
 have h:=World.frozen?_alloc_new (w.alloc o) c ty i
 rwa [show(w.alloc o).heap.size=w.heap.size+1 by simp] at h
theorem rX(tmps:Array Value)(W:World)(b:Nat)(x y:Value)(r:ByteArray)(h4:tmps[4]?.getD undef=.pointer (some ⟨b,0,none⟩))(h5:tmps[5]?.getD undef=.string r)(v2:W.cell? ⟨b,0,none⟩=some x)(v3:W.cell? ⟨b,1,none⟩=some y):
  (results Tryz.f32 tmps).run Tryz.prog W=.ok (.tuple #[.agg #[x,y],.string r]) W:=by
 have e:Tryz.f32.results=#[.cell 4 49,.tmp 5]:=by kernel_rfl
 unfold results;rw[e];go_simp
theorem tq.put{w W:World}{A0:Option Addr}{c0:Nat}{t:List Int}{A1:Option Addr}{c1:Nat}{p:List Int}(h:tq w W A0 c0 t A1 c1 p)(x y:Value):
  (((W.setCell ⟨w.heap.size+1,0,none⟩ x).setCell ⟨w.heap.size+1,1,none⟩ y).cell? ⟨w.heap.size+1,0,none⟩=some x∧((W.setCell ⟨w.heap.size+1,0,none⟩ x).setCell ⟨w.heap.size+1,1,none⟩ y).cell? ⟨w.heap.size+1,1,none⟩=some y)∧
  Below w.heap.size w ((W.setCell ⟨w.heap.size+1,0,none⟩ x).setCell ⟨w.heap.size+1,1,none⟩ y):=by
 have ne:(⟨w.heap.size+1,1,none⟩:Addr)≠⟨w.heap.size+1,0,none⟩:=by simp
 refine⟨⟨?_,?_⟩,?_⟩
 ·rw[World.cell?_setCell_other (h:=ne)];exact World.cell?_setCell_same _ _ _ h.r0
 ·exact World.cell?_setCell_same _ _ _ ((World.cell?_setCell_other _ _ _ _ ne.symm).trans h.r1)
 ·exact Below.setCell (Below.setCell h.bl (p:=⟨w.heap.size+1,0,none⟩) (Nat.le_succ _) _) (p:=⟨w.heap.size+1,1,none⟩) (Nat.le_succ _) _
theorem tq.new(w:World)(A0:Option Addr)(c0:Nat)(t:List Int)(A1:Option Addr)(c1:Nat)(p:List Int):
    tq w ((w.alloc (.cells #[.slice A0 t.length c0,.slice A1 p.length c1] 49)).alloc (.cells #[.slice none 0 0,.slice none 0 0] 49)) A0 c0 t A1 c1 p:=
  ⟨(World.cell?_alloc_lt _ _ _ bn).trans (World.cell?_alloc_new w _ _ 0),(World.cell?_alloc_lt _ _ _ bn).trans (World.cell?_alloc_new w _ _ 1),
   I_ _ _ _ _ 0,I_ _ _ _ _ 1,Ja _ _ _ _ 0,Ja _ _ _ _ 1,cS (cS (Below.refl _ _) _) _⟩
def tr:List (List UInt8):=[[97,100,100],[116,105,109,101,115],[106,111,105,110],[109,101,101,116]]
def rY:List (List UInt8):=[[107,105,110,100],[108,105,110,101],[112,111,105,110,116]]
def jO(s:ByteArray):ByteArray:=s.extract 0 (gZ s.data.toList)
def oF(s:ByteArray):ByteArray:=s.extract (gZ s.data.toList+1) s.size
theorem YS{e base:Nat}{ok:Nat→Prop}{W:World}{v:Value}{xs:List Int}(h:Kd.R (Kd.int .i64) e W base ok v xs){b:Nat}(hb:b<base)(x y:Value):Kd.R (Kd.int .i64) e ((W.setCell ⟨b,0,none⟩ x).setCell ⟨b,1,none⟩ y) base (fun k=>ok k∧base≤k) v xs:=
 have h':=Kd.dq (Kd.ix h) (ok':=fun k=>ok k∧base≤k) (fun k hk=>⟨hk.1,hk.2.1⟩);have n:∀k,(ok k∧base≤k)→k≠b:=fun k hk e=>absurd hk.2 ae
 Kd.tF (Kd.tF h' (p:=⟨b,0,none⟩) n x) (p:=⟨b,1,none⟩) n y
theorem am3{W:World}{ad:Addr}{x:Int}(h:W.cell? ad=some (.int .i64 x)):Kd.C (Kd.int .i64) W (some ad) 1 [x]:=by
 refine⟨rfl,ae,fun _=>⟨ad,rfl,fun j q hj=>?_⟩⟩;cases j with
 |zero=>
  cases hj;refine⟨[.int .i64 x],rfl,rfl,fun i u hu=>?_⟩;cases i with
  |zero=>cases hu;exact h
  |succ i=>cases hu
 |succ j=>cases hj
def Ff(k:Nat)(t p:List Int)(w:List UInt8)(x:Int):Option ((List Int×List Int)×ByteArray):=
 if w=[107,105,110,100] then(uW.f k x).bind fun r=>some (if r.2=true then((r.1,[]),⟨#[111,107,10]⟩) else((t,p),⟨#[110,111,10]⟩))
 else if w=[108,105,110,101] then(ye.f k t x).bind fun r=>(dr.f k r.1 r.2).map fun s=>((t,p),s)
 else(eH.f x).bind fun b=>if b=false∨p.length=10 then some ((t,p),⟨#[110,111,10]⟩) else if p.length≤10 then some ((t,p++[x]),⟨#[111,107,10]⟩) else none
def Jb(k:Nat)(bare:List Int→List Int→ByteArray→Option ByteArray)(two:List Int→List Int→ByteArray→ByteArray→Option ByteArray)(t p:List Int)(s:ByteArray):Option ((List Int×List Int)×ByteArray):=
 if gZ s.data.toList=s.size then(bare t p (jO s)).map fun r=>((t,p),r)
 else if(jO s).toList∈tr then(two t p (jO s) (oF s)).map fun r=>((t,p),r)
 else if(jO s).toList∉rY then some ((t,p),⟨#[119,104,97,116,10]⟩)
 else(eh.f k (oF s) 1).bind fun n=>if n.2=false then some ((t,p),⟨#[110,111,10]⟩) else
  match n.1 with
  |[x]=>Ff k t p (jO s).toList x
  |_=>none
theorem am4(k:Nat)(bare:List Int→List Int→ByteArray→Option ByteArray)(am5:YM bare)(two:List Int→List Int→ByteArray→ByteArray→Option ByteArray)(am6:YN two)
  (A0:Option Addr) (c0:Nat) (t:List Int) (A1:Option Addr) (c1:Nat) (p:List Int) (s:ByteArray) (rr:(List Int×List Int)×ByteArray) (w:World) (hr0:Kd.C (Kd.int .i64) w A0 t.length t) (hc0:t.length≤c0) (hr1:Kd.C (Kd.int .i64) w A1 p.length p) (hc1:p.length≤c1) (hs:s.size≤600) (h:Jb k bare two t p s=some rr):
  Calls Tryz.prog 32 #[.agg #[.slice A0 t.length c0,.slice A1 p.length c1],.string s] w fun e w'=>YL w' e rr.1.1 rr.1.2 rr.2∧Below w.heap.size w w':=by
 have HS:=af.mk hs;have HH:=af.mk h;have aj:=af.mk hr0;have bN:=af.mk hr1;have ax:=af.mk hc0;have cA:=af.mk hc1;clear hs h hr0 hr1 hc0 hc1;go_enter Tryz.func32,Tryz.ntmps32;go_wp2_with fail
 have hlv:tq w ((w.alloc (.cells #[.slice A0 t.length c0,.slice A1 p.length c1] 49)).alloc (.cells #[.slice none 0 0,.slice none 0 0] 49)) A0 c0 t A1 c1 p:=tq.new w A0 c0 t A1 c1 p;generalize(w.alloc (.cells #[.slice A0 t.length c0,.slice A1 p.length c1] 49)).alloc (.cells #[.slice none 0 0,.slice none 0 0] 49)=W1 at hlv ⊢;have HV:=af.mk hlv;clear hlv;obtain⟨n,hn⟩:∃n,gZ s.data.toList=n:=⟨_,rfl⟩;have hle:n≤s.size:=by rw[←hn, ←JH];exact P6 _
 have HBF:=af.mk (fun i h0 (h:i<(n:Int))=>amY s i h0 (by rw[hn];exact h));have HAT:=af.mk (fun h:n<s.size=>by have:=amZ s (by rw[hn];exact h);rwa [hn] at this);have wA:=af.mk hle;have HN:=af.mk hn;clear hle hn;go_loopg [6] n (fun kq v6 w'=> ∃i:Int,v6=.int .i64 i∧af (0≤i∧i≤n)∧af ((n:Int) - i≤kq)∧w'=W1)
 case atStart=>exact⟨0,rfl,⟨ae⟩,⟨ae⟩,rfl⟩
 case round=>
  obtain⟨i,rfl,HI,HK,rfl⟩:=hrel;have i0:0≤i:=HI.o.1;by_cases ci:i<n
  case pos=>
   have hne:=HBF.o i i0 ci;have hb1:(bt s i !=32)=true:=bne_iff_ne.2 hne;have hx:=kI s i;have q1:decide (i<(s.size:Int))=true:=ap (by have:=wA.o;omega);have q2:i<(s.size:Int):=by have:=wA.o;omega
   have zi:IntKind.i64.wrap (i+1)=i+1:=by rw[IntKind.wrap_i64];have:=wA.o;have:=HS.o;omega
   clear hne;go_wp2;go_roundg (n - (i.toNat+1))
   case measure=>have:=HK.o;omega
   case rel=>exact⟨i+1,rfl,⟨ae⟩,⟨ae⟩,rfl⟩
  have e9:i=n:=by have:=HI.o;omega
  subst e9;have hh:=HH.o;unfold Jb jO oF at hh;rw[HN.o] at hh;clear HH HI HK i0 ci;by_cases ha:n=s.size
  case pos=>
   rw[ah ha] at hh;obtain⟨r,h1,rfl⟩:=Option.map_eq_some_iff.1 hh;have P_:=af.mk h1;have q1:decide ((n:Int)<(s.size:Int))=false:=aD ae;have q2:((n:Int)==(s.size:Int))=true:=beq_iff_eq.2 ae;have q3:¬(n<s.size):=ae;have q4:n≤s.size:=ae;clear ha hh h1;go_wp2_with fail
   refine jA (n:=6) (S:=fun w'=>w'.cell? ⟨w.heap.size,0,none⟩=some (.slice A0 t.length c0)∧w'.cell? ⟨w.heap.size,1,none⟩=some (.slice A1 p.length c1)) (ds:=[4]) #[F_,F_,F_,F_,F_,F_] am rfl rfl ⟨HV.o.s0,HV.o.s1⟩ (fun hHeld=>?_);have hdb:Below wr.heap.size wr wr.drew:=oL (Below.refl _ _);have bT:=af.mk (HV.o.below hdb);clear hdb;generalize wr.drew=w0 at bT hHeld ⊢;refine eF 2 36 (m_ 6 4) ?_;refine qR 0 34 (m_ 6 5) hHeld ?_;refine qR 1 35 (m_ 6 7) hHeld ?_;refine fa (i:=3) (N:=some 37) (m_ 6 15) rfl rfl am ao (fun K hK=>?_);have hcl:=am5 A0 c0 t A1 c1 p (s.extract 0 n) r w0 (Kd.aN aj.o bT.o.bl) ax.o (Kd.aN bN.o bT.o.bl) cA.o P_.o;refine lV Tryz.func57 am rfl #[.agg #[.slice A0 t.length c0,.slice A1 p.length c1],.string (s.extract 0 n)] (by rfl) rfl rfl (by simp only[List.map_toArray,List.map_cons,List.map_nil];rfl) ?_;with_reducible refine(hcl).mono ?_
   rintro e w3 ⟨rfl,hb⟩;refine⟨_,rfl,?_⟩;clear hcl;have bY:=af.mk (bT.o.below hb);have u2:=bY.o.r0;have u3:=bY.o.r1;have u4:=bY.o.f0;have u5:=bY.o.f1;clear hb;refine hK.out _ _ ⟨bY.o.s0,bY.o.s1⟩ (fun hHeld=>?_);clear hK K;refine eE (a':=?_) ?_ ?_;rotate_left;(show Act.put _ (some 37) _=_;simp only[Act.put,List.setIfInBounds_toArray,List.set_cons_zero,List.set_cons_succ,dh,fb];rfl);refine oN (i:=4) (N:=none) (m_ 6 31) rfl rfl am ao (fun K hK=>?_);refine pD (w1:=?_) (by rfl) rfl ?_ ?_;rotate_left;(go_simp;rfl);refine hK.out _ _ ?_;clear hK K;refine eF 5 5 (m_ 6 63) ?_;refine jB am ?_;go_wp2;obtain⟨⟨y0,y1⟩,yb⟩:=bY.o.put (.slice A0 t.length c0) (.slice A1 p.length c1);exact bodyPost_ret (rX _ _ (w.heap.size+1) _ _ _ rfl rfl y0 y1) rfl ⟨⟨⟨_,_,_,_,rfl,Kd.aN aj.o yb,ax.o,Kd.aN bN.o yb,cA.o⟩⟩,yb⟩
  rw[ag ha] at hh;have han:n<s.size:=by have:=wA.o;omega
  have q1:decide ((n:Int)<(s.size:Int))=true:=ap ae;have q2:((n:Int)==(s.size:Int))=false:=beq_eq_false_iff_ne.2 ae;have q3:n<s.size:=han;have hx:((s[n]'q3).toNat:Int)=bt s n:=kI s n q3;have hb1:(bt s n !=32)=false:=by rw[HAT.o han];rfl
  have q4:n≤s.size:=ae;have q5:n+1≤s.size:=ae;have zi:IntKind.i64.wrap ((n:Int)+1)=n+1:=by rw[IntKind.wrap_i64];have:=HS.o;omega
  clear ha han;by_cases h2:(s.extract 0 n).toList∈tr
  case pos=>
   rw[ah h2] at hh;obtain⟨r,h1,rfl⟩:=Option.map_eq_some_iff.1 hh;have P_:=af.mk h1;simp only[tr,List.mem_cons,List.not_mem_nil,or_false] at h2;clear h1 hh;rcases h2 with e9|e9|e9|e9
   all_goals
    first|(have w1:((s.extract 0 n).toList==[97,100,100])=true:=by rw[e9];rfl)|(have w1:((s.extract 0 n).toList==[97,100,100])=false:=by rw[e9];rfl)
    first|(have w2:((s.extract 0 n).toList==[116,105,109,101,115])=true:=by rw[e9];rfl)|(have w2:((s.extract 0 n).toList==[116,105,109,101,115])=false:=by rw[e9];rfl)
    first|(have w3:((s.extract 0 n).toList==[106,111,105,110])=true:=by rw[e9];rfl)|(have w3:((s.extract 0 n).toList==[106,111,105,110])=false:=by rw[e9];rfl)
    first|(have w4:((s.extract 0 n).toList==[109,101,101,116])=true:=by rw[e9];rfl)|(have w4:((s.extract 0 n).toList==[109,101,101,116])=false:=by rw[e9];rfl)
    clear e9;go_wp2_with fail
    refine jA (n:=7) (S:=fun w'=>w'.cell? ⟨w.heap.size,0,none⟩=some (.slice A0 t.length c0)∧w'.cell? ⟨w.heap.size,1,none⟩=some (.slice A1 p.length c1)) (ds:=[5]) #[F_,F_,F_,F_,F_,F_,F_] am rfl rfl ⟨HV.o.s0,HV.o.s1⟩ (fun hHeld=>?_);have hdb:Below wr.heap.size wr wr.drew:=oL (Below.refl _ _);have bT:=af.mk (HV.o.below hdb);clear hdb;generalize wr.drew=w0 at bT hHeld ⊢;refine eF 2 51 (m_ 7 4) ?_;refine eF 3 52 (m_ 7 12) ?_;refine qR 0 49 (m_ 7 13) hHeld ?_;refine qR 1 50 (m_ 7 15) hHeld ?_;refine fa (i:=4) (N:=some 53) (m_ 7 31) rfl rfl am ao (fun K hK=>?_);have hcl:=am6 A0 c0 t A1 c1 p (s.extract 0 n) (s.extract (n+1) s.size) r w0 (Kd.aN aj.o bT.o.bl) ax.o (Kd.aN bN.o bT.o.bl) cA.o P_.o;refine lV Tryz.func58 am rfl #[.agg #[.slice A0 t.length c0,.slice A1 p.length c1],.string (s.extract 0 n),.string (s.extract (n+1) s.size)] (by rfl) rfl rfl (by simp only[List.map_toArray,List.map_cons,List.map_nil];rfl) ?_;with_reducible refine(hcl).mono ?_
    rintro e w3 ⟨rfl,hb⟩;refine⟨_,rfl,?_⟩;clear hcl;have bY:=af.mk (bT.o.below hb);have u2:=bY.o.r0;have u3:=bY.o.r1;have u4:=bY.o.f0;have u5:=bY.o.f1;clear hb;refine hK.out _ _ ⟨bY.o.s0,bY.o.s1⟩ (fun hHeld=>?_);clear hK K;refine eE (a':=?_) ?_ ?_;rotate_left;(show Act.put _ (some 53) _=_;simp only[Act.put,List.setIfInBounds_toArray,List.set_cons_zero,List.set_cons_succ,dh,fb];rfl);refine oN (i:=5) (N:=none) (m_ 7 63) rfl rfl am ao (fun K hK=>?_);refine pD (w1:=?_) (by rfl) rfl ?_ ?_;rotate_left;(go_simp;rfl);refine hK.out _ _ ?_;clear hK K;refine eF 6 5 (m_ 7 127) ?_;refine jB am ?_;go_wp2;obtain⟨⟨y0,y1⟩,yb⟩:=bY.o.put (.slice A0 t.length c0) (.slice A1 p.length c1);exact bodyPost_ret (rX _ _ (w.heap.size+1) _ _ _ rfl rfl y0 y1) rfl ⟨⟨⟨_,_,_,_,rfl,Kd.aN aj.o yb,ax.o,Kd.aN bN.o yb,cA.o⟩⟩,yb⟩
  rw[ag h2] at hh;have w1:((s.extract 0 n).toList==[97,100,100])=false:=beq_eq_false_iff_ne.2 (fun e=>h2 (by rw[e];decide));have w2:((s.extract 0 n).toList==[116,105,109,101,115])=false:=beq_eq_false_iff_ne.2 (fun e=>h2 (by rw[e];decide));have w3:((s.extract 0 n).toList==[106,111,105,110])=false:=beq_eq_false_iff_ne.2 (fun e=>h2 (by rw[e];decide));have w4:((s.extract 0 n).toList==[109,101,101,116])=false:=beq_eq_false_iff_ne.2 (fun e=>h2 (by rw[e];decide));clear h2;by_cases h1:(s.extract 0 n).toList∉rY
  case pos=>
   rw[ah h1] at hh;obtain rfl:=au hh;have w5:((s.extract 0 n).toList==[107,105,110,100])=false:=beq_eq_false_iff_ne.2 (fun e=>h1 (by rw[e];decide));have w6:((s.extract 0 n).toList==[108,105,110,101])=false:=beq_eq_false_iff_ne.2 (fun e=>h1 (by rw[e];decide));have w7:((s.extract 0 n).toList==[112,111,105,110,116])=false:=beq_eq_false_iff_ne.2 (fun e=>h1 (by rw[e];decide));have v0:=HV.o.s0;have v1:=HV.o.s1;have v2:=HV.o.r0;have v3:=HV.o.r1;have v4:=HV.o.f0;have v5:=HV.o.f1;clear h1 hh;go_wp2;obtain⟨⟨y0,y1⟩,yb⟩:=HV.o.put (.slice A0 t.length c0) (.slice A1 p.length c1);exact bodyPost_ret (rX _ _ (w.heap.size+1) _ _ _ rfl rfl y0 y1) rfl ⟨⟨⟨_,_,_,_,rfl,Kd.aN aj.o yb,ax.o,Kd.aN bN.o yb,cA.o⟩⟩,yb⟩
  rw[ag h1] at hh;have h1:(s.extract 0 n).toList∈rY:=Classical.byContradiction h1;simp only[rY,List.mem_cons,List.not_mem_nil,or_false] at h1;obtain⟨⟨xs,ok⟩,hn,hh⟩:=aA.1 hh;have rZ:=af.mk hn;clear hn;cases ok with
  |false=>
   rw[ah rfl] at hh;obtain rfl:=au hh;clear hh;rcases h1 with e9|e9|e9
   all_goals
    first|(have w5:((s.extract 0 n).toList==[107,105,110,100])=true:=by rw[e9];rfl)|(have w5:((s.extract 0 n).toList==[107,105,110,100])=false:=by rw[e9];rfl)
    first|(have w6:((s.extract 0 n).toList==[108,105,110,101])=true:=by rw[e9];rfl)|(have w6:((s.extract 0 n).toList==[108,105,110,101])=false:=by rw[e9];rfl)
    first|(have w7:((s.extract 0 n).toList==[112,111,105,110,116])=true:=by rw[e9];rfl)|(have w7:((s.extract 0 n).toList==[112,111,105,110,116])=false:=by rw[e9];rfl)
    clear e9;go_wp2_with (go_at_call 59;(with_reducible refine(eh.calls k (s.extract (n+1) s.size) 1 xs false _ rZ.o).mono ?_);rintro e w3 ⟨v3,rfl,hR,hb⟩;obtain⟨Ao,co,rfl⟩:=Kd.bJ hR;have bY:=af.mk (HV.o.below hb);have u0:=bY.o.s0;have u1:=bY.o.s1;have u2:=bY.o.r0;have u3:=bY.o.r1;have u4:=bY.o.f0;have u5:=bY.o.f1;clear hR hb)
    go_wp2;obtain⟨⟨y0,y1⟩,yb⟩:=bY.o.put (.slice A0 t.length c0) (.slice A1 p.length c1);exact bodyPost_ret (rX _ _ (w.heap.size+1) _ _ _ rfl rfl y0 y1) rfl ⟨⟨⟨_,_,_,_,rfl,Kd.aN aj.o yb,ax.o,Kd.aN bN.o yb,cA.o⟩⟩,yb⟩
  |true=>
   rw[ag bn] at hh;rcases xs with _|⟨x,_|⟨y,ys⟩⟩
   ·cases hh
   case cons.cons=>cases hh
   have hh:Ff k t p (s.extract 0 n).toList x=some rr:=hh;unfold Ff at hh;rcases h1 with e9|e9|e9
   ·rw[ah e9] at hh;obtain⟨⟨t2,b⟩,hy,hh⟩:=aA.1 hh;have GM:=af.mk hy;clear hy;have w5:((s.extract 0 n).toList==[107,105,110,100])=true:=by rw[e9];rfl
    have w6:((s.extract 0 n).toList==[108,105,110,101])=false:=by rw[e9];rfl
    have w7:((s.extract 0 n).toList==[112,111,105,110,116])=false:=by rw[e9];rfl
    clear e9;cases b with
    |false=>
     obtain rfl:=au hh;clear hh;go_wp2_with (go_at_call 59;(with_reducible refine(eh.calls k (s.extract (n+1) s.size) 1 [x] true _ rZ.o).mono ?_);rintro e w3 ⟨v3,rfl,hR,hb⟩;obtain⟨Ao,co,rfl⟩:=Kd.bJ hR;obtain⟨ad,e1,g1⟩:=Kd.ck (Kd.bm hR).2.2 0 ae (by show(0:Int)<1;omega);subst e1;rw[show[x].length=1 from rfl];have g1:w3.cell? ad=some (.int .i64 x):=g1;have bY:=af.mk (HV.o.below hb);have u0:=bY.o.s0;have u1:=bY.o.s1;have u2:=bY.o.r0;have u3:=bY.o.r1;have u4:=bY.o.f0;have u5:=bY.o.f1;clear hR hb)
     go_wp2_with (go_at_call 20;(with_reducible refine(uW.calls k x t2 false _ GM.o).mono ?_);rintro e w4 ⟨v4,rfl,s9,hb⟩;obtain⟨At,ct,rfl⟩:=Kd.bJ s9;have d_:=af.mk (bY.o.below hb);have CF:=af.mk s9;have z0:=d_.o.s0;have z1:=d_.o.s1;have z2:=d_.o.r0;have z3:=d_.o.r1;have z4:=d_.o.f0;have z5:=d_.o.f1;clear s9 hb g1 u0 u1 u2 u3 u4 u5)
     go_wp2;obtain⟨⟨y0,y1⟩,yb⟩:=d_.o.put (.slice A0 t.length c0) (.slice A1 p.length c1);exact bodyPost_ret (rX _ _ (w.heap.size+1) _ _ _ rfl rfl y0 y1) rfl ⟨⟨⟨_,_,_,_,rfl,Kd.aN aj.o yb,ax.o,Kd.aN bN.o yb,cA.o⟩⟩,yb⟩
    |true=>
     obtain rfl:=au hh;clear hh;go_wp2_with (go_at_call 59;(with_reducible refine(eh.calls k (s.extract (n+1) s.size) 1 [x] true _ rZ.o).mono ?_);rintro e w3 ⟨v3,rfl,hR,hb⟩;obtain⟨Ao,co,rfl⟩:=Kd.bJ hR;obtain⟨ad,e1,g1⟩:=Kd.ck (Kd.bm hR).2.2 0 ae (by show(0:Int)<1;omega);subst e1;rw[show[x].length=1 from rfl];have g1:w3.cell? ad=some (.int .i64 x):=g1;have bY:=af.mk (HV.o.below hb);have u0:=bY.o.s0;have u1:=bY.o.s1;have u2:=bY.o.r0;have u3:=bY.o.r1;have u4:=bY.o.f0;have u5:=bY.o.f1;clear hR hb)
     go_wp2_with (go_at_call 20;(with_reducible refine(uW.calls k x t2 true _ GM.o).mono ?_);rintro e w4 ⟨v4,rfl,s9,hb⟩;obtain⟨At,ct,rfl⟩:=Kd.bJ s9;have d_:=af.mk (bY.o.below hb);have CF:=af.mk s9;have z0:=d_.o.s0;have z1:=d_.o.s1;have z2:=d_.o.r0;have z3:=d_.o.r1;have z4:=d_.o.f0;have z5:=d_.o.f1;clear s9 hb g1 u0 u1 u2 u3 u4 u5;have tt:=af.mk (d_.o.below (cS (Below.refl _ _) (.cells #[] 3)));have y2:=tt.o.r0;have y3:=tt.o.r1;have y4:=tt.o.f0;have y5:=tt.o.f1)
     go_wp2;obtain⟨⟨b0,b1⟩,yb⟩:=tt.o.put (.slice At t2.length ct) (.slice (some ⟨w4.heap.size,0,none⟩) 0 0);have hlt:w.heap.size+1<w3.heap.size:=World.block_lt_of_cell? _ _ bY.o.r0;exact bodyPost_ret (rX _ _ (w.heap.size+1) _ _ _ rfl rfl b0 b1) rfl ⟨⟨⟨_,_,_,_,rfl,(Kd.bm (YS (Kd.iJ CF.o _) hlt _ _)).2.2,(Kd.bm CF.o).2.1,⟨rfl,by simp,fun h=>absurd h bn⟩,Nat.zero_le _⟩⟩,yb⟩
   ·rw[ag (by rw[e9];decide),ah e9] at hh;obtain⟨⟨l,b⟩,hy,hh⟩:=aA.1 hh;obtain⟨r,hz,rfl⟩:=Option.map_eq_some_iff.1 hh;have HPP:=af.mk hy;have HSD:=af.mk hz;clear hy hz hh;have w5:((s.extract 0 n).toList==[107,105,110,100])=false:=by rw[e9];rfl
    have w6:((s.extract 0 n).toList==[108,105,110,101])=true:=by rw[e9];rfl
    have w7:((s.extract 0 n).toList==[112,111,105,110,116])=false:=by rw[e9];rfl
    clear e9;go_wp2_with (go_at_call 59;(with_reducible refine(eh.calls k (s.extract (n+1) s.size) 1 [x] true _ rZ.o).mono ?_);rintro e w3 ⟨v3,rfl,hR,hb⟩;obtain⟨Ao,co,rfl⟩:=Kd.bJ hR;obtain⟨ad,e1,g1⟩:=Kd.ck (Kd.bm hR).2.2 0 ae (by show(0:Int)<1;omega);subst e1;rw[show[x].length=1 from rfl];have g1:w3.cell? ad=some (.int .i64 x):=g1;have bY:=af.mk (HV.o.below hb);have u0:=bY.o.s0;have u1:=bY.o.s1;have u2:=bY.o.r0;have u3:=bY.o.r1;have u4:=bY.o.f0;have u5:=bY.o.f1;clear hR hb)
    refine jA (n:=11) (S:=fun w'=>w'.cell? ⟨w.heap.size,0,none⟩=some (.slice A0 t.length c0)∧w'.cell? ad=some (.int .i64 x)) (ds:=[]) #[F_,F_,F_,F_,F_,F_,F_,F_,F_,F_,F_] am rfl rfl ⟨bY.o.s0,g1⟩ (fun hHeld=>?_);have hdb:Below w3.heap.size w3 w3.drew:=oL (Below.refl _ _);have tt:=af.mk (bY.o.below hdb);have G5:af (w3.drew.cell? ad=some (.int .i64 x)):=⟨(hdb.cell (World.block_lt_of_cell? _ _ g1)).trans g1⟩;clear hdb;generalize w3.drew=w5 at tt G5 hHeld ⊢;refine eF 0 85 (m_ 11 1) ?_;refine eF 2 87 (m_ 11 5) ?_;refine eF 3 88 (m_ 11 13) ?_;refine qR 1 86 (m_ 11 15) hHeld ?_;refine qR 4 89 (m_ 11 31) hHeld ?_;refine fa (i:=5) (N:=some 90) (m_ 11 63) rfl rfl am ao (fun K hK=>?_);have hcl:=ye.calls k A0 c0 t x l b w5 (Kd.aN aj.o tt.o.bl) ax.o HPP.o;refine lV Tryz.func60 am rfl #[.slice A0 t.length c0,.int .i64 x] (by rfl) rfl rfl (by simp only[List.map_toArray,List.map_cons,List.map_nil];rfl) ?_;with_reducible refine(hcl).mono ?_
    rintro e w6 ⟨v6,rfl,Qa,hb⟩;refine⟨_,rfl,?_⟩;clear hcl;obtain⟨A6,c6,rfl⟩:=Kd.bJ Qa;have GN:=af.mk Qa;have Jc:=af.mk (tt.o.below hb);have g6:w6.cell? ad=some (.int .i64 x):=(hb.cell (World.block_lt_of_cell? _ _ G5.o)).trans G5.o;clear hb Qa;refine hK.out _ _ ⟨Jc.o.s0,g6⟩ (fun hHeld=>?_);clear hK K;refine eE (a':=?_) ?_ ?_;rotate_left;(show Act.put _ (some 90) _=_;simp only[Act.put,List.setIfInBounds_toArray,List.set_cons_zero,List.set_cons_succ,dh,fb];rfl);refine eF 6 84 (m_ 11 127) ?_;refine eF 7 91 (m_ 11 255) ?_;refine eF 8 92 (m_ 11 511) ?_;refine eF 9 13 (m_ 11 1023) ?_;refine eF 10 14 (m_ 11 2047) ?_;refine jB am ?_;go_wp2;refine jA (n:=6) (S:=fun w'=>w'.cell? ⟨w.heap.size,0,none⟩=some (.slice A0 t.length c0)∧w'.cell? ⟨w.heap.size,1,none⟩=some (.slice A1 p.length c1)) (ds:=[4]) #[F_,F_,F_,F_,F_,F_] am rfl rfl ⟨Jc.o.s0,Jc.o.s1⟩ (fun hHeld=>?_);have hdb:Below w6.heap.size w6 w6.drew:=oL (Below.refl _ _);have uY:=af.mk (Jc.o.below hdb);have Qb:=af.mk (Kd.dB GN.o hdb);clear hdb;generalize w6.drew=w7 at uY Qb hHeld ⊢;refine eF 1 94 (m_ 6 2) ?_;refine eF 2 95 (m_ 6 6) ?_;refine qR 0 93 (m_ 6 7) hHeld ?_;refine fa (i:=3) (N:=some 96) (m_ 6 15) rfl rfl am ao (fun K hK=>?_);have hcl:=dr.calls k A6 c6 l b r w7 (Kd.bm Qb.o).2.2 (Kd.bm Qb.o).2.1 HSD.o;refine lV Tryz.func61 am rfl #[.slice A6 l.length c6,.bool b] (by rfl) rfl rfl (by simp only[List.map_toArray,List.map_cons,List.map_nil];rfl) ?_;with_reducible refine(hcl).mono ?_
    rintro e w8 ⟨rfl,hb⟩;refine⟨_,rfl,?_⟩;clear hcl;have yf:=af.mk (uY.o.below hb);have u2:=yf.o.r0;have u3:=yf.o.r1;have u4:=yf.o.f0;have u5:=yf.o.f1;clear hb;refine hK.out _ _ ⟨yf.o.s0,yf.o.s1⟩ (fun hHeld=>?_);clear hK K;refine eE (a':=?_) ?_ ?_;rotate_left;(show Act.put _ (some 96) _=_;simp only[Act.put,List.setIfInBounds_toArray,List.set_cons_zero,List.set_cons_succ,dh,fb];rfl);refine oN (i:=4) (N:=none) (m_ 6 31) rfl rfl am ao (fun K hK=>?_);refine pD (w1:=?_) (by rfl) rfl ?_ ?_;rotate_left;(go_simp;rfl);refine hK.out _ _ ?_;clear hK K;refine eF 5 5 (m_ 6 63) ?_;refine jB am ?_;go_wp2;obtain⟨⟨y0,y1⟩,yb⟩:=yf.o.put (.slice A0 t.length c0) (.slice A1 p.length c1);exact bodyPost_ret (rX _ _ (w.heap.size+1) _ _ _ rfl rfl y0 y1) rfl ⟨⟨⟨_,_,_,_,rfl,Kd.aN aj.o yb,ax.o,Kd.aN bN.o yb,cA.o⟩⟩,yb⟩
   ·rw[ag (by rw[e9];decide),ag (by rw[e9];decide)] at hh;obtain⟨b,hy,hh⟩:=aA.1 hh;have H3:=af.mk hy;clear hy;have w5:((s.extract 0 n).toList==[107,105,110,100])=false:=by rw[e9];rfl
    have w6:((s.extract 0 n).toList==[108,105,110,101])=false:=by rw[e9];rfl
    have w7:((s.extract 0 n).toList==[112,111,105,110,116])=true:=by rw[e9];rfl
    clear e9;cases b with
    |false=>
     obtain rfl:=au ((ah (Or.inl rfl)).symm.trans hh);clear hh;go_wp2_with (go_at_call 59;(with_reducible refine(eh.calls k (s.extract (n+1) s.size) 1 [x] true _ rZ.o).mono ?_);rintro e w3 ⟨v3,rfl,hR,hb⟩;obtain⟨Ao,co,rfl⟩:=Kd.bJ hR;obtain⟨ad,e1,g1⟩:=Kd.ck (Kd.bm hR).2.2 0 ae (by show(0:Int)<1;omega);subst e1;rw[show[x].length=1 from rfl];have g1:w3.cell? ad=some (.int .i64 x):=g1;have bY:=af.mk (HV.o.below hb);have u0:=bY.o.s0;have u1:=bY.o.s1;have u2:=bY.o.r0;have u3:=bY.o.r1;have u4:=bY.o.f0;have u5:=bY.o.f1;clear hR hb)
     go_wp2_with (go_at_call 62;(with_reducible refine(eH.calls x false _ H3.o).mono ?_);rintro e w' ⟨rfl,⟨nd,rfl⟩⟩;have ly:Below w3.heap.size w3 (w3.drewN nd):=bb (Below.refl _ _) nd;have d_:=af.mk (bY.o.below ly);have G4:af ((w3.drewN nd).cell? ad=some (.int .i64 x)):=⟨(ly.cell (World.block_lt_of_cell? _ _ g1)).trans g1⟩;have z0:=d_.o.s0;have z1:=d_.o.s1;have z2:=d_.o.r0;have z3:=d_.o.r1;have z4:=d_.o.f0;have z5:=d_.o.f1;clear g1 ly u0 u1 u2 u3 u4 u5;generalize w3.drewN nd=w4 at d_ G4 z0 z1 z2 z3 z4 z5 ⊢)
     go_wp2;obtain⟨⟨y0,y1⟩,yb⟩:=d_.o.put (.slice A0 t.length c0) (.slice A1 p.length c1);exact bodyPost_ret (rX _ _ (w.heap.size+1) _ _ _ rfl rfl y0 y1) rfl ⟨⟨⟨_,_,_,_,rfl,Kd.aN aj.o yb,ax.o,Kd.aN bN.o yb,cA.o⟩⟩,yb⟩
    |true=>
     by_cases h10:p.length=10
     case pos=>
      obtain rfl:=au ((ah (Or.inr h10)).symm.trans hh);have e10:((p.length:Int)==10)=true:=beq_iff_eq.2 ae;clear hh h10;go_wp2_with (go_at_call 59;(with_reducible refine(eh.calls k (s.extract (n+1) s.size) 1 [x] true _ rZ.o).mono ?_);rintro e w3 ⟨v3,rfl,hR,hb⟩;obtain⟨Ao,co,rfl⟩:=Kd.bJ hR;obtain⟨ad,e1,g1⟩:=Kd.ck (Kd.bm hR).2.2 0 ae (by show(0:Int)<1;omega);subst e1;rw[show[x].length=1 from rfl];have g1:w3.cell? ad=some (.int .i64 x):=g1;have bY:=af.mk (HV.o.below hb);have u0:=bY.o.s0;have u1:=bY.o.s1;have u2:=bY.o.r0;have u3:=bY.o.r1;have u4:=bY.o.f0;have u5:=bY.o.f1;clear hR hb)
      go_wp2_with (go_at_call 62;(with_reducible refine(eH.calls x true _ H3.o).mono ?_);rintro e w' ⟨rfl,⟨nd,rfl⟩⟩;have ly:Below w3.heap.size w3 (w3.drewN nd):=bb (Below.refl _ _) nd;have d_:=af.mk (bY.o.below ly);have G4:af ((w3.drewN nd).cell? ad=some (.int .i64 x)):=⟨(ly.cell (World.block_lt_of_cell? _ _ g1)).trans g1⟩;have z0:=d_.o.s0;have z1:=d_.o.s1;have z2:=d_.o.r0;have z3:=d_.o.r1;have z4:=d_.o.f0;have z5:=d_.o.f1;clear g1 ly u0 u1 u2 u3 u4 u5;generalize w3.drewN nd=w4 at d_ G4 z0 z1 z2 z3 z4 z5 ⊢)
      go_wp2;obtain⟨⟨y0,y1⟩,yb⟩:=d_.o.put (.slice A0 t.length c0) (.slice A1 p.length c1);exact bodyPost_ret (rX _ _ (w.heap.size+1) _ _ _ rfl rfl y0 y1) rfl ⟨⟨⟨_,_,_,_,rfl,Kd.aN aj.o yb,ax.o,Kd.aN bN.o yb,cA.o⟩⟩,yb⟩
     rw[ag (by simp[h10])] at hh;by_cases hpl:p.length≤10
     case neg=>rw[ag hpl] at hh;cases hh
     obtain rfl:=au ((ah hpl).symm.trans hh);have e10:((p.length:Int)==10)=false:=beq_eq_false_iff_ne.2 ae;have zK:=af.mk hpl;clear hh h10 hpl;go_wp2_with (go_at_call 59;(with_reducible refine(eh.calls k (s.extract (n+1) s.size) 1 [x] true _ rZ.o).mono ?_);rintro e w3 ⟨v3,rfl,hR,hb⟩;obtain⟨Ao,co,rfl⟩:=Kd.bJ hR;obtain⟨ad,e1,g1⟩:=Kd.ck (Kd.bm hR).2.2 0 ae (by show(0:Int)<1;omega);subst e1;rw[show[x].length=1 from rfl];have g1:w3.cell? ad=some (.int .i64 x):=g1;have bY:=af.mk (HV.o.below hb);have u0:=bY.o.s0;have u1:=bY.o.s1;have u2:=bY.o.r0;have u3:=bY.o.r1;have u4:=bY.o.f0;have u5:=bY.o.f1;clear hR hb)
     go_wp2_with (go_at_call 62;(with_reducible refine(eH.calls x true _ H3.o).mono ?_);rintro e w' ⟨rfl,⟨nd,rfl⟩⟩;have ly:Below w3.heap.size w3 (w3.drewN nd):=bb (Below.refl _ _) nd;have d_:=af.mk (bY.o.below ly);have G4:af ((w3.drewN nd).cell? ad=some (.int .i64 x)):=⟨(ly.cell (World.block_lt_of_cell? _ _ g1)).trans g1⟩;have z0:=d_.o.s0;have z1:=d_.o.s1;have z2:=d_.o.r0;have z3:=d_.o.r1;have z4:=d_.o.f0;have z5:=d_.o.f1;clear g1 ly u0 u1 u2 u3 u4 u5;generalize w3.drewN nd=w4 at d_ G4 z0 z1 z2 z3 z4 z5 ⊢)
     have bT:=af.mk (d_.o.below (oL (Below.refl _ _)));have G0:af (w4.drew.cell? ad=some (.int .i64 x)):=⟨((oL (Below.refl _ _)).cell (World.block_lt_of_cell? _ _ G4.o)).trans G4.o⟩;refine jA (n:=14) (S:=fun w'=>w'.cell? ⟨w.heap.size,0,none⟩=some (.slice A0 t.length c0)∧w'.cell? ⟨w.heap.size,1,none⟩=some (.slice A1 p.length c1)∧w'.cell? ad=some (.int .i64 x)) (ds:=[12]) #[F_,F_,F_,F_,F_,F_,F_,F_,F_,F_,F_,F_,F_,F_] am rfl rfl ⟨bT.o.s0,bT.o.s1,G0.o⟩ (fun hHeld=>?_);generalize w4.drew=w0 at bT G0 hHeld ⊢;have HB:=af.mk (Below.refl w0.heap.size w0);refine eF 0 109 (m_ 14 1) ?_;refine eF 3 112 (m_ 14 9) ?_;refine eF 6 115 (m_ 14 73) ?_;refine eF 7 116 (m_ 14 201) ?_;refine JY 1 110 (m_ 14 203) hHeld ?_;refine JY 4 113 (m_ 14 219) hHeld ?_;refine JY 8 117 (m_ 14 475) hHeld ?_;refine BV (σ:=Value×Value×Value) 4 (m_ 14 1023) (fun s_=>[(111,s_.1),(114,s_.2.1),(118,s_.2.2)]) (fun s_ w'=>Below w0.heap.size w0 w'∧Kd.R (Kd.int .i64) 3 w' w0.heap.size (fun _=>True) s_.2.1 p∧∃g,s_.2.2=.slice (some ⟨g,0,none⟩) 1 1∧w'.cell? ⟨g,0,none⟩=some (.int .i64 x)) ?_ ?_;rotate_left
     ·intro kX;refine sh (i:=2) (j:=9) (Ni:=some 111) (Nj:=some 118) (m_ 14 479) (m_ 14 987) rfl rfl rfl rfl am ao ao (fun K hK=>?_) (fun K hK=>?_)
      ·skip;refine Kd.BQ (Kd.int .i64) (w0:=w0) w0.heap.size 3 ?hg (N:=111) ?hd (xs:=([]:List Int)) (inner:=[]) (ok:=fun _=>True) (bp:=fun _=>True) ?hr ?hp (fun _ hk=>hk) trivial ?hB ?hS bn ?_;(case hd=>rfl)
       (case hg=>rfl)
       (case hr=>first|(go_simp;done)|(go_simp;rfl))
       (case hp=>exact(aE.none _ _))
       (case hB=>exact HB.o)
       (case hS=>exact HB.o.size)
       intro v2 w2 ho hb hg hnew;have n_:=af.mk (hb);clear HB;have HB:=n_;clear n_;have HO:=af.mk ho;clear ho hb hg hnew;refine hK.out _ _ ⟨(HB.o.cell (p:=⟨w.heap.size,0,none⟩) (World.block_lt_of_cell? _ _ bT.o.s0)).trans bT.o.s0,(HB.o.cell (p:=⟨w.heap.size,1,none⟩) (World.block_lt_of_cell? _ _ bT.o.s1)).trans bT.o.s1,(HB.o.cell (World.block_lt_of_cell? _ _ G0.o)).trans G0.o⟩ (fun hHeld=>?_);clear hK K;refine eE (a':=?_) ?_ ?_;rotate_left;(show Act.put _ (some 111) _=_;simp only[Act.put,List.setIfInBounds_toArray,List.set_cons_zero,List.set_cons_succ,dh,fb];rfl);refine sh (i:=5) (j:=9) (Ni:=some 114) (Nj:=some 118) (m_ 14 511) (m_ 14 991) rfl rfl rfl rfl am ao ao (fun K hK=>?_) (fun K hK=>?_)
       ·skip;refine Kd.BR (Kd.int .i64) (w0:=w0) w0.heap.size (by rfl) (.tmp 111) (.tmp 113) 31 3 (.int .i64 0) 8 rfl Tryz.underlying31 info3 rfl ao ae v2 [] p _ _ _ (fun _=>True) (fun _=>False) rfl rfl ?aO ?aR (fun _ _ h=>h) (fun _ h=>h.elim) (fun _ _=>trivial) ?aB ?aS ?aL ?_;(case aO=>exact HO.o)
        (case aR=>exact Kd.aN bN.o (aU bT.o.bl HB.o))
        (case aB=>exact HB.o)
        (case aS=>exact HB.o.size)
        (case aL=>have:=zK.o;show(0+p.length)*8≤_;omega)
        intro v5 w5 ho hb hg hat;rw[List.nil_append] at ho;have n_:=af.mk (hb);clear HB;have HB:=n_;clear n_;clear HO;have HO:=af.mk ho;clear ho hb hg hat;refine hK.out _ _ ⟨(HB.o.cell (p:=⟨w.heap.size,0,none⟩) (World.block_lt_of_cell? _ _ bT.o.s0)).trans bT.o.s0,(HB.o.cell (p:=⟨w.heap.size,1,none⟩) (World.block_lt_of_cell? _ _ bT.o.s1)).trans bT.o.s1,(HB.o.cell (World.block_lt_of_cell? _ _ G0.o)).trans G0.o⟩ (fun hHeld=>?_);clear hK K;refine eE (a':=?_) ?_ ?_;rotate_left;(show Act.put _ (some 114) _=_;simp only[Act.put,List.setIfInBounds_toArray,List.set_cons_zero,List.set_cons_succ,dh,fb];rfl);refine fa (i:=9) (N:=some 118) (m_ 14 1023) rfl rfl am ao (fun K hK=>?_);refine si (w1:=?_) (v:=?_) (by rfl) rfl ?_ ?_;rotate_left 2;(go_simp;constructor;(rfl);(rfl));have G9:af ((w5.alloc (.cells #[.int .i64 x] 3)).cell? ⟨w5.heap.size,0,none⟩=some (.int .i64 x)):=⟨World.cell?_alloc_new w5 _ _ 0⟩;have n_:=af.mk (Kd.iJ HO.o (.cells #[.int .i64 x] 3));clear HO;have HO:=n_;clear n_;have n_:=af.mk (cS HB.o (.cells #[.int .i64 x] 3));clear HB;have HB:=n_;clear n_;refine hK.out _ _ ⟨(HB.o.cell (p:=⟨w.heap.size,0,none⟩) (World.block_lt_of_cell? _ _ bT.o.s0)).trans bT.o.s0,(HB.o.cell (p:=⟨w.heap.size,1,none⟩) (World.block_lt_of_cell? _ _ bT.o.s1)).trans bT.o.s1,(HB.o.cell (World.block_lt_of_cell? _ _ G0.o)).trans G0.o⟩ (fun hHeld=>?_);clear hK K;refine eE (a':=?_) ?_ ?_;rotate_left;(show Act.put _ (some 118) _=_;simp only[Act.put,List.setIfInBounds_toArray,List.set_cons_zero,List.set_cons_succ,dh,fb];rfl);exact eE (by simp only[jq,Act.put,List.setIfInBounds_toArray,List.set_cons_zero,List.set_cons_succ]) (kX (v2,v5,.slice (some ⟨w5.heap.size,0,none⟩) 1 1) _ ⟨HB.o,HO.o,_,rfl,G9.o⟩)
       ·skip;refine si (w1:=?_) (v:=?_) (by rfl) rfl ?_ ?_;rotate_left 2;(go_simp;constructor;(rfl);(rfl));have G9:af ((w2.alloc (.cells #[.int .i64 x] 3)).cell? ⟨w2.heap.size,0,none⟩=some (.int .i64 x)):=⟨World.cell?_alloc_new w2 _ _ 0⟩;have Fg:=af.mk (show some w2.heap.size≠v2.ownBlock from fun e=>by have:=((Kd.ix HO.o).1 _ e.symm).2.2.1;omega);have n_:=af.mk (Kd.iJ HO.o (.cells #[.int .i64 x] 3));clear HO;have HO:=n_;clear n_;have n_:=af.mk (cS HB.o (.cells #[.int .i64 x] 3));clear HB;have HB:=n_;clear n_;refine hK.out _ _ ⟨(HB.o.cell (p:=⟨w.heap.size,0,none⟩) (World.block_lt_of_cell? _ _ bT.o.s0)).trans bT.o.s0,(HB.o.cell (p:=⟨w.heap.size,1,none⟩) (World.block_lt_of_cell? _ _ bT.o.s1)).trans bT.o.s1,(HB.o.cell (World.block_lt_of_cell? _ _ G0.o)).trans G0.o⟩ (fun hHeld=>?_);clear hK K;refine eE (a':=?_) ?_ ?_;rotate_left;(show Act.put _ (some 118) _=_;simp only[Act.put,List.setIfInBounds_toArray,List.set_cons_zero,List.set_cons_succ,dh,fb];rfl);refine fa (i:=5) (N:=some 114) (m_ 14 1023) rfl rfl am ao (fun K hK=>?_);refine Kd.BR (Kd.int .i64) (w0:=w0) w0.heap.size (by rfl) (.tmp 111) (.tmp 113) 31 3 (.int .i64 0) 8 rfl Tryz.underlying31 info3 rfl ao ae v2 [] p _ _ _ (fun _=>True) (fun _=>False) rfl rfl ?aO ?aR (fun _ _ h=>h) (fun _ h=>h.elim) (fun _ _=>trivial) ?aB ?aS ?aL ?_;(case aO=>exact HO.o)
        (case aR=>exact Kd.aN bN.o (aU bT.o.bl HB.o))
        (case aB=>exact HB.o)
        (case aS=>exact HB.o.size)
        (case aL=>have:=zK.o;show(0+p.length)*8≤_;omega)
        intro v5 w5 ho hb hg hat;rw[List.nil_append] at ho;have n_:=af.mk (hb);clear HB;have HB:=n_;clear n_;have n_:=af.mk ((hg.cell_far _ (World.block_lt_of_cell? _ _ G9.o) Fg.o).trans G9.o);clear G9;have G9:=n_;clear n_;clear Fg;clear HO;have HO:=af.mk ho;clear ho hb hg hat;refine hK.out _ _ ⟨(HB.o.cell (p:=⟨w.heap.size,0,none⟩) (World.block_lt_of_cell? _ _ bT.o.s0)).trans bT.o.s0,(HB.o.cell (p:=⟨w.heap.size,1,none⟩) (World.block_lt_of_cell? _ _ bT.o.s1)).trans bT.o.s1,(HB.o.cell (World.block_lt_of_cell? _ _ G0.o)).trans G0.o⟩ (fun hHeld=>?_);clear hK K;refine eE (a':=?_) ?_ ?_;rotate_left;(show Act.put _ (some 114) _=_;simp only[Act.put,List.setIfInBounds_toArray,List.set_cons_zero,List.set_cons_succ,dh,fb];rfl);exact eE (by simp only[jq,Act.put,List.setIfInBounds_toArray,List.set_cons_zero,List.set_cons_succ]) (kX (v2,v5,.slice (some ⟨w2.heap.size,0,none⟩) 1 1) _ ⟨HB.o,HO.o,_,rfl,G9.o⟩)
      ·skip;refine si (w1:=?_) (v:=?_) (by rfl) rfl ?_ ?_;rotate_left 2;(go_simp;constructor;(rfl);(rfl));have G9:af ((w0.alloc (.cells #[.int .i64 x] 3)).cell? ⟨w0.heap.size,0,none⟩=some (.int .i64 x)):=⟨World.cell?_alloc_new w0 _ _ 0⟩;have n_:=af.mk (cS HB.o (.cells #[.int .i64 x] 3));clear HB;have HB:=n_;clear n_;refine hK.out _ _ ⟨(HB.o.cell (p:=⟨w.heap.size,0,none⟩) (World.block_lt_of_cell? _ _ bT.o.s0)).trans bT.o.s0,(HB.o.cell (p:=⟨w.heap.size,1,none⟩) (World.block_lt_of_cell? _ _ bT.o.s1)).trans bT.o.s1,(HB.o.cell (World.block_lt_of_cell? _ _ G0.o)).trans G0.o⟩ (fun hHeld=>?_);clear hK K;refine eE (a':=?_) ?_ ?_;rotate_left;(show Act.put _ (some 118) _=_;simp only[Act.put,List.setIfInBounds_toArray,List.set_cons_zero,List.set_cons_succ,dh,fb];rfl);refine fa (i:=2) (N:=some 111) (m_ 14 991) rfl rfl am ao (fun K hK=>?_);refine Kd.BQ (Kd.int .i64) (w0:=w0) w0.heap.size 3 ?hg (N:=111) ?hd (xs:=([]:List Int)) (inner:=[]) (ok:=fun _=>True) (bp:=fun _=>True) ?hr ?hp (fun _ hk=>hk) trivial ?hB ?hS bn ?_;(case hd=>rfl)
       (case hg=>rfl)
       (case hr=>first|(go_simp;done)|(go_simp;rfl))
       (case hp=>exact(aE.none _ _))
       (case hB=>exact HB.o)
       (case hS=>exact HB.o.size)
       intro v2 w2 ho hb hg hnew;have n_:=af.mk (hb);clear HB;have HB:=n_;clear n_;have HO:=af.mk ho;have hlt:=World.block_lt_of_cell? _ _ G9.o;have Fg:=af.mk (show some w0.heap.size≠v2.ownBlock from fun e=>by obtain⟨b,eb,hb⟩:=hnew;rw[eb] at e;have:=au e;dsimp only at hlt;omega);have n_:=af.mk ((hg.cell_far _ hlt bn).trans G9.o);clear G9;have G9:=n_;clear n_;clear hlt;clear ho hb hg hnew;refine hK.out _ _ ⟨(HB.o.cell (p:=⟨w.heap.size,0,none⟩) (World.block_lt_of_cell? _ _ bT.o.s0)).trans bT.o.s0,(HB.o.cell (p:=⟨w.heap.size,1,none⟩) (World.block_lt_of_cell? _ _ bT.o.s1)).trans bT.o.s1,(HB.o.cell (World.block_lt_of_cell? _ _ G0.o)).trans G0.o⟩ (fun hHeld=>?_);clear hK K;refine eE (a':=?_) ?_ ?_;rotate_left;(show Act.put _ (some 111) _=_;simp only[Act.put,List.setIfInBounds_toArray,List.set_cons_zero,List.set_cons_succ,dh,fb];rfl);refine fa (i:=5) (N:=some 114) (m_ 14 1023) rfl rfl am ao (fun K hK=>?_);refine Kd.BR (Kd.int .i64) (w0:=w0) w0.heap.size (by rfl) (.tmp 111) (.tmp 113) 31 3 (.int .i64 0) 8 rfl Tryz.underlying31 info3 rfl ao ae v2 [] p _ _ _ (fun _=>True) (fun _=>False) rfl rfl ?aO ?aR (fun _ _ h=>h) (fun _ h=>h.elim) (fun _ _=>trivial) ?aB ?aS ?aL ?_;(case aO=>exact HO.o)
       (case aR=>exact Kd.aN bN.o (aU bT.o.bl HB.o))
       (case aB=>exact HB.o)
       (case aS=>exact HB.o.size)
       (case aL=>have:=zK.o;show(0+p.length)*8≤_;omega)
       intro v5 w5 ho hb hg hat;rw[List.nil_append] at ho;have n_:=af.mk (hb);clear HB;have HB:=n_;clear n_;have n_:=af.mk ((hg.cell_far _ (World.block_lt_of_cell? _ _ G9.o) Fg.o).trans G9.o);clear G9;have G9:=n_;clear n_;clear Fg;clear HO;have HO:=af.mk ho;clear ho hb hg hat;refine hK.out _ _ ⟨(HB.o.cell (p:=⟨w.heap.size,0,none⟩) (World.block_lt_of_cell? _ _ bT.o.s0)).trans bT.o.s0,(HB.o.cell (p:=⟨w.heap.size,1,none⟩) (World.block_lt_of_cell? _ _ bT.o.s1)).trans bT.o.s1,(HB.o.cell (World.block_lt_of_cell? _ _ G0.o)).trans G0.o⟩ (fun hHeld=>?_);clear hK K;refine eE (a':=?_) ?_ ?_;rotate_left;(show Act.put _ (some 114) _=_;simp only[Act.put,List.setIfInBounds_toArray,List.set_cons_zero,List.set_cons_succ,dh,fb];rfl);exact eE (by simp only[jq,Act.put,List.setIfInBounds_toArray,List.set_cons_zero,List.set_cons_succ]) (kX (v2,v5,.slice (some ⟨w0.heap.size,0,none⟩) 1 1) _ ⟨HB.o,HO.o,_,rfl,G9.o⟩)
     rintro⟨v2,v5,v9⟩ w6 ⟨hb,ho,g,e9,g9⟩;dsimp only at ho e9;subst e9;have n_:=af.mk (hb);clear HB;have HB:=n_;clear n_;have HO:=af.mk ho;have G9:=af.mk g9;clear ho g9 hb;have hHeld:w6.cell? ⟨w.heap.size,0,none⟩=some (.slice A0 t.length c0)∧w6.cell? ⟨w.heap.size,1,none⟩=some (.slice A1 p.length c1)∧w6.cell? ad=some (.int .i64 x):=⟨(HB.o.cell (p:=⟨w.heap.size,0,none⟩) (World.block_lt_of_cell? _ _ bT.o.s0)).trans bT.o.s0,(HB.o.cell (p:=⟨w.heap.size,1,none⟩) (World.block_lt_of_cell? _ _ bT.o.s1)).trans bT.o.s1,(HB.o.cell (World.block_lt_of_cell? _ _ G0.o)).trans G0.o⟩;refine eE (a':=?_) ?_ ?_;rotate_left;(simp only[jq,Act.put,List.setIfInBounds_toArray,List.set_cons_zero,List.set_cons_succ];rfl);refine fa (i:=10) (N:=some 119) (m_ 14 2047) rfl rfl am ao (fun K hK=>?_);refine Kd.BR (Kd.int .i64) (w0:=w0) w0.heap.size (by rfl) (.tmp 114) (.tmp 118) 31 3 (.int .i64 0) 8 rfl Tryz.underlying31 info3 rfl ao ae v5 p [x] _ _ _ (fun _=>True) (fun _=>False) rfl rfl ?aO ?aR (fun _ _ h=>h) (fun _ h=>h.elim) (fun _ _=>trivial) ?aB ?aS ?aL ?_;(case aO=>exact HO.o)
     (case aR=>exact am3 G9.o)
     (case aB=>exact HB.o)
     (case aS=>exact HB.o.size)
     (case aL=>have:=zK.o;omega)
     intro v7 w7 ho hb hg hat;obtain⟨A7,c7,e7⟩:=Kd.bJ ho;subst e7;have LR:=af.mk ho;have uY:=af.mk (bT.o.below hb);have y2:=uY.o.r0;have y3:=uY.o.r1;have y4:=uY.o.f0;have y5:=uY.o.f1;have n_:=af.mk (hb);clear HB;have HB:=n_;clear n_;clear ho hb hg hat HO G9;refine hK.out _ _ ⟨(HB.o.cell (p:=⟨w.heap.size,0,none⟩) (World.block_lt_of_cell? _ _ bT.o.s0)).trans bT.o.s0,(HB.o.cell (p:=⟨w.heap.size,1,none⟩) (World.block_lt_of_cell? _ _ bT.o.s1)).trans bT.o.s1,(HB.o.cell (World.block_lt_of_cell? _ _ G0.o)).trans G0.o⟩ (fun hHeld=>?_);clear hK K;refine eE (a':=?_) ?_ ?_;rotate_left;(show Act.put _ (some 119) _=_;simp only[Act.put,List.setIfInBounds_toArray,List.set_cons_zero,List.set_cons_succ,dh,fb];rfl);refine eF 11 120 (m_ 14 4095) ?_;refine oN (i:=12) (N:=none) (m_ 14 8191) rfl rfl am ao (fun K hK=>?_);refine pD (w1:=?_) (by rfl) rfl ?_ ?_;rotate_left;(go_simp;rfl);refine hK.out _ _ ?_;clear hK K;refine eF 13 5 (m_ 14 16383) ?_;refine jB am ?_;go_wp2;have hlen:(p++[x]).length=p.length+1:=List.length_append;have fk:=LR.o;rw[hlen] at fk;obtain⟨⟨b0,b1⟩,yb⟩:=uY.o.put (.slice A0 t.length c0) (.slice A7 (p.length+1) c7);have hlt:w.heap.size+1<w0.heap.size:=World.block_lt_of_cell? _ _ bT.o.r0;exact bodyPost_ret (rX _ _ (w.heap.size+1) _ _ _ rfl rfl b0 b1) rfl ⟨⟨⟨_,_,A7,c7,by rw[hlen],Kd.aN aj.o yb,ax.o,(Kd.bm (YS fk hlt _ _)).2.2,by rw[hlen];exact(Kd.bm fk).2.1⟩⟩,yb⟩
theorem YT{W:World}{A:Option Addr}{n:Nat}{xs:List Int}(h:Kd.C (Kd.int .i64) W A n xs){q:Addr}{u:Value}(hq:W.cell? q=some u)(hu:∀x,u≠.int .i64 x)(v:Value):Kd.C (Kd.int .i64) (W.setCell q v) A n xs:=by
 obtain⟨h1,h2,h3⟩:=h;refine⟨h1,h2,fun hn=>?_⟩;obtain⟨ad,e,hc⟩:=h3 hn;refine⟨ad,e,fun j p hj=>?_⟩;obtain⟨c,hl,hK,hcell⟩:=hc j p hj;refine⟨c,hl,hK,fun i u' hu'=>?_⟩;have h4:=hcell i u' hu';have hK':c=[.int .i64 p]:=hK
 have ne:q≠ad.add (j*(Kd.int .i64).sz+i):=by
  intro e;rw[←e,hq] at h4;have h5:=au h4;subst hK';cases i with
  |zero=>exact hu p (h5.trans (au hu').symm)
  |succ i=>cases hu'
 rw[World.cell?_setCell_other (h:=ne)];exact h4
structure Bd(W:World)(b:Nat)(A0:Option Addr)(c0:Nat)(t:List Int)(A1:Option Addr)(c1:Nat)(p:List Int):Prop where
 q0:W.cell? ⟨b,0,none⟩=some (.slice A0 t.length c0)
 q1:W.cell? ⟨b,1,none⟩=some (.slice A1 p.length c1)
 f0:W.frozen? ⟨b,0,none⟩=false
 f1:W.frozen? ⟨b,1,none⟩=false
 r0:Kd.C (Kd.int .i64) W A0 t.length t
 h0:t.length≤c0
 r1:Kd.C (Kd.int .i64) W A1 p.length p
 h1:p.length≤c1
theorem Bd.below{W W':World}{b:Nat}{A0:Option Addr}{c0:Nat}{t:List Int}{A1:Option Addr}{c1:Nat}{p:List Int}(h:Bd W b A0 c0 t A1 c1 p)(hb:Below W.heap.size W W'):Bd W' b A0 c0 t A1 c1 p:=
 have l0:b<W.heap.size:=World.block_lt_of_cell? _ _ h.q0
 ⟨(hb.cell (p:=⟨b,0,none⟩) l0).trans h.q0,(hb.cell (p:=⟨b,1,none⟩) l0).trans h.q1,(hb.frozen (p:=⟨b,0,none⟩) l0).trans h.f0,(hb.frozen (p:=⟨b,1,none⟩) l0).trans h.f1,Kd.aN h.r0 hb,h.h0,Kd.aN h.r1 hb,h.h1⟩
structure uZ(W:World)(g:Nat):Prop where
 c0:W.cell? ⟨g,0,none⟩=some (.slice none 0 0)
 c1:W.cell? ⟨g,1,none⟩=some (.slice none 0 0)
 f0:W.frozen? ⟨g,0,none⟩=false
 f1:W.frozen? ⟨g,1,none⟩=false
theorem uZ.new(W:World):uZ (W.alloc (.cells #[.slice none 0 0,.slice none 0 0] 49)) W.heap.size:=
 ⟨World.cell?_alloc_new W _ _ 0,World.cell?_alloc_new W _ _ 1,World.frozen?_alloc_new W _ _ 0,World.frozen?_alloc_new W _ _ 1⟩
theorem uZ.below{W W':World}{g:Nat}(h:uZ W g)(hb:Below W.heap.size W W'):uZ W' g:=
 have l0:g<W.heap.size:=World.block_lt_of_cell? _ _ h.c0
 ⟨(hb.cell (p:=⟨g,0,none⟩) l0).trans h.c0,(hb.cell (p:=⟨g,1,none⟩) l0).trans h.c1,(hb.frozen (p:=⟨g,0,none⟩) l0).trans h.f0,(hb.frozen (p:=⟨g,1,none⟩) l0).trans h.f1⟩
structure Jd(W W':World)(g:Nat)(x y:Value):Prop where
 c0:W'.cell? ⟨g,0,none⟩=some x
 c1:W'.cell? ⟨g,1,none⟩=some y
 far:∀q:Addr,q.block≠g→W'.cell? q=W.cell? q
 fr:∀q:Addr,W'.frozen? q=W.frozen? q
theorem Jd.mk'{W:World}{g:Nat}{u0 u1:Value}(h0:W.cell? ⟨g,0,none⟩=some u0)(h1:W.cell? ⟨g,1,none⟩=some u1)(x y:Value):Jd W ((W.setCell ⟨g,0,none⟩ x).setCell ⟨g,1,none⟩ y) g x y:=by
 have ne:(⟨g,1,none⟩:Addr)≠⟨g,0,none⟩:=by simp
 refine⟨?_,?_,fun q hq=>?_,fun q=>?_⟩
 ·rw[World.cell?_setCell_other (h:=ne)];exact World.cell?_setCell_same _ _ _ h0
 ·exact World.cell?_setCell_same _ _ _ ((World.cell?_setCell_other _ _ _ _ ne.symm).trans h1)
 ·rw[World.cell?_setCell_other (h:=fun e=>hq (by rw[←e])),World.cell?_setCell_other (h:=fun e=>hq (by rw[←e]))]
 ·rw[World.frozen?_setCell,World.frozen?_setCell]
theorem Je{W:World}{A:Option Addr}{n:Nat}{xs:List Int}(h:Kd.C (Kd.int .i64) W A n xs){g:Nat}{B0 B1:Option Addr}{m0 m1 d0 d1:Nat}(h0:W.cell? ⟨g,0,none⟩=some (.slice B0 m0 d0))(h1:W.cell? ⟨g,1,none⟩=some (.slice B1 m1 d1))(x y:Value):Kd.C (Kd.int .i64) ((W.setCell ⟨g,0,none⟩ x).setCell ⟨g,1,none⟩ y) A n xs:=
 YT (YT h h0 (fun _ e=>by cases e) x) ((World.cell?_setCell_other _ _ _ _ bn).trans h1) (fun _ e=>by cases e) y
def YU(line:qT):Prop:=
 ∀(A0:Option Addr) (c0:Nat) (t:List Int) (A1:Option Addr) (c1:Nat) (p:List Int) (s:ByteArray) (r:(List Int×List Int)×ByteArray) (w:World),Kd.C (Kd.int .i64) w A0 t.length t→t.length≤c0→Kd.C (Kd.int .i64) w A1 p.length p→p.length≤c1→s.size≤600→line t p s=some r→
  Calls Tryz.prog 32 #[.agg #[.slice A0 t.length c0,.slice A1 p.length c1],.string s] w fun e w'=>YL w' e r.1.1 r.1.2 r.2∧Below w.heap.size w w'
def u9(line:qT)(text:ByteArray):Nat→Nat→Nat→List Int→List Int→ByteArray→Option ((List Int×List Int)×ByteArray)
 |0,_,_,t,p,out=>some ((t,p),out)
 |n+1,i,fr,t,p,out=>if bt text i=10 then(line t p (text.extract fr i)).bind fun r=>if out.size+r.2.size≤9223372036854775807 then u9 line text n (i+1) (i+1) r.1.1 r.1.2 (out++r.2) else none else u9 line text n (i+1) fr t p out
def Jf(line:qT)(k:Nat)(text:ByteArray):Option ByteArray:=
 if text.size≤600 then(eQ.f k 0).bind fun t=>(u9 line text text.size 0 0 t [] ⟨#[]⟩).bind fun r=>
  (gq.f k (r.1.2.length:Int)).bind fun d=>if r.2.size+100≤9223372036854775807∧d.size≤2 then some (((r.2++zq)++d)++⟨#[10]⟩) else none
 else some ⟨#[116,111,111,32,108,111,110,103,10]⟩
theorem am7(line:qT)(YV:YU line)(k:Nat)(text out:ByteArray)(w:World)(h:Jf line k text=some out):
  Calls Tryz.prog 11 #[.string text] w fun e w'=>e=.returned (.string out)∧Below w.heap.size w w':=by
 unfold Jf at h;by_cases h6:text.size≤600
 case neg=>
  rw[ag h6] at h;obtain rfl:=au h;have d1:decide (600<(text.size:Int))=true:=ap ae;have d2:decide (600<text.size)=true:=ap ae;clear h6;go_enter Tryz.func11,Tryz.ntmps11;go_wp2;go_ret;exact⟨rfl,Below.refl _ _⟩
 case pos=>
 rw[ah h6] at h;replace h:=aA.1 h;obtain⟨t0,Ce,h⟩:=h;replace h:=aA.1 h;obtain⟨⟨⟨tf,pf⟩,of⟩,hl,h⟩:=h;replace h:=aA.1 h;obtain⟨d,hd,h⟩:=h;by_cases hz:of.size+100≤9223372036854775807∧d.size≤2
 case neg=>simp only[ag hz] at h;cases h
 simp only[ah hz] at h;obtain rfl:=au h;have d1:decide (600<(text.size:Int))=false:=aD ae;have d2:decide (600<text.size)=false:=aD ae;have HT:=af.mk (eQ.calls k 0 t0 w Ce);have Ac:=af.mk YV;have HL:=af.mk hl;have HD:=af.mk (fun w=>gq.calls k _ d w hd);have HZ:=af.mk hz;have HX:=af.mk h6;clear h h6 hl hd hz Ce YV;go_enter Tryz.func11,Tryz.ntmps11;go_wp2_with fail
 refine HT.o.mono ?_;rintro e w1 ⟨vt,rfl,ho,hb⟩;obtain⟨At,ct,rfl⟩:=Kd.bJ ho;have HO:=af.mk ho;have HB:=af.mk hb;clear ho hb HT;go_wp2_with fail
 obtain⟨b,zt⟩:∃b,w1.heap.size+1=b:=⟨_,rfl⟩;have hbl:Below w1.heap.size w1 ((w1.alloc (.cells #[] 3)).alloc (.cells #[.slice At t0.length ct,.slice (some ⟨w1.heap.size,0,none⟩) 0 0] 49)):=cS (cS (Below.refl _ _) _) _;have hb1:w1.heap.size≤b:=ae
 have hsv:Bd ((w1.alloc (.cells #[] 3)).alloc (.cells #[.slice At t0.length ct,.slice (some ⟨w1.heap.size,0,none⟩) 0 0] 49)) b At ct t0 (some ⟨w1.heap.size,0,none⟩) 0 []:=by
  rw[←zt];exact⟨I_ _ _ _ _ 0,I_ _ _ _ _ 1,Ja _ _ _ _ 0,Ja _ _ _ _ 1,Kd.aN (Kd.bm HO.o).2.2 hbl,(Kd.bm HO.o).2.1,⟨rfl,by simp,fun h=>absurd h bn⟩,Nat.zero_le _⟩
 have Qc:Below w.heap.size w ((w1.alloc (.cells #[] 3)).alloc (.cells #[.slice At t0.length ct,.slice (some ⟨w1.heap.size,0,none⟩) 0 0] 49)):=aU HB.o hbl;have YW:=Nat.le_trans HB.o.size hb1;rw[zt];generalize((w1.alloc (.cells #[] 3)).alloc (.cells #[.slice At t0.length ct,.slice (some ⟨w1.heap.size,0,none⟩) 0 0] 49))=W1 at hsv Qc ⊢;have r5:=af.mk hsv;have fG:=af.mk Qc;have YX:=af.mk YW;clear hbl hb1 hsv Qc YW HB HO zt;go_loopg [4,5,6] text.size (fun kq v4 v5 v6 w'=> ∃(i fr:Nat) (t p:List Int) (o:ByteArray) (A0:Option Addr) (c0:Nat) (A1:Option Addr) (c1:Nat),v6=.int .i64 i∧v5=.int .i64 fr∧v4=.string o∧af (fr≤i∧i≤text.size)∧af ((text.size:Int) - i≤kq)∧af (u9 line text (text.size - i) i fr t p o=some ((tf,pf),of))∧af (Bd w' b A0 c0 t A1 c1 p)∧af (Below w.heap.size w w'))
 case atStart=>exact⟨0,0,_,_,_,_,_,_,_,rfl,rfl,rfl,⟨aH _,Nat.zero_le _⟩,⟨ae⟩,HL,r5,fG⟩
 case round=>
  clear HL r5 fG;obtain⟨i,fr,t,p,o,A0,c0,A1,c1,rfl,rfl,rfl,HI,HK,HL,r5,fG⟩:=hrel;by_cases ci:i<text.size
  case pos=>
   obtain⟨m,hm⟩:∃m,text.size - i=m+1:=⟨text.size - i - 1,ae⟩;have hel:=HL.o;rw[hm] at hel;simp only[u9] at hel;have hx:((text[i]'ci).toNat:Int)=bt text i:=kI text i ci;have q1:decide ((i:Int)<(text.size:Int))=true:=ap ae;have q2:(i:Int)<(text.size:Int):=ae;have q3:fr≤i:=HI.o.1;have q4:i≤text.size:=HI.o.2;have q5:(fr:Int)≤(i:Int):=ae;have q6:(i:Int)≤(text.size:Int):=ae;have zi:IntKind.i64.wrap ((i:Int)+1)=((i+1:Nat):Int):=by rw[IntKind.wrap_i64];have:=HX.o;omega
   by_cases hn:bt text i=10
   case neg=>
    rw[ag hn] at hel;have hb1:(bt text i==10)=false:=beq_eq_false_iff_ne.2 hn;have Cf:=af.mk hel;clear hn hel;go_wp2;go_roundg (text.size - (i+1))
    case measure=>have:=HK.o;omega
    case rel=>exact⟨i+1,fr,_,_,_,_,_,_,_,rfl,rfl,rfl,⟨ae⟩,⟨ae⟩,⟨by rw[show text.size - (i+1)=m by omega];exact Cf.o⟩,r5,fG⟩
   case pos=>
    rw[ah hn] at hel;have hb1:(bt text i==10)=true:=beq_iff_eq.2 hn;obtain⟨⟨⟨t',p'⟩,s2⟩,hst,hel⟩:=aA.1 hel;by_cases hz:o.size+s2.size≤9223372036854775807
    case neg=>simp only[ag hz] at hel;cases hel
    simp only[ah hz] at hel;have z2:(9223372036854775807<o.size+s2.size)=False:=eq_false ae;have Cf:=af.mk hel;have Da:=af.mk hst;have zZ:=af.mk (show(text.extract fr i).size≤600 by rw[ByteArray.size_extract];have:=HX.o;omega);clear hn hel hst hz;have v0:=r5.o.q0;have v1:=r5.o.q1;go_wp2_with fail
    have hdb:Below wr.heap.size wr wr.drew:=oL (Below.refl _ _);have bT:=af.mk (r5.o.below hdb);have fH:=af.mk (aU fG.o hdb);clear hdb v0 v1;refine jA (n:=12) (S:=fun w'=>w'.cell? ⟨b,0,none⟩=some (.slice A0 t.length c0)∧w'.cell? ⟨b,1,none⟩=some (.slice A1 p.length c1)) (ds:=[10]) #[F_,F_,F_,F_,F_,F_,F_,F_,F_,F_,F_,F_] am rfl rfl ⟨bT.o.q0,bT.o.q1⟩ (fun hHeld=>?_);generalize wr.drew=w0 at bT fH hHeld ⊢;have HB:=af.mk (Below.refl w0.heap.size w0);refine eF 1 27 (m_ 12 2) ?_;refine eF 2 28 (m_ 12 6) ?_;refine eF 3 29 (m_ 12 14) ?_;refine eF 4 30 (m_ 12 30) ?_;refine qR 0 26 (m_ 12 31) hHeld ?_;refine BV (σ:=Option Addr×Nat×Option Addr×Nat×Nat) 2 (m_ 12 1023) (fun s_=>[(31,.tuple #[.agg #[.slice s_.1 t'.length s_.2.1,.slice s_.2.2.1 p'.length s_.2.2.2.1],.string s2]),(25,.tuple #[.agg #[.slice s_.1 t'.length s_.2.1,.slice s_.2.2.1 p'.length s_.2.2.2.1],.string s2]),(32,.agg #[.slice s_.1 t'.length s_.2.1,.slice s_.2.2.1 p'.length s_.2.2.2.1]),(33,.string s2),(7,.pointer (some ⟨s_.2.2.2.2,0,none⟩))]) (fun s_ w'=>Below w0.heap.size w0 w'∧Kd.C (Kd.int .i64) w' s_.1 t'.length t'∧t'.length≤s_.2.1∧Kd.C (Kd.int .i64) w' s_.2.2.1 p'.length p'∧p'.length≤s_.2.2.2.1∧uZ w' s_.2.2.2.2∧w0.heap.size≤s_.2.2.2.2) ?_ ?_;rotate_left
    ·intro kX;refine sh (i:=5) (j:=9) (Ni:=some 31) (Nj:=some 7) (m_ 12 63) (m_ 12 543) rfl rfl rfl rfl am ao ao (fun K hK=>?_) (fun K hK=>?_)
     ·skip;have hcl:=Ac.o A0 c0 t A1 c1 p (text.extract fr i) _ w0 (bT.o.below HB.o).r0 bT.o.h0 (bT.o.below HB.o).r1 bT.o.h1 zZ.o Da.o;refine lV Tryz.func32 am rfl #[.agg #[.slice A0 t.length c0,.slice A1 p.length c1],.string (text.extract fr i)] (by rfl) rfl rfl (by simp only[List.map_toArray,List.map_cons,List.map_nil];rfl) ?_;with_reducible refine(hcl).mono ?_
      rintro e w5 ⟨⟨B0,d0,B1,d1,rfl,k0,g0,k1,g1⟩,hb⟩;refine⟨_,rfl,?_⟩;clear hcl;have n_:=af.mk (aU HB.o hb);clear HB;have HB:=n_;clear n_;have tu:=af.mk k0;have aC:=af.mk k1;have Be:=af.mk g0;have Bf:=af.mk g1;clear k0 k1 g0 g1 hb;refine hK.out _ _ ⟨(HB.o.cell (p:=⟨b,0,none⟩) (World.block_lt_of_cell? _ _ bT.o.q0)).trans bT.o.q0,(HB.o.cell (p:=⟨b,1,none⟩) (World.block_lt_of_cell? _ _ bT.o.q1)).trans bT.o.q1⟩ (fun hHeld=>?_);clear hK K;refine eE (a':=?_) ?_ ?_;rotate_left;(show Act.put _ (some 31) _=_;simp only[Act.put,List.setIfInBounds_toArray,List.set_cons_zero,List.set_cons_succ,dh,fb];rfl);refine eF 6 25 (m_ 12 127) ?_;refine eF 7 32 (m_ 12 255) ?_;refine eF 8 33 (m_ 12 511) ?_;refine fa (i:=9) (N:=some 7) (m_ 12 1023) rfl rfl am ao (fun K hK=>?_);refine si (w1:=?_) (v:=?_) (by rfl) rfl ?_ ?_;rotate_left 2;(go_simp;constructor;(rfl);(rfl));have HG:=af.mk (uZ.new w5);have n_:=af.mk (Kd.g7 tu.o (.cells #[.slice none 0 0,.slice none 0 0] 49));clear tu;have tu:=n_;clear n_;have n_:=af.mk (Kd.g7 aC.o (.cells #[.slice none 0 0,.slice none 0 0] 49));clear aC;have aC:=n_;clear n_;have Bg:=af.mk (show w0.heap.size≤w5.heap.size from HB.o.size);have n_:=af.mk (cS HB.o (.cells #[.slice none 0 0,.slice none 0 0] 49));clear HB;have HB:=n_;clear n_;refine hK.out _ _ ⟨(HB.o.cell (p:=⟨b,0,none⟩) (World.block_lt_of_cell? _ _ bT.o.q0)).trans bT.o.q0,(HB.o.cell (p:=⟨b,1,none⟩) (World.block_lt_of_cell? _ _ bT.o.q1)).trans bT.o.q1⟩ (fun hHeld=>?_);clear hK K;refine eE (a':=?_) ?_ ?_;rotate_left;(show Act.put _ (some 7) _=_;simp only[Act.put,List.setIfInBounds_toArray,List.set_cons_zero,List.set_cons_succ,dh,fb];rfl);exact eE (by simp only[jq,Act.put,List.setIfInBounds_toArray,List.set_cons_zero,List.set_cons_succ]) (kX (B0,d0,B1,d1,w5.heap.size) _ ⟨HB.o,tu.o,Be.o,aC.o,Bf.o,HG.o,Bg.o⟩)
     ·skip;refine si (w1:=?_) (v:=?_) (by rfl) rfl ?_ ?_;rotate_left 2;(go_simp;constructor;(rfl);(rfl));have HG:=af.mk (uZ.new w0);have Bg:=af.mk (show w0.heap.size≤w0.heap.size from HB.o.size);have n_:=af.mk (cS HB.o (.cells #[.slice none 0 0,.slice none 0 0] 49));clear HB;have HB:=n_;clear n_;refine hK.out _ _ ⟨(HB.o.cell (p:=⟨b,0,none⟩) (World.block_lt_of_cell? _ _ bT.o.q0)).trans bT.o.q0,(HB.o.cell (p:=⟨b,1,none⟩) (World.block_lt_of_cell? _ _ bT.o.q1)).trans bT.o.q1⟩ (fun hHeld=>?_);clear hK K;refine eE (a':=?_) ?_ ?_;rotate_left;(show Act.put _ (some 7) _=_;simp only[Act.put,List.setIfInBounds_toArray,List.set_cons_zero,List.set_cons_succ,dh,fb];rfl);refine fa (i:=5) (N:=some 31) (m_ 12 575) rfl rfl am ao (fun K hK=>?_);have hcl:=Ac.o A0 c0 t A1 c1 p (text.extract fr i) _ (w0.alloc (.cells #[.slice none 0 0,.slice none 0 0] 49)) (bT.o.below HB.o).r0 bT.o.h0 (bT.o.below HB.o).r1 bT.o.h1 zZ.o Da.o;refine lV Tryz.func32 am rfl #[.agg #[.slice A0 t.length c0,.slice A1 p.length c1],.string (text.extract fr i)] (by rfl) rfl rfl (by simp only[List.map_toArray,List.map_cons,List.map_nil];rfl) ?_;with_reducible refine(hcl).mono ?_
      rintro e w5 ⟨⟨B0,d0,B1,d1,rfl,k0,g0,k1,g1⟩,hb⟩;refine⟨_,rfl,?_⟩;clear hcl;have n_:=af.mk (HG.o.below hb);clear HG;have HG:=n_;clear n_;have n_:=af.mk (aU HB.o hb);clear HB;have HB:=n_;clear n_;have tu:=af.mk k0;have aC:=af.mk k1;have Be:=af.mk g0;have Bf:=af.mk g1;clear k0 k1 g0 g1 hb;refine hK.out _ _ ⟨(HB.o.cell (p:=⟨b,0,none⟩) (World.block_lt_of_cell? _ _ bT.o.q0)).trans bT.o.q0,(HB.o.cell (p:=⟨b,1,none⟩) (World.block_lt_of_cell? _ _ bT.o.q1)).trans bT.o.q1⟩ (fun hHeld=>?_);clear hK K;refine eE (a':=?_) ?_ ?_;rotate_left;(show Act.put _ (some 31) _=_;simp only[Act.put,List.setIfInBounds_toArray,List.set_cons_zero,List.set_cons_succ,dh,fb];rfl);refine eF 6 25 (m_ 12 639) ?_;refine eF 7 32 (m_ 12 767) ?_;refine eF 8 33 (m_ 12 1023) ?_;exact eE (by simp only[jq,Act.put,List.setIfInBounds_toArray,List.set_cons_zero,List.set_cons_succ]) (kX (B0,d0,B1,d1,w0.heap.size) _ ⟨HB.o,tu.o,Be.o,aC.o,Bf.o,HG.o,Bg.o⟩)
    rintro⟨B0,d0,B1,d1,g⟩ w6 ⟨hb,k0,g0,k1,g1,hg,hgl⟩;dsimp only at k0 g0 k1 g1 hg hgl;have n_:=af.mk (hb);clear HB;have HB:=n_;clear n_;have tu:=af.mk k0;have aC:=af.mk k1;have Be:=af.mk g0;have Bf:=af.mk g1;have HG:=af.mk hg;have Bg:=af.mk hgl;clear k0 g0 k1 g1 hg hgl hb;have y0:=HG.o.c0;have y1:=HG.o.c1;have y2:=HG.o.f0;have y3:=HG.o.f1;have hHeld:w6.cell? ⟨b,0,none⟩=some (.slice A0 t.length c0)∧w6.cell? ⟨b,1,none⟩=some (.slice A1 p.length c1):=⟨(HB.o.cell (p:=⟨b,0,none⟩) (World.block_lt_of_cell? _ _ bT.o.q0)).trans bT.o.q0,(HB.o.cell (p:=⟨b,1,none⟩) (World.block_lt_of_cell? _ _ bT.o.q1)).trans bT.o.q1⟩;refine eE (a':=?_) ?_ ?_;rotate_left;(simp only[jq,Act.put,List.setIfInBounds_toArray,List.set_cons_zero,List.set_cons_succ];rfl);refine oN (i:=10) (N:=none) (m_ 12 2047) rfl rfl am ao (fun K hK=>?_);refine pD (w1:=?_) (by rfl) rfl ?_ ?_;rotate_left;(go_simp;rfl);refine hK.out _ _ ?_;clear hK K;refine eF 11 8 (m_ 12 4095) ?_;refine jB am ?_;have pv:=Jd.mk' HG.o.c0 HG.o.c1 (.slice B0 t'.length d0) (.slice B1 p'.length d1);have k0:=Je tu.o HG.o.c0 HG.o.c1 (.slice B0 t'.length d0) (.slice B1 p'.length d1);have k1:=Je aC.o HG.o.c0 HG.o.c1 (.slice B0 t'.length d0) (.slice B1 p'.length d1);have Jg:Below w0.heap.size w0 ((w6.setCell ⟨g,0,none⟩ (.slice B0 t'.length d0)).setCell ⟨g,1,none⟩ (.slice B1 p'.length d1)):=Below.setCell (Below.setCell HB.o (p:=⟨g,0,none⟩) Bg.o _) (p:=⟨g,1,none⟩) Bg.o _;have Bh:=bT.o.below Jg;clear y0 y1 y2 y3;generalize((w6.setCell ⟨g,0,none⟩ (.slice B0 t'.length d0)).setCell ⟨g,1,none⟩ (.slice B1 p'.length d1))=w7 at pv k0 k1 Jg Bh ⊢;have v0:=pv.c0;have v1:=pv.c1;have u0:=Bh.q0;have u1:=Bh.q1;have u2:=Bh.f0;have u3:=Bh.f1;have pw:=Jd.mk' u0 u1 (.slice B0 t'.length d0) (.slice B1 p'.length d1);have am8:=af.mk (Bd.mk (c0:=d0) (c1:=d1) pw.c0 pw.c1 ((pw.fr _).trans u2) ((pw.fr _).trans u3) (Je k0 u0 u1 _ _) Be.o (Je k1 u0 u1 _ _) Bf.o);have am9:=af.mk (Below.setCell (Below.setCell (aU fH.o Jg) (p:=⟨b,0,none⟩) YX.o (.slice B0 t'.length d0)) (p:=⟨b,1,none⟩) YX.o (.slice B1 p'.length d1));clear pv k0 k1 Jg Bh pw HG Be Bf tu aC HB fH bT r5 fG;go_wp2;go_roundg (text.size - (i+1))
    case measure=>have:=HK.o;omega
    case rel=>exact⟨i+1,i+1,_,_,_,_,_,_,_,rfl,rfl,rfl,⟨ae⟩,⟨ae⟩,⟨by rw[show text.size - (i+1)=m by omega];exact Cf.o⟩,am8,am9⟩
  case neg=>
   have hi:i=text.size:=by have:=HI.o;omega
   subst hi;have hel:=HL.o;rw[Nat.sub_self] at hel;simp only[u9,Option.some.injEq,Prod.mk.injEq] at hel;obtain⟨⟨rfl,rfl⟩,rfl⟩:=hel;have v1:=r5.o.q1;have y1:(9223372036854775807<o.size+7)=False:=eq_false (by have:=HZ.o;omega);have y2:(9223372036854775807<o.size+7+d.size)=False:=eq_false (by have:=HZ.o;omega);have y3:(9223372036854775807<o.size+7+d.size+1)=False:=eq_false (by have:=HZ.o;omega);clear HL r5 ci;go_wp2_with (go_at_call 33;with_reducible refine(HD.o _).mono ?_;rintro e w' ⟨rfl,hb⟩;have bK:=af.mk (aU fG.o hb);clear hb)
   go_ret;exact⟨rfl,bK.o⟩
structure lR(w W:World)(A0:Option Addr)(c0:Nat)(t:List Int)(A1:Option Addr)(c1:Nat)(p:List Int):Prop where
 s0:W.cell? ⟨w.heap.size,0,none⟩=some (.slice A0 t.length c0)
 s1:W.cell? ⟨w.heap.size,1,none⟩=some (.slice A1 p.length c1)
 bl:Below w.heap.size w W
theorem lR.below{w W W':World}{A0:Option Addr}{c0:Nat}{t:List Int}{A1:Option Addr}{c1:Nat}{p:List Int}(h:lR w W A0 c0 t A1 c1 p)(hb:Below W.heap.size W W'):lR w W' A0 c0 t A1 c1 p:=
 have l0:w.heap.size<W.heap.size:=World.block_lt_of_cell? _ _ h.s0
 ⟨(hb.cell (p:=⟨w.heap.size,0,none⟩) l0).trans h.s0,(hb.cell (p:=⟨w.heap.size,1,none⟩) l0).trans h.s1,aU h.bl hb⟩
theorem lR.new(w:World)(A0:Option Addr)(c0:Nat)(t:List Int)(A1:Option Addr)(c1:Nat)(p:List Int):
  lR w (w.alloc (.cells #[.slice A0 t.length c0,.slice A1 p.length c1] 49)) A0 c0 t A1 c1 p:=
 ⟨World.cell?_alloc_new w _ _ 0,World.cell?_alloc_new w _ _ 1,cS (Below.refl _ _) _⟩
theorem qz(W:World)(x:Int)(e:TypeId):Kd.C (Kd.int .i64) (W.alloc (.cells #[.int .i64 x] e)) (some ⟨W.heap.size,0,none⟩) 1 [x]:=by
 have h:(W.alloc (.cells #[.int .i64 x] e)).cell? ⟨W.heap.size,0,none⟩=some (.int .i64 x):=World.cell?_alloc_new W _ _ 0;refine⟨rfl,ae,fun _=>⟨_,rfl,fun j q hj=>?_⟩⟩;cases j with
 |zero=>
  cases hj;refine⟨[.int .i64 x],rfl,rfl,fun i u hu=>?_⟩;cases i with
  |zero=>cases hu;exact h
  |succ i=>cases hu
 |succ j=>cases hj
def Jh(t:List Int)(a b:Int):Option Int:=(jw.f a).bind fun u=>if u=true then(jw.f b).bind fun v=>if v=true then(if 0≤9*a+b∧9*a+b<t.length∧ -100≤a∧a≤100 then some (rd t (9*a+b)) else none) else some (-1) else some (-1)
def Bi(k:Nat)(t:List Int)(s:List UInt8)(a b:Int):Option ByteArray:=
 if s=[97,100,100] then(yg.f a b).bind fun n=>dr.f k [n] (decide (n≥0))
 else if s=[116,105,109,101,115] then(Jh t a b).bind fun n=>dr.f k [n] (decide (n≥0))
 else if s=[106,111,105,110] then(yh.f k t a b).bind fun r=>dr.f k [r.1] r.2
 else(yi.f k t a b).bind fun r=>dr.f k [r.1] r.2
def Ji(k:Nat)(t p:List Int)(s q:ByteArray):Option ByteArray:=
 (eh.f k q 2).bind fun r=>if r.2=false then some ⟨#[110,111,10]⟩ else
  match r.1 with
  |[a,b]=>Bi k t s.toList a b
  |_=>none
theorem am_(k:Nat):YN (Ji k):=by
 intro A0 c0 t A1 c1 p s q r w hr0 hc0 hr1 hc1 h;unfold Ji at h;obtain⟨⟨xs,ok⟩,hn,h⟩:=aA.1 h;have rZ:=af.mk hn;have aj:=af.mk hr0;have ax:=af.mk hc0;have HH:=af.mk h;have bF:=af.mk (lR.new w A0 c0 t A1 c1 p);clear hn hr0 hc0 hr1 hc1 h;go_enter Tryz.func58,Tryz.ntmps58;go_wp2_with fail
 (with_reducible refine(eh.calls k q 2 xs ok _ rZ.o).mono ?_)
 rintro e w3 ⟨v3,rfl,hR,hb⟩;have bY:=af.mk (bF.o.below hb);obtain⟨Ao,co,rfl⟩:=Kd.bJ hR;have h:=HH.o;clear HH bF rZ hb;cases ok with
 |false=>
  obtain rfl:=au h;clear h hR;go_wp2;go_ret;exact⟨rfl,bY.o.bl⟩
 |true=>
  simp only[Bool.true_eq_false,if_false] at h;rcases xs with _|⟨a,_|⟨b,_|⟨_,_⟩⟩⟩
  ·cases h
  ·cases h
  case cons.cons.cons=>cases h
  have h:Bi k t s.toList a b=some r:=h;obtain⟨ad,e1,g0⟩:=Kd.ck (Kd.bm hR).2.2 0 ae (by show(0:Int)<2;omega);obtain⟨kp,e2,g1⟩:=Kd.ck (Kd.bm hR).2.2 1 ae (by show(1:Int)<2;omega);subst e1;cases e2;rw[show[a,b].length=2 from rfl];have g0:w3.cell? ad=some (.int .i64 a):=g0;have g1:w3.cell? ⟨ad.block,ad.off+1,none⟩=some (.int .i64 b):=g1;have u0:=bY.o.s0;clear hR;unfold Bi at h;by_cases d1:s.toList=[97,100,100]
  ·rw[ah d1] at h;obtain⟨n,hn,h⟩:=aA.1 h;have w1:(s.toList==[97,100,100])=true:=by rw[d1];rfl
   have HH:=af.mk h;have HN:=af.mk hn;clear h hn d1;go_wp2_with (go_at_call 16;(with_reducible refine(yg.calls a b n _ HN.o).mono ?_);rintro e w' ⟨rfl,⟨nd,rfl⟩⟩)
   refine(dr.calls k (some ⟨_,0,none⟩) 1 [n] _ r _ (qz _ n 3) (aH _) HH.o).mono ?_;rintro e w5 ⟨rfl,hb5⟩;go_wp2;go_ret;exact⟨rfl,aU bY.o.bl (aU (cS (bb (Below.refl _ _) _) _) hb5)⟩
  rw[ag d1] at h;by_cases d2:s.toList=[116,105,109,101,115]
  ·rw[ah d2] at h;obtain⟨n,hn,h⟩:=aA.1 h;have w1:(s.toList==[97,100,100])=false:=beq_eq_false_iff_ne.2 d1;have w2:(s.toList==[116,105,109,101,115])=true:=by rw[d2];rfl
   have HH:=af.mk h;unfold Jh at hn;obtain⟨u,hu,hn⟩:=aA.1 hn;have HU:=af.mk hu;clear h d1 d2 hu;cases u with
   |false=>
    obtain rfl:=au hn;clear hn;go_wp2_with (go_at_call 37;(with_reducible refine(jw.calls a false _ HU.o).mono ?_);rintro e w' ⟨rfl,⟨nd,rfl⟩⟩)
    refine(dr.calls k (some ⟨_,0,none⟩) 1 [(-1)] _ r _ (qz _ (-1) 3) (aH _) HH.o).mono ?_;rintro e w5 ⟨rfl,hb5⟩;go_wp2;go_ret;exact⟨rfl,aU bY.o.bl (aU (cS (bb (Below.refl _ _) _) _) hb5)⟩
   |true=>
    rw[ah rfl] at hn;obtain⟨v,hv,hn⟩:=aA.1 hn;have HV:=af.mk hv;clear hv;cases v with
    |false=>
     obtain rfl:=au hn;clear hn;go_wp2_with (first|(go_at_call 37;(with_reducible refine(jw.calls a true _ HU.o).mono ?_);rintro e w' ⟨rfl,⟨nd,rfl⟩⟩)|(go_at_call 37;(with_reducible refine(jw.calls b false _ HV.o).mono ?_);rintro e w' ⟨rfl,⟨Gu,rfl⟩⟩))
     refine(dr.calls k (some ⟨_,0,none⟩) 1 [(-1)] _ r _ (qz _ (-1) 3) (aH _) HH.o).mono ?_;rintro e w5 ⟨rfl,hb5⟩;go_wp2;go_ret;exact⟨rfl,aU bY.o.bl (aU (cS (bb (Below.refl _ _) _) _) hb5)⟩
    |true=>
     rw[ah rfl] at hn;by_cases hz:0≤9*a+b∧9*a+b<t.length∧ -100≤a∧a≤100
     case neg=>rw[ag hz] at hn;cases hn
     rw[ah hz] at hn;obtain rfl:=au hn;obtain⟨ad2,e2,g2⟩:=Kd.ck (Kd.aN aj.o bY.o.bl) (9*a+b) hz.1 hz.2.1;subst e2;have T2:=af.mk (World.block_lt_of_cell? _ _ g2);have z1:IntKind.i64.wrap (9*a)=9*a:=by rw[IntKind.wrap_i64];omega
     have z2:IntKind.i64.wrap (9*a+b)=9*a+b:=by rw[IntKind.wrap_i64];have:=hz.2.1;have:=Kd.aaQ aj.o;omega
     have q1:=hz.1;have q2:=hz.2.1;clear hn hz;go_wp2_with (first|(go_at_call 37;(with_reducible refine(jw.calls a true _ HU.o).mono ?_);rintro e w' ⟨rfl,⟨nd,rfl⟩⟩)|(go_at_call 37;(with_reducible refine(jw.calls b true _ HV.o).mono ?_);rintro e w' ⟨rfl,⟨Gu,rfl⟩⟩))
     refine(dr.calls k (some ⟨_,0,none⟩) 1 [(rd t (9*a+b))] _ r _ (qz _ (rd t (9*a+b)) 3) (aH _) HH.o).mono ?_;rintro e w5 ⟨rfl,hb5⟩;go_wp2;go_ret;exact⟨rfl,aU bY.o.bl (aU (cS (bb (Below.refl _ _) _) _) hb5)⟩
  rw[ag d2] at h;by_cases d3:s.toList=[106,111,105,110]
  ·rw[ah d3] at h;obtain⟨⟨l,ok⟩,hn,h⟩:=aA.1 h;have w1:(s.toList==[97,100,100])=false:=beq_eq_false_iff_ne.2 d1;have w2:(s.toList==[116,105,109,101,115])=false:=beq_eq_false_iff_ne.2 d2;have w3:(s.toList==[106,111,105,110])=true:=by rw[d3];rfl
   have HH:=af.mk h;have HN:=af.mk hn;clear h hn d1 d2 d3;go_wp2_with (go_at_call 115;(with_reducible refine(yh.calls k A0 c0 t a b l ok _ (Kd.aN aj.o bY.o.bl) ax.o HN.o).mono ?_);rintro e w4 ⟨rfl,hb4⟩)
   refine(dr.calls k (some ⟨_,0,none⟩) 1 [l] _ r _ (qz _ l 3) (aH _) HH.o).mono ?_;rintro e w5 ⟨rfl,hb5⟩;go_wp2;go_ret;exact⟨rfl,aU bY.o.bl (aU (cS hb4 _) hb5)⟩
  ·rw[ag d3] at h;obtain⟨⟨l,ok⟩,hn,h⟩:=aA.1 h;have w1:(s.toList==[97,100,100])=false:=beq_eq_false_iff_ne.2 d1;have w2:(s.toList==[116,105,109,101,115])=false:=beq_eq_false_iff_ne.2 d2;have w3:(s.toList==[106,111,105,110])=false:=beq_eq_false_iff_ne.2 d3;have HH:=af.mk h;have HN:=af.mk hn;clear h hn d1 d2 d3;go_wp2_with (go_at_call 116;(with_reducible refine(yi.calls k A0 c0 t a b l ok _ (Kd.aN aj.o bY.o.bl) ax.o HN.o).mono ?_);rintro e w4 ⟨rfl,hb4⟩)
   refine(dr.calls k (some ⟨_,0,none⟩) 1 [l] _ r _ (qz _ l 3) (aH _) HH.o).mono ?_;rintro e w5 ⟨rfl,hb5⟩;go_wp2;go_ret;exact⟨rfl,aU bY.o.bl (aU (cS hb4 _) hb5)⟩
theorem anN(k:Nat)(A0:Option Addr)(c0:Nat)(t:List Int)(A1:Option Addr)(c1:Nat)(p:List Int)(s r:ByteArray)(w:World)(hr0:Kd.C (Kd.int .i64) w A0 t.length t)(hc0:t.length≤c0)(hr1:Kd.C (Kd.int .i64) w A1 p.length p)(hc1:p.length≤c1)(w1:(s.toList==[107,101,114,110,101,108])=false)(w2:(s.toList==[99,101,110,116,114,101])=false)(w3:(s.toList==[98,114,97,99,107,101,116,115])=false)(w4:(s.toList==[98,111,116,104])=false)(w5:(s.toList==[115,119,97,112,115])=false)(w6:(s.toList==[99,108,111,115,101,115])=false)(w7:(s.toList==[113,117,97,100])=false)(w8:(s.toList==[111,114,100,101,114])=false)(w9:(s.toList==[115,112,97,110])=false)(mH:(s.toList==[100,101,114,105,118,101])=true)(h:((gO.f k t).bind fun a=>(eZ.f k a.1).bind fun b=>(fh.f k a.1 b.1).bind fun n=>dr.f k [n.1] ((a.2&&b.2)&&n.2))=some r):
  Calls Tryz.prog 57 #[.agg #[.slice A0 t.length c0,.slice A1 p.length c1],.string s] w fun e w'=>e=.returned (.string r)∧Below w.heap.size w w':=by
 have aj:=af.mk hr0;have ax:=af.mk hc0;have bN:=af.mk hr1;have cA:=af.mk hc1;have bF:=af.mk (lR.new w A0 c0 t A1 c1 p);clear hr0 hc0 hr1 hc1;obtain⟨⟨a,b1⟩,hx,h⟩:=aA.1 h;obtain⟨⟨b,b2⟩,hy,h⟩:=aA.1 h;obtain⟨⟨n,b3⟩,hz,h⟩:=aA.1 h;have HX:=af.mk hx;have HY:=af.mk hy;have HZ:=af.mk hz;have HF1:=af.mk (show b1=true→b2=true→dr.f k [n] b3=some r from fun e f=>by subst e;subst f;exact h);have HF2:=af.mk (show b1=true→¬b2=true→dr.f k [n] false=some r from fun e f=>by subst e;obtain rfl:=Bool.eq_false_iff.2 f;exact h);have HF3:=af.mk (show ¬b1=true→dr.f k [n] false=some r from fun f=>by obtain rfl:=Bool.eq_false_iff.2 f;exact h);clear hx hy hz h;go_enter Tryz.func57,Tryz.ntmps57;go_wp2_with (first|(go_at_call 112;(with_reducible refine(gO.calls k A0 c0 t a b1 _ (Kd.aN aj.o bF.o.bl) ax.o HX.o).mono ?_);rintro e w4 ⟨v4,rfl,hR,hb⟩;obtain⟨A4,c4,rfl⟩:=Kd.nu hR;have Jq:=af.mk (Kd.vN hR);have cI:=af.mk hb;clear hR hb)|(go_at_call 113;(with_reducible refine(eZ.calls k A4 c4 a b b2 _ Jq.o.2.2 Jq.o.2.1 HY.o).mono ?_);rintro e w5 ⟨v5,rfl,hR,hb⟩;obtain⟨A5,c5,rfl⟩:=Kd.nu hR;have Y_:=af.mk (Kd.vN hR);have ef:=af.mk hb;clear hR hb)|(go_at_call 114;(with_reducible refine(fh.calls k A4 c4 a A5 c5 b n b3 _ (Kd.aN Jq.o.2.2 ef.o) Jq.o.2.1 Y_.o.2.2 Y_.o.2.1 HZ.o).mono ?_);rintro e w6 ⟨rfl,hb⟩;have kc:=af.mk hb;clear hb))
 ·refine(dr.calls k (some ⟨_,0,none⟩) 1 [n] b3 r _ (qz _ n 3) (aH _) (HF1.o ‹b1=true› ‹b2=true›)).mono ?_;rintro e w9 ⟨rfl,tw⟩;go_wp2;go_ret;exact⟨rfl,aU bF.o.bl (aU (cS (aU cI.o (aU ef.o kc.o)) _) tw)⟩
 ·refine(dr.calls k (some ⟨_,0,none⟩) 1 [n] false r _ (qz _ n 3) (aH _) (HF2.o ‹b1=true› ‹¬b2=true›)).mono ?_;rintro e w9 ⟨rfl,tw⟩;go_wp2;go_ret;exact⟨rfl,aU bF.o.bl (aU (cS (aU cI.o (aU ef.o kc.o)) _) tw)⟩
 ·refine(dr.calls k (some ⟨_,0,none⟩) 1 [n] false r _ (qz _ n 3) (aH _) (HF3.o ‹¬b1=true›)).mono ?_;rintro e w9 ⟨rfl,tw⟩;go_wp2;go_ret;exact⟨rfl,aU bF.o.bl (aU (cS (aU cI.o (aU ef.o kc.o)) _) tw)⟩
def Fo(k:Nat)(t p:List Int)(s:ByteArray):Option ByteArray:=
 if s.toList=[107,101,114,110,101,108] then(lg.f k t).bind fun r=>dr.f k r.1 r.2
 else if s.toList=[99,101,110,116,114,101] then(jP.f k t).bind fun r=>dr.f k r.1 r.2
 else if s.toList=[98,114,97,99,107,101,116,115] then(cu.f k t).bind fun b=>if(!b||b9 t 81)=true then oG.f (b&&nC t) else none
 else if s.toList=[98,111,116,104] then(cu.f k t).bind fun b=>if(!b||b9 t 81)=true then oG.f (b&&l5 t) else none
 else if s.toList=[115,119,97,112,115] then(vo.f k t).bind fun b=>oG.f b
 else if s.toList=[99,108,111,115,101,115] then(r7.f k t p).bind fun q=>if q=true then some ⟨#[116,119,105,110,10]⟩ else(uk.f k t p).bind fun q=>some (if q=true then⟨#[104,101,120,10]⟩ else⟨#[110,111,116,10]⟩)
 else if s.toList=[113,117,97,100] then(yu.f k t p).bind fun r=>dr.f k r.1 r.2
 else if s.toList=[111,114,100,101,114] then(wL.f k t p).bind fun r=>dr.f k [r.1] r.2
 else if s.toList=[115,112,97,110] then(iq.f k t p).bind fun r=>dr.f k [(r.1.length:Int)] r.2
 else if s.toList=[100,101,114,105,118,101] then(gO.f k t).bind fun a=>(eZ.f k a.1).bind fun b=>(fh.f k a.1 b.1).bind fun n=>dr.f k [n.1] ((a.2&&b.2)&&n.2)
 else some ⟨#[119,104,97,116,10]⟩
theorem anO(k:Nat)(A0:Option Addr)(c0:Nat)(t:List Int)(A1:Option Addr)(c1:Nat)(p:List Int)(s r:ByteArray)(w:World)(hr0:Kd.C (Kd.int .i64) w A0 t.length t)(hc0:t.length≤c0)(hr1:Kd.C (Kd.int .i64) w A1 p.length p)(hc1:p.length≤c1)(w1:(s.toList==[107,101,114,110,101,108])=true)(h:((lg.f k t).bind fun r=>dr.f k r.1 r.2)=some r):
  Calls Tryz.prog 57 #[.agg #[.slice A0 t.length c0,.slice A1 p.length c1],.string s] w fun e w'=>e=.returned (.string r)∧Below w.heap.size w w':=by
 have aj:=af.mk hr0;have ax:=af.mk hc0;have bN:=af.mk hr1;have cA:=af.mk hc1;have bF:=af.mk (lR.new w A0 c0 t A1 c1 p);clear hr0 hc0 hr1 hc1;obtain⟨⟨l,b⟩,hx,h⟩:=aA.1 h;have HX:=af.mk hx;have HH:=af.mk h;clear hx h;go_enter Tryz.func57,Tryz.ntmps57;go_wp2_with (first|(go_at_call 101;(with_reducible refine(lg.calls k A0 c0 t l b _ (Kd.aN aj.o bF.o.bl) ax.o HX.o).mono ?_);rintro e w4 ⟨v4,rfl,hR,hb⟩;obtain⟨A4,c4,rfl⟩:=Kd.bJ hR;have tA:=af.mk hR;have cI:=af.mk hb;clear hR hb)|(go_at_call 61;(with_reducible refine(dr.calls k A4 c4 l b r _ (Kd.bm tA.o).2.2 (Kd.bm tA.o).2.1 HH.o).mono ?_);rintro e w5 ⟨rfl,hb⟩;have ef:=af.mk hb;clear hb))
 go_ret;exact⟨rfl,aU bF.o.bl (aU cI.o ef.o)⟩
theorem anP(k:Nat)(A0:Option Addr)(c0:Nat)(t:List Int)(A1:Option Addr)(c1:Nat)(p:List Int)(s r:ByteArray)(w:World)(hr0:Kd.C (Kd.int .i64) w A0 t.length t)(hc0:t.length≤c0)(hr1:Kd.C (Kd.int .i64) w A1 p.length p)(hc1:p.length≤c1)(w1:(s.toList==[107,101,114,110,101,108])=false)(w2:(s.toList==[99,101,110,116,114,101])=true)(h:((jP.f k t).bind fun r=>dr.f k r.1 r.2)=some r):
  Calls Tryz.prog 57 #[.agg #[.slice A0 t.length c0,.slice A1 p.length c1],.string s] w fun e w'=>e=.returned (.string r)∧Below w.heap.size w w':=by
 have aj:=af.mk hr0;have ax:=af.mk hc0;have bN:=af.mk hr1;have cA:=af.mk hc1;have bF:=af.mk (lR.new w A0 c0 t A1 c1 p);clear hr0 hc0 hr1 hc1;obtain⟨⟨l,b⟩,hx,h⟩:=aA.1 h;have HX:=af.mk hx;have HH:=af.mk h;clear hx h;go_enter Tryz.func57,Tryz.ntmps57;go_wp2_with (first|(go_at_call 102;(with_reducible refine(jP.calls k A0 c0 t l b _ (Kd.aN aj.o bF.o.bl) ax.o HX.o).mono ?_);rintro e w4 ⟨v4,rfl,hR,hb⟩;obtain⟨A4,c4,rfl⟩:=Kd.bJ hR;have tA:=af.mk hR;have cI:=af.mk hb;clear hR hb)|(go_at_call 61;(with_reducible refine(dr.calls k A4 c4 l b r _ (Kd.bm tA.o).2.2 (Kd.bm tA.o).2.1 HH.o).mono ?_);rintro e w5 ⟨rfl,hb⟩;have ef:=af.mk hb;clear hb))
 go_ret;exact⟨rfl,aU bF.o.bl (aU cI.o ef.o)⟩
theorem anQ(k:Nat)(A0:Option Addr)(c0:Nat)(t:List Int)(A1:Option Addr)(c1:Nat)(p:List Int)(s r:ByteArray)(w:World)(hr0:Kd.C (Kd.int .i64) w A0 t.length t)(hc0:t.length≤c0)(hr1:Kd.C (Kd.int .i64) w A1 p.length p)(hc1:p.length≤c1)(w1:(s.toList==[107,101,114,110,101,108])=false)(w2:(s.toList==[99,101,110,116,114,101])=false)(w3:(s.toList==[98,114,97,99,107,101,116,115])=true)(h:((cu.f k t).bind fun b=>if(!b||b9 t 81)=true then oG.f (b&&nC t) else none)=some r):
  Calls Tryz.prog 57 #[.agg #[.slice A0 t.length c0,.slice A1 p.length c1],.string s] w fun e w'=>e=.returned (.string r)∧Below w.heap.size w w':=by
 have aj:=af.mk hr0;have ax:=af.mk hc0;have bN:=af.mk hr1;have cA:=af.mk hc1;have bF:=af.mk (lR.new w A0 c0 t A1 c1 p);clear hr0 hc0 hr1 hc1;obtain⟨b,hx,h⟩:=aA.1 h;by_cases hz:(!b||b9 t 81)=true
 case neg=>rw[ag hz] at h;cases h
 rw[ah hz] at h;have HX:=af.mk hx;have HH:=af.mk h;have HZ:=af.mk (show b=true→b9 t 81=true from fun e=>by subst e;exact hz);clear hx h hz;go_enter Tryz.func57,Tryz.ntmps57;go_wp2_with (first|(go_at_call 104;(with_reducible refine(ane.calls k A0 c0 t _ b (Kd.aN aj.o bF.o.bl) ax.o HX.o HZ.o).mono ?_);rintro e w4 ⟨rfl,hb⟩;have cI:=af.mk hb;clear hb)|(go_at_call 103;(with_reducible refine(oG.calls _ r _ HH.o).mono ?_);rintro e w' ⟨rfl,⟨nd,rfl⟩⟩;skip))
 go_ret;exact⟨rfl,aU bF.o.bl (bb cI.o _)⟩
theorem anR(k:Nat)(A0:Option Addr)(c0:Nat)(t:List Int)(A1:Option Addr)(c1:Nat)(p:List Int)(s r:ByteArray)(w:World)(hr0:Kd.C (Kd.int .i64) w A0 t.length t)(hc0:t.length≤c0)(hr1:Kd.C (Kd.int .i64) w A1 p.length p)(hc1:p.length≤c1)(w1:(s.toList==[107,101,114,110,101,108])=false)(w2:(s.toList==[99,101,110,116,114,101])=false)(w3:(s.toList==[98,114,97,99,107,101,116,115])=false)(w4:(s.toList==[98,111,116,104])=true)(h:((cu.f k t).bind fun b=>if(!b||b9 t 81)=true then oG.f (b&&l5 t) else none)=some r):
  Calls Tryz.prog 57 #[.agg #[.slice A0 t.length c0,.slice A1 p.length c1],.string s] w fun e w'=>e=.returned (.string r)∧Below w.heap.size w w':=by
 have aj:=af.mk hr0;have ax:=af.mk hc0;have bN:=af.mk hr1;have cA:=af.mk hc1;have bF:=af.mk (lR.new w A0 c0 t A1 c1 p);clear hr0 hc0 hr1 hc1;obtain⟨b,hx,h⟩:=aA.1 h;by_cases hz:(!b||b9 t 81)=true
 case neg=>rw[ag hz] at h;cases h
 rw[ah hz] at h;have HX:=af.mk hx;have HH:=af.mk h;have HZ:=af.mk (show b=true→b9 t 81=true from fun e=>by subst e;exact hz);clear hx h hz;go_enter Tryz.func57,Tryz.ntmps57;go_wp2_with (first|(go_at_call 105;(with_reducible refine(anc.calls k A0 c0 t _ b (Kd.aN aj.o bF.o.bl) ax.o HX.o HZ.o).mono ?_);rintro e w4 ⟨rfl,hb⟩;have cI:=af.mk hb;clear hb)|(go_at_call 103;(with_reducible refine(oG.calls _ r _ HH.o).mono ?_);rintro e w' ⟨rfl,⟨nd,rfl⟩⟩;skip))
 go_ret;exact⟨rfl,aU bF.o.bl (bb cI.o _)⟩
theorem anS(k:Nat)(A0:Option Addr)(c0:Nat)(t:List Int)(A1:Option Addr)(c1:Nat)(p:List Int)(s r:ByteArray)(w:World)(hr0:Kd.C (Kd.int .i64) w A0 t.length t)(hc0:t.length≤c0)(hr1:Kd.C (Kd.int .i64) w A1 p.length p)(hc1:p.length≤c1)(w1:(s.toList==[107,101,114,110,101,108])=false)(w2:(s.toList==[99,101,110,116,114,101])=false)(w3:(s.toList==[98,114,97,99,107,101,116,115])=false)(w4:(s.toList==[98,111,116,104])=false)(w5:(s.toList==[115,119,97,112,115])=true)(h:((vo.f k t).bind fun b=>oG.f b)=some r):
  Calls Tryz.prog 57 #[.agg #[.slice A0 t.length c0,.slice A1 p.length c1],.string s] w fun e w'=>e=.returned (.string r)∧Below w.heap.size w w':=by
 have aj:=af.mk hr0;have ax:=af.mk hc0;have bN:=af.mk hr1;have cA:=af.mk hc1;have bF:=af.mk (lR.new w A0 c0 t A1 c1 p);clear hr0 hc0 hr1 hc1;obtain⟨b,hx,h⟩:=aA.1 h;have HX:=af.mk hx;have HH:=af.mk h;clear hx h;go_enter Tryz.func57,Tryz.ntmps57;go_wp2_with (first|(go_at_call 106;(with_reducible refine(vo.calls k A0 c0 t b _ (Kd.aN aj.o bF.o.bl) ax.o HX.o).mono ?_);rintro e w4 ⟨rfl,hb⟩;have cI:=af.mk hb;clear hb)|(go_at_call 103;(with_reducible refine(oG.calls _ r _ HH.o).mono ?_);rintro e w' ⟨rfl,⟨nd,rfl⟩⟩;skip))
 go_ret;exact⟨rfl,aU bF.o.bl (bb cI.o _)⟩
theorem anT(k:Nat)(A0:Option Addr)(c0:Nat)(t:List Int)(A1:Option Addr)(c1:Nat)(p:List Int)(s r:ByteArray)(w:World)(hr0:Kd.C (Kd.int .i64) w A0 t.length t)(hc0:t.length≤c0)(hr1:Kd.C (Kd.int .i64) w A1 p.length p)(hc1:p.length≤c1)(w1:(s.toList==[107,101,114,110,101,108])=false)(w2:(s.toList==[99,101,110,116,114,101])=false)(w3:(s.toList==[98,114,97,99,107,101,116,115])=false)(w4:(s.toList==[98,111,116,104])=false)(w5:(s.toList==[115,119,97,112,115])=false)(w6:(s.toList==[99,108,111,115,101,115])=true)(h:((r7.f k t p).bind fun q=>if q=true then some ⟨#[116,119,105,110,10]⟩ else(uk.f k t p).bind fun q=>some (if q=true then⟨#[104,101,120,10]⟩ else⟨#[110,111,116,10]⟩))=some r):
  Calls Tryz.prog 57 #[.agg #[.slice A0 t.length c0,.slice A1 p.length c1],.string s] w fun e w'=>e=.returned (.string r)∧Below w.heap.size w w':=by
 have aj:=af.mk hr0;have ax:=af.mk hc0;have bN:=af.mk hr1;have cA:=af.mk hc1;have bF:=af.mk (lR.new w A0 c0 t A1 c1 p);clear hr0 hc0 hr1 hc1;obtain⟨b,hx,h⟩:=aA.1 h;have HX:=af.mk hx;clear hx;cases b with
 |true=>
  obtain rfl:=au h;clear h;go_enter Tryz.func57,Tryz.ntmps57;go_wp2_with ((go_at_call 107;(with_reducible refine(r7.calls k A0 c0 t A1 c1 p true _ (Kd.aN aj.o bF.o.bl) ax.o (Kd.aN bN.o bF.o.bl) cA.o HX.o).mono ?_);rintro e w4 ⟨rfl,hb⟩;have cI:=af.mk hb;have bK:=af.mk (bF.o.below hb);have z0:=bK.o.s0;have z1:=bK.o.s1;clear hb))
  go_ret;exact⟨rfl,bK.o.bl⟩
 |false=>
  obtain⟨q,hy,h⟩:=aA.1 h;have HY:=af.mk hy;clear hy;cases q with
  |true=>
   obtain rfl:=au h;clear h;go_enter Tryz.func57,Tryz.ntmps57;go_wp2_with (first|(go_at_call 107;(with_reducible refine(r7.calls k A0 c0 t A1 c1 p false _ (Kd.aN aj.o bF.o.bl) ax.o (Kd.aN bN.o bF.o.bl) cA.o HX.o).mono ?_);rintro e w4 ⟨rfl,hb⟩;have cI:=af.mk hb;have bK:=af.mk (bF.o.below hb);have z0:=bK.o.s0;have z1:=bK.o.s1;clear hb)|(go_at_call 108;(with_reducible refine(uk.calls k A0 c0 t A1 c1 p true _ (Kd.aN aj.o bK.o.bl) ax.o (Kd.aN bN.o bK.o.bl) cA.o HY.o).mono ?_);rintro e w5 ⟨rfl,hb⟩;have ef:=af.mk hb;clear hb))
   go_ret;exact⟨rfl,aU bK.o.bl ef.o⟩
  |false=>
   obtain rfl:=au h;clear h;go_enter Tryz.func57,Tryz.ntmps57;go_wp2_with (first|(go_at_call 107;(with_reducible refine(r7.calls k A0 c0 t A1 c1 p false _ (Kd.aN aj.o bF.o.bl) ax.o (Kd.aN bN.o bF.o.bl) cA.o HX.o).mono ?_);rintro e w4 ⟨rfl,hb⟩;have cI:=af.mk hb;have bK:=af.mk (bF.o.below hb);have z0:=bK.o.s0;have z1:=bK.o.s1;clear hb)|(go_at_call 108;(with_reducible refine(uk.calls k A0 c0 t A1 c1 p false _ (Kd.aN aj.o bK.o.bl) ax.o (Kd.aN bN.o bK.o.bl) cA.o HY.o).mono ?_);rintro e w5 ⟨rfl,hb⟩;have ef:=af.mk hb;clear hb))
   go_ret;exact⟨rfl,aU bK.o.bl ef.o⟩
theorem anU(k:Nat)(A0:Option Addr)(c0:Nat)(t:List Int)(A1:Option Addr)(c1:Nat)(p:List Int)(s r:ByteArray)(w:World)(hr0:Kd.C (Kd.int .i64) w A0 t.length t)(hc0:t.length≤c0)(hr1:Kd.C (Kd.int .i64) w A1 p.length p)(hc1:p.length≤c1)(w1:(s.toList==[107,101,114,110,101,108])=false)(w2:(s.toList==[99,101,110,116,114,101])=false)(w3:(s.toList==[98,114,97,99,107,101,116,115])=false)(w4:(s.toList==[98,111,116,104])=false)(w5:(s.toList==[115,119,97,112,115])=false)(w6:(s.toList==[99,108,111,115,101,115])=false)(w7:(s.toList==[113,117,97,100])=true)(h:((yu.f k t p).bind fun r=>dr.f k r.1 r.2)=some r):
  Calls Tryz.prog 57 #[.agg #[.slice A0 t.length c0,.slice A1 p.length c1],.string s] w fun e w'=>e=.returned (.string r)∧Below w.heap.size w w':=by
 have aj:=af.mk hr0;have ax:=af.mk hc0;have bN:=af.mk hr1;have cA:=af.mk hc1;have bF:=af.mk (lR.new w A0 c0 t A1 c1 p);clear hr0 hc0 hr1 hc1;obtain⟨⟨l,b⟩,hx,h⟩:=aA.1 h;have HX:=af.mk hx;have HH:=af.mk h;clear hx h;go_enter Tryz.func57,Tryz.ntmps57;go_wp2_with (first|(go_at_call 109;(with_reducible refine(yu.calls k A0 c0 t A1 c1 p l b _ (Kd.aN aj.o bF.o.bl) ax.o (Kd.aN bN.o bF.o.bl) cA.o HX.o).mono ?_);rintro e w4 ⟨v4,rfl,hR,hb⟩;obtain⟨A4,c4,rfl⟩:=Kd.bJ hR;have tA:=af.mk hR;have cI:=af.mk hb;clear hR hb)|(go_at_call 61;(with_reducible refine(dr.calls k A4 c4 l b r _ (Kd.bm tA.o).2.2 (Kd.bm tA.o).2.1 HH.o).mono ?_);rintro e w5 ⟨rfl,hb⟩;have ef:=af.mk hb;clear hb))
 go_ret;exact⟨rfl,aU bF.o.bl (aU cI.o ef.o)⟩
theorem anV(k:Nat)(A0:Option Addr)(c0:Nat)(t:List Int)(A1:Option Addr)(c1:Nat)(p:List Int)(s r:ByteArray)(w:World)(hr0:Kd.C (Kd.int .i64) w A0 t.length t)(hc0:t.length≤c0)(hr1:Kd.C (Kd.int .i64) w A1 p.length p)(hc1:p.length≤c1)(w1:(s.toList==[107,101,114,110,101,108])=false)(w2:(s.toList==[99,101,110,116,114,101])=false)(w3:(s.toList==[98,114,97,99,107,101,116,115])=false)(w4:(s.toList==[98,111,116,104])=false)(w5:(s.toList==[115,119,97,112,115])=false)(w6:(s.toList==[99,108,111,115,101,115])=false)(w7:(s.toList==[113,117,97,100])=false)(w8:(s.toList==[111,114,100,101,114])=true)(h:((wL.f k t p).bind fun r=>dr.f k [r.1] r.2)=some r):
  Calls Tryz.prog 57 #[.agg #[.slice A0 t.length c0,.slice A1 p.length c1],.string s] w fun e w'=>e=.returned (.string r)∧Below w.heap.size w w':=by
 have aj:=af.mk hr0;have ax:=af.mk hc0;have bN:=af.mk hr1;have cA:=af.mk hc1;have bF:=af.mk (lR.new w A0 c0 t A1 c1 p);clear hr0 hc0 hr1 hc1;obtain⟨⟨n,b⟩,hx,h⟩:=aA.1 h;have HX:=af.mk hx;have HH:=af.mk h;clear hx h;go_enter Tryz.func57,Tryz.ntmps57;go_wp2_with ((go_at_call 110;(with_reducible refine(wL.calls k A0 c0 t A1 c1 p n b _ (Kd.aN aj.o bF.o.bl) ax.o (Kd.aN bN.o bF.o.bl) cA.o HX.o).mono ?_);rintro e w4 ⟨rfl,hb⟩;have cI:=af.mk hb;clear hb))
 refine(dr.calls k (some ⟨_,0,none⟩) 1 [n] b r _ (qz _ n 3) (aH _) HH.o).mono ?_;rintro e w9 ⟨rfl,tw⟩;go_wp2;go_ret;exact⟨rfl,aU bF.o.bl (aU (cS cI.o _) tw)⟩
theorem anW(k:Nat)(A0:Option Addr)(c0:Nat)(t:List Int)(A1:Option Addr)(c1:Nat)(p:List Int)(s r:ByteArray)(w:World)(hr0:Kd.C (Kd.int .i64) w A0 t.length t)(hc0:t.length≤c0)(hr1:Kd.C (Kd.int .i64) w A1 p.length p)(hc1:p.length≤c1)(w1:(s.toList==[107,101,114,110,101,108])=false)(w2:(s.toList==[99,101,110,116,114,101])=false)(w3:(s.toList==[98,114,97,99,107,101,116,115])=false)(w4:(s.toList==[98,111,116,104])=false)(w5:(s.toList==[115,119,97,112,115])=false)(w6:(s.toList==[99,108,111,115,101,115])=false)(w7:(s.toList==[113,117,97,100])=false)(w8:(s.toList==[111,114,100,101,114])=false)(w9:(s.toList==[115,112,97,110])=true)(h:((iq.f k t p).bind fun r=>dr.f k [(r.1.length:Int)] r.2)=some r):
  Calls Tryz.prog 57 #[.agg #[.slice A0 t.length c0,.slice A1 p.length c1],.string s] w fun e w'=>e=.returned (.string r)∧Below w.heap.size w w':=by
 have aj:=af.mk hr0;have ax:=af.mk hc0;have bN:=af.mk hr1;have cA:=af.mk hc1;have bF:=af.mk (lR.new w A0 c0 t A1 c1 p);clear hr0 hc0 hr1 hc1;obtain⟨⟨l,b⟩,hx,h⟩:=aA.1 h;have HX:=af.mk hx;have HH:=af.mk h;clear hx h;go_enter Tryz.func57,Tryz.ntmps57;go_wp2_with ((go_at_call 111;(with_reducible refine(iq.calls k A0 c0 t A1 c1 p l b _ (Kd.aN aj.o bF.o.bl) ax.o (Kd.aN bN.o bF.o.bl) cA.o HX.o).mono ?_);rintro e w4 ⟨v4,rfl,hR,hb⟩;obtain⟨A4,c4,rfl⟩:=Kd.bJ hR;have tA:=af.mk hR;have cI:=af.mk hb;clear hR hb))
 refine(dr.calls k (some ⟨_,0,none⟩) 1 [(l.length:Int)] b r _ (qz _ (l.length:Int) 3) (aH _) HH.o).mono ?_;rintro e w9 ⟨rfl,tw⟩;go_wp2;go_ret;exact⟨rfl,aU bF.o.bl (aU (cS cI.o _) tw)⟩
theorem anX(k:Nat)(A0:Option Addr)(c0:Nat)(t:List Int)(A1:Option Addr)(c1:Nat)(p:List Int)(s r:ByteArray)(w:World)(hr0:Kd.C (Kd.int .i64) w A0 t.length t)(hc0:t.length≤c0)(hr1:Kd.C (Kd.int .i64) w A1 p.length p)(hc1:p.length≤c1)(w1:(s.toList==[107,101,114,110,101,108])=false)(w2:(s.toList==[99,101,110,116,114,101])=false)(w3:(s.toList==[98,114,97,99,107,101,116,115])=false)(w4:(s.toList==[98,111,116,104])=false)(w5:(s.toList==[115,119,97,112,115])=false)(w6:(s.toList==[99,108,111,115,101,115])=false)(w7:(s.toList==[113,117,97,100])=false)(w8:(s.toList==[111,114,100,101,114])=false)(w9:(s.toList==[115,112,97,110])=false)(mH:(s.toList==[100,101,114,105,118,101])=false)(h:(some ⟨#[119,104,97,116,10]⟩)=some r):
  Calls Tryz.prog 57 #[.agg #[.slice A0 t.length c0,.slice A1 p.length c1],.string s] w fun e w'=>e=.returned (.string r)∧Below w.heap.size w w':=by
 have aj:=af.mk hr0;have ax:=af.mk hc0;have bN:=af.mk hr1;have cA:=af.mk hc1;have bF:=af.mk (lR.new w A0 c0 t A1 c1 p);clear hr0 hc0 hr1 hc1;obtain rfl:=au h;clear h;go_enter Tryz.func57,Tryz.ntmps57;go_wp2;go_ret;exact⟨rfl,bF.o.bl⟩
theorem anY(k:Nat):YM (Fo k):=by
 intro A0 c0 t A1 c1 p s r w hr0 hc0 hr1 hc1 h;unfold Fo at h;by_cases d:s.toList=[107,101,114,110,101,108]
 ·exact anO k A0 c0 t A1 c1 p s r w hr0 hc0 hr1 hc1 (by rw[d];rfl) (by rwa [ah d] at h)
 rw[ag d] at h;have w1:(s.toList==[107,101,114,110,101,108])=false:=beq_eq_false_iff_ne.2 d;clear d;by_cases d:s.toList=[99,101,110,116,114,101]
 ·exact anP k A0 c0 t A1 c1 p s r w hr0 hc0 hr1 hc1 w1 (by rw[d];rfl) (by rwa [ah d] at h)
 rw[ag d] at h;have w2:(s.toList==[99,101,110,116,114,101])=false:=beq_eq_false_iff_ne.2 d;clear d;by_cases d:s.toList=[98,114,97,99,107,101,116,115]
 ·exact anQ k A0 c0 t A1 c1 p s r w hr0 hc0 hr1 hc1 w1 w2 (by rw[d];rfl) (by rwa [ah d] at h)
 rw[ag d] at h;have w3:(s.toList==[98,114,97,99,107,101,116,115])=false:=beq_eq_false_iff_ne.2 d;clear d;by_cases d:s.toList=[98,111,116,104]
 ·exact anR k A0 c0 t A1 c1 p s r w hr0 hc0 hr1 hc1 w1 w2 w3 (by rw[d];rfl) (by rwa [ah d] at h)
 rw[ag d] at h;have w4:(s.toList==[98,111,116,104])=false:=beq_eq_false_iff_ne.2 d;clear d;by_cases d:s.toList=[115,119,97,112,115]
 ·exact anS k A0 c0 t A1 c1 p s r w hr0 hc0 hr1 hc1 w1 w2 w3 w4 (by rw[d];rfl) (by rwa [ah d] at h)
 rw[ag d] at h;have w5:(s.toList==[115,119,97,112,115])=false:=beq_eq_false_iff_ne.2 d;clear d;by_cases d:s.toList=[99,108,111,115,101,115]
 ·exact anT k A0 c0 t A1 c1 p s r w hr0 hc0 hr1 hc1 w1 w2 w3 w4 w5 (by rw[d];rfl) (by rwa [ah d] at h)
 rw[ag d] at h;have w6:(s.toList==[99,108,111,115,101,115])=false:=beq_eq_false_iff_ne.2 d;clear d;by_cases d:s.toList=[113,117,97,100]
 ·exact anU k A0 c0 t A1 c1 p s r w hr0 hc0 hr1 hc1 w1 w2 w3 w4 w5 w6 (by rw[d];rfl) (by rwa [ah d] at h)
 rw[ag d] at h;have w7:(s.toList==[113,117,97,100])=false:=beq_eq_false_iff_ne.2 d;clear d;by_cases d:s.toList=[111,114,100,101,114]
 ·exact anV k A0 c0 t A1 c1 p s r w hr0 hc0 hr1 hc1 w1 w2 w3 w4 w5 w6 w7 (by rw[d];rfl) (by rwa [ah d] at h)
 rw[ag d] at h;have w8:(s.toList==[111,114,100,101,114])=false:=beq_eq_false_iff_ne.2 d;clear d;by_cases d:s.toList=[115,112,97,110]
 ·exact anW k A0 c0 t A1 c1 p s r w hr0 hc0 hr1 hc1 w1 w2 w3 w4 w5 w6 w7 w8 (by rw[d];rfl) (by rwa [ah d] at h)
 rw[ag d] at h;have w9:(s.toList==[115,112,97,110])=false:=beq_eq_false_iff_ne.2 d;clear d;by_cases d:s.toList=[100,101,114,105,118,101]
 ·exact anN k A0 c0 t A1 c1 p s r w hr0 hc0 hr1 hc1 w1 w2 w3 w4 w5 w6 w7 w8 w9 (by rw[d];rfl) (by rwa [ah d] at h)
 rw[ag d] at h;have mH:(s.toList==[100,101,114,105,118,101])=false:=beq_eq_false_iff_ne.2 d;clear d;exact anX k A0 c0 t A1 c1 p s r w hr0 hc0 hr1 hc1 w1 w2 w3 w4 w5 w6 w7 w8 w9 mH h
def Bk(k:Nat):qT:=Jb k (Fo k) (Ji k)
theorem anZ(k:Nat):YU (Bk k):=am4 k _ (anY k) _ (am_ k)
end X
namespace P
def jQ.f(k:Nat)(a0:ByteArray):Option ByteArray:=X.Jf (X.Bk k) k a0
theorem jQ.calls(k:Nat)(a0:ByteArray)(r:ByteArray)(w:World)(h:jQ.f k a0=some r):
  Calls Tryz.prog 11 #[.string a0] w fun e w'=>e=.returned (.string r)∧Below w.heap.size w w':=
 X.am7 _ (X.anZ k) k a0 r w h
end P
namespace X
def ll(cur:List UInt8):List (List UInt8)→List (List UInt8)
 |[]=>[cur]
 |h::t=>(cur++h)::t
def eK(c:UInt8):List UInt8→List (List UInt8)
 |[]=>[[]]
 |b::l=>if b=c then[]::eK c l else ll [b] (eK c l)
theorem an0(cur:List UInt8)(l:List (List UInt8)):ll cur l≠[]:=by cases l<;>simp[ll]
theorem vq(c:UInt8)(l:List UInt8):eK c l≠[]:=by
 cases l with
 |nil=>simp[eK]
 |cons b l=>unfold eK;split<;>simp[an0]
theorem Jr{l:List (List UInt8)}(h:l≠[]):ll [] l=l:=by cases l with
 |nil=>exact absurd rfl h
 |cons a l=>rfl
theorem an1(a b:List UInt8){l:List (List UInt8)}(h:l≠[]):ll a (ll b l)=ll (a++b) l:=by cases l with
 |nil=>exact absurd rfl h
 |cons x l=>simp[ll]
theorem Za(cur:List UInt8)(c:UInt8)(l:List UInt8):ll cur (eK c (c::l))=cur::eK c l:=by simp[eK,ll]
theorem Zb(cur:List UInt8){b c:UInt8}(h:b≠c)(l:List UInt8):ll cur (eK c (b::l))=ll (cur++[b]) (eK c l):=by
 rw[eK,ag h,an1 _ _ (vq c l)]
theorem Zc(c:UInt8)(l:List UInt8):Lib.index (c::l) [c]=((0:Nat):Int):=by rw[Lib.index];simp[List.isPrefixOf]
theorem QE{b c:UInt8}(h:b≠c)(l:List UInt8):Lib.index (b::l) [c]=if Lib.index l [c]= -1 then -1 else Lib.index l [c]+1:=by
 have hp:([c]:List UInt8).isPrefixOf (b::l)=false:=by simp[List.isPrefixOf,Ne.symm h]
 rw[Lib.index,hp];simp
theorem Zd(c:UInt8):∀l:List UInt8,Lib.splitK [c] 0 (Lib.count l [c]) l=eK c l
 |[]=>rfl
 |b::l=>by
  have ih:=Zd c l;by_cases h:b=c
  ·subst h;rw[Lib.count_cons_eq,Nat.add_comm 1,Lib.splitK,Zc,ag bn]
   simpa [eK] using ih
  ·rw[Lib.count_cons_ne b c l h,eK,ag h, ←ih];by_cases hm:Lib.index l [c]= -1
   ·rw[Lib.count_miss hm];rfl
   ·have hge:=Lib.index_ge l [c];obtain⟨j,hj⟩:∃j:Nat,Lib.index l [c]=j:=⟨(Lib.index l [c]).toNat,ae⟩;rw[Lib.count_hit bn hj,Nat.add_comm 1,Lib.splitK,Lib.splitK,QE h,ag hm,hj,ag (by simp<;>omega),ag (by simp<;>omega)];have e:(((j:Int)+1).toNat)=j+1:=ae;simp only[e,Int.toNat_natCast,Nat.add_zero,List.take_succ_cons,List.length_singleton,List.drop_succ_cons,ll,List.singleton_append]
theorem QF(c:UInt8)(s:ByteArray):(Lib.splitB ⟨#[c]⟩ 0 (Lib.countB s ⟨#[c]⟩) s).map (·.data.toList)=eK c s.data.toList:=by
 rw[Lib.splitB_data];exact Zd c s.data.toList
theorem QG{a:List ByteArray}:∀{b:List ByteArray},a.map (·.data.toList)=b.map (·.data.toList)→a=b:=by
 induction a with
 |nil=>intro b h;cases b with
  |nil=>rfl
  |cons y b=>simp at h
 |cons x a ih=>intro b h;cases b with
  |nil=>simp at h
  |cons y b=>
   simp only[List.map_cons,List.cons.injEq] at h
   have e:x=y:=by
    obtain⟨⟨u⟩⟩:=x;obtain⟨⟨v⟩⟩:=y;have:=h.1;simp at this;rw[this]
   rw[e,ih h.2]
theorem map_dropLast{α β:Type}(f:α→β)(l:List α):l.dropLast.map f=(l.map f).dropLast:=by
 induction l with
 |nil=>rfl
 |cons a l ih=>cases l with
  |nil=>rfl
  |cons b l=>simp only[List.dropLast_cons_cons,List.map_cons] at ih ⊢;rw[ih]
def yy(c:Int)(s:ByteArray):Nat→Nat→Nat→List ByteArray
 |0,_,_=>[]
 |n+1,i,fr=>if bt s i=c then s.extract fr i::yy c s n (i+1) (i+1) else yy c s n (i+1) fr
theorem QH(c:UInt8)(s:ByteArray):∀n i fr:Nat,i+n=s.size→fr≤i→(yy c.toNat s n i fr).map (·.data.toList)=(ll ((s.data.toList.drop fr).take (i - fr)) (eK c (s.data.toList.drop i))).dropLast
 |0,i,fr,h,_=>by
  rw[show s.data.toList.drop i=[] from List.drop_eq_nil_of_le (by rw[←Lib.size_eq];omega)];rfl
 |n+1,i,fr,h,hf=>by
  have hi:i<s.data.toList.length:=by rw[←Lib.size_eq];omega
  rw[List.drop_eq_getElem_cons hi];unfold yy;rw[uX s i hi];by_cases hc:s.data.toList[i]=c
  ·rw[ah (by rw[hc]),hc,Za,List.map_cons,QH c s n (i+1) (i+1) ae (aH _),List.dropLast_cons_of_ne_nil (vq _ _),Nat.sub_self,List.take_zero,Jr (vq _ _)];exact congrArg (·::_) (Lib.extract_data s fr i)
  ·rw[ag (fun e=>hc (UInt8.toNat_inj.1 ae)),Zb _ hc,QH c s n (i+1) fr ae ae]
   congr 3
   rw[show i+1 - fr=(i - fr)+1 by omega,List.take_add_one,List.getElem?_drop,show fr+(i - fr)=i by omega,List.getElem?_eq_getElem hi];rfl
theorem an2(s:ByteArray):yy 10 s s.size 0 0=(Lib.splitB ⟨#[10]⟩ 0 (Lib.countB s ⟨#[10]⟩) s).dropLast:=by
 apply QG;rw[map_dropLast,QF];have:=QH 10 s s.size 0 0 ae (aH _);rw[show((10:UInt8).toNat:Int)=10 from rfl] at this;rw[this,List.drop_zero,Nat.sub_self,List.take_zero,Jr (vq _ _)]
theorem Ze(c:UInt8):∀l:List UInt8,(l.takeWhile (· !=c)).length=l.length→Lib.index l [c]= -1
 |[],_=>rfl
 |b::l,h=>by
  by_cases hb:b=c
  ·subst hb;simp at h
  ·have hb':(b !=c)=true:=by simpa using hb
   rw[List.takeWhile_cons_of_pos (by simpa using hb)] at h;rw[QE hb,Ze c l (by simpa using h),ah rfl]
theorem Zf(c:UInt8):∀l:List UInt8,(l.takeWhile (· !=c)).length<l.length→Lib.index l [c]=((l.takeWhile (· !=c)).length:Int)
 |[],h=>by simp at h
 |b::l,h=>by
  by_cases hb:b=c
  ·subst hb;rw[Zc];simp
  ·rw[List.takeWhile_cons_of_pos (by simpa using hb)] at h ⊢;rw[QE hb,Zf c l (by simpa using h),ag ae];simp
theorem Zg(s:ByteArray):(jO s).data.toList=s.data.toList.take (gZ s.data.toList):=by unfold jO;rw[Lib.extract_data];simp
theorem an3(s:ByteArray):(oF s).data.toList=s.data.toList.drop (gZ s.data.toList+1):=by unfold oF;exact Lib.extract_to_end _ _
theorem an4{s:ByteArray}(h:gZ s.data.toList=s.size):Lib.cut s.data.toList [32]=((jO s).data.toList,[],false):=by
 rw[Zg];unfold Lib.cut;rw[Ze 32 _ (by rw[←Lib.size_eq];exact h),ag ao,h,List.take_of_length_le (by rw[←Lib.size_eq];omega)]
theorem an5{s:ByteArray}(h:gZ s.data.toList<s.size):Lib.cut s.data.toList [32]=((jO s).data.toList,(oF s).data.toList,true):=by
 rw[Zg,an3];unfold Lib.cut;have:=Zf 32 s.data.toList (by rw[←Lib.size_eq];exact h);rw[this,ah ae];rfl
def B(l:List UInt8):ByteArray:=⟨l.toArray⟩
theorem Fs(a b:List UInt8):B a++B b=B (a++b):=by apply ByteArray.ext;simp[B]
theorem Zh(a:List UInt8):(B a).toList=a:=by rw[ByteArray.toList_eq];simp[B]
theorem po(a:List UInt8):(B a).size=a.length:=by simp[B,ByteArray.size]
theorem vr(n:Nat):(fV n).length≤2:=by unfold fV;split<;>simp
theorem an6:∀a:Fin 10,strOfNums [(wrap64 (48+(a.val:Int)))%256]=B (fV a.val):=by decide+kernel
theorem an7:∀a:Fin 100,10≤a.val→B (fV (a.val / 10))++strOfNums [(wrap64 (48+(Int.tmod (a.val:Int) 10)))%256]=B (fV a.val):=by decide+kernel
theorem an8:∀a:Fin 100,(strOfNums [(wrap64 (48+(Int.tmod (a.val:Int) 10)))%256]).size=1:=by decide+kernel
theorem Js(n:Nat)(h:n<100):Ev (fun k=>gq.f k (n:Int)) (B (fV n)):=by
 have small:∀m:Nat,m<10→Ev (fun k=>gq.f k (m:Int)) (B (fV m)):=fun m hm=>by
  refine Ev.step (fun k=>by rw[gq.f]) ?_;refine Ev.neg ae (Ev.neg ae (Ev.pos ae (Ev.done ?_)));exact congrArg some (an6 ⟨m,hm⟩)
 by_cases h1:n<10
 ·exact small n h1
 refine Ev.step (fun k=>by rw[gq.f]) ?_;refine Ev.neg ae (Ev.neg ae (Ev.neg ae ?_));rw[pO ae,bI ae ae];refine Ev.bind (a:=B (fV (n / 10))) ?_ (Ev.fix rfl ?_)
 ·have:=small (n / 10) ae
  rwa [show((n / 10:Nat):Int)=(n:Int) / 10 by omega] at this
 ·have e1:=an7 ⟨n,h⟩ (by show 10≤n;omega);have e2:=an8 ⟨n,h⟩;dsimp only at e1 e2;have:=vr (n / 10);refine Ev.pos (by rw[e2,po];omega) (Ev.done (congrArg some e1))
theorem QI{x:Int}(h:0≤x∧x<100):my.f x=some (B (fV x.toNat)):=ah h
def tB(l:List Int):List UInt8:=Lib.joinTail [32] (l.map fun x=>fV x.toNat)
def tC:List Int→List UInt8
 |[]=>[]
 |x::l=>fV x.toNat++tB l
theorem Zi(x:Int)(l:List Int):tB (x::l)=(32:UInt8)::(fV x.toNat++tB l):=by simp[tB,Lib.joinTail]
theorem Zj:∀l:List Int,(tB l).length≤3*l.length
 |[]=>by simp[tB,Lib.joinTail]
 |x::l=>by
  rw[Zi];have h1:=Zj l;have h2:=vr x.toNat;simp only[List.length_cons,List.length_append];omega
theorem Zk:∀l:List Int,(tC l).length≤3*l.length
 |[]=>by simp[tC]
 |x::l=>by
  have h1:=Zj l;have h2:=vr x.toNat;simp only[tC,List.length_cons,List.length_append];omega
theorem an9(l:List Int):Lib.join (l.map fun x=>fV x.toNat) [32]=tC l:=by
 cases l with
 |nil=>rfl
 |cons x l=>exact Lib.join_cons _ _ _
def pu(l:List Int)(ok:Bool):ByteArray:=if ok=true then B (tC l) else B [110,111]
theorem Ft{l:List Int}{ok:Bool}(h:ok=true→l.length≤91):(pu l ok).size≤280:=by
 unfold pu;cases ok with
 |false=>rw[ag ao,po];decide
 |true=>
  have:=h rfl;have h1:=Zk l;rw[ah rfl,po];omega
def r8(l:List Int):Prop:=∀x∈l,0≤x∧x<100
theorem Zl{l:List Int}(h:r8 l){i:Nat}(hi:i<l.length):0≤rd l (i:Int)∧rd l (i:Int)<100:=h _ (iK ae ae)
theorem an_(l:List Int){i:Nat}(hi:i<l.length):l.drop i=rd l (i:Int)::l.drop (i+1):=by rw[List.drop_eq_getElem_cons hi,jY l i hi]
theorem aoa{l:List Int}(hn:r8 l)(hl:l.length≤1000)(d:Nat):∀i:Nat,i+d=l.length→Ev (fun k=>gx.l0 k ((l.take i).map fun x=>B (fV x.toNat)) l (l.length:Int) (i:Int)) (B (tC l)):=by
 induction d with
 |zero=>
  intro i hi;refine Ev.step (fun k=>by rw[gx.l0]) ?_;refine Ev.neg ae (Ev.fix (a:=B (tC l)) ?_ (Ev.done rfl));have hj:=Zk l
  have e:((l.take i).map fun x=>B (fV x.toNat)).map (·.data.toList)=l.map fun x=>fV x.toNat:=by
   rw[List.take_of_length_le ae,List.map_map];rfl
  unfold strings_Join.f;rw[e,show((⟨#[32]⟩:ByteArray)).data.toList=[32] from rfl,an9,ah ⟨by rw[List.length_map,List.length_take];omega,ae⟩];rfl
 |succ d ih=>
  intro i hi;refine Ev.step (fun k=>by rw[gx.l0]) ?_;refine Ev.pos ae (Ev.pos ae (Ev.pos ae (Ev.fix (QI (Zl hn ae)) (Ev.pos (by rw[List.length_map,List.length_take];omega) ?_))));have nx:=ih (i+1) ae;have hlt:i<l.length:=ae;rw[List.take_add_one,List.getElem?_eq_getElem hlt,List.map_append] at nx;rw[bI ae ae,jY l i hlt];exact nx
theorem QJ{l:List Int}{ok:Bool}(h:ok=true→r8 l∧l.length≤1000):Ev (fun k=>gx.f k l ok) (pu l ok):=by
 unfold gx.f pu;cases ok with
 |false=>exact Ev.neg ao (Ev.done rfl)
 |true=>exact Ev.pos rfl (aoa (h rfl).1 (h rfl).2 l.length 0 ae)
theorem QK{n:Int}{ok:Bool}(h:ok=true→0≤n∧n<100):Ev (fun k=>jF.f k n ok) (pu [n] ok):=
 Ev.bind (QJ (l:=[n]) fun e=>⟨fun x hx=>by rw[List.mem_singleton.1 hx];exact h e,by simp⟩) (Ev.done rfl)
theorem aob{l:List Int}(hn:r8 l)(hl:l.length≤1000)(d:Nat):∀(i:Nat) (a:List UInt8),0<i→i+d=l.length→a.length+3*d≤100000→Ev (fun k=>dr.l0 k l (B a) (i:Int)) (B (a++tB (l.drop i)++[10])):=by
 induction d with
 |zero=>
  intro i a h0 hi ha;refine Ev.step (fun k=>by rw[dr.l0]) ?_;refine Ev.neg ae (Ev.pos (by rw[po];omega) (Ev.done ?_));rw[List.drop_eq_nil_of_le ae]
  show some (B a++B [10])=_
  rw[Fs];simp[tB,Lib.joinTail]
 |succ d ih=>
  intro i a h0 hi ha;have hr:=Zl hn (i:=i) ae;have hd:=vr (rd l (i:Int)).toNat;have nx:=ih (i+1) (a++[32]++fV (rd l (i:Int)).toNat) ae ae (by simp only[List.length_append,List.length_cons,List.length_nil];omega);have ev:=Js (rd l (i:Int)).toNat ae;rw[Int.toNat_of_nonneg hr.1] at ev;refine Ev.step (fun k=>by rw[dr.l0]) ?_;refine Ev.pos ae (Ev.pos ae (Ev.pos (by rw[po];omega) (Ev.pos ae (Ev.bind ev ?_))));refine Ev.pos (by rw[ByteArray.size_append,po,po,show(⟨#[32]⟩:ByteArray).size=1 from rfl];omega) ?_;rw[bI ae ae,show(⟨#[32]⟩:ByteArray)=B [32] from rfl,Fs,Fs];refine Ev.eq nx ?_;rw[an_ l (show i<l.length by omega),Zi];simp
theorem r_{l:List Int}{ok:Bool}(h:ok=true→r8 l∧l.length≤1000):Ev (fun k=>dr.f k l ok) (pu l ok++B [10]):=by
 unfold dr.f pu;cases ok with
 |false=>exact Ev.neg ao (Ev.done rfl)
 |true=>
  obtain⟨hn,hl⟩:=h rfl;refine Ev.pos rfl ?_;rw[ah rfl,Fs];cases l with
  |nil=>
   refine Ev.step (fun k=>by rw[dr.l0]) ?_;exact Ev.neg bn (Ev.pos ao (Ev.done rfl))
  |cons x l=>
   have hx:=hn x (List.mem_cons_self ..);have ev:=Js x.toNat ae;rw[Int.toNat_of_nonneg hx.1] at ev;have hd:=vr x.toNat;simp only[List.length_cons] at hl;refine Ev.step (fun k=>by rw[dr.l0]) ?_;refine Ev.pos (by simp only[List.length_cons];omega) (Ev.neg ae (Ev.pos ae (Ev.bind ev (Ev.pos (by rw[po,show(⟨#[]⟩:ByteArray).size=0 from rfl];omega) ?_))));have nx:=aob hn (by simp only[List.length_cons];omega) l.length 1 (fV x.toNat) ae (by simp only[List.length_cons];omega) ae;rw[show(⟨#[]⟩:ByteArray)=B [] from rfl,Fs,List.nil_append,show wrap64 (0+1)=((1:Nat):Int) by rw[bI ae ae];rfl];exact nx
def f9(b:UInt8):Bool:=decide (48≤b.toNat)&&decide (b.toNat≤57)
def kH:List UInt8→Option Int
 |[a]=>if f9 a=true then some ((a.toNat:Int) - 48) else none
 |[a,b]=>if f9 a=true∧f9 b=true then some (10*((a.toNat:Int) - 48)+((b.toNat:Int) - 48)) else none
 |_=>none
theorem Bl(a:UInt8):kH [a]=if f9 a=true then some ((a.toNat:Int) - 48) else none:=rfl
theorem yz(a b:UInt8):kH [a,b]=if f9 a=true∧f9 b=true then some (10*((a.toNat:Int) - 48)+((b.toNat:Int) - 48)) else none:=rfl
theorem sa{b:UInt8}:f9 b=true↔48≤b.toNat∧b.toNat≤57:=by simp[f9]
theorem Zm{w:List UInt8}{n:Int}(h:kH w=some n):(0≤n∧n<100)∧(1≤w.length∧w.length≤2):=by
 match w,h with
 |[a],h=>
  rw[Bl] at h;by_cases ha:f9 a=true
  ·rw[ah ha] at h;have:=sa.1 ha;obtain rfl:=au h;exact⟨ae,by simp⟩
  ·rw[ag ha] at h;cases h
 |[a,b],h=>
  rw[yz] at h;by_cases ha:f9 a=true∧f9 b=true
  ·rw[ah ha] at h;have h1:=sa.1 ha.1;have h2:=sa.1 ha.2;obtain rfl:=au h;exact⟨ae,by simp⟩
  ·rw[ag ha] at h;cases h
 |[],h=>cases h
 |_::_::_::_,h=>cases h
theorem QL(b:UInt8):nT.data.toList.contains b=f9 b:=by
 have:∀c:Fin 256,nT.data.toList.contains (UInt8.ofNat c.val)=f9 (UInt8.ofNat c.val):=by decide+kernel
 have h:=this ⟨b.toNat,b.toNat_lt⟩
 simpa using h
theorem Zn(w:List UInt8):Lib.trimS w nT.data.toList=[]↔ ∀b∈w,f9 b=true:=by
 unfold Lib.trimS Lib.trimLeftS Lib.trimRightS
 have key:∀l:List UInt8,l.dropWhile (nT.data.toList.contains ·)=[]↔ ∀b∈l,f9 b=true:=by
  intro l
  induction l with
  |nil=>simp
  |cons a l ih=>
   by_cases h:f9 a=true
   ·rw[List.dropWhile_cons_of_pos (by rw[QL];exact h),ih];simp[h]
   ·rw[List.dropWhile_cons_of_neg (by rw[QL];exact h)];simp[h]
 rw[key]
 constructor
 ·intro h;by_cases e:(w.reverse.dropWhile (nT.data.toList.contains ·))=[]
  ·have:=(key _).1 e;intro b hb;exact this b (List.mem_reverse.2 hb)
  ·exfalso
   have hh:=List.head_dropWhile_not (fun b=>nT.data.toList.contains b) e;have hm:=h _ (List.mem_reverse.2 (List.head_mem e));exact Bool.noConfusion (hh.symm.trans ((QL _).trans hm))
 ·intro h;have:w.reverse.dropWhile (nT.data.toList.contains ·)=[]:=(key _).2 fun b hb=>h b (List.mem_reverse.1 hb);rw[this];simp
theorem aoc{w:List UInt8}{n:Int}(h:kH w=some n):Lib.atoi w=some n:=by
 match w,h with
 |[a],h=>
  rw[Bl] at h;by_cases ha:f9 a=true
  ·rw[ah ha] at h;have h1:=sa.1 ha;obtain rfl:=au h;have e1:(a==45)=false:=by rw[beq_eq_false_iff_ne];rintro rfl;simp at h1
   have e2:(a==43)=false:=by rw[beq_eq_false_iff_ne];rintro rfl;simp at h1
   simp only[Lib.atoi,e1,e2,Lib.decNat,Lib.decFrom,Lib.digitVal,ah h1,List.isEmpty_cons,Bool.false_eq_true,if_false,Option.map_some]
   congr 1
   omega
  ·rw[ag ha] at h;cases h
 |[a,b],h=>
  rw[yz] at h;by_cases ha:f9 a=true∧f9 b=true
  ·rw[ah ha] at h;have h1:=sa.1 ha.1;have h2:=sa.1 ha.2;obtain rfl:=au h;have e1:(a==45)=false:=by rw[beq_eq_false_iff_ne];rintro rfl;simp at h1
   have e2:(a==43)=false:=by rw[beq_eq_false_iff_ne];rintro rfl;simp at h1
   simp only[Lib.atoi,e1,e2,Lib.decNat,Lib.decFrom,Lib.digitVal,ah h1,ah h2,List.isEmpty_cons,Bool.false_eq_true,if_false,Option.map_some]
   congr 1
   omega
  ·rw[ag ha] at h;cases h
 |[],h=>cases h
 |_::_::_::_,h=>cases h
theorem aod{w:List UInt8}(h:kH w=none)(h1:1≤w.length)(h2:w.length≤2):¬ ∀b∈w,f9 b=true:=by
 intro hd
 match w,h,h1,h2 with
 |[a],h,_,_=>rw[Bl] at h;rw[ah (hd a bn)] at h;cases h
 |[a,b],h,_,_=>rw[yz] at h;rw[ah ⟨hd a bn,hd b bn⟩] at h;cases h
 |_::_::_::_,_,_,h2=>simp at h2
theorem aoe{w:List UInt8}{n:Int}(h:kH w=some n):∀b∈w,f9 b=true:=by
 match w,h with
 |[a],h=>
  rw[Bl] at h;by_cases ha:f9 a=true
  ·intro b hb;rw[List.mem_singleton.1 hb];exact ha
  ·rw[ag ha] at h;cases h
 |[a,b],h=>
  rw[yz] at h;by_cases ha:f9 a=true∧f9 b=true
  ·intro c hc;rcases List.mem_cons.1 hc with rfl|hc
   ·exact ha.1
   ·rw[List.mem_singleton.1 hc];exact ha.2
  ·rw[ag ha] at h;cases h
 |[],h=>cases h
 |_::_::_::_,h=>cases h
def px:List (List UInt8)→Option (List Int)
 |[]=>some []
 |w::r=>(kH w).bind fun n=>(px r).map fun l=>n::l
theorem Jt{w:List UInt8}(r:List (List UInt8))(h:kH w=none):px (w::r)=none:=by unfold px;rw[h];rfl
theorem Bm{w:List UInt8}{n:Int}(r:List (List UInt8))(h:kH w=some n):px (w::r)=(px r).map fun l=>n::l:=by rw[px,h];rfl
theorem Zo:∀{ws:List (List UInt8)} {l:List Int},px ws=some l→r8 l∧l.length=ws.length
 |[],l,h=>by obtain rfl:=au h;exact⟨fun x hx=>(List.not_mem_nil hx).elim,rfl⟩
 |w::r,l,h=>by
  cases hw:kH w with
  |none=>rw[Jt r hw] at h;cases h
  |some n=>
   rw[Bm r hw] at h;obtain⟨l',h1,rfl⟩:=Option.map_eq_some_iff.1 h;obtain⟨h2,h3⟩:=Zo h1;refine⟨fun x hx=>?_,by simp[h3]⟩;rcases List.mem_cons.1 hx with rfl|hx
   ·exact(Zm hw).1
   ·exact h2 x hx
theorem aof{ws:List ByteArray}(hl:ws.length≤1000)(d:Nat):∀(i:Nat) (acc:List Int),i+d=ws.length→acc.length=i→
  (∀l,px ((ws.drop i).map (·.data.toList))=some l→Ev (fun k=>cM.l0 k acc ws (ws.length:Int) (i:Int)) (acc++l,true))∧(px ((ws.drop i).map (·.data.toList))=none→Ev (fun k=>cM.l0 k acc ws (ws.length:Int) (i:Int)) ([],false)):=by
 induction d with
 |zero=>
  intro i acc hi ha;rw[List.drop_eq_nil_of_le ae];refine⟨fun l h=>?_,fun h=>by cases h⟩;obtain rfl:=au h;refine Ev.step (fun k=>by rw[cM.l0]) ?_;exact Ev.neg ae (Ev.done bn)
 |succ d ih=>
  intro i acc hi ha;have hlt:i<ws.length:=ae
  have hrd:dM ByteArray.empty ws (i:Int)=ws[i]:=by
   unfold dM;rw[List.getD_eq_getElem?_getD,Int.toNat_natCast,List.getElem?_eq_getElem hlt];rfl
  rw[List.drop_eq_getElem_cons hlt,List.map_cons];have hsz:(ws[i]).size=(ws[i]).data.toList.length:=Lib.size_eq _
  have start:∀r,Ev (fun k=>if((ws[i]).size:Int)<1 then(some (([]:List Int),false)) else(if((ws[i]).size:Int)>2 then(some (([]:List Int),false)) else((strings_Trim.f (ws[i]) nT).bind fun aog=>(if aog.toList=([]:List UInt8) then((vF.f (ws[i])).bind fun aoh=>(if acc.length<17592186044416 then(cM.l0 k (acc++[aoh.1]) ws (ws.length:Int) ((i:Int)+1)) else none)) else(some (([]:List Int),false)))))) r→Ev (fun k=>cM.l0 k acc ws (ws.length:Int) (i:Int)) r:=fun r h=>by
   refine Ev.step (fun k=>by rw[cM.l0]) ?_;rw[hrd,bI ae ae];exact Ev.pos ae (Ev.pos ae (Ev.pos ae h))
  have trim:(h2:(ws[i]).size≤2)→strings_Trim.f (ws[i]) nT=some (B (Lib.trimS (ws[i]).data.toList nT.data.toList)):=fun h2=>ah ⟨ae,rfl⟩;cases hw:kH (ws[i]).data.toList with
  |none=>
   rw[Jt _ hw];refine⟨fun l h=>(by cases h),fun _=>start _ ?_⟩;by_cases h1:((ws[i]).size:Int)<1
   ·exact Ev.pos h1 (Ev.done rfl)
   refine Ev.neg h1 ?_;by_cases h2:((ws[i]).size:Int)>2
   ·exact Ev.pos h2 (Ev.done rfl)
   refine Ev.neg h2 (Ev.fix (trim ae) (Ev.neg ?_ (Ev.done rfl)));rw[Zh];exact fun e=>aod hw ae ae ((Zn _).1 e)
  |some n=>
   have hr:=Zm hw
   have go:∀r,Ev (fun k=>cM.l0 k (acc++[n]) ws (ws.length:Int) ((i:Int)+1)) r→Ev (fun k=>cM.l0 k acc ws (ws.length:Int) (i:Int)) r:=fun r h=>start r (by
    refine Ev.neg ae (Ev.neg ae (Ev.fix (trim ae) (Ev.pos ?_ (Ev.fix (a:=(n,none)) ?_ (Ev.pos ae h)))))
    ·rw[Zh];exact(Zn _).2 (aoe hw)
    ·unfold vF.f;rw[ah ae,aoc hw];rfl)
   rw[Bm _ hw];have nx:=ih (i+1) (acc++[n]) ae (by simp[ha]);refine⟨fun l h=>?_,fun h=>go _ (nx.2 (Option.map_eq_none_iff.1 h))⟩;obtain⟨l',h1,rfl⟩:=Option.map_eq_some_iff.1 h;have:=go _ (nx.1 l' h1)
   simpa using this
theorem aoi(l:List UInt8):Ev (fun k=>kg.f k (B l)) ((kH l).getD 0,(kH l).isSome):=by
 have hsz:=po l
 have digit:∀(i:Nat) (hi:i<l.length) (n:Int) (r:Int×Bool),i≤1→0≤n→n≤9→(f9 l[i]=true→Ev (fun k=>kg.l0 k (B l) (10*n+((l[i].toNat:Int) - 48)) ((i:Int)+1)) r)→(f9 l[i]=false→r=(0,false))→Ev (fun k=>kg.l0 k (B l) n (i:Int)) r:=by
  intro i hi n r i1 n0 n1 hy hn;refine Ev.step (fun k=>by rw[kg.l0]) ?_;refine Ev.pos ae (Ev.pos ae ?_);have hb:bt (B l) (i:Int)=(l[i].toNat:Int):=uX (B l) i hi;rw[hb];by_cases h1:(l[i].toNat:Int)<48
  ·exact Ev.pos h1 (Ev.done (congrArg some (hn (by rw[Bool.eq_false_iff];intro e;have:=sa.1 e;omega)).symm))
  refine Ev.neg h1 ?_;by_cases h2:(l[i].toNat:Int)>57
  ·exact Ev.pos h2 (Ev.done (congrArg some (hn (by rw[Bool.eq_false_iff];intro e;have:=sa.1 e;omega)).symm))
  refine Ev.neg h2 ?_;rw[Int.emod_eq_of_lt ae ae,bI (x:=10*n) ae ae,bI (x:=10*n+((l[i].toNat:Int) - 48)) ae ae,bI (x:=(i:Int)+1) ae ae];exact hy (sa.2 ae)
 have stop:∀n:Int,Ev (fun k=>kg.l0 k (B l) n (l.length:Int)) (n,true):=fun n=>by
  refine Ev.step (fun k=>by rw[kg.l0]) ?_;exact Ev.neg ae (Ev.done rfl)
 unfold kg.f;rw[Lh]
 match l,hsz,digit,stop with
 |[],hsz,_,_=>
  refine Ev.fix rfl (Ev.neg ?_ (Ev.done rfl));rw[hsz];decide
 |[a],hsz,digit,stop=>
  refine Ev.fix rfl (Ev.pos (by rw[hsz];simp) (digit 0 bn 0 _ ae ae ae (fun h=>?_) (fun h=>?_)))
  ·rw[Bl,ah (show f9 a=true from h)];refine Ev.eq (stop (10*0+((a.toNat:Int) - 48))) ?_;simp
  ·rw[Bl,ag (fun e=>by rw[show f9 a=false from h] at e;cases e)];rfl
 |[a,b],hsz,digit,stop=>
  refine Ev.fix rfl (Ev.pos (by rw[hsz];simp) (digit 0 bn 0 _ ae ae ae (fun h=>?_) (fun h=>?_)))
  ·have h:f9 a=true:=h;have ha:=sa.1 h;refine digit 1 bn (10*0+((a.toNat:Int) - 48)) _ ae ae ae (fun h'=>?_) (fun h'=>?_)
   ·rw[yz,ah ⟨h,h'⟩];refine Ev.eq (stop (10*(10*0+((a.toNat:Int) - 48))+((b.toNat:Int) - 48))) ?_;simp
   ·rw[yz,ag (fun e=>by rw[show f9 b=false from h'] at e;cases e.2)];rfl
  ·rw[yz,ag (fun e=>by rw[show f9 a=false from h] at e;cases e.1)];rfl
 |a::b::c::r,hsz,_,_=>
  refine Ev.fix rfl (Ev.neg ?_ (Ev.done rfl));rw[hsz];simp only[List.length_cons];rw[aD (p:=(_≤(2:Int))) ae];simp
theorem aoj(s:ByteArray):Ev (fun k=>kg.f k s) ((kH s.data.toList).getD 0,(kH s.data.toList).isSome):=aoi s.data.toList
theorem aok(s:ByteArray)(hs:s.size≤600)(n:Int)(d:Nat):∀(i fr:Nat) (acc:List Int),i+d=s.size→fr≤i→acc.length≤i→
  (∀l,px (ll ((s.data.toList.drop fr).take (i - fr)) (eK 32 (s.data.toList.drop i)))=some l→Ev (fun k=>eh.l0 k s n acc (fr:Int) (i:Int)) (acc++l,(((acc++l).length:Int)==n)))∧
  (px (ll ((s.data.toList.drop fr).take (i - fr)) (eK 32 (s.data.toList.drop i)))=none→∃ys,Ev (fun k=>eh.l0 k s n acc (fr:Int) (i:Int)) (ys,false)):=by
 have hsz:=Lib.size_eq s
 have word:∀(i fr:Nat) (acc:List Int) (r:List Int×Bool),fr≤i→i≤s.size→acc.length≤i→(∀m,kH ((s.data.toList.drop fr).take (i - fr))=some m→Ev (fun k=>eh.l0 k s n (acc++[m]) ((i:Int)+1) ((i:Int)+1)) r)→(kH ((s.data.toList.drop fr).take (i - fr))=none→r=(acc,false))→Ev (fun k=>eh.j1 k s n acc (fr:Int) (i:Int) true) r:=by
  intro i fr acc r hf hi ha hy hn;refine Ev.step (fun k=>by rw[eh.j1]) ?_;refine Ev.pos rfl (Ev.pos ae (Ev.pos ae (Ev.pos ae ?_)));rw[Int.toNat_natCast,Int.toNat_natCast];have ev:=aoj (s.extract fr i);rw[Lib.extract_data] at ev;refine Ev.bind ev ?_;rw[bI (x:=(i:Int)+1) ae ae];cases hw:kH ((s.data.toList.drop fr).take (i - fr)) with
  |none=>exact Ev.neg bn (Ev.done (congrArg some (hn hw).symm))
  |some m=>exact Ev.pos bn (Ev.pos ae (hy m hw))
 induction d with
 |zero=>
  intro i fr acc hi hf ha;rw[List.drop_eq_nil_of_le (by omega:s.data.toList.length≤i)];have e1:ll ((s.data.toList.drop fr).take (i - fr)) (eK 32 [])=[(s.data.toList.drop fr).take (i - fr)]:=by simp[eK,ll]
  rw[e1]
  have go:∀r,Ev (fun k=>eh.j1 k s n acc (fr:Int) (i:Int) true) r→Ev (fun k=>eh.l0 k s n acc (fr:Int) (i:Int)) r:=fun r h=>by
   refine Ev.step (fun k=>by rw[eh.l0]) ?_;exact Ev.pos ae (Ev.pos ae h)
  constructor
  ·intro l h;refine go _ (word i fr acc _ hf ae ha (fun m hm=>?_) (fun hm=>?_))
   ·rw[Bm _ hm] at h;obtain⟨l',h1,rfl⟩:=Option.map_eq_some_iff.1 h;obtain rfl:=au h1;refine Ev.step (fun k=>by rw[eh.l0]) ?_;exact Ev.neg ae (Ev.done rfl)
   ·rw[Jt _ hm] at h;cases h
  ·intro h;refine⟨acc,go _ (word i fr acc _ hf ae ha (fun m hm=>?_) (fun hm=>rfl))⟩;rw[Bm _ hm] at h;cases h
 |succ d ih=>
  intro i fr acc hi hf ha;have hlt:i<s.data.toList.length:=ae;rw[List.drop_eq_getElem_cons hlt];have hb:=uX s i hlt
  have go:∀r,Ev (fun k=>eh.j1 k s n acc (fr:Int) (i:Int) (((s.data.toList[i].toNat:Nat):Int)==32)) r→Ev (fun k=>eh.l0 k s n acc (fr:Int) (i:Int)) r:=fun r h=>by
   refine Ev.step (fun k=>by rw[eh.l0]) ?_;refine Ev.pos ae (Ev.neg ae (Ev.pos ae (Ev.pos ae ?_)));rw[hb];exact h
  by_cases hc:s.data.toList[i]=32
  ·rw[hc] at go ⊢;rw[Za];have nx:=fun m=>ih (i+1) (i+1) (acc++[m]) ae (aH _) (by simp;omega);simp only[Nat.sub_self,List.take_zero,Jr (vq _ _)] at nx
   constructor
   ·intro l h;refine go _ (word i fr acc _ hf ae ha (fun m hm=>?_) (fun hm=>?_))
    ·rw[Bm _ hm] at h;obtain⟨l',h1,rfl⟩:=Option.map_eq_some_iff.1 h;have:=(nx m).1 l' h1
     simpa using this
    ·rw[Jt _ hm] at h;cases h
   ·intro h;cases hm:kH ((s.data.toList.drop fr).take (i - fr)) with
    |none=>exact⟨acc,go _ (word i fr acc _ hf ae ha (fun m hm'=>by rw[hm] at hm';cases hm') (fun _=>rfl))⟩
    |some m=>
     rw[Bm _ hm] at h;obtain⟨ys,hy⟩:=(nx m).2 (Option.map_eq_none_iff.1 h);exact⟨ys,go _ (word i fr acc _ hf ae ha (fun m' hm'=>by rw[hm] at hm';obtain rfl:=au hm';exact hy) (fun hm'=>by rw[hm] at hm';cases hm'))⟩
  ·rw[Zb _ hc]
   have hne:(((s.data.toList[i].toNat:Nat):Int)==32)=false:=by
    rw[beq_eq_false_iff_ne];intro e;exact hc (UInt8.toNat_inj.1 (by have:(32:UInt8).toNat=32:=rfl;omega))
   rw[hne] at go
   have e1:(s.data.toList.drop fr).take (i - fr)++[s.data.toList[i]]=(s.data.toList.drop fr).take (i+1 - fr):=by
    rw[show i+1 - fr=(i - fr)+1 by omega,List.take_add_one,List.getElem?_drop,show fr+(i - fr)=i by omega,List.getElem?_eq_getElem hlt];rfl
   rw[e1]
   have go2:∀r,Ev (fun k=>eh.l0 k s n acc (fr:Int) ((i:Int)+1)) r→Ev (fun k=>eh.l0 k s n acc (fr:Int) (i:Int)) r:=fun r h=>go r (by
    refine Ev.step (fun k=>by rw[eh.j1]) ?_;refine Ev.neg ao ?_;rw[bI (x:=(i:Int)+1) ae ae];exact h)
   have nx:=ih (i+1) fr acc ae ae ae;exact⟨fun l h=>go2 _ (nx.1 l h),fun h=>by obtain⟨ys,hy⟩:=nx.2 h;exact⟨ys,go2 _ hy⟩⟩
theorem Zp(s:ByteArray)(hs:s.size≤600)(n:Nat):
  (∃xs,xs.length=n∧r8 xs∧Ev (fun k=>cM.f k s (n:Int)) (xs,true)∧Ev (fun k=>eh.f k s (n:Int)) (xs,true))∨
  (∃xs ys,Ev (fun k=>cM.f k s (n:Int)) (xs,false)∧Ev (fun k=>eh.f k s (n:Int)) (ys,false)):=by
 have hm:=QF 32 s;obtain⟨ws,QM⟩:∃ws,Lib.splitB ⟨#[32]⟩ 0 (Lib.countB s ⟨#[32]⟩) s=ws:=⟨_,rfl⟩
 have hsplit:strings_Split.f s ⟨#[32]⟩=some ws:=by
  unfold strings_Split.f;rw[ah ⟨ae,ao⟩,QM]
 rw[QM] at hm;have hlen:ws.length=(eK 32 s.data.toList).length:=by rw[←hm,List.length_map]
 have hle:ws.length≤1000:=by
  rw[←QM,Lib.splitB_all ⟨#[32]⟩ ao 0 _ s rfl];have:=Lib.countB_le ⟨#[32]⟩ ao s.size s (aH _);omega
 have hi:=aof hle ws.length 0 [] ae rfl;have hp:=aok s hs n s.size 0 0 [] ae (aH _) (aH _);simp only[List.drop_zero,Nat.sub_self,List.take_zero,Jr (vq _ _),List.nil_append] at hi hp;rw[hm] at hi;unfold eh.f
 have impl:∀r,(ws.length=n→Ev (fun k=>cM.l0 k [] ws (ws.length:Int) ((0:Nat):Int)) r)→(ws.length≠n→r=([],false))→Ev (fun k=>cM.f k s (n:Int)) r:=fun r h1 h2=>by
  unfold cM.f;refine Ev.fix hsplit ?_;by_cases e:ws.length=n
  ·exact Ev.pos ae (h1 e)
  ·exact Ev.neg ae (Ev.done (congrArg some (h2 e).symm))
 cases hn:px (eK 32 s.data.toList) with
 |none=>
  obtain⟨ys,hy⟩:=hp.2 hn;exact .inr ⟨[],ys,impl _ (fun _=>hi.2 hn) (fun _=>rfl),hy⟩
 |some l=>
  obtain⟨h1,h2⟩:=Zo hn;have hy:=hp.1 l hn;by_cases e:ws.length=n
  ·refine .inl ⟨l,ae,h1,impl _ (fun _=>hi.1 l hn) (fun h=>absurd e h),Ev.eq hy ?_⟩;rw[show((l.length:Int)==(n:Int))=true by rw[beq_iff_eq];omega]
  ·refine .inr ⟨[],l,impl _ (fun h=>absurd h e) (fun _=>rfl),Ev.eq hy ?_⟩;rw[show((l.length:Int)==(n:Int))=false by rw[beq_eq_false_iff_ne];omega]
theorem aoD{t:List Int}(hn:b9 t 81=true)(d:Nat):∀i:Nat,i+d=9→Ev (fun k=>lg.l0 k t (cH i (od t)) (i:Int)) (zM t,true):=by
 induction d with
 |zero=>
  intro i hi;obtain rfl:i=9:=ae;refine Ev.step (fun k=>by rw[lg.l0]) ?_;exact Ev.neg ae (Ev.done rfl)
 |succ d ih=>
  intro i hi;have nx:=ih (i+1) ae;rw[lW] at nx;have hl:=kt i (od t);refine Ev.step (fun k=>by rw[lg.l0]) ?_;rw[bI (x:=(i:Int)+1) ae ae];refine Ev.pos ae (Ev.bind (aol hn ⟨ae,ae⟩) ?_);by_cases h:od t (i:Int)=true
  ·rw[ah h] at nx;exact Ev.pos h (Ev.pos ae nx)
  ·rw[ag h,List.append_nil] at nx;exact Ev.neg h nx
theorem aoE{t:List Int}(hs:aW t=true)(ht:t.length≤1048576):Ev (fun k=>lg.f k t) (zM t,true):=by
 unfold lg.f;refine Ev.fix rfl (Ev.bind (oX t ht) (Ev.pos hs ?_));exact aoD (fq hs).1 9 0 ae
theorem aoF{t:List Int}(hs:aW t=true):ud.f t=some (zM t,true):=by unfold ud.f;rw[ah hs,hs]
theorem aoG{t:List Int}(hn:b9 t 81=true){k:Int}(hk:bP k)(d:Nat):∀a:Int,0≤a→a+d=9→(∀x:Int,0≤x→x<a→(rd t (9*k+x)==rd t (9*x+k))=true)→Ev (fun n=>lh.l0 n t k a) (ob t k):=by
 have hl:=(hG.1 hn).1;obtain⟨k0,k1⟩:=hk
 induction d with
 |zero=>
  intro a a0 a1 h;refine Ev.step (fun n=>by rw[lh.l0]) ?_;refine Ev.neg ae (Ev.done ?_);rw[show ob t k=true from jr.2 fun x x0 x1=>h x x0 ae]
 |succ d ih=>
  intro a a0 a1 h;refine Ev.step (fun n=>by rw[lh.l0]) ?_;rw[bI (x:=9*k) ae ae,bI (x:=9*a) ae ae,bI (x:=9*k+a) ae ae,bI (x:=9*a+k) ae ae,bI (x:=a+1) ae ae];refine Ev.pos ae (Ev.pos ae (Ev.pos ae (Ev.pos ae (Ev.pos ae ?_))));by_cases e:rd t (9*k+a)=rd t (9*a+k)
  ·refine Ev.pos e (ih (a+1) ae ae fun x x0 x1=>?_);by_cases ex:x=a
   ·rw[ex];exact beq_iff_eq.2 e
   ·exact h x x0 ae
  ·refine Ev.neg e (Ev.done ?_);have:ob t k=false:=R0 a.toNat ae (by rw[Int.toNat_of_nonneg a0];exact beq_eq_false_iff_ne.2 e);rw[this]
theorem aoH{t:List Int}(hn:b9 t 81=true){k:Int}(hk:bP k):Ev (fun n=>lh.f n t k) (ob t k):=aoG hn hk 9 0 ae ae (fun x x0 x1=>ae)
theorem aoI{t:List Int}(hn:b9 t 81=true)(d:Nat):∀i:Nat,i+d=9→Ev (fun k=>jP.l0 k t (cH i (ob t)) (i:Int)) (wh t,true):=by
 induction d with
 |zero=>
  intro i hi;obtain rfl:i=9:=ae;refine Ev.step (fun k=>by rw[jP.l0]) ?_;exact Ev.neg ae (Ev.done rfl)
 |succ d ih=>
  intro i hi;have nx:=ih (i+1) ae;rw[lW] at nx;have hl:=kt i (ob t);refine Ev.step (fun k=>by rw[jP.l0]) ?_;rw[bI (x:=(i:Int)+1) ae ae];refine Ev.pos ae (Ev.bind (aoH hn ⟨ae,ae⟩) ?_);by_cases h:ob t (i:Int)=true
  ·rw[ah h] at nx;exact Ev.pos h (Ev.pos ae nx)
  ·rw[ag h,List.append_nil] at nx;exact Ev.neg h nx
theorem Zq{t:List Int}(hs:aW t=true)(ht:t.length≤1048576):Ev (fun k=>jP.f k t) (wh t,true):=by
 unfold jP.f;refine Ev.fix rfl (Ev.bind (oX t ht) (Ev.pos hs ?_));exact aoI (fq hs).1 9 0 ae
theorem aoJ{t:List Int}(hs:aW t=true):uc.f t=some (wh t,true):=by unfold uc.f;rw[ah hs,hs]
theorem aoK:∀i:Fin 5,(((wh (dS (i.val:Int))).length:Int)==9)=ub (dS (i.val:Int)):=by decide+kernel
theorem aoL{c:Int}(c0:0≤c)(c1:c<5)(hs:aW (dS c)=true)(ht:(dS c).length≤1048576):Ev (fun k=>vo.f k (dS c)) (ub (dS c)):=by
 unfold vo.f;refine Ev.bind (Zq hs ht) (Ev.pos rfl (Ev.done ?_));rw[five (P:=fun c=>(((wh (dS c)).length:Int)==9)=ub (dS c)) aoK c c0 c1]
theorem aoM{t x:List Int}(hs:aW t=true):Ev (fun k=>yu.f k t x) (o0 t x):=Ev.done (ah hs)
theorem aoN{t x:List Int}(h:(kC t x).2=true):0≤(kC t x).1∧(kC t x).1<100:=by
 unfold kC at h ⊢;by_cases hq:fM t x=true
 case neg=>rw[ag hq] at h;cases h
 rw[ah hq];have hs:=(oZ hq).1;have h4:=(oZ hq).2.1;have a:=rq hq (i:=0) ae ae;have b:=rq hq (i:=1) ae ae;have j:=iL hs a.1 a.2 b.1 b.2 (z8 hq ae ae ae);have hm:rd x 0∈(fw t (dm x)).filter fun p=>a8 t p (bh t (rd x 0) (rd x 1)):=List.mem_filter.2 ⟨afs.2 (Ul a (iK ae ae)),j.2.2.1⟩;have h1:0<ot t x:=by unfold ot fL;exact List.length_pos_of_mem hm
 have h2:ot t x≤91:=by unfold ot;exact Nat.le_trans (C8 _ _ _) (Mv _ _)
 dsimp only;omega
theorem aoO:∀i:Fin 5,dk (il (dS (i.val:Int)) 9)=true:=by decide+kernel
theorem aoP:∀i:Fin 5,(m9 (il (dS (i.val:Int)) 9)).2=dk (m9 (il (dS (i.val:Int)) 9)).1:=by decide+kernel
end X
end Go.Proofs.YtiobedekgnfjcaaGreatDoor
