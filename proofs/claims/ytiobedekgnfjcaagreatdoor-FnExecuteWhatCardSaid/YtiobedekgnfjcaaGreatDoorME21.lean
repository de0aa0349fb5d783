/- What both Executes come to: contracts and plain laws, for the laws on Execute. No conditions. (Part 22 of 28.) -/
import Derived.Test.YtiobedekgnfjcaaGreatDoorME15
import Derived.Test.YtiobedekgnfjcaaGreatDoorME16
import Derived.Test.YtiobedekgnfjcaaGreatDoorME18
set_option linter.unusedVariables false
set_option linter.unusedSimpArgs false
set_option maxHeartbeats 8000000
set_option maxRecDepth 100000
namespace Go.Proofs.YtiobedekgnfjcaaGreatDoor
namespace P
end P
open Go.Proofs.YtiobedekgnfjcaaGreatDoorW.aq Go.Proofs.YtiobedekgnfjcaaGreatDoorW.ay Go.RowKit Go.Proofs.YtiobedekgnfjcaaGreatDoor.P
namespace P
open Go.Proofs.YtiobedekgnfjcaaGreatDoorW.pK
def uo.f(k:Nat)(l0:List Int)(l1:List Int):Option (List Int×Bool):=(fE.f l0).bind fun LW=>(if LW=true then((sR.f l0 l1).bind fun LX=>(if LX=true then((Ab.f k l0 l1).bind fun LY=>(some (LY,true))) else(some (([]:List Int),false)))) else(some (([]:List Int),false)))
theorem uo.calls(k:Nat)(A0:Option Addr)(c0:Nat)(l0:List Int)(A1:Option Addr)(c1:Nat)(l1:List Int)(r1:List Int)(r2:Bool)(w:World)(hr0:Kd.C (Kd.int .i64) w A0 l0.length l0)(hc0:l0.length≤c0)(hr1:Kd.C (Kd.int .i64) w A1 l1.length l1)(hc1:l1.length≤c1)(h:uo.f k l0 l1=some (r1,r2)):
  Calls Tryz.prog 84 #[.slice A0 l0.length c0,.slice A1 l1.length c1] w fun e w'=> ∃bO:Value,e=.returned (.tuple #[bO,.bool r2])∧Kd.R (Kd.int .i64) 3 w' w.heap.size (fun _=>True) bO r1∧Below w.heap.size w w':=by
 have aj:=af.mk hr0;have ax:=af.mk hc0;clear hr0 hc0;have bN:=af.mk hr1;have cA:=af.mk hc1;clear hr1 hc1;have HB:=af.mk (Below.refl w.heap.size w);have H:=h;clear h;unfold uo.f at H;replace H:=aA.mp H;obtain⟨LW,bW,H⟩:=H;have A3:=af.mk bW;clear bW;by_cases c4:LW=true
 case neg=>
  replace c4:=bU c4;subst c4;rw[ag bV] at H;simp only[Option.some.injEq,Prod.mk.injEq] at H;obtain⟨rfl,rfl⟩:=H;go_enter Tryz.func84,Tryz.ntmps84;go_wp2_with ((refine aY 7 Tryz.func40 #[.slice A0 l0.length c0] ?_;(with_reducible refine(fE.calls _ _ l0 false _ ?_ ?_ A3.o).mono ?_);exact bD aj;exact ax.o;rintro e rk ⟨rfl,hb⟩;refine⟨_,rfl,?_⟩;replace HB:=aM HB hb))
  go_ret2
  exact⟨_,bE,by first|exact Kd.kJ _ _ _ _ _|exact Kd.qU _ _ _ _ _|exact Kd.qY _ _ _ _ _|exact Kd.qO _ _ _ _ _|exact Kd.oP _ _ _ _ _,ai HB⟩
 subst c4;rw[ah rfl] at H;replace H:=aA.mp H;obtain⟨LX,cY,H⟩:=H;have A5:=af.mk cY;clear cY;by_cases c6:LX=true
 case neg=>
  replace c6:=bU c6;subst c6;rw[ag bV] at H;simp only[Option.some.injEq,Prod.mk.injEq] at H;obtain⟨rfl,rfl⟩:=H;go_enter Tryz.func84,Tryz.ntmps84;go_wp2_with (first|(refine aY 7 Tryz.func40 #[.slice A0 l0.length c0] ?_;(with_reducible refine(fE.calls _ _ l0 true _ ?_ ?_ A3.o).mono ?_);exact bD aj;exact ax.o;rintro e mG ⟨rfl,hb⟩;refine⟨_,rfl,?_⟩;replace HB:=aM HB hb)|(go_at_call 136;(with_reducible refine(sR.calls _ _ l0 _ _ l1 false _ ?bz ?bB ?cg ?cm A5.o).mono ?_);(case bz=>exact cG aj HB);(case bB=>exact ax.o);(case cg=>exact cG bN HB);(case cm=>exact cA.o);rintro e sS ⟨rfl,hb⟩;replace HB:=aM HB hb))
  go_ret2
  exact⟨_,bE,by first|exact Kd.kJ _ _ _ _ _|exact Kd.qU _ _ _ _ _|exact Kd.qY _ _ _ _ _|exact Kd.qO _ _ _ _ _|exact Kd.oP _ _ _ _ _,ai HB⟩
 subst c6;rw[ah rfl] at H;replace H:=aA.mp H;obtain⟨LY,dy,H⟩:=H;have A7:=af.mk dy;clear dy;simp only[Option.some.injEq,Prod.mk.injEq] at H;obtain⟨rfl,rfl⟩:=H;go_enter Tryz.func84,Tryz.ntmps84;go_wp2_with (first|(refine aY 7 Tryz.func40 #[.slice A0 l0.length c0] ?_;(with_reducible refine(fE.calls _ _ l0 true _ ?_ ?_ A3.o).mono ?_);exact bD aj;exact ax.o;rintro e w8 ⟨rfl,hb⟩;refine⟨_,rfl,?_⟩;replace HB:=aM HB hb)|(go_at_call 136;(with_reducible refine(sR.calls _ _ l0 _ _ l1 true _ ?bz ?bB ?cg ?cm A5.o).mono ?_);(case bz=>exact cG aj HB);(case bB=>exact ax.o);(case cg=>exact cG bN HB);(case cm=>exact cA.o);rintro e w9 ⟨rfl,hb⟩;replace HB:=aM HB hb)|(refine aY 17 Tryz.func137 #[.slice A0 l0.length c0,.slice A1 l1.length c1] ?_;(with_reducible refine(Ab.calls k _ _ l0 _ _ l1 LY _ ?bz ?bB ?cg ?cm A7.o).mono ?_);(case bz=>exact cG aj HB);(case bB=>exact ax.o);(case cg=>exact cG bN HB);(case cm=>exact cA.o);rintro e mH ⟨aqH,rfl,ho0,hb⟩;refine⟨_,rfl,?_⟩;have afG:=af.mk (Kd.cv ho0 (aZ (ai HB)));replace HB:=aM HB hb))
 go_ret2
 exact⟨_,bE,aX afG,ai HB⟩
end P
namespace X
def ld(l:List (List Int)):Nat→List (List Int)
 |0=>[]
 |n+1=>if aT l (n:Int)∈mg then ld l n else gN (ld l n) (aT l (n:Int))
def uU(l:List (List Int)):List Int→List (List Int)
 |[]=>l
 |x::r=>uU (gN l (iH x)) r
def IU(l:List (List Int)):List (List Int):=uU (ld l 10) [1,3,4,5]
def m9(l:List (List Int)):List (List Int)×Bool:=if dk l=true∧(ld l 10).length=6 then(IU l,true) else([],false)
theorem AX{l:List (List Int)}(h:dk l=true)(n:Nat)(hn:n≤10):(ld l n).length≤n∧∀a∈ld l n,a.length=9:=by
 induction n with
 |zero=>exact⟨aH _,fun a ha=>by cases ha⟩
 |succ n ih=>
  obtain⟨h1,h2⟩:=ih ae;unfold ld;by_cases e:aT l (n:Int)∈mg
  ·rw[ah e];exact⟨ae,h2⟩
  ·rw[ag e];refine⟨by rw[H8];omega,H9 h2 ?_⟩;exact(ke (uK h (i:=(n:Int)) ae ae)).1
theorem ali{l:List (List Int)}(h:dk l=true)(o:List (List Int)){i:Nat}(hi:i<10)(ho:o.length≤20)(h9:∀a∈o,a.length=9){r:List (List Int)×Bool}
  (hr:Ev (fun k=>eZ.l0 k l mg (if aT l (i:Int)∈mg then o else gN o (aT l (i:Int))) ((i:Int)+1)) r) (d:Nat):
  ∀(c:Int) (b:Bool),0≤c→c+d=4→(b=true↔ ∃j:Int,0≤j∧j<c∧aT l (i:Int)=aT mg j)→Ev (fun k=>eZ.l1 k l mg o (i:Int) b c) r:=by
 have hl:=(s8 h).1;have X0:=(ke (uK h (i:=(i:Int)) ae ae)).1;obtain⟨r4,r9⟩:=akh
 induction d with
 |zero=>
  intro c b c0 c1 hb
  have hin:b=true↔aT l (i:Int)∈mg:=by
   rw[hb]
   constructor
   ·rintro⟨j,j0,j1,e⟩;rw[e];exact Nk j0 ae
   ·intro hm;obtain⟨j,hj,e⟩:=List.mem_iff_getElem.1 hm;exact⟨(j:Int),ae,ae,by rw[uD _ j hj,e]⟩
  refine Ev.step (fun k=>by rw[eZ.l1]) ?_;rw[bI (x:=(i:Int)+1) ae ae];refine Ev.neg ae ?_;by_cases e:b=true
  ·rw[ah (hin.1 e)] at hr;exact Ev.pos e hr
  ·rw[ag (fun h=>e (hin.2 h))] at hr;refine Ev.neg e (Ev.fix rfl (Ev.pos ae (Ev.pos ae (Ev.pos (by rw[List.length_nil];omega) (Ev.bind (Oi h9 ?_ ae) ?_)))))
   ·rw[List.nil_append];exact X0
   ·rw[List.nil_append];exact hr
 |succ d ih=>
  intro c b c0 c1 hb;refine Ev.step (fun k=>by rw[eZ.l1]) ?_;rw[bI (x:=c+1) ae ae];refine Ev.pos ae ?_;by_cases e:b=true
  ·refine Ev.pos e (ih (c+1) true ae ae ⟨fun _=>?_,fun _=>rfl⟩);obtain⟨j,j0,j1,h⟩:=hb.1 e;exact⟨j,j0,ae,h⟩
  ·have X1:=r9 ⟨c.toNat,ae⟩;have ec:(((⟨c.toNat,ae⟩:Fin 4).val:Nat):Int)=c:=by show((c.toNat:Nat):Int)=c;omega
   rw[ec] at X1;refine Ev.neg e (Ev.pos ae (Ev.pos ae (Ev.pos c0 (Ev.pos ae (Ev.bind (Xw _ _ X0 X1) (ih (c+1) _ ae ae ?_))))));rw[decide_eq_true_iff]
   constructor
   ·intro h;exact⟨c,c0,ae,h⟩
   ·rintro⟨j,j0,j1,h⟩;by_cases ej:j=c
    ·rw[←ej];exact h
    ·exact absurd (hb.2 ⟨j,j0,ae,h⟩) e
theorem alj(L:List Int)(hL:L.length≤10)(hx:∀x∈L,0<x∧x<9)(d:Nat):∀(i:Int) (o:List (List Int)),0≤i→i+d=L.length→o.length≤20+i→(∀a∈o,a.length=9)→Ev (fun k=>eZ.l2 k o L (L.length:Int) i) (uU o (L.drop i.toNat),true):=by
 induction d with
 |zero=>
  intro i o i0 i1 ho h9;refine Ev.step (fun k=>by rw[eZ.l2]) ?_;rw[show L.drop i.toNat=[] from List.drop_eq_nil_of_le ae];exact Ev.neg ae (Ev.done rfl)
 |succ d ih=>
  intro i o i0 i1 ho h9;have hm:=hx _ (iK (t:=L) (i:=i) ae i0);have nx:=ih (i+1) (gN o (iH (rd L i))) ae ae (by rw[H8];omega) (H9 h9 (O2 _ hm.1 hm.2))
  have ed:L.drop i.toNat=rd L i::L.drop (i+1).toNat:=by
   rw[List.drop_eq_getElem_cons (show i.toNat<L.length by omega),oS i0 ae,show i.toNat+1=(i+1).toNat by omega]
  rw[ed];refine Ev.step (fun k=>by rw[eZ.l2]) ?_;rw[bI (x:=i+1) ae ae];exact Ev.pos ae (Ev.pos i0 (Ev.pos ae (Ev.bind (akl _ ae hm.2) (Ev.bind (Oi h9 (O2 _ hm.1 hm.2) ae) nx))))
theorem alk{l:List (List Int)}(h:dk l=true)(d:Nat):∀i:Nat,i+d=10→Ev (fun k=>eZ.l0 k l mg (ld l i) (i:Int)) (m9 l):=by
 induction d with
 |zero=>
  intro i hi;obtain rfl:i=10:=ae;obtain⟨h1,h2⟩:=AX h 10 ae;refine Ev.step (fun k=>by rw[eZ.l0]) ?_;refine Ev.neg ae ?_;unfold m9;by_cases e:(ld l 10).length=6
  ·rw[ah ⟨h,e⟩];refine Ev.pos ae (Ev.fix rfl ?_);exact alj [1,3,4,5] ao ao 4 0 _ ae ao ae h2
  ·rw[ag (fun h=>e h.2)];exact Ev.neg ae (Ev.done rfl)
 |succ d ih=>
  intro i hi;obtain⟨h1,h2⟩:=AX h i ae;refine Ev.step (fun k=>by rw[eZ.l0]) ?_;refine Ev.pos ae (ali h (ld l i) ae ae h2 (ih (i+1) ae) 4 0 false ae ae ⟨fun h=>absurd h ao,fun⟨j,j0,j1,_⟩=>absurd j1 ae⟩)
theorem alm(l:List (List Int)):Ev (fun k=>eZ.f k l) (m9 l):=by
 unfold eZ.f;refine Ev.bind (NL l) ?_;by_cases h:dk l=true
 ·exact Ev.pos h (Ev.bind akk (alk h 10 0 ae))
 ·unfold m9;rw[ag (fun h2=>h h2.1)];exact Ev.neg h (Ev.done rfl)
def X7(i:Int):Bool:=i%9==0
def X8(i:Int):Bool:=i%9==i / 9
def X9(i:Int):Bool:=i%9==kM (i / 9) 2
def X_(i:Int):Bool:=i / 9==0
def IX:List Int:=[0,9,18,27,36,45,54,63,72]
def IY:List Int:=[0,10,20,30,40,50,60,70,80]
def IZ:List Int:=[0,11,19,33,44,52,57,68,76]
theorem alD:cH 81 X7=IX:=by decide+kernel
theorem alE:cH 81 X8=IY:=by decide+kernel
theorem alF:cH 81 X9=IZ:=by decide+kernel
theorem alG:cH 81 X_=rO:=by decide+kernel
def lP:List (List Int):=[IX,IY,IZ,rO]
theorem I0(x:List Int):x∈lP↔x∈mg:=by
 have h1:∀y∈lP,y∈mg:=by decide+kernel
 have h2:∀y∈mg,y∈lP:=by decide+kernel
 exact⟨h1 x,h2 x⟩
def eO(l:List (List Int)):Nat→List (List Int)
 |0=>[]
 |n+1=>if aT l (n:Int)∈lP then eO l n else eO l n++[aT l (n:Int)]
theorem I1(l:List (List Int))(n:Nat)(x:List Int):x∈eO l n↔x∈ld l n:=by
 induction n with
 |zero=>exact Iff.rfl
 |succ n ih=>
  unfold eO ld;by_cases h:aT l (n:Int)∈lP
  ·rw[ah h,ah ((I0 _).1 h)];exact ih
  ·rw[ag h,ag fun h2=>h ((I0 _).2 h2),List.mem_append,List.mem_singleton,AK,ih,or_comm]
theorem Ya(l:List (List Int))(n:Nat):(eO l n).length=(ld l n).length:=by
 induction n with
 |zero=>rfl
 |succ n ih=>
  unfold eO ld;by_cases h:aT l (n:Int)∈lP
  ·rw[ah h,ah ((I0 _).1 h)];exact ih
  ·rw[ag h,ag fun h2=>h ((I0 _).2 h2),List.length_append,H8,ih];rfl
theorem Yb(l:List (List Int))(n:Nat)(x:List Int)(h:x∈eO l n):∃j:Nat,j<n∧x=aT l (j:Int)∧x∉lP:=by
 induction n with
 |zero=>cases h
 |succ n ih=>
  unfold eO at h;by_cases hr:aT l (n:Int)∈lP
  ·rw[ah hr] at h;obtain⟨j,hj,e⟩:=ih h;exact⟨j,ae,e⟩
  ·rw[ag hr] at h;rcases List.mem_append.1 h with h|h
   ·obtain⟨j,hj,e⟩:=ih h;exact⟨j,ae,e⟩
   ·have:=List.mem_singleton.1 h;exact⟨n,ae,this,by rw[this];exact hr⟩
def lf(c:Int)(n:Nat):List Int:=(List.range n).map fun(i:Nat)=>9*kM c ((i:Int) / 3)+kM c ((i:Int)%3)
theorem alH(c:Int)(n:Nat):lf c (n+1)=lf c n++[9*kM c ((n:Int) / 3)+kM c ((n:Int)%3)]:=by unfold lf;rw[List.range_succ,List.map_append];rfl
theorem Yc(c:Int)(n:Nat):(lf c n).length=n:=by unfold lf;simp
def CC(c:Int):Prop:=c=1∨c=3∨c=4∨c=5
theorem alI{c:Int}(h:CC c):(lf c 9).Nodup:=by
 rcases h with rfl|rfl|rfl|rfl<;>decide+kernel
theorem alJ{c:Int}(h:CC c):∀x,x∈lf c 9↔x∈iH c:=by
 have key:∀c:Int,CC c→(∀y∈lf c 9,y∈iH c)∧∀y∈iH c,y∈lf c 9:=by
  intro c h;rcases h with rfl|rfl|rfl|rfl<;>exact⟨by decide+kernel,by decide+kernel⟩
 exact fun x=>⟨(key c h).1 x,(key c h).2 x⟩
theorem alK{c:Int}(h:CC c):(iH c).Pairwise (·<·):=by
 rcases h with rfl|rfl|rfl|rfl<;>decide+kernel
theorem alL{c:Int}(h:CC c):∃k,xZ.f k (lf c 9)=some (iH c):=by
 obtain⟨r,hr,ev⟩:=alC (Yc c 9) (alI h);have e:r=iH c:=alw _ _ hr.2.2 (alK h) fun x=>(hr.2.1 x).trans (alJ h x);rw[e] at ev;exact ev.rounds
theorem PL{a b:Int}(a0:0≤a)(a1:a<9)(b0:0≤b)(b1:b<9):eP.f a b=some (kM a b):=kN (P:=fun a b=>eP.f a b=some (kM a b)) (by decide+kernel) a b a0 a1 b0 b1
def nO(n:Nat):List (List Int):=([1,3,4,5].take n).map iH
def A_(i:Int):Int:=rd [1,3,4,5] i
theorem alM{i:Int}(i0:0≤i)(i1:i<4):CC (A_ i):=by
 rcases(show i=0∨i=1∨i=2∨i=3 by omega) with rfl|rfl|rfl|rfl
 ·exact .inl rfl
 ·exact .inr (.inl rfl)
 ·exact .inr (.inr (.inl rfl))
 ·exact .inr (.inr (.inr rfl))
theorem alN{i:Int}(i0:0≤i)(i1:i<4):nO (i+1).toNat=nO i.toNat++[iH (A_ i)]:=by
 rcases(show i=0∨i=1∨i=2∨i=3 by omega) with rfl|rfl|rfl|rfl<;>rfl
theorem alO{i:Int}(i0:0≤i)(i1:i≤4):(nO i.toNat).length=i.toNat:=by
 unfold nO;rw[List.length_map,List.length_take]
 show min i.toNat 4=_
 omega
theorem PN{c:Int}(h:CC c):(iH c).length=9:=O2 c (by rcases h with rfl|rfl|rfl|rfl<;>omega) (by rcases h with rfl|rfl|rfl|rfl<;>omega)
def pg(l:List (List Int)):List (List Int):=eO l 10++nO 4
theorem alP{l:List (List Int)}(h:dk l=true){i j:Nat}(hi:i<j)(hj:j<10):aT l (i:Int)≠aT l (j:Int):=fun e=>by
 have hl:=aif h (j - i - 1) (i:Int) ae ae;rw[show(i:Int)+1+((j - i - 1:Nat):Int)=(j:Int) by omega,e] at hl;exact DU hl hl
theorem Yd{l:List (List Int)}(h:dk l=true){n:Nat}(hn:n<10):aT l (n:Int)∉eO l n:=fun hm=>by
 obtain⟨j,hj,e,_⟩:=Yb l n _ hm;exact alP h hj hn e.symm
theorem alQ{l:List (List Int)}(h:dk l=true)(n:Nat)(hn:n≤10):(eO l n).Nodup:=by
 induction n with
 |zero=>exact List.nodup_nil
 |succ n ih=>
  unfold eO;by_cases hr:aT l (n:Int)∈lP
  ·rw[ah hr];exact ih ae
  ·rw[ag hr];refine List.nodup_append.2 ⟨ih ae,List.nodup_cons.2 ⟨by simp,List.nodup_nil⟩,fun a ha b hb e=>?_⟩;rw[List.mem_singleton.1 hb] at e;rw[e] at ha;exact Yd h ae ha
theorem alR{l:List (List Int)}(h:dk l=true)(n:Nat)(hn:n≤10):nI (ld l n):=by
 induction n with
 |zero=>exact List.Pairwise.nil
 |succ n ih=>
  unfold ld;by_cases hr:aT l (n:Int)∈mg
  ·rw[ah hr];exact ih ae
  ·rw[ag hr];exact Oo _ _ (ih ae) (AX h n ae).2 (ke (uK h (i:=(n:Int)) ae ae)).1 fun hm=>Yd h ae ((I1 l n _).2 hm)
theorem alS{l:List (List Int)}(n:Nat)(hno:∀j:Nat,j<n→aT l (j:Int)∉lP):(eO l n).length=n:=by
 induction n with
 |zero=>rfl
 |succ n ih=>
  unfold eO;rw[ag (hno n ae),List.length_append,ih fun j hj=>hno j ae];rfl
theorem alT{l:List (List Int)}(h6:(eO l 10).length=6):∃j:Nat,j<10∧aT l (j:Int)∈lP:=by
 apply Classical.byContradiction;intro hno;have:=alS (l:=l) 10 fun j hj hm=>hno ⟨j,hj,hm⟩;omega
theorem meets:∀ρ∈lP,∀c∈([1,3,4,5]:List Int),(ρ.any fun p=>decide (0<p)&&decide (p∈iH c))=true:=by decide+kernel
theorem Ye{l:List (List Int)}(h:dk l=true)(h6:(eO l 10).length=6){c:Int}(hc:c∈([1,3,4,5]:List Int)):iH c∉eO l 10:=fun hm=>by
 obtain⟨j,hj,e,hn⟩:=Yb l 10 _ hm;obtain⟨i,hi,hr⟩:=alT h6;obtain⟨p,hp,hq⟩:=List.any_eq_true.1 (meets _ hr c hc);rw[Bool.and_eq_true,decide_eq_true_eq,decide_eq_true_eq] at hq;obtain⟨p0,hq⟩:=hq;rw[e] at hq hn;rcases Nat.lt_trichotomy i j with hlt|heq|hgt
 ·exact NK h (i:=(i:Int)) (j:=(j:Int)) ae ae ae p0 hp hq
 ·subst heq;exact hn hr
 ·exact NK h (i:=(j:Int)) (j:=(i:Int)) ae ae ae p0 hq hp
theorem Yf:(nO 4).Nodup:=by decide+kernel
theorem alU{l:List (List Int)}(h:dk l=true)(h6:(eO l 10).length=6):(pg l).Nodup:=by
 unfold pg;refine List.nodup_append.2 ⟨alQ h 10 ae,Yf,fun a ha b hb e=>?_⟩;rw[e] at ha;obtain⟨c,hc,rfl⟩:=List.mem_map.1 hb;exact Ye h h6 hc ha
theorem alV{y:List Int}:∀(L:List Int) (o:List (List Int)),y∈uU o L↔y∈o∨∃x∈L,y=iH x:=by
 intro L
 induction L with
 |nil=>intro o;simp[uU]
 |cons x L ih=>
  intro o;unfold uU;rw[ih,AK]
  constructor
  ·rintro((h|h)|⟨z,hz,h⟩)
   ·exact .inr ⟨x,List.mem_cons_self,h⟩
   ·exact .inl h
   ·exact .inr ⟨z,List.mem_cons_of_mem _ hz,h⟩
  ·rintro(h|⟨z,hz,h⟩)
   ·exact .inl (.inr h)
   ·rcases List.mem_cons.1 hz with rfl|hz
    ·exact .inl (.inl h)
    ·exact .inr ⟨z,hz,h⟩
theorem alW:∀(L:List Int) (o:List (List Int)),nI o→(∀a∈o,a.length=9)→(∀x∈L,(iH x).length=9)→(∀x∈L,iH x∉o)→(L.map iH).Nodup→nI (uU o L):=by
 intro L
 induction L with
 |nil=>intro o ha _ _ _ _;exact ha
 |cons x L ih=>
  intro o ha h9 hx hn hd;unfold uU;rw[List.map_cons,List.nodup_cons] at hd;refine ih _ (Oo _ _ ha h9 (hx x List.mem_cons_self) (hn x List.mem_cons_self)) (H9 h9 (hx x List.mem_cons_self)) (fun y hy=>hx y (List.mem_cons_of_mem _ hy)) (fun y hy hm=>?_) hd.2;rcases AK.1 hm with e|hm
  ·exact hd.1 (List.mem_map.2 ⟨y,hy,e⟩)
  ·exact hn y (List.mem_cons_of_mem _ hy) hm
theorem alX{c:Int}(hc:c∈([1,3,4,5]:List Int)):CC c:=by simpa [CC] using hc
theorem alY{l:List (List Int)}(h:dk l=true)(h6:(eO l 10).length=6):nI (IU l):=
 alW _ _ (alR h 10 ae) (AX h 10 ae).2 (fun x hx=>PN (alX hx)) (fun x hx hm=>Ye h h6 hx ((I1 l 10 _).2 hm)) Yf
theorem alZ{l r:List (List Int)}(h:dk l=true)(h6:(eO l 10).length=6)(hm:∀x,x∈r↔x∈pg l)(ha:nI r):r=IU l:=by
 refine VP _ _ ha (alY h h6) fun x=>(hm x).trans ?_;unfold pg IU;rw[List.mem_append,alV,I1];refine or_congr Iff.rfl ?_;unfold nO;rw[List.mem_map];exact⟨fun⟨c,hc,e⟩=>⟨c,hc,e.symm⟩,fun⟨c,hc,e⟩=>⟨c,hc,e.symm⟩⟩
theorem al0(w:World)(x y:Int):
  Calls Tryz.prog 147 #[.int .i64 x,.int .i64 y] w fun e w'=>e=.returned (.bool (y==0))∧Below w.heap.size w w':=by
 go_enter Tryz.func147,Tryz.ntmps147;go_wp2;go_ret;exact⟨rfl,Below.refl _ _⟩
theorem al1(w:World)(x y:Int):
  Calls Tryz.prog 148 #[.int .i64 x,.int .i64 y] w fun e w'=>e=.returned (.bool (y==x))∧Below w.heap.size w w':=by
 go_enter Tryz.func148,Tryz.ntmps148;go_wp2;go_ret;exact⟨rfl,Below.refl _ _⟩
theorem al2(w:World)(x y:Int)(hx:bP x):
  Calls Tryz.prog 149 #[.int .i64 x,.int .i64 y] w fun e w'=>e=.returned (.bool (y==kM x 2))∧Below w.heap.size w w':=by
 have HC:=af.mk (fun w=>eP.calls x 2 (kM x 2) w (PL hx.1 hx.2 ae ae));obtain⟨q,hq⟩:∃q,kM x 2=q:=⟨_,rfl⟩;rw[hq] at HC ⊢;clear hq hx;go_enter Tryz.func149,Tryz.ntmps149;go_wp2_with (go_at_call 71;refine(HC.o _).mono ?_;rintro e w' ⟨rfl,⟨nd,rfl⟩⟩)
 go_ret;exact⟨rfl,bb (Below.refl _ _) _⟩
theorem al3(w:World)(x y:Int):
  Calls Tryz.prog 150 #[.int .i64 x,.int .i64 y] w fun e w'=>e=.returned (.bool (x==0))∧Below w.heap.size w w':=by
 go_enter Tryz.func150,Tryz.ntmps150;go_wp2;go_ret;exact⟨rfl,Below.refl _ _⟩
theorem al4:Eg 147:=enters_of Tryz.func147 am rfl
theorem al5:Eg 148:=enters_of Tryz.func148 am rfl
theorem al6:Eg 149:=enters_of Tryz.func149 am rfl
theorem al7:Eg 150:=enters_of Tryz.func150 am rfl
abbrev E9(g:Nat)(x:List Int):Prop:=∀w:World,Calls Tryz.prog 141 #[.func (.func g) #[] #[]] w fun e w'=> ∃(A:Option Addr) (c:Nat),e=.returned (.slice A x.length c)∧Kd.R (Kd.int .i64) 3 w' w.heap.size (fun k=>w.heap.size≤k∧k<w'.heap.size) (.slice A x.length c) x∧Below w.heap.size w w'
theorem I2{g:Nat}(eg:Eg g)(p:Int→Int→Bool)(q:Int→Bool)(hq:∀i:Int,0≤i→i<81→q i=p (i / 9) (i%9))(hp:∀(W:World) (x y:Int),bP x→Calls Tryz.prog g #[.int .i64 x,.int .i64 y] W fun e w'=>e=.returned (.bool (p x y))∧Below W.heap.size W w'){x:List Int}(hx:cH 81 q=x):E9 g x:=fun w=>by
 refine(Ot g #[] eg p q hq w (fun W x y _ h=>hp W x y h.1)).mono ?_;rintro e w' ⟨v,rfl,ho,hb⟩;rw[hx] at ho;obtain⟨A,c,rfl⟩:=Kd.bJ ho;exact⟨A,c,rfl,Kd.dq (Kd.ix ho) (fun k hk=>⟨hk.2.1,hk.2.2.1⟩),hb⟩
theorem al8:E9 147 IX:=I2 al4 (fun _ y=>y==0) X7 (fun _ _ _=>rfl) (fun W x y _=>al0 W x y) alD
theorem al9:E9 148 IY:=I2 al5 (fun x y=>y==x) X8 (fun _ _ _=>rfl) (fun W x y _=>al1 W x y) alE
theorem al_:E9 149 IZ:=I2 al6 (fun x y=>y==kM x 2) X9 (fun _ _ _=>rfl) (fun W x y hx=>al2 W x y hx) alF
theorem ama:E9 150 rO:=I2 al7 (fun x _=>x==0) X_ (fun _ _ _=>rfl) (fun W x y _=>al3 W x y) alG
theorem amb(A0:Option Addr)(c0:Nat)(l:List (List Int))(w:World)(hr:Kd.C LK w A0 l.length l)(hs:dk l=false):
  Calls Tryz.prog 88 #[.slice A0 l.length c0] w fun e w'=>e=.returned (.tuple #[.slice none 0 0,.bool false])∧Below w.heap.size w w':=by
 have hc:=VU A0 c0 l w hr;rw[hs] at hc;have HC:=af.mk hc;clear hc hr hs;go_enter Tryz.func88,Tryz.ntmps88;go_wp2_with (go_at_call 146;refine HC.o.mono ?_;rintro e w' ⟨rfl,hb⟩)
 go_ret2
 exact⟨rfl,hb⟩
theorem I3{w:World}{base:Nat}{A:Option Addr}{c:Nat}{x:List Int}{ok:Nat→Prop}(h:Kd.R (Kd.int .i64) 3 w base ok (.slice A x.length c) x):Kd.FK LK w (fun _=>True) x [.slice A x.length c]:=
 have h2:=Kd.dq (ok':=fun _=>True) h (fun _ _=>trivial)
 Kd.qZ (Kd.bm h2).2.1 (Kd.Ch h2)
structure amc(l:List (List Int))(w w':World)(e:Ending):Prop where
 out:∃(bO:Value) (r:List (List Int)),e=.returned (.tuple #[bO,.bool (decide ((eO l 10).length=6))])∧Kd.S LK 31 w' w.heap.size (fun _=>True) bO r∧Below w.heap.size w w'∧(if(eO l 10).length=6 then r.length=10∧(∀x,x∈r↔x∈pg l)∧nI r else r=[])
theorem amd(A0:Option Addr)(c0:Nat)(l:List (List Int))(w:World)(hr:Kd.C LK w A0 l.length l)(hs:dk l=true)(hnd:(eO l 10).length=6→(pg l).Nodup):
  Calls Tryz.prog 88 #[.slice A0 l.length c0] w fun e w'=>amc l w w' e:=by
 have PO:=af.mk hnd;clear hnd;have hc:=VU A0 c0 l w hr;rw[hs] at hc;have HC:=af.mk hc;have HR:=af.mk hr;have HS:=af.mk hs;clear hc hr hs;go_enter Tryz.func88,Tryz.ntmps88;go_wp2_with fail
 refine HC.o.mono ?_;rintro e w0 ⟨rfl,hb0⟩;have fH:=af.mk hb0;clear hb0 HC;go_wp2_with fail
 refine(al8 _).mono ?_;rintro e w1 ⟨A1,c1,rfl,Yg,hb1⟩;have mE:=af.mk Yg;have bF:=af.mk hb1;clear Yg hb1;go_wp2_with fail
 refine(al9 _).mono ?_;rintro e w2 ⟨A2,c2,rfl,uR,hb2⟩;have iC:=af.mk uR;have bK:=af.mk hb2;clear uR hb2;go_wp2_with fail
 refine(al_ _).mono ?_;rintro e w3 ⟨A3,c3,rfl,nr,hb3⟩;have Ie:=af.mk nr;have du:=af.mk hb3;clear nr hb3;go_wp2_with fail
 refine(ama _).mono ?_;rintro e w4 ⟨A4,c4,rfl,ie,hb4⟩;have sD:=af.mk ie;have cI:=af.mk hb4;clear ie hb4;have Yh:=af.mk (Kd.dB (Kd.dB (Kd.dB mE.o bK.o) du.o) cI.o);have Yi:=af.mk (Kd.dB (Kd.dB iC.o du.o) cI.o);have Yj:=af.mk (Kd.dB Ie.o cI.o);have Yk:=af.mk (aU (aU (aU (aU fH.o bF.o) bK.o) du.o) cI.o);clear mE iC Ie fH bF bK du cI;go_wp2_with (first|((with_reducible refine db (N:=20) rfl ?_);refine Kd.qW LK (w0:=w4) w4.heap.size 31 ?hg (N':=20) ?hd (xs:=lP) (inner:=[.slice A1 IX.length c1,.slice A2 IY.length c2,.slice A3 IZ.length c3,.slice A4 rO.length c4]) (ok:=(fun _=>True)) (bp:=(fun _=>True)) ?hr ?hp (fun _ hk=>hk) trivial (Below.refl _ _) (aH _) ao ?_;(case hd=>rfl);(case hg=>rfl);(case hr=>first|(go_simp;done)|(go_simp;rfl));(case hp=>exact(aE.one (I3 Yh.o) (aE.one (I3 Yi.o) (aE.one (I3 Yj.o) (aE.one (I3 sD.o) (aE.none _ _))))));intro v5 w5 dv hb bq br;obtain⟨AR,cR,eR⟩:=Kd.nu dv;subst eR;have HRG:=af.mk (Kd.vN dv).2.2;have ef:=af.mk (aU Yk.o hb);clear bq br dv hb)|((with_reducible refine db (N:=21) rfl ?_);refine Kd.R_ LK (w0:=w5) w5.heap.size 31 ?hg (N:=21) ?hd (xs:=[]) (inner:=[]) (ok:=(fun k=>w5.heap.size≤k)) (fun _ _=>False) ?hr rfl ?hp (fun _ _ _ h _=>h.elim) (fun _ _ h=>h.elim) (aH _) (Below.refl _ _) (aH _) bn ?_;(case hd=>rfl);(case hg=>rfl);(case hr=>first|(go_simp;done)|(go_simp;rfl));(case hp=>exact(fun j x hx=>by simp at hx));intro v6 w6 uP hb bq br;have G1:=af.mk uP;have kc:=af.mk hb;clear bq br uP hb))
 clear Yh Yi Yj sD Yk;have Yl:=af.mk (s8 HS.o).1;go_loopg [5,24] 10 (fun kq v5 v24 w'=> ∃i:Int,v24=.int .i64 i∧af (0≤i∧i≤10)∧af ((10:Int) - i≤kq)∧af (Kd.S LK 31 w' w5.heap.size (fun k_=>w5.heap.size≤k_) v5 (eO l i.toNat))∧af (Below w5.heap.size w5 w'))
 case atStart=>exact⟨0,rfl,⟨ae⟩,⟨ae⟩,G1,kc⟩
 case round=>
  clear G1 kc;obtain⟨i,rfl,HI,HK,HO,HB⟩:=hrel;have h0:0≤i:=HI.o.1;have hBw:=aU ef.o HB.o;by_cases c6l:i<(l.length:Int)
  ·have c6:i<10:=by have:=Yl.o;omega
   obtain⟨ad,A',c',e,hx,hcap,hin⟩:=g8 (Kd.aN HR.o hBw) i h0 c6l;cases e;have l9:(aT l i).length=9:=(ke (uK HS.o h0 c6)).1
   have hrest:eO l (i+1).toNat=if aT l i∈lP then eO l i.toNat else eO l i.toNat++[aT l i]:=by
    rw[show(i+1).toNat=i.toNat+1 by omega]
    show(if aT l (i.toNat:Int)∈lP then _ else _)=_
    rw[Int.toNat_of_nonneg h0]
   have hrl:(eO l i.toNat).length≤i.toNat:=by rw[Ya];exact(AX HS.o i.toNat ae).1
   have HC:=af.mk (Xv AR cR lP A' c' (aT l i) wr (Kd.aN HRG.o HB.o) hin hcap ao);obtain⟨L,hL⟩:∃L,aT l i=L:=⟨_,rfl⟩;rw[hL] at hx hcap hin l9 hrest HC;have Ym:=af.mk hrl;have DX:=af.mk hin;have NP:=af.mk hcap;have L9:=af.mk l9;clear hrl hin hcap l9 hL;by_cases hm:L∈lP
   ·rw[ah hm] at hrest;rw[ap hm] at HC;have HE:=af.mk hrest;clear hrest hm;go_wp2_with (go_at_call 151;refine HC.o.mono ?_;rintro e w' ⟨rfl,hb'⟩)
    go_roundg (10 - (i.toNat+1))
    case measure=>have:=HK.o;omega
    case rel=>exact⟨i+1,rfl,⟨ae⟩,⟨ae⟩,⟨by rw[HE.o];exact Kd.vI HO.o hb'⟩,⟨aU HB.o hb'⟩⟩
   ·rw[ag hm] at hrest;rw[aD hm] at HC;have HE:=af.mk hrest;clear hrest hm;obtain⟨R,hR⟩:∃R,eO l i.toNat=R:=⟨_,rfl⟩;rw[hR] at HE HO Ym;clear hR;go_wp2_with fail
    refine HC.o.mono ?_;rintro e w7 ⟨rfl,E_⟩;have uQ:=af.mk (Kd.vI (Kd.zh (ok':=fun k_=>w5.heap.size≤k_∧¬wr.heap.size≤k_) (Kd.F9 HO.o) (fun k hk=>⟨hk.1,by have:=hk.2.2.1;omega⟩)) E_);have HU:=af.mk (Kd.J0 HO.o);have HS7:=af.mk E_.size;have Ad:=af.mk (aU HB.o E_);have ame:=af.mk (Kd.aN DX.o E_);clear E_ HO HC hBw
    go_wp2_with (first
     |((with_reducible refine db (N:=33) rfl ?_);refine Kd.dV (Kd.int .i64) (w0:=w7) w7.heap.size 3 ?hg (N:=33) ?hd (xs:=([]:List Int)) (inner:=[]) (ok:=fun _=>True) (bp:=fun _=>True) ?hr ?hp (fun _ hk=>hk) trivial (Below.refl _ _) (aH _) bn ?_;(case hd=>rfl);(case hg=>rfl);(case hr=>first|(go_simp;done)|(go_simp;rfl));(case hp=>exact(aE.none _ _));intro v8 w8 ho hb bq br;have HO8:=af.mk ho;have PQ:=af.mk hb;clear ho hb bq br)
     |(at_builtin;refine Kd.JL (Kd.int .i64) (w0:=w7) w7.heap.size rfl (.tmp 33) (.tmp 34) 31 3 (.int .i64 0) 8 rfl Tryz.underlying31 info3 rfl ao ae v8 [] L A' L.length c' (fun _=>True) (fun _=>False) rfl rfl ?aO ?aR (fun _ _ h=>h) (fun _ hk=>hk.elim) (fun _ _=>trivial) ?aB ?aS ?aL ?_;(case aO=>exact HO8.o);(case aR=>exact Kd.aN ame.o PQ.o);(case aB=>exact PQ.o);(case aS=>exact PQ.o.size);(case aL=>have:=L9.o;simp;omega);intro v9 w9 ho hb hg hat;rw[List.nil_append] at ho;obtain⟨A9,c9,e9⟩:=Kd.bJ ho;subst e9;have HO9:=af.mk ho;have wD:=af.mk hb;clear ho hb hg hat)
     |(at_builtin;refine Kd.J1 LK (w0:=w5) w5.heap.size rfl (.tmp 32) (.tmp 36) 80 31 (.slice none 0 0) 24 rfl Tryz.underlying80 kL rfl ao ae u5 R L [.slice A9 L.length c9] (fun k_=>w5.heap.size≤k_) (fun k_=>wr.heap.size≤k_) rfl rfl ?aP ?aK ?aF ?aO ?aB ?aS ?aL ?_;(case aP=>exact⟨_,rfl,Kd.cv (Kd.dq (Kd.ix HO9.o) (fun k hk=>Nat.le_trans HS7.o hk.2.1)) Ad.o.size⟩);(case aK=>exact(fun k_ hk=>⟨Nat.le_trans HB.o.size hk,fun e=>Nat.lt_irrefl _ (Nat.lt_of_lt_of_le (HU.o k_ e.symm) hk)⟩));(case aB=>exact aU Ad.o wD.o);(case aF=>exact(fun k_ hk=>Nat.le_trans (aU Ad.o wD.o).size hk));(case aO=>exact Kd.vI uQ.o wD.o);(case aS=>exact(aU Ad.o wD.o).size);(case aL=>have:=Ym.o;omega);intro v10 mH ho hb hg hat;have amf:=af.mk ho;have amg:=af.mk hb;clear ho hb hg hat))
    go_roundg (10 - (i.toNat+1))
    case measure=>have:=HK.o;omega
    case rel=>exact⟨i+1,rfl,⟨ae⟩,⟨ae⟩,⟨by rw[HE.o];exact amf.o⟩,amg⟩
  ·have hi:i=10:=by have:=Yl.o;have:=HI.o;omega
   subst hi;have HNI:=af.mk (AX HS.o 10 ae).2;have HMM:=af.mk (I1 l 10);have HO:=af.mk (show Kd.S LK 31 wr w5.heap.size (fun k_=>w5.heap.size≤k_) u5 (eO l 10) from HO.o);have hout:pg l=eO l 10++nO 4:=rfl;have asO:=af.mk hout;clear hout hBw;by_cases Ba:(eO l 10).length=6
   case neg=>
    obtain⟨Aq,cq,eq⟩:=Kd.zk HO.o;subst eq;have hne:¬(((eO l 10).length:Int)=6):=ae;have HBB:=af.mk (aU ef.o HB.o);have Fa:=af.mk Ba;clear Ba;go_wp2;go_ret2
    exact⟨⟨.slice none 0 0,[],by rw[aD Fa.o];rfl,Kd.oP _ _ _ _ _,HBB.o,by rw[ag Fa.o]⟩⟩
   case pos=>
   have PO:=af.mk (PO.o Ba);obtain⟨Aq,cq,eq⟩:=Kd.zk HO.o;rw[Ba] at eq;subst eq;have PR:=af.mk Ba;clear Ba;go_wp2_with ((with_reducible refine db (N:=42) rfl ?_);refine Kd.dV (Kd.int .i64) (w0:=w5) w5.heap.size 3 ?hg (N:=42) ?hd (xs:=([1,3,4,5]:List Int)) (inner:=[.int .i64 1,.int .i64 3,.int .i64 4,.int .i64 5]) (ok:=fun _=>True) (bp:=fun _=>True) ?hr ?hp (fun _ hk=>hk) trivial HB.o HB.o.size bn ?_;(case hd=>rfl);(case hg=>rfl);(case hr=>first|(go_simp;done)|(go_simp;rfl));(case hp=>exact(aE.one (show Kd.M (Kd.int .i64) _ _ _ 1 [.int .i64 1] from rfl) (aE.one (show Kd.M (Kd.int .i64) _ _ _ 3 [.int .i64 3] from rfl) (aE.one (show Kd.M (Kd.int .i64) _ _ _ 4 [.int .i64 4] from rfl) (aE.one (show Kd.M (Kd.int .i64) _ _ _ 5 [.int .i64 5] from rfl) (aE.none _ _))))));intro v12 sS ho hb bq br;obtain⟨AL,cL,eL⟩:=Kd.bJ ho;subst eL;have wv:=af.mk ho;have Yn:=af.mk hb;have Yo:=af.mk (Kd.abB HO.o bq (fun k _=>by simp));clear ho hb bq br)
   go_loopg [5,44] 4 (fun kq v5 M8 w'=> ∃j:Int,M8=.int .i64 j∧af (0≤j∧j≤4)∧af ((4:Int) - j≤kq)∧af (Kd.S LK 31 w' w5.heap.size (fun k_=>w5.heap.size≤k_) v5 (eO l 10++nO j.toNat))∧af (Kd.R (Kd.int .i64) 3 w' w5.heap.size (fun _=>True) (.slice AL ([1,3,4,5]:List Int).length cL) [1,3,4,5])∧af (Below w5.heap.size w5 w'))
   case atStart=>exact⟨0,rfl,⟨ae⟩,⟨ae⟩,⟨by rw[show nO (0:Int).toNat=[] from rfl,List.append_nil];exact Yo.o⟩,wv,Yn⟩
   case round=>
    clear Yo wv Yn HO HB
    rename World=>wB
    obtain⟨j,rfl,HI,HK,HO,wv,HB⟩:=hrel;have h0:0≤j:=HI.o.1;by_cases c7:j<4
    ·obtain⟨ad,eL,hx0⟩:=iI.at_ (Kd.tG (enc:=Value.int .i64) (d:=(0:Int)) (h1:=fun _=>rfl) (Kd.bm wv.o).2.2) j h0 (by simpa using c7);cases eL;have hx:wB.cell? (ad.add j.toNat)=some (.int .i64 (A_ j)):=hx0;have I4:=af.mk (alM h0 c7);have hnew:=alN h0 c7;have Gh:(eO l 10++nO j.toNat).length=6+j.toNat:=by rw[List.length_append,PR.o,alO h0 ae]
     have Yp:=af.mk Gh;have hc0:0≤A_ j∧A_ j<9:=by have:=I4.o;unfold CC at this;omega
     obtain⟨c,hc⟩:∃c,A_ j=c:=⟨_,rfl⟩;rw[hc] at hx I4 hnew hc0;obtain⟨Yq,Yr⟩:=hc0;have PS:=af.mk (show eO l 10++nO (j+1).toNat=(eO l 10++nO j.toNat)++[iH c] by rw[hnew,List.append_assoc]);obtain⟨R,hR⟩:∃R,eO l 10++nO j.toNat=R:=⟨_,rfl⟩;rw[hR] at HO Yp PS;clear hx0 hnew Gh hc hR;go_wp2_with ((with_reducible refine db (N:=48) rfl ?_);refine Kd.dV (Kd.int .i64) (w0:=wB) wB.heap.size 3 ?hg (N:=48) ?hd (xs:=([]:List Int)) (inner:=[]) (ok:=fun _=>True) (bp:=fun _=>True) ?hr ?hp (fun _ hk=>hk) trivial (Below.refl _ _) (aH _) bn ?_;(case hd=>rfl);(case hg=>rfl);(case hr=>first|(go_simp;done)|(go_simp;rfl));(case hp=>exact(aE.none _ _));intro Iu t_ ho hb bq br;have Ys:=af.mk ho;have Yt:=af.mk hb;clear ho hb bq br)
     have HWR:=af.mk HB.o.size;go_loopg [10,49] 3 (fun kq v10 v49 w'=> ∃u:Int,v49=.int .i64 u∧af (0≤u∧u≤3)∧af ((3:Int) - u≤kq)∧af (Kd.R (Kd.int .i64) 3 w' wB.heap.size (fun _=>True) v10 (lf c (3*u.toNat)))∧af (Below wB.heap.size wB w'))
     case atStart=>exact⟨0,rfl,⟨ae⟩,⟨ae⟩,Ys,Yt⟩
     case round=>
      clear Ys Yt;obtain⟨u,rfl,HI2,bw,iC,bK⟩:=hrel;have u0:0≤u:=HI2.o.1;by_cases c8:u<3
      ·have HT1:=af.mk (fun w=>eP.calls c u (kM c u) w (PL Yq Yr u0 ae));have hq1:=R3 c u;obtain⟨q1,e1⟩:∃q,kM c u=q:=⟨_,rfl⟩;rw[e1] at HT1 hq1;have HE1:=af.mk e1;obtain⟨oa,K8⟩:=hq1;clear e1;go_wp2;go_loopg [10,52] 3 (fun kq v10 v52 w'=> ∃v:Int,v52=.int .i64 v∧af (0≤v∧v≤3)∧af ((3:Int) - v≤kq)∧af (Kd.R (Kd.int .i64) 3 w' wB.heap.size (fun _=>True) v10 (lf c (3*u.toNat+v.toNat)))∧af (Below wB.heap.size wB w'))
       case atStart=>exact⟨0,rfl,⟨ae⟩,⟨ae⟩,iC,bK⟩
       case round=>
        clear iC bK;obtain⟨v,rfl,HI3,dt,iC,bK⟩:=hrel;have v0:0≤v:=HI3.o.1;by_cases c9:v<3
        ·have Yu:=af.mk (fun w=>eP.calls c v (kM c v) w (PL Yq Yr v0 ae));have nA:=R3 c v;obtain⟨q2,e2⟩:∃q,kM c v=q:=⟨_,rfl⟩;rw[e2] at Yu nA;obtain⟨Ti,Tj⟩:=nA
         have huv:lf c (3*u.toNat+(v+1).toNat)=lf c (3*u.toNat+v.toNat)++[9*q1+q2]:=by
          rw[show 3*u.toNat+(v+1).toNat=(3*u.toNat+v.toNat)+1 by omega,alH,show(((3*u.toNat+v.toNat:Nat):Int)) / 3=u by omega,show(((3*u.toNat+v.toNat:Nat):Int))%3=v by omega,HE1.o,e2]
         have PT:(lf c (3*u.toNat+v.toNat)).length=3*u.toNat+v.toNat:=Yc _ _;obtain⟨X,hX⟩:∃X,lf c (3*u.toNat+v.toNat)=X:=⟨_,rfl⟩;rw[hX] at iC huv PT;have HUV:=af.mk huv;have HUL:=af.mk PT;clear huv PT hX e2
         go_wp2_with (first
          |(refine y6 (some 58) rfl rfl Tryz.func71 am rfl #[.int .i64 c,.int .i64 u] rfl qQ ?_;(with_reducible refine(HT1.o _).mono ?_);rintro e w' ⟨rfl,⟨nd,rfl⟩⟩;refine⟨_,rfl,?_⟩)
          |(refine y6 (some 62) rfl rfl Tryz.func71 am rfl #[.int .i64 c,.int .i64 v] rfl qQ ?_;(with_reducible refine(Yu.o _).mono ?_);rintro e w' ⟨rfl,⟨nd,rfl⟩⟩;refine⟨_,rfl,?_⟩)
          |(at_builtin;refine Kd.jW (Kd.int .i64) (w0:=wB) wB.heap.size rfl (.tmp 55) (.tmp 64) 31 3 (.int .i64 0) 8 rfl Tryz.underlying31 info3 rfl ao ae u10 X (9*q1+q2) [.int .i64 (9*q1+q2)] (fun _=>True) (fun _=>False) rfl rfl ?aP (fun _ hk=>hk.elim) ?aF ?aO ?aB ?aS ?aL ?_;(case aP=>exact rfl);(case aB=>exact(ai bK));(case aF=>exact(fun _ _=>trivial));(case aO=>exact(aX iC));(case aS=>exact(aZ (ai bK)));(case aL=>have:=HUL.o;omega);intro Tt wT ho hb hg hat;have amh:=af.mk ho;have ami:=af.mk hb;clear ho hb hg hat))
         go_roundg (3 - (v.toNat+1))
         case measure=>have:=dt.o;omega
         case rel=>exact⟨v+1,rfl,⟨ae⟩,⟨ae⟩,⟨by rw[HUV.o];exact amh.o⟩,ami⟩
        ·have hv:v=3:=by have:=HI3.o;omega
         subst hv;go_wp2;go_roundg (3 - (u.toNat+1))
         case measure=>have:=bw.o;omega
         case rel=>exact⟨u+1,rfl,⟨ae⟩,⟨ae⟩,⟨by rw[show 3*(u+1).toNat=3*u.toNat+(3:Int).toNat by omega];exact iC.o⟩,bK⟩
      ·have hu:u=3:=by have:=HI2.o;omega
       subst hu;obtain⟨mc,c10,e10⟩:=Kd.bJ iC.o;have e10:u10=.slice mc 9 c10:=e10;subst e10;obtain⟨ks,hks⟩:=alL I4.o;have Yv:=af.mk (fun w1 hB ho=>xZ.calls ks (fun _=>True) (.slice mc 9 c10) (lf c 9) (iH c) wB w1 hB ho hks);have iC:=af.mk (show Kd.R (Kd.int .i64) 3 wr wB.heap.size (fun _=>True) (.slice mc 9 c10) (lf c 9) from iC.o);have HOC:=af.mk (PN I4.o);clear hks;have uQ:=af.mk (Kd.zh (ok':=fun k_=>w5.heap.size≤k_∧¬wB.heap.size≤k_) (Kd.F9 HO.o) (fun k hk=>⟨hk.1,by have:=hk.2.2.1;omega⟩));have HU:=af.mk (Kd.J0 HO.o);clear HO;obtain⟨Z,hZ⟩:∃Z,iH c=Z:=⟨_,rfl⟩;rw[hZ] at PS Yv;clear hZ HOC
       go_wp2_with (first
        |(go_at_call 152;refine(Yv.o _ bK.o iC.o).mono ?_;rintro e tT ⟨rfl,iQ,Yw,amj⟩;have amk:=af.mk iQ;have Bb:=af.mk Yw;clear iQ Yw amj)
        |(at_builtin;refine Kd.J1 LK (w0:=w5) w5.heap.size rfl (.tmp 70) (.tmp 72) 80 31 (.slice none 0 0) 24 rfl Tryz.underlying80 kL rfl ao ae u5 R Z [.slice mc 9 c10] (fun k_=>w5.heap.size≤k_) (fun k_=>wB.heap.size≤k_) rfl rfl ?aP ?aK ?aF ?aO ?aB ?aS ?aL ?_;(case aP=>exact⟨_,rfl,Kd.cv (Kd.dq (Kd.ix amk.o) (fun k hk=>hk.2.1)) HB.o.size⟩);(case aK=>exact(fun k_ hk=>⟨Nat.le_trans HB.o.size hk,fun e=>Nat.lt_irrefl _ (Nat.lt_of_lt_of_le (HU.o k_ e.symm) hk)⟩));(case aB=>exact aU HB.o Bb.o);(case aF=>exact(fun k_ hk=>Nat.le_trans (aU HB.o Bb.o).size hk));(case aO=>exact Kd.vI uQ.o Bb.o);(case aS=>exact(aU HB.o Bb.o).size);(case aL=>have:=Yp.o;omega);intro TW tU ho hb hg hat;have aml:=af.mk ho;have amm:=af.mk hb;have amn:=af.mk (Kd.FV (Kd.dB wv.o Bb.o) (Kd.abC (Kd.vI uQ.o Bb.o)) ao hg);clear ho hb hg hat))
       go_roundg (4 - (j.toNat+1))
       case measure=>have:=HK.o;omega
       case rel=>exact⟨j+1,rfl,⟨ae⟩,⟨ae⟩,⟨by rw[PS.o];exact aml.o⟩,amn,amm⟩
    ·have hj:j=4:=by have:=HI.o;omega
     subst hj;have HO:=af.mk (show Kd.S LK 31 wB w5.heap.size (fun k_=>w5.heap.size≤k_) u5 (pg l) from HO.o);have hol:(pg l).length=10:=by unfold pg;rw[List.length_append,PR.o];rfl
     have Yx:∀x∈pg l,x.length=9:=fun x hx=>by
      rcases List.mem_append.1 hx with h|h
      ·exact HNI.o x ((HMM.o x).1 h)
      ·obtain⟨c,hc,rfl⟩:=List.mem_map.1 h;have hc:c∈([1,3,4,5]:List Int):=hc;exact PN (by simpa [CC] using hc)
     obtain⟨Ar,cr,er⟩:=Kd.zk HO.o;rw[hol] at er;subst er;have HC:=af.mk (fun w1 hB hN=>V1 (pg l) hol Yx PO.o Ar cr w5 w1 (fun k_=>w5.heap.size≤k_) hB hN);have Fa:=af.mk PR.o;clear hol Yx;go_wp2_with (go_at_call 144;refine(HC.o _ HB.o HO.o).mono ?_;rintro e w' ⟨rfl,r,hr,hN,hb⟩)
     go_ret2
     exact⟨⟨.slice Ar 10 cr,r,by rw[ap Fa.o];rfl,Kd.zh (Kd.R8 hN ef.o.size) (fun _ _=>trivial),aU ef.o hb,by rw[ah Fa.o];exact hr⟩⟩
end X
namespace P
def yc.f(l0:List (List Int)):Option (List (List Int)×Bool):=some (X.m9 l0)
theorem yc.amo(A0:Option Addr)(c0:Nat)(l0:List (List Int))(r1:List (List Int))(r2:Bool)(w:World)(hr0:Kd.C (Kd.slice 3 (Kd.int .i64)) w A0 l0.length l0)(hc0:l0.length≤c0)(h:yc.f l0=some (r1,r2)):
  Calls Tryz.prog 88 #[.slice A0 l0.length c0] w fun e w'=> ∃bO:Value,e=.returned (.tuple #[bO,.bool r2])∧Kd.S (Kd.slice 3 (Kd.int .i64)) 31 w' w.heap.size (fun _=>True) bO r1∧Below w.heap.size w w':=by
 unfold yc.f X.m9 at h;by_cases hs:X.dk l0=true
 case neg=>
  rw[ag fun h=>hs h.1] at h;injection h with h
  injection h with h1 h2
  subst h1;subst h2;exact(X.amb A0 c0 l0 w hr0 (Bool.eq_false_iff.2 hs)).mono fun e w' ⟨he,hb⟩=>⟨_,he,Kd.oP _ _ _ _ _,hb⟩
 case pos=>
 refine(X.amd A0 c0 l0 w hr0 hs (X.alU hs)).mono ?_;rintro e w' ⟨v,r,he,hS,hb,hr⟩;have hlen:(X.eO l0 10).length=6↔(X.ld l0 10).length=6:=by rw[X.Ya]
 by_cases h6:(X.eO l0 10).length=6
 ·rw[ah ⟨hs,hlen.1 h6⟩] at h;injection h with h
  injection h with h1 h2
  subst h1;subst h2;rw[ah h6] at hr;rw[ap h6] at he;rw[X.alZ hs h6 hr.2.1 hr.2.2] at hS;exact⟨v,he,hS,hb⟩
 ·rw[ag fun h=>h6 (hlen.2 h.2)] at h;injection h with h
  injection h with h1 h2
  subst h1;subst h2;rw[ag h6] at hr;rw[aD h6] at he;subst hr;exact⟨v,he,hS,hb⟩
end P
namespace X
theorem aow{t x:List Int}(h:fM t x=true):Ev (fun k=>Ab.f k t x) (rn t x):=Ev.done (ah h)
theorem aox(t x:List Int):Ev (fun k=>uo.f k t x) (o0 t x):=by
 unfold uo.f o0;refine Ev.fix (show fE.f t=some (aW t) from rfl) ?_;by_cases hs:aW t=true
 case neg=>
  have:fM t x=false:=by unfold fM;rw[Bool.eq_false_iff.2 hs];rfl
  rw[this];exact Ev.neg hs (Ev.done rfl)
 refine Ev.pos hs (Ev.fix (Us hs) ?_);by_cases hq:fM t x=true
 case neg=>
  rw[ag hq];exact Ev.neg hq (Ev.done rfl)
 rw[ah hq];exact Ev.pos hq (Ev.bind (aow hq) (Ev.done rfl))
end X
end Go.Proofs.YtiobedekgnfjcaaGreatDoor
