/- Part of the proof. -/
import Derived.Test.YtdcacpeaimjdlaaGreatDoorPad
import Derived.Test.YtdcacpeaimjdlaaGreatDoorPae
import Derived.Deep.DeepCutAuto
namespace Go.Proofs.YtdcacpeaimjdlaaGreatDoor
open Go.RowKit Go.Maps Go.Proofs.Tryz Mq
open Go.Value renaming int→J,slice→Z,string→aA,pointer→aK,bool→aO,tuple→aN,agg→aS,complex→aH
open Go.IntKind renaming i64→U
open Option renaming none→O,some→R
open Go.Ending renaming returned→av
open Go renaming World→aB,Value→aI,Calls→aF,Addr→aX,TypeId→bB,undef→bq
open Go.RowKit renaming Below→aJ
open Go.Proofs.Tryz renaming prog→au
open Go.FloatKind renaming f64→aW
set_option maxRecDepth 20000
set_option maxHeartbeats 0
set_option linter.all false
variable {J0 J1 J2 J3 J4 J5 J6 J7 J8 J9 N0 N1 N2 N3 N4 N5 N6 N7 N8 N9 O0 O1 O2 O3 O4 O5 O6 O7 O8 O9 Q0 Q1 Q2 Q3 Q4 Q5 Q6 Q7 Q8 Q9 R0 R1 R2 R3 R4 T0 T1 T2 T3 T4 T5 T6 T7 T8 T9 X0 X1 X2 X3 X4 X5 X6 X7 X8 X9 u1 u2 u4 u5 u6 u7 u8 u9:aI}
def jS (a:List aI):Nat→List aI→List aI
 |_,[]=>a
 |b,c::d=>jS (a.set b c) (b+1) d
def kZ:∀(c:List aI) (b:Nat) (a:List aI),(jS a b c).length=a.length
 |[],_,_=>rfl
 |d::c,b,a=>by rw[jS,kZ c];simp
def mM:∀(d:List aI) (b:Nat) (c:List aI) (a:Nat),a<c.length→(jS c b d)[a]?=if b≤a∧a<b+d.length then d[a-b]? else c[a]?
 |[],b,c,a,d=>by rw[jS,aL Y1]
 |f::e,b,c,a,d=>by
  rw[jS,mM e (b+1) _ a (Y6 d),List.getElem?_set]
  by_cases c:b=a
  ·subst c
   rw[aL Y0,aP rfl,aP d,aP ⟨aD _,Y1⟩,Nat.sub_self];rfl
  ·rw[aL c]
   by_cases c:b+1≤a∧a<b+1+e.length
   ·rw[aP c,aP (by simp;omega),show a-b=(a- (b+1))+1 by omega];rfl
   ·rw[aL c,aL (by simp;omega)]
def gT {f:Nat} {g:bB} {h b i c:Nat}:∀(j:List aI) (a:Nat) (d:aB) (e:List aI),d.ownsRow f g h (Z (R ⟨c,0,O⟩) b i) b e→(d.setCells c a j).ownsRow f g h (Z (R ⟨c,0,O⟩) b i) b (jS e a j)
 |[],_,_,_,b=>b
 |c::f,a,d,e,b=>by
  rw[World.setCells,jS]
  exact gT f (a+1) _ _ (b.stored a c).1
def Ql {f:Sm→List aI} {s:Nat} (h:0<s) (d:∀m,(f m).length=s) {b:List Sm} {c:Nat} {m:Sm} (j:c<b.length):jS (b.flatMap f) (c*s) (f m)=(b.set c m).flatMap f:=by
 apply List.ext_getElem?;intro a;have e:=nE d b;have e:=nE d (b.set c m);rw[List.length_set]at e;by_cases e:a<b.length*s
 ·rw[mM _ _ _ a Y0,d];have n:a/s<b.length:=(Nat.div_lt_iff_lt_mul h).2 e;have i:a%s<s:=Nat.mod_lt _ h;have k:a=a/s*s+a%s:=by have:=Nat.div_add_mod a s;rw[Nat.mul_comm]at this;omega
  by_cases e:a/s=c
  ·have g:=mU d (l:=b.set c m) (i:=a/s) (m:=m) (by rw[e,List.getElem?_set_self j]) (a%s) i;rw[←k]at g;rw[g,aP (by rw[←e];omega)];congr 1;rw[←e];omega
  ·obtain⟨j,l⟩:∃j,b[a/s]?=R j:=⟨_,aQ n⟩;have g:=mU d (l:=b.set c m) (i:=a/s) (m:=j) (by rw[List.getElem?_set_ne (Ne.symm e)];exact l) (a%s) i;have b:=mU d l (a%s) i;rw[←k]at g b;rw[g,b,aL];intro b;apply e;have d:c≤a/s:=(Nat.le_div_iff_mul_le h).2 b.1;have d:a/s<c+1:=(Nat.div_lt_iff_lt_mul h).2 (by rw[Nat.succ_mul];exact b.2);omega
 ·rw[bQ (by rw[kZ];omega),bQ Y0]
def VE {e:aB} {h:Nat} {i:Int} {f:List Sm} {j:List Nat} {b k l c:Nat} {m:Option Nat} {d:Sm} (a:Ec e h i f j (R ⟨b,0,O⟩) k l m) (g:dY (lu f) d.c=R c):Ec (e.setCells b (c*17) (eU d)) h i (f.set c d) j (R ⟨b,0,O⟩) k l m:=by
 have h:c<f.length:=by rw[←kU];exact iV g
 have k:=(a.e b rfl).2;have i:bg [b] e (e.setCells b (c*17) (eU d)):=bg.f (aC.2 rfl) _ _ _;have l:=Ch (kr g);refine⟨by rw[List.length_set];exact a.a,?_,?_,a.e,?_,a.j,fun j f=>aV (a.i j f) i.b⟩
 ·rw[Bg (kr g),Bg (kr g)];exact a.d.g i (fun f=>k (aC.1 f).symm)
 ·have g:=gT (eU d) (c*17) e _ a.h;have c:=Ql (f:=eU) (s:=17) Y2 mK (m:=d) h;unfold jk at g⊢;rw[c]at g;exact g
 ·rcases a.k with⟨_,f⟩|⟨j,g,c,d⟩
  ·rw[f]at h;simp at h
  ·refine .inr ⟨j,g,c,?_⟩;rw[l];exact d.a i (fun f=>iI a.h d b rfl (aC.1 f).symm)
def MG {a:aB} {b c h d:Nat} {e:List Sm} {f:Sm} (g:a.ownsRow 0 211 17 (Z (R ⟨b,0,O⟩) c h) c (jk e)) (c:e[d]?=R f):a.there b (d*17) 17:=fun d a=>by
 refine⟨?_,g.frozenAt _⟩
 have b:=mU (f:=eU) (s:=17) mK c d a
 rw[aQ (l:=eU f) (by rw[mK];exact a)]at b
 rw[dG g b];rfl
def Qm {e:Int} {c:List Sm} {f:List Nat} (d:Nat) (b:Sm) (a:aB) (g:Y (Ro a d e c f)) (k:Y ((Lit.int U b.c).wf=true)) (e:Y (dY (lu c) b.c=O)):
  aF au 148 #[qp d,aS b] a fun f c=>f=av false∧aJ a a c:=by obtain⟨h,i,j,l,c⟩:=g.o;have g:=aj c;clear c;obtain⟨h,l⟩:=exq a.heap.size;obtain⟨c,i⟩:=exq (a.alloc (.cells b 211));have j:Y (aJ a a c):=aj (by rw[←i];exact iQ a _);have m:Y (bH c h 211 b):=aj (by rw[←i,←l];exact bH.d a 211 _);have a:=m.o.H 0;have a:=aj (mV d b.c 0 false c k (aj (g.o.f j.o)) (aj (by unfold Cm;rw[e.o];rfl)) (aj (by rw[e.o];rfl)));clear g;go_enter func148,ntmps148;go_wp2_with fail;refine mB a.o ?_;rintro b rfl;clear a;go_wp2;go_ret;exact⟨rfl,j.o⟩
def Zl {d:Int} {c:List Sm} {f:List Nat} (e:Nat) (a:Sm) (h:Nat) (b:aB) (g:Y (c.length≤1000)) (j:Y (Ro b e d c f)) (l:Y ((Lit.int U a.c).wf=true)) (i:Y (dY (lu c) a.c=R h)) (m:Y (uG a=false)):
  aF au 148 #[qp e,aS a] b fun f c=>f=av false∧aJ b b c:=by
 obtain⟨k,d,n,o,c⟩:=j.o;have n:=aj c;have j:d≤1000:=by rw[←c.a];exact g.o
 clear c;obtain⟨d,o⟩:=exq b.heap.size;obtain⟨c,j⟩:=exq (b.alloc (.cells a 211));have g:Y (aJ b b c):=aj (by rw[←j];exact iQ b _);have k:Y (bH c d 211 a):=aj (by rw[←j,←o];exact bH.d b 211 _);have b:=k.o.H 0;have b:=aj (mV e a.c (h:Nat) true c l (aj (n.o.f g.o)) (aj (by unfold Cm;rw[i.o];rfl)) (aj (by rw[i.o];rfl)));have i:=aj (jl k.o);have e:=aj (zcd a c false m.o);go_enter func148,ntmps148;go_wp2_with fail;refine mB b.o ?_;rintro c rfl;clear b;go_wp2_with (refine eT Y4 211 (.tmp 3) rfl d 0 Y4 (eU a) i.o underlying211 rfl dW a rfl ?_);refine mB e.o fun b a=>?_;have b:=aj (eF g.o g.o.size a);clear a e;go_wp2;go_ret;exact⟨rfl,b.o⟩
def VF {r:Int} {k:List Sm} {l:List Nat} (d:Nat) (a:Sm) (f:Nat) (e:aB) (h:Y (k.length≤1000)) (g:Y (Ro e d r k l)) (j:Y ((Lit.int U a.c).wf=true)) (o:Y (dY (lu k) a.c=R f)) (w:Y (uG a=true)):
  aF au 148 #[qp d,aS a] e fun c n=>c=av true∧Ro n d r (k.set f a) l∧bg l e n:=by
 obtain⟨i,m,s,p,b⟩:=g.o;have g:=aj b;have i:m≤1000:=by rw[←b.a];exact h.o
 clear b;obtain⟨h,p⟩:=exq e.heap.size;obtain⟨b,i⟩:=exq (e.alloc (.cells a 211));have t:Y (aJ e e b):=aj (by rw[←i];exact iQ e _);have u:Y (bH b h 211 a):=aj (by rw[←i,←p];exact bH.d e 211 _);have x:=u.o.H 0;have i:=aj (mV d a.c (f:Nat) true b j (aj (g.o.f t.o)) (aj (by unfold Cm;rw[o.o];rfl)) (aj (by rw[o.o];rfl)));have j:=aj (jl u.o);have v:=aj (zcd a b true w.o);go_enter func148,ntmps148;go_wp2_with fail;refine mB i.o ?_;rintro b rfl;clear i;go_wp2_with (refine eT Y4 211 (.tmp 3) rfl h 0 Y4 (eU a) j.o underlying211 rfl dW a rfl ?_);refine mB v.o fun i j=>?_;have w:=aj (eF t.o t.o.size j);have y:=aj (bH.b u.o j);have t:=aj (g.o.f w.o);clear j v x;have z:f<m:=by rw[←g.o.a,←kU];exact iV o.o
 obtain⟨c,u,b⟩:=eu (n:=m) g.o.h Y0;injection b with b _ _;subst b;have u:=t.o.d.H 1;have v:=aj (jl y.o);have y:c≠h:=by have:=g.o.i c (g.o.e c rfl).1;omega
 have A:c≠d:=(g.o.e c rfl).2;obtain⟨b,x⟩:∃b,k[f]?=R b:=⟨_,aQ (by rw[g.o.a];exact z)⟩;have z:=aj (MG t.o.h x);have B:Y ((i.drew.setCells c (f*17) (eU a)).cell? ⟨d,1,O⟩=R (Z (R ⟨c,0,O⟩) m s)∧(i.drew.setCells c (f*17) (eU a)).rangeAt h 0 (eU a)):=aj
  ⟨(World.cell?_setCells_out c _ _ _ _ (fun b=>absurd b (Ne.symm A))).trans u,fun p q A=>(World.cell?_setCells_out c _ _ _ _ (fun b=>absurd b (Ne.symm y))).trans (v.o p q A)⟩
 have p:Y (Ro (i.drew.setCells c (f*17) (eU a)) d r (k.set f a) l∧bg l e (i.drew.setCells c (f*17) (eU a))):=aj
  ⟨⟨_,_,_,_,VE (t.o.m (F1:=[]) (bg.l i) (fun _ _=>Y1)) o.o⟩,((bg.d w.o).a (bg.l i) (F1:=l) (fun i j=>.inl j)).a (bg.f (g.o.e c rfl).1 _ _ _) (fun i j=>.inl j)⟩
 clear x;go_wp2_with fail;refine wp_region_held_drew (S:=fun n=>n.cell? ⟨d,1,O⟩=R (Z (R ⟨c,0,O⟩) m s)∧n.rangeAt h 0 (eU a)) Y3 (⟨u,v.o⟩) (fun i=>?_);refine wpAnyH_take (i:=0) (v:=?_) rfl Y3 Y3 Y3 (fun _ _ _ b=>b) (Or.inl ⟨Y4, ?hy⟩) (by assumption) ?_;case hy=>intro e d;have g:=d.1;clear d;(try dsimp only at g);go_simp;(try with_reducible rfl)
 (try dsimp only[List.getElem_toArray,List.getElem_cons_zero,List.getElem_cons_succ]);try simp only[Act.put,List.setIfInBounds_toArray,List.set_cons_zero,List.set_cons_succ]
 refine wpAnyH_take (i:=1) (v:=?_) rfl Y3 Y3 Y3 (fun _ _ _ b=>b) (Or.inl ⟨Y4, ?hy⟩) (by assumption) ?_;case hy=>intro e d;have g:=d.1;clear d;(try dsimp only at g);go_simp;(try with_reducible rfl)
 (try dsimp only[List.getElem_toArray,List.getElem_cons_zero,List.getElem_cons_succ]);try simp only[Act.put,List.setIfInBounds_toArray,List.set_cons_zero,List.set_cons_succ]
 refine wpAnyH_take (i:=2) (v:=?_) rfl Y3 Y3 Y3 (fun _ _ _ b=>b) (Or.inl ⟨Y4, ?hy⟩) (by assumption) ?_;case hy=>intro e d;have g:=d.1;clear d;(try dsimp only at g);go_simp;(try with_reducible rfl)
 (try dsimp only[List.getElem_toArray,List.getElem_cons_zero,List.getElem_cons_succ]);try simp only[Act.put,List.setIfInBounds_toArray,List.set_cons_zero,List.set_cons_succ]
 refine wpAnyH_take (i:=3) (v:=?_) rfl Y3 Y3 Y3 (fun _ _ _ b=>b) (Or.inl ⟨Y4, ?hy⟩) (by assumption) ?_;case hy=>intro e d;have g:=d.1;clear d;(try dsimp only at g);go_simp;(try with_reducible rfl)
 (try dsimp only[List.getElem_toArray,List.getElem_cons_zero,List.getElem_cons_succ]);try simp only[Act.put,List.setIfInBounds_toArray,List.set_cons_zero,List.set_cons_succ]
 refine wpAnyH_take (i:=4) (v:=?_) rfl Y3 Y3 Y3 (fun _ _ _ b=>b) (Or.inl ⟨Y4, ?hy⟩) (by assumption) ?_;case hy=>intro e d;have g:=d.1;clear d;(try dsimp only at g);go_simp;(try with_reducible rfl)
 (try dsimp only[List.getElem_toArray,List.getElem_cons_zero,List.getElem_cons_succ]);try simp only[Act.put,List.setIfInBounds_toArray,List.set_cons_zero,List.set_cons_succ]
 refine wpAnyH_take (i:=5) (v:=aS a) rfl Y3 Y3 Y3 (fun _ _ _ b=>b) ?hz (by assumption) ?_;case hz=>exact yieldsIf_load_mid Y4 211 (.tmp 3) rfl h 0 Y4 (eU a) _ (fun _ b=>b.2) underlying211 rfl dW
 (try dsimp only[List.getElem_toArray,List.getElem_cons_zero,List.getElem_cons_succ]);try simp only[Act.put,List.setIfInBounds_toArray,List.set_cons_zero,List.set_cons_succ]
 refine wpAnyH_take (i:=6) (v:=?_) rfl Y3 Y3 Y3 (fun _ _ _ b=>b) (Or.inl ⟨Y4, ?hy⟩) (by assumption) ?_;case hy=>intro e d;have g:=d.1;clear d;(try dsimp only at g);go_simp;(try with_reducible rfl)
 (try dsimp only[List.getElem_toArray,List.getElem_cons_zero,List.getElem_cons_succ]);try simp only[Act.put,List.setIfInBounds_toArray,List.set_cons_zero,List.set_cons_succ]
 refine wpAnyH_ready (rs:=[7]) Y3 Y1 ?_;refine AllReadyH.cons rfl (fun d b=>?_) ?_
 ·refine Hw rfl 211 (.tmp 27) (.tmp 26) rfl c (f*17) a Y4 Y4 z.o dW (all_oneCell_toArray (iP a)) ?_;refine b.out _ _ B.o (fun i=>?_);clear b;(try dsimp only[List.getElem_toArray,List.getElem_cons_zero,List.getElem_cons_succ]);try simp only[Act.put,List.setIfInBounds_toArray,List.set_cons_zero,List.set_cons_succ]
  refine wpAnyH_done Y3 ?_ _;try refine NoPanic.normal ?_
  go_wp2;go_ret;exact⟨rfl,p.o.1,p.o.2⟩
 ·exact AllReadyH.nil
def Qn {A:aB→Prop} {i:Exit→Act→aB→Prop} {wc:aB} {g v:Nat} {m:Sm} {oo z0 z1:Int} {mb bad:Bool} 
  (e:A wc.drew) (k:∀a:Wd A,∀d h,(m:Array aI)[d]?=R h→a.W.cell? ⟨v,0+d,O⟩=R h)
  (d:∀a:Wd A,a.W.cell? ⟨v,0,O⟩=R (J U m.c))
  (d:∀a:Wd A,a.W.cell? ⟨v,2,O⟩=R (J U oo))
  (d:∀a:Wd A,a.W.cell? ⟨g,3,O⟩=R (J U z0))
  (d:∀a:Wd A,a.W.cell? ⟨g,4,O⟩=R (J U z1))
  (l:mb=false∨(mb=true∧(oo=0∨oo=1)))
  (o:bad=(!mb||decide (m.c≤if oo=0 then z0 else z1)))
  (h:∀a:Wd A,aF au 192 #[aS m] a.W fun d w'=>d=av mb∧A w')
  (d:∀p q r s t u x y z C D E F G H I j,A j→i .normal ⟨#[qp g,u1,u2,qp v,u4,u5,u6,u7,bad,p,q,r,s,t,u,x,y,z,C,D,E,F,G,H,I,T5,T6,T7,T8,T9,N0,N1,N2,N3,N4,N5,N6,N7,N8,N9,X0,X1,X2,X3,X4,X5,X6,X7,X8,X9,O0,O1,O2,O3,O4,O5,O6,O7,O8,O9,J0,J1,J2,J3,J4,J5,J6,J7,J8,J9,R0,R1,R2,R3,R4],[]⟩ j):
  Code.wp au (fu 3 (f200.body.getD .skip)) i ⟨#[qp g,u1,u2,qp v,u4,u5,u6,u7,u8,u9,Q0,Q1,Q2,Q3,Q4,Q5,Q6,Q7,Q8,Q9,T0,T1,T2,T3,T4,T5,T6,T7,T8,T9,N0,N1,N2,N3,N4,N5,N6,N7,N8,N9,X0,X1,X2,X3,X4,X5,X6,X7,X8,X9,O0,O1,O2,O3,O4,O5,O6,O7,O8,O9,J0,J1,J2,J3,J4,J5,J6,J7,J8,J9,R0,R1,R2,R3,R4],[]⟩ wc:=by
 haveI:Nonempty (Wd A):=⟨⟨_,e⟩⟩;replace h:=aj h;have i:=aj d;clear d;conv=>arg 2;whnf
 refine Mg A [1] e ?_;clear e;refine WL.w (A:=A) (fun _ _ _ e=>e) 211 (.tmp 3) v 0 (m:Array aI) k underlying211 dW ?_;dsimp only[Act.put];refine WL.u (aO mb) (fun a=>?_) ?_
 ·go_simp;exact h.o a
 obtain rfl|⟨rfl,rfl|rfl⟩:=l<;>subst o
 all_goals
  repeat(refine WL.m (fun a d=>?_);go_simp;refine d _ ?_;clear d a)
  exact WL.b fun w' e=>by apply i.o;exact e
def MH {Ph:Nat→List (Kg)→aB→Prop} {r:Exit→Act→aB→Prop} {wc:aB} {g v n C:Nat} {A:Option aX} {m:Sm} 
  (i:Ph 0 [] wc.drew)
  (j:∀a,rS Ph 0 2 a→a.cell? ⟨g,1,O⟩=R (Z A n C))
  (k:∀a,rS Ph 0 3 a→∀d e,(m:Array aI)[d]?=R e→a.cell? ⟨v,0+d,O⟩=R e)
  (l:∀a,Ph 0 [] a→Ph 1 [(R ⟨a,0,O⟩,1,1)] (a.alloc (.cells m 211)))
  (o:∀e a,Ph 1 [e] a→∃h p,(Builtin.append_ #[184,184] 184 #[Z A n C,kg e]).run au a=.ok (kg h) p∧Ph 2 [e,h] p)
  (q:∀e h a,Ph 2 [e,h] a→∃v,a.cell? ⟨g,1,O⟩=R v∧a.frozen? ⟨g,1,O⟩=false∧Ph 3 [e,h] (a.setCell ⟨g,1,O⟩ (kg h)))
  (d:∀s t u x y z D E F G e h a,Ph 3 [e,h] a→r .normal ⟨#[qp g,u1,u2,qp v,u4,u5,u6,u7,u8,u9,Q0,Q1,Q2,Q3,Q4,Q5,Q6,Q7,Q8,Q9,T0,T1,T2,T3,T4,T5,T6,T7,T8,T9,N0,N1,N2,N3,N4,N5,N6,N7,N8,N9,X0,X1,X2,X3,X4,X5,X6,X7,X8,X9,O0,O1,O2,O3,O4,O5,s,t,u,x,y,z,D,E,F,G,J6,J7,J8,J9,R0,R1,R2,R3,R4],[]⟩ a):
  Code.wp au (fu 10 (f200.body.getD .skip)) r ⟨#[qp g,u1,u2,qp v,u4,u5,u6,u7,u8,u9,Q0,Q1,Q2,Q3,Q4,Q5,Q6,Q7,Q8,Q9,T0,T1,T2,T3,T4,T5,T6,T7,T8,T9,N0,N1,N2,N3,N4,N5,N6,N7,N8,N9,X0,X1,X2,X3,X4,X5,X6,X7,X8,X9,O0,O1,O2,O3,O4,O5,O6,O7,O8,O9,J0,J1,J2,J3,J4,J5,J6,J7,J8,J9,R0,R1,R2,R3,R4],[]⟩ wc:=by
 haveI:Nonempty (Wd fun _=>True):=⟨⟨wc,trivial⟩⟩;haveI:Nonempty (Wd (rS Ph 0 2)):=⟨⟨_,0,[],aD _,Y2,i⟩⟩;have e:=fun e:Wd (rS Ph 0 2)=>j e.W e.a;have r:=fun e:Wd (rS Ph 0 3)=>k e.W e.a;have e:=aj j;have e:=aj k;replace l:=aj l;replace o:=aj o;replace q:=aj q;have s:=aj d;clear d j k;conv=>arg 2;whnf
 refine Hu kg [6,7,10] [6,7] [10] Ph (fun _=>bq) i (fun t=>?_);clear i;iterate 4 (refine WL.j (fun i d=>?_);go_simp;refine d _ ?_;clear d i)
 iterate 1 (refine WL.p 0 2 (fun i d=>?_);go_simp;refine d _ ?_;clear d i)
 refine WL.w (A:=rS Ph 0 3) (fun u w x ⟨j,k,y,z,e⟩=>⟨j,_,aZ _,k,e⟩) 211 (.tmp 3) v 0 (m:Array aI) r underlying211 dW ?_;dsimp only[Act.put];refine WL.n 0 (fun a e=>?_) ?_
 ·have k:=aj (l.o _ e);clear e;go_simp;exact⟨(R ⟨a,0,O⟩,1,1),rfl,k.o⟩
 dsimp only[Act.put];refine WL.n 1 (fun a e=>?_) ?_
 ·obtain⟨h,p,l,j⟩:=o.o _ _ e;have j:=aj j;clear e;exact uK (.tmp 60) (.tmp 62) 184 (Z A n C) (kg (t 6)) rfl rfl rfl l j.o
 dsimp only[Act.put];iterate 2 (refine WL.j (fun i d=>?_);go_simp;refine d _ ?_;clear d i)
 refine WL.r 2 (bq) (fun a e=>?_) ?_
 ·obtain⟨v,k,d,a⟩:=q.o _ _ _ e;have a:=aj a;clear e;go_simp;exact a.o
 dsimp only[Act.put];exact WL.b fun w' a=>by apply s.o;exact a
structure OO (w:aB) (g v b:Nat) (M:Int) (m:Sm) (A:Option aX) (n c:Nat) (xs:List aI) (N:Nat) (f:Int→Option Int) (z0 z1:Int):Prop where
 a:bH w g 186 #[M,Z A n c,.map (R b),z0,z1]
 i:w.ownsRow 0 211 17 (Z A n c) n xs
 j:iF w b N f
 d:bH w v 211 (m)
 e:∀r,(Z A n c).ownBlock=R r→r≠g∧r≠v∧r≠b
 h:g≠b
 l:v≠b
 k:v≠g
section
variable {w w':aB} {g v b:Nat} {M:Int} {m:Sm} {A B:Option aX} {n c n' c':Nat} {xs ys:List aI} {N N':Nat} {f f':Int→Option Int} {z0 z1:Int}
def OO.o (a:OO w g v b M m A n c xs N f z0 z1) {d:List Nat} (e:bg d w w') (i:g∉d) (j:v∉d) (k:b∉d) (l:∀h,(Z A n c).ownBlock=R h→h∉d):OO w' g v b M m A n c xs N f z0 z1:=
 ⟨a.a.g e i,bO a.i e l,a.j.a e k,a.d.g e j,a.e,a.h,a.l,a.k⟩
def OO.p (a:OO w g v b M m A n c xs N f z0 z1) (h:iF w' b N' f') (e:w.drew.grownBy w' (R b)):OO w' g v b M m A n c xs N' f' z0 z1∧bg [b] w w':=by have d:bg [b] w w':=(bg.l w).a (bg.k (F:=[b]) e (fun i e=>by injection e with e;subst e;exact .inl (aC.2 rfl))) (fun i e=>.inl e);exact⟨⟨a.a.g d (Y6 a.h),bO a.i d (fun e i=>by simpa using(a.e e i).2.2),h,a.d.g d (Y6 a.l),a.e,a.h,a.l,a.k⟩,d⟩
def OO.q (a:OO w g v b M m A n c xs N f z0 z1) (d:Nat) (e:Int) (i:d=0∨d=1):OO (w.drew.setCell ⟨g,3+d,O⟩ (J U e)) g v b M m A n c xs N f (if d=0 then e else z0) (if d=0 then z1 else e)∧bg [g] w (w.drew.setCell ⟨g,3+d,O⟩ (J U e)):=by
 have h:bg [g] w (w.drew.setCell ⟨g,3+d,O⟩ (J U e)):=(bg.l w).a (bg.e (F:=[g]) w.drew (aC.2 rfl) _) (fun e d=>.inl d);refine⟨⟨?_,bO a.i h (fun d e=>by simpa using(a.e d e).1),a.j.a h (Y6 a.h.symm),a.d.g h (Y6 a.k),a.e,a.h,a.l,a.k⟩,h⟩;rcases i with rfl|rfl
 ·exact(a.a.q 1).f 3 _
 ·exact(a.a.q 1).f 4 _
def Cw (d:aB) (g v b:Nat) (M:Int) (m:Sm) (B:Option aX) (n c':Nat) (xs:List aI) (N:Nat) (f:Int→Option Int) (z0 z1:Int) (e:List Nat) (a:aB):Prop:=
 OO a g v b M m B (n+1) c' (xs++eU m) N f z0 z1∧bg e d a∧∀a,(Z B (n+1) c').ownBlock=R a→a∈e∨d.heap.size≤a
def OO.s {d:aB} {l:List Nat} (a:OO w g v b M m A n c xs N f z0 z1) (x:bg [] d w) (E:g∈l) (y:∀e,(Z A n c).ownBlock=R e→e∈l) (h:n≤1000):
  ∃B c' i,(Builtin.append_ #[184,184] 184 #[Z A n c,Z (R ⟨w,0,O⟩) 1 1]).run au (w.alloc (.cells (m) 211))=.ok (Z B (n+1) c') i∧i.cell? ⟨g,1,O⟩=R (Z A n c)∧i.frozen? ⟨g,1,O⟩=false∧bH i v 211 (m)∧Cw d g v b M m B n c' xs N f z0 z1 l (i.setCell ⟨g,1,O⟩ (Z B (n+1) c')):=by
 obtain⟨d,j,k,o,p⟩:=info_parts Ka;have h:bg [] w (w.alloc (.cells (m) 211)):=bg.n _ _;have q:=a.o h Y1 Y1 Y1 Y1;obtain⟨s,i,h,z,r,_,C⟩:=run_append_own_at (P:=au) (w.alloc (.cells (m) 211)) 0 184 184 211 d _ 17 _ underlying184 j k o p rfl Y2 _ n xs q.i ⟨w,0,O⟩ 1 1 (eU m) rfl (fun d j k=>by rw[Addr.add_lit];exact bH.v (bH.d w 211 _) d j (by simp;exact k)) (iP m) (by unfold maxLen;omega) Y0 (aZ _);obtain⟨B,c',rfl⟩:=dB z;obtain⟨j,o⟩:∃j:List Nat,(∀d,(Z A n c).ownBlock=R d↔d∈j):=by
  cases a:(Z A n c).ownBlock with
  |none=>exact⟨[],Y1⟩
  |some d=>exact⟨[d],by intro k;simp[eq_comm]⟩
 have q:bg j w i:=(bg.n (F:=j) w _).a (bg.k (F:=j) r (fun d j=>.inl ((o d).1 j))) (fun d k=>.inl k);have r:bg [g] i (i.setCell ⟨g,1,O⟩ (Z B (n+1) c')):=bg.e (F:=[g]) i (aC.2 rfl) _;have s:∀d,(d=g∨d=v∨d=b)→d<w.heap.size∧∀e,(Z B (n+1) c').ownBlock=R e→e≠d:=fun d k=>by
  have p:d<w.heap.size:=by rcases k with rfl|rfl|rfl;exact a.a.e;exact a.d.e;exact a.j.i
  refine⟨p,fun e h=>?_⟩;rcases C with j|j
  ·have p:=a.e e (j.symm.trans h);rcases k with rfl|rfl|rfl
   ·exact p.1
   ·exact p.2.1
   ·exact p.2.2
  ·rw[h]at j;have t:=Option.some.inj j;simp at t;omega
 have u:=a.a.g q (fun p=>(a.e g ((o g).2 p)).1 rfl);have D:=a.d.g q (fun p=>(a.e v ((o v).2 p)).2.1 rfl);have F:=a.j.a q (fun p=>(a.e b ((o b).2 p)).2.2 rfl);refine⟨B,c',i,h,u.a 1,u.c 1,D,⟨u.f 1 _,bO z r (fun e h=>by simpa using(s g (.inl rfl)).2 e h),F.a r (Y6 a.h.symm),D.g r (Y6 a.k),fun e h=>⟨(s g (.inl rfl)).2 e h,(s v (.inr (.inl rfl))).2 e h,(s b (.inr (.inr rfl))).2 e h⟩,a.h,a.l,a.k⟩,?_,fun e h=>?_⟩
 ·exact(((x.g (F1:=l) Y1).a (q.g (F1:=l) fun d k=>.inl (y d ((o d).2 k))) (fun _ a=>.inl a)).a r (fun d k=>.inl (by rw[aC.1 k];exact E)))
 ·rcases C with j|j
  ·exact .inl (y e (j.symm.trans h))
  ·rw[h]at j;have t:=Option.some.inj j;have:=x.b;simp at t;exact .inr Y0
def EB (e:aB) (g v b:Nat) (M:Int) (m:Sm) (A:Option aX) (n c:Nat) (xs:List aI) (N:Nat) (f:Int→Option Int) (z0 z1:Int) (i:List Nat):Nat→List Kg→aB→Prop
 |0,[],a=>bg [] e a∧OO a g v b M m A n c xs N f z0 z1
 |1,[d],a=>∃h,bg [] e h∧OO h g v b M m A n c xs N f z0 z1∧d=(R ⟨h,0,O⟩,1,1)∧a=h.alloc (.cells (m) 211)
 |2,[_,d],a=>∃B c',d=(B,n+1,c')∧a.cell? ⟨g,1,O⟩=R (Z A n c)∧a.frozen? ⟨g,1,O⟩=false∧bH a v 211 (m)∧Cw e g v b M m B n c' xs N f z0 z1 i (a.setCell ⟨g,1,O⟩ (Z B (n+1) c'))
 |3,[_,d],a=>∃B c',d=(B,n+1,c')∧Cw e g v b M m B n c' xs N f z0 z1 i a
 |_,_,_=>False
def MI {a:aB} {e:List Nat}:∀d,rS (EB a g v b M m A n c xs N f z0 z1 e) 0 2 d→d.cell? ⟨g,1,O⟩=R (Z A n c):=by
 rintro d ⟨e,h,_,i,a⟩;unfold EB at a;split at a
 ·exact a.2.a.a 1
 ·obtain⟨e,_,d,_,rfl⟩:=a;exact(d.a.h _).a 1
 ·obtain⟨B,c',_,a,_⟩:=a;exact a
 ·omega
 ·cases a
def MJ {a:aB} {e:List Nat}:∀d,rS (EB a g v b M m A n c xs N f z0 z1 e) 0 3 d→∀a e,((m):Array aI)[a]?=R e→d.cell? ⟨v,0+a,O⟩=R e:=by
 rintro d ⟨e,h,_,i,a⟩;unfold EB at a;split at a
 ·exact bH.v a.2.d
 ·obtain⟨e,_,d,_,rfl⟩:=a;exact bH.v (d.d.h _)
 ·obtain⟨B,c',_,_,_,a,_⟩:=a;exact bH.v a
 ·obtain⟨B,c',_,a⟩:=a;exact bH.v a.1.d
 ·cases a
def iF.h {w:aB} {b N:Nat} {f f':Int→Option Int} (d:iF w b N f) (e:∀a,f a=f' a):iF w b N f':=by have:f=f':=funext e;rwa[this]at d
def OO.t {a:List Sm} {d:List Nat} (h:OO w g v b M m A n c xs N f z0 z1) (i:xs=jk a) (j:a.length=n) (k:N=n) (l:∀e,f e=qF (lu a) e) (o:z0=fP a 0) (p:z1=fP a 1) (q:g∈d) (r:b∈d) (s:∀e,(Z A n c).ownBlock=R e→e∈d) (t:∀b∈d,b<w.heap.size):Ro w g M a d:=by subst i o p k;exact⟨A,N,c,R b,j,h.a,h.i,fun e a=>⟨s e a,(h.e e a).1⟩,.inr ⟨b,rfl,r,h.j.h l⟩,q,t⟩
end
def Zm (w:aB) (g v:Nat) (M:Int) (m:Sm) (A:Option aX) (n c:Nat) (d:List Sm) (h:List Nat) (e:aB):Prop:=
 ∃(b:Nat) (a:List Nat),OO e g v b M m A n c (jk d) n (qF (lu d)) (fP d 0) (fP d 1)∧bg h w e∧(∀d∈a,d∈h∨w.heap.size≤d)∧g∈a∧b∈a∧(∀h,(Z A n c).ownBlock=R h→h∈a)∧∀d∈a,d<e.heap.size
def Qo (g:Nat) (M:Int) (a:List Sm) (m:Sm) (d:List Nat) (w:aB) (e:Ending) (w':aB):Prop:=
 e=av (J U (Cj a m M))∧∃e,Ro w' g M (nP a m M) e∧bg d w w'∧∀b∈e,b∈d∨w.heap.size≤b
def VG {w d o:aB} {g v b a:Nat} {M:Int} {m:Sm} {e:List Sm} {B:Option aX} {n c':Nat} {i h:List Nat} {j:aB} (p:Cw d g v b M m B n c' (jk e) (n+1) (fun k=>if k=m.c then R (n:Int)else qF (lu e) k) (fP e 0) (fP e 1) h o) (t:e.length=n) (q:Ea e m=true) (l:m.o=(a:Int)) (r:a=0∨a=1) (u:(e.length:Int)<M)
  (x:bg i w j) (y:bg [b] j d) (s:∀d∈h,d∈i∨w.heap.size≤d) (D:g∈h) (z:b∈h) (E:∀d∈h,d<j.heap.size) (F:g∈i):
  Qo g M e m i w (av (J U 0)) (o.drew.setCell ⟨g,3+a,O⟩ (J U m.c)):=by
 obtain⟨C,i⟩:=Eb q;have k:iw m.c=a:=by rw[←(xW C).2.2.2];exact l
 rw[k]at i;have G:=Yg (l:=e) (m:=m) (by rw[k];exact i);have l:=p.1.q a m.c r;have C:bg h j o:=(y.g (F1:=h) (fun d a=>.inl (by rw[aC.1 a];exact z))).a p.2.1 (fun _ j=>.inl j);refine⟨by unfold Cj;rw[aP q,aP u],h++(Z B (n+1) c').ownBlock.toList,?_,?_,?_⟩
 ·rw[show nP e m M=e++[m] by unfold nP;rw[aP ⟨q,u⟩]];refine l.1.t (by unfold jk;rw[List.flatMap_append];simp) (by simp[t]) rfl (Vi G t) ?_ ?_ (List.mem_append_left _ D) (List.mem_append_left _ z) (fun h e=>List.mem_append_right _ (by rw[bC];exact e)) (fun d a=>?_)
  ·rw[yK,k];rcases r with rfl|rfl
   ·simp at i⊢;omega
   ·simp
  ·rw[yK,k];rcases r with rfl|rfl
   ·simp
   ·simp at i⊢;omega
  rcases bK.1 a with a|a
  ·exact aV (aV (E d a) C.b) l.2.b
  ·rw[bC]at a;exact(l.1.i.lt d a).2
 ·exact(x.a C s).a l.2 (fun d a=>.inl (by rw[aC.1 a];exact F))
 ·intro d a;rcases bK.1 a with a|a
  ·exact s d a
  ·rw[bC]at a;rcases p.2.2 d a with j|j
   ·exact s d j
   ·exact .inr (by have:=x.b;have:=y.b;omega)
def Ro.d {w w':aB} {g:Nat} {M:Int} {d:List Sm} {a:List Nat} (i:Ro w g M d a) (e:aJ w w w'):∃h,Ro w' g M d h∧bg a w w'∧∀b∈h,b∈a∨w.heap.size≤b:=⟨a,i.e e,bg.d e,fun b a=>.inl a⟩
def Zn {M:Int} {d:List Sm} {F:List Nat} (g:Nat) (m:Sm) (w:aB) (e:Y (d.length≤1000)) (C:Y (Ro w g M d F)) (q:Y ((Lit.int U m.c).wf=true)):aF au 200 #[qp g,aS m] w (Qo g M d m F w):=by
 obtain⟨A,n,c,K,a⟩:=C.o;have h:=aj a;have X:n≤1000:=by rw[←a.a];exact e.o
 clear a;obtain⟨v,L⟩:=exq w.heap.size;obtain⟨j,G⟩:=exq (w.alloc (.cells m 211));have o:Y (aJ w w j):=aj (by rw[←G];exact iQ w _);have P:Y (bH j v 211 m):=aj (by rw[←G,←L];exact bH.d w 211 _);obtain⟨i,l⟩:=exq (uG m);obtain⟨z0,H⟩:=exq (fP d 0);obtain⟨z1,I⟩:=exq (fP d 1);obtain⟨r,x⟩:=exq m.o;obtain⟨y,p⟩:∃b,b=(!i||decide (m.c≤if r=0 then z0 else z1)):=⟨_,rfl⟩;have z:i=false∨(i=true∧(r=0∨r=1)):=by
  cases i with
  |false=>exact .inl rfl
  |true=>rw[←x,(xW l).2.2.2];exact .inr ⟨rfl,yJ _⟩
 have Q:Ea d m= !y:=by
  unfold Ea;rw[p,l];rcases z with rfl|⟨rfl,a⟩
  ·rfl
  ·have s:iw m.c=r:=by rw[←x,(xW l).2.2.2]
   rw[s];rcases a with rfl|rfl
   ·rw[H];by_cases a:m.c≤z0<;>simp[a]<;>omega
   ·rw[I];by_cases a:m.c≤z1<;>simp[a]<;>omega
 have D:=aj Q;have a0:Y (y=false→r=0∨r=1):=aj fun s=>by
  rcases z with rfl|⟨_,a⟩
  ·rw[s]at p;cases p
  ·exact a
 have E:=aj (And.intro x (And.intro H I));have V:=aj z;have k:Y (∀e,aJ j j e→(bH e v 211 m)∧bH e g 186 #[M,Z A n c,.map K,z0,z1]):=aj fun e t=>⟨P.o.b t,by have:=(h.o.f (o.o.trans (t.mono o.o.size))).d;rwa[E.o.2.1,E.o.2.2]at this⟩;have S:Y (∀e,aF au 192 #[aS m] e fun s w'=>s=av i∧aJ e e w'):=aj fun e=>zcd m e i l;have T:v≠g:=by have:=h.o.d.e;omega
 have u:=aj (And.intro L T);clear l x H I Q z P T;go_enter func200,ntmps200;go_upto_region 3 with fail;refine Qn (A:=fun e=>aJ j j e) (m:=m) (oo:=r) (z0:=z0) (z1:=z1) (mb:=i) (bad:=y) (bI (ay _ _) 1) (fun i l x z=>bH.v (k.o _ i.a).1 l x z) (fun i=>(k.o _ i.a).1.a 0) (fun i=>by rw[←E.o.1];exact(k.o _ i.a).1.a 2) (fun i=>(k.o _ i.a).2.a 3) (fun i=>(k.o _ i.a).2.a 4) V.o p (fun i=>(S.o i.W).mono fun s w' a=>⟨a.1,i.a.trans (a.2.mono i.a.size)⟩) ?_;intros;rename_i i H;have z:=aj (o.o.trans (H.mono o.o.size));have l:=aj (k.o _ H);clear p H k S o G j;dsimp only[Exit.then];cases y with
 |true=>have o:Y (Qo g M d m F w (av (J U 1)) i):=aj ⟨by unfold Cj;rw[D.o];rfl,by rw[show nP d m M=d by unfold nP;rw[D.o];simp];exact C.o.d z.o⟩;go_wp2;go_ret;exact o.o
 |false=>
  have p:=D.o;by_cases j:(n:Int)<M;rotate_left
  ·have o:Y (∀k,Qo g M d m F w (av (J U 6)) (i.drewN k)):=aj fun k=>⟨by unfold Cj;rw[D.o,h.o.a,aL j];rfl,by rw[show nP d m M=d by unfold nP;rw[h.o.a,aL (fun a=>j a.2)]];exact C.o.d (bI z.o k)⟩;have y:=l.o.2.H 0;have C:=l.o.2.H 1;have k:M≤(n:Int):=Y0;clear p j;go_wp2;go_quiet (fail);go_wp2;go_ret;exact o.o _
  have y:=l.o.2.H 0;have C:=l.o.2.H 1;have b0:=aj j;have k:¬M≤(n:Int):=Y0;clear p j;go_wp2;go_quiet (fail);obtain⟨j,k⟩:=exq (i.drewN nq);have L:Y (aJ w w j):=aj (by rw[←k];exact bI z.o nq);have Q:Y (bH j v 211 m):=aj (by rw[←k];exact l.o.1.q nq);have i:=aj (h.o.f L.o);rw[k];clear k z l y C;have e2:=i.o.d.H 2;have he:=fun w=>run_eql_map_nil (P:=au) w 155 3 3 K underlying155;go_upto_if 40 with fail;go_cut [] (fun k=>Y (Zm w g v M m A n c d F k));case first=>
   have c0:=i.o.d.e;have V:=Q.o.e;cases K with
   |none=>
    obtain⟨b,t⟩:=exq j.heap.size;obtain⟨e,G⟩:=exq ((j.setCell ⟨g,2,O⟩ (.map (R b))).alloc (.map #[] 0));have S:d=[]:=by
     rcases h.o.k with⟨_,a⟩|⟨b,a,_⟩
     ·exact a
     ·cases a
    have P:bg [g] j e:=by rw[←G];exact(bg.e (F:=[g]) (p:=⟨g,2,O⟩) j (aC.2 rfl) _).a (bg.n (F:=[]) _ _) Y1
    have T:(j.setCell ⟨g,2,O⟩ (.map (R b))).heap.size=b:=by rw[←t];simp
    have y:Y (Zm w g v M m A n c d F e):=aj (by
     have d0:n=0:=by rw[←h.o.a,S];rfl
     have hs:=L.o.size;have W:=iF.d (j.setCell ⟨g,2,O⟩ (.map (R b)));rw[T,G]at W;have e0:e.heap.size=b+1:=by rw[←G,←T];simp
     refine⟨b,b::F,⟨?_,bO i.o.h P (fun k l=>by simpa using(i.o.e k l).2),?_,Q.o.g P (Y6 u.o.2),fun k l=>?_,Y0,Y0,u.o.2⟩,(bg.d L.o).a P (fun x q=>.inl (by rw[aC.1 q];exact h.o.j)),fun x q=>?_,bJ _ h.o.j,bM,fun k l=>bJ _ (h.o.e k l).1,fun x q=>?_⟩
     ·rw[←G];exact(i.o.d.f 2 _).h _
     ·rw[d0,S];exact W.h (fun _=>rfl)
     ·have p:=i.o.e k l;have z:=h.o.i k p.1;have C:=i.o.i k p.1;have:=u.o.1;exact⟨p.2,Y0,Y0⟩
     ·rcases bA.1 q with a|a
      ·exact .inr Y0
      ·exact .inl a
     ·rcases bA.1 q with a|a
      ·omega
      ·have:=i.o.i x a;omega)
    have f0:= @run_makeMap au;have g2:=i.o.d.c 2;have g0:¬g=j.heap.size:=Y0;have h0:¬g=b:=Y0;have i0:g<b:=Y0;clear P T S V;go_wp2;try rw[G]
    go_meet;exact y
   |some b=>
    have y:Y (Zm w g v M m A n c d F j):=aj (by
     have H:iF j b n (qF (lu d))∧b∈F:=by
      rcases i.o.k with⟨a,_⟩|⟨b',a,t,C⟩
      ·cases a
      ·injection a with a;subst a;exact⟨C,t⟩
     refine⟨b,F,⟨i.o.d,i.o.h,H.1,Q.o,fun k l=>?_,?_,?_,u.o.2⟩,bg.d L.o,fun x q=>.inl q,h.o.j,H.2,fun k l=>(h.o.e k l).1,i.o.i⟩
     ·have p:=i.o.e k l;have z:=h.o.i k p.1;have:=u.o.1;exact⟨p.2,Y0,fun s=>iI i.o.h H.1 k l s⟩
     ·exact H.1.c i.o.d
     ·have z:=h.o.i b H.2;have:=u.o.1;omega)
    clear c0 V;go_wp2;go_meet;exact y
  obtain⟨b,F0,I,hF⟩:=hcut.o;have y:=aj I;have o:=aj hF;have s:=I.a.H 1;have t:=I.a.H 2;have u0:=I.d.H 0;clear e2 he I hF hcut;go_upto_region 9 with fail;go_still_tail 11,Y3;go_wp2_with (at_mapUpdate;go_loud (refine oK rfl (.tmp 48) (.tmp 50) (.tmp 55) rfl (y.o.j.a (F:=[]) (bg.l _) Y1) (by unfold maxLen;omega) rfl m.c (n:Nat) rfl rfl q.o (bX Y0) ?_));intro i j k;have q:=aj (y.o.p j k);clear j k s t u0;go_upto_region 10 with fail;refine MH (Ph:=EB i g v b M m A n c (jk d) (n+1) (fun j=>if j=m.c then R (n:Int)else qF (lu d) j) (fP d 0) (fP d 1) F0) (n:=n) (C:=c) (A:=A) (m:=m) ⟨bg.l i,q.o.1.o (bg.l (F:=[]) i) Y1 Y1 Y1 Y1⟩ MI MJ ?_ ?_ ?_ ?_
  ·exact fun e a=>⟨e,a.1,a.2,rfl,rfl⟩
  ·rintro j e ⟨a,p,z,rfl,rfl⟩;obtain⟨B,c',s,l,C,a,k,i⟩:=z.s p o.o.2.2.1 o.o.2.2.2.2.1 X;exact⟨(B,n+1,c'),s,l,B,c',rfl,C,a,k,i⟩
  ·rintro j l e ⟨B,c',rfl,C,a,k,i⟩;exact⟨_,C,a,B,c',rfl,i⟩
  intros;rename_i j l e i;obtain⟨B,c',rfl,a⟩:=i;have k:=aj a;have u0:=a.1.d.H 0;have u2:e.cell? ⟨v,2,O⟩=R (J U r):=by rw[←E.o.1];exact a.1.d.a 2
  have i:=a.1.a.H 3;have i:=a.1.a.H 4;have i:=a.1.a.c 3;have i:=a.1.a.c 4;have j:Y (∀i:Nat,i=0∨i=1→r=(i:Int)→Qo g M d m F w (av (J U 0)) (e.drew.setCell ⟨g,3+i,O⟩ (J U m.c))):=aj fun i p z=>VG k.o h.o.a D.o (E.o.1.trans z) p (by rw[h.o.a];exact b0.o) o.o.1 q.o.2 o.o.2.1 o.o.2.2.1 o.o.2.2.2.1 o.o.2.2.2.2.2 h.o.j;clear a;dsimp only[Exit.then];go_upto_region 11 with fail;rcases a0.o Y1 with rfl|rfl
  ·have a:=aj (j.o 0 (.inl rfl) rfl);clear j;go_still_tail 9,Y3;go_wp2;go_ret;exact a.o
  ·have a:=aj (j.o 1 (.inr rfl) rfl);clear j;go_still_tail 9,Y3;go_wp2;go_ret;exact a.o
def Zo {M:Int} {a:List Sm} {F:List Nat} (g:Nat) (m:Sm) (w:aB) (k:Y (a.length≤1000)) (d:Y (Ro w g M a F)) (i:Y ((Lit.int U m.c).wf=true)):
  aF au 148 #[qp g,aS m] w fun h w'=>h=av (aO (Hg a m))∧∃e,Ro w' g M (oM a m) e∧bg F w w'∧∀b∈e,b∈F∨w.heap.size≤b:=by
 cases hp:dY (lu a) m.c with
 |none=>refine mB (Qm g m w d i (aj hp)) fun l e=>?_;refine⟨by unfold Hg;rw[hp];rfl,?_⟩;rw[show oM a m=a by unfold oM;rw[hp];split<;>rfl];exact d.o.d e
 |some j=>
  cases hm:uG m with
  |false=>refine mB (Zl g m j w k d i (aj hp) (aj hm)) fun l e=>?_;refine⟨by unfold Hg;rw[hp,hm];rfl,?_⟩;rw[show oM a m=a by unfold oM;rw[hm];rfl];exact d.o.d e
  |true=>refine mB (VF g m j w k d i (aj hp) (aj hm)) fun l ⟨d,i⟩=>?_;refine⟨by unfold Hg;rw[hp,hm];rfl,?_⟩;rw[show oM a m=a.set j m by unfold oM;rw[hm,hp];rfl];exact⟨F,d,i,fun b e=>.inl e⟩
def qO {M:Int} {a:List Sm} {F:List Nat} (g:Nat) (d:Int) (w:aB) (j:Y (a.length≤1000)) (o:Y (Ro w g M a F)) (k:Y ((Lit.int U d).wf=true)) (e:mR) (l:Y (gu a d=e)):
  aF au 61 #[qp g,d] w fun h w'=>h=av (aS e)∧aJ w w w':=by
 obtain⟨A,n,c,p,i⟩:=o.o;have o:n≤1000:=by rw[←i.a];exact j.o
 cases hp:dY (lu a) d with
 |none=>exact Mc g d w o (aj i) k (aj hp) e l
 |some j=>
  have q:j<a.length:=by rw[←kU];exact iV hp
  obtain⟨m,p⟩:∃m,a[j]?=R m:=⟨_,aQ q⟩;have h:m.r=e:=by rw[←l.o];exact(wS hp p).symm
  subst h;exact Ee g d w o (aj i) k j m (aj hp) (aj p)
def MK {M:Int} {a:List Sm} {F:List Nat} (g:Nat) (d:Int) (w:aB) (e:Y (a.length≤1000)) (h:Y (Ro w g M a F)):aF au 311 #[qp g,d] w fun i w'=>i=av (J U (ji a d:Nat))∧aJ w w w':=by obtain⟨A,n,c,i,a⟩:=h.o;exact Hl g d w (by rw[←a.a];exact e.o) (aj a)
def Zp {M:Int} {a:List Sm} {F:List Nat} (g:Nat) (n:Nat) (w:aB) (d:Y (a.length≤1000)) (e:Y (Ro w g M a F)) (h:a.length=n):aF au 277 #[qp g] w fun i w'=>∃B c',i=av (Z B n c')∧w'.ownsRow w 211 17 (Z B n c') n (jk a)∧aJ w w w':=by obtain⟨A,n',c,i,a⟩:=e.o;obtain rfl:n'=n:=a.a.symm.trans h;exact Pj g w (by rw[←a.a];exact d.o) (aj a)
end Go.Proofs.YtdcacpeaimjdlaaGreatDoor
