/- Part of the proof. -/
import Derived.Test.YtdcacpeaimjdlaaGreatDoorPaq
import Derived.ArgAppend
namespace Go.Proofs.YtdcacpeaimjdlaaGreatDoor
open Go.RowKit Go.Maps Go.Proofs.Tryz Mq MFr MRw
open Go.Value renaming int→J,slice→Z,string→aA,pointer→aK,bool→aO,tuple→aN,agg→aS,complex→aH
open Go.IntKind renaming i64→U
open Option renaming none→O,some→R
open Go.Ending renaming returned→av
open Go renaming World→aB,Value→aI,Calls→aF,Addr→aX,TypeId→bB,undef→bq
open Go.RowKit renaming Below→aJ
open Go.Proofs.Tryz renaming prog→au
open Go.FloatKind renaming f64→aW
set_option maxRecDepth 20000
set_option maxHeartbeats 0
set_option linter.all false
section
variable {w:aB} {c:Co} {P:Pt}
def Pt.q (P:Pt) (a:Int):Pq:=if a=0 then P.a else P.b
def uh (b:bH w P.g 128 (sN c P)):aF au 59 #[qp P.g] w fun a d=>a=av (aK P.d)∧d=w:=by
 obtain⟨d,a⟩:=exq P.d;have e:w.cell? ⟨P.g,32,O⟩=R (aK d):=by rw[←a];exact b.a 32
 rw[a];clear b a;go_enter func59,ntmps59;go_wp2;go_ret;exact Y5
def BO (a:Int) (b:ko a=true) (d:bH w P.g 128 (sN c P)):aF au 65 #[qp P.g,a] w fun e f=>e=av (aK (R ⟨(P.q a).d,0,O⟩))∧f=w:=by
 have f:=d.H 12;have f:=d.H 24;have f:=fun w=>aj (Ct a w);rw[b]at f;clear d;rcases dN b with rfl|rfl
 all_goals
  clear b;go_enter func65,ntmps65;go_wp2_with fail;refine mB ((f _).o) ?_;rintro a rfl;go_wp2;go_ret;exact Y5
def xE (a:Int) (b:ko a=true) (d:bH w P.g 128 (sN c P)):aF au 28 #[qp P.g,a] w fun e f=>e=av (aK (R ⟨(P.q a).a,0,O⟩))∧f=w:=by
 have f:=d.H 14;have f:=d.H 26;have f:=fun w=>aj (Ct a w);rw[b]at f;clear d;rcases dN b with rfl|rfl
 all_goals
  clear b;go_enter func28,ntmps28;go_wp2_with fail;refine mB ((f _).o) ?_;rintro a rfl;go_wp2;go_ret;exact Y5
def nM (d a:Int) (l:ko d=true) (b:bH w P.g 128 (sN c P)):aF au 60 #[qp P.g,d,a] w fun e f=>e=av (aO (zN c d a))∧aJ w w f:=by
 have f:=b.H 16;have f:=b.H 17;have f:=b.H 28;have f:=b.H 29;obtain⟨g,h⟩:=exq (iw a);obtain⟨i,j⟩:=exq (oL a);have k:=fun w=>aj (xX a g i w h j);have m:=fun w=>aj (oV c.e.f c.e.g a w);have n:=fun w=>aj (oV c.f.f c.f.g a w);have f:Y (zN c d a=(i&&(g==d&&Zj (c.p (1-d)).f (c.p (1-d)).g a))):=aj (by unfold zN;rw[h,j]);obtain⟨o,a⟩:=exq ((g==d));rw[a]at f;clear b h j;rcases(dN l).imp (fun b=>And.intro b n) (fun b=>And.intro b m)with⟨rfl,d⟩|⟨rfl,d⟩
 all_goals
  clear l m n;cases i
  ·go_enter func60,ntmps60;go_wp2_with fail;refine mB ((k _).o) ?_;rintro a rfl;go_wp2;go_ret;exact⟨by rw[f.o];rfl,ay _ _⟩
  ·cases o
   ·go_enter func60,ntmps60;go_wp2_with fail;refine mB ((k _).o) ?_;rintro a rfl;go_wp2;go_ret;exact⟨by rw[f.o];rfl,ay _ _⟩
   ·go_enter func60,ntmps60;go_wp2_with fail;refine mB ((k _).o) ?_;rintro a rfl;go_wp2_with fail;refine mB ((d _).o) fun a b=>?_;go_wp2;go_ret;exact⟨by rw[f.o];rfl,b⟩
end
def cb {w a:aB} {b:aX} {d:aI} (f:aJ w w a) (e:w.cell? b=R d):a.cell? b=R d:=(f.cell (bf w _ e)).trans e
section
variable {w:aB} {c:Co} {P:Pt} {p:fq}
def Gf (a:bH w p.b 142 (fC p)) (b:p.x.r.e≤9223372036854775807):aF au 157 #[qp p.b] w fun d e=>d=av (aO (zcb p.x.r))∧∃f,e=w.drewN f:=by have f:=a.H 1;have f:=a.H 2;have f:=fun g=>aj (mF p.x.r.c p.x.r.e 1 g b);have g:Y (zcb p.x.r=zbX p.x.r.c p.x.r.e 1):=aj rfl;clear a b;go_enter func157,ntmps157;go_wp2;go_quiet (first|exact Calls.quiet_of_same ((f _).o.mono fun d e a=>⟨a.1,a.2.symm⟩));go_wp2;go_ret;exact⟨by rw[g.o];rfl,_,rfl⟩
def Ac (a:bH w p.b 142 (fC p)) (b:p.x.a.d≤9223372036854775807):aF au 203 #[qp p.b] w fun d e=>d=av (aO (mI p.x))∧∃f,e=w.drewN f:=by have f:=a.H 24;have f:=a.H 25;have f:=fun g=>aj (mF p.x.a.a p.x.a.d 1 g b);have g:Y (mI p.x=zbX p.x.a.a p.x.a.d 1):=aj rfl;clear a b;go_enter func203,ntmps203;go_wp2;go_quiet (first|exact Calls.quiet_of_same ((f _).o.mono fun d e a=>⟨a.1,a.2.symm⟩));go_wp2;go_ret;exact⟨by rw[g.o];rfl,_,rfl⟩
def BP (a:bH w p.b 142 (fC p)) (b:p.x.r.e≤9223372036854775807):aF au 146 #[qp p.b] w fun d e=>d=av (aO (tY p.x.r))∧∃i,e=w.drewN i:=by
 have l:w.cell? ⟨p.b,1,O⟩=R (J U p.x.r.c):=a.a 1;have m:w.cell? ⟨p.b,2,O⟩=R (J U p.x.r.e):=a.a 2;have f:=fun j=>aj (mF p.x.r.c p.x.r.e 1 j b);have g:Y (tY p.x.r=(zbX p.x.r.c p.x.r.e 1&&p.x.r.c==0)):=aj rfl;obtain⟨k,h⟩:=exq (zbX p.x.r.c p.x.r.e 1);rw[h]at f g;clear a b h;cases k;all_goals
  go_enter func146,ntmps146;go_wp2_with fail;go_quiet (first|exact Calls.quiet_of_same ((f _).o.mono fun d e a=>⟨a.1,a.2.symm⟩));go_wp2_with fail;go_ret;exact⟨by rw[g.o];rfl,_,rfl⟩
def wG {a:List Sm} (h:Ok a) (b:Int):iR (gu a b).k (gu a b).o (gu a b).a (gu a b).b (gu a b).y=true:=by
 have i:∀d:Int,d=0∨d=1→ko d=true:=fun d e=>by unfold ko;rcases e with rfl|rfl<;>rfl
 cases hp:dY (lu a) b with
 |some f=>
  have j:f<a.length:=by rw[←kU];exact iV hp
  obtain⟨d,g⟩:∃d,a[f]?=R d:=⟨_,aQ j⟩;rw[wS hp g];exact(xW (h.a d (bP g))).2.1
 |none=>
  rw[qI hp];have e:=i _ (yJ b);split
  ·split
   ·unfold iR;simp[e]
   ·unfold iR;simp[e]
  ·decide
def wH (L:Nat→List Nat) (b:Int) (i:Bool) (a:lX w c P (R p) L) (D:Ok c.l) (E:c.l.length≤1000) (u:ko p.x.r.a=true) (F:(Lit.int U b).wf=true):
  aF au 244 #[qp P.g,qp p.b,b,i] w fun f g=>f=av (aN #[J U (zbY c p.x.r b i).1,J U (zbY c p.x.r b i).2])∧aJ w w g:=by
 have s:=a.e.a;obtain⟨j,l⟩:=exq p.x.r.a;obtain⟨k,v⟩:=exq p.x.r.c;obtain⟨x,n⟩:=exq P.g;obtain⟨o,q⟩:=exq P.c;have M:=aj s;have N:=aj a;have y:=fun d r=>aj (nM (w:=d) (c:=c) (P:=P) j b (by rw[←l];exact u) (a.a r).f);have Q:w.cell? ⟨x,31,O⟩=R (aK (R ⟨o,0,O⟩)):=by rw[←n,←q];exact a.f.a 31
 have S:w.cell? ⟨p.b,0,O⟩=R (J U j):=by rw[←l];exact s.a 0
 have T:w.cell? ⟨p.b,1,O⟩=R (J U k):=by rw[←v];exact s.a 1
 rw[n]at y⊢;obtain⟨V,z⟩:=exq (zN c j b);have A:Y (zbY c p.x.r b i=if V then(2,0)else Fy c b j (if k=9 then 1 else k) i):=aj (by unfold zbY;rw[l,v,z]);rw[z]at y;cases V
 ·obtain⟨t,B⟩:=exq ((if k=9 then 1 else k));obtain⟨e,C⟩:=exq (gu c.l b);have G:=wG D b;rw[C]at G;obtain⟨H,I⟩:=exq (GX e.k e.o e.a e.b e.y j t i);have W:Y (∀d,Y (aJ w w d)→aF au 61 #[qp o,b] d fun f g=>f=av (aS e)∧(g.cell? ⟨x,31,O⟩=R (aK (R ⟨o,0,O⟩))∧g.cell? ⟨p.b,0,O⟩=R (J U j))∧Y (aJ w w g)):=aj fun d r=>by refine(qO (M:=c.a.b) (F:=L 13) o b d (aj E) (aj (by rw[←q];exact(a.a r.o).d 13)) (aj F) e (aj C)).mono ?_;rintro f g ⟨rfl,h⟩;have m:=bG r.o h;exact⟨rfl,⟨by rw[←n,←q];exact(a.a m).f.a 31,by rw[←l];exact(a.a m).e.a.a 0⟩,aj m⟩
  have X:Y (∀d,Y (aJ w w d)→aF au 276 #[aS e,j,t,i] d fun f g=>f=av (aN #[H.1,H.2])∧(g.cell? ⟨x,31,O⟩=R (aK (R ⟨o,0,O⟩))∧g.cell? ⟨p.b,0,O⟩=R (J U j))∧Y (aJ w w g)):=aj fun d r=>by refine(vN e.k e.o e.y j t e.a e.b i d G (by rw[←l];exact u)).mono ?_;rintro f g ⟨rfl,h⟩;have m:=bG r.o h;exact⟨by rw[I],⟨by rw[←n,←q];exact(a.a m).f.a 31,by rw[←l];exact(a.a m).e.a.a 0⟩,aj m⟩
  have K:Y (zbY c p.x.r b i=H):=aj (by rw[A.o,aL (by decide),B];unfold Fy;rw[C,I]);have h9:((k==9)=true∧t=1)∨((k==9)=false∧t=k):=by
   by_cases a:k=9
   ·exact .inl ⟨by simp[a],by rw[←B,aP a]⟩
   ·exact .inr ⟨aM.2 a,by rw[←B,aL a]⟩
  clear a D E u F s l v n q z B C G I M N A;rcases h9 with⟨b9,rfl⟩|⟨b9,rfl⟩
  all_goals
   go_enter func244,ntmps244;go_wp2_with fail;refine(y w (ay _ _)).o.mono ?_;rintro f w1 ⟨rfl,h⟩;have a0:=aj h;have Q:=cb h Q;have S:=cb h S;have T:=cb h T;clear h;go_wp2_with fail;go_region_held3 (fun d=>d.cell? ⟨x,31,O⟩=R (aK (R ⟨o,0,O⟩))∧d.cell? ⟨p.b,0,O⟩=R (J U j)) (go_keep) (first|(go_at_call 61;refine(W.o _ (aj (bI a0.o _))).mono ?_;rintro f w2 ⟨rfl,⟨d0,e0⟩,b0⟩)|(go_at_call 276;refine(X.o _ b0).mono ?_;rintro f w3 ⟨rfl,⟨f0,g0⟩,c0⟩));go_wp2_with fail;go_ret2;exact⟨by rw[K.o];rfl,c0.o⟩
 ·have K:Y (zbY c p.x.r b i=(2,0)):=aj (by rw[A.o,aP rfl]);clear a D E u F s l v n q z M N A;go_enter func244,ntmps244;go_wp2_with fail;refine(y w (ay _ _)).o.mono ?_;rintro f w1 ⟨rfl,h⟩;go_wp2_with fail;go_ret2;exact⟨by rw[K.o];rfl,h⟩
end
def wJ (b:Nat) (d:Option aX):Prop:=∀a,d=R a→a.block≠b
def fq.l (p:fq):Prop:=wJ p.b p.h∧wJ p.b p.a∧wJ p.b p.d∧wJ p.b p.f∧wJ p.b p.k
def fq.n (p:fq) (a:Int):fq:=if a=0 then{p with D:=true}else if a=1 then{p with o:=true}else if a=2 then{p with p:=true}else{p with E:=true}
def Aw.a {w f:aB} {F:List Nat} {b:Option aX} {a c e:Nat} {g:List aI} (d:Aw w F b a c g) (l:bg [e] w f) (m:wJ e b):Aw f F b a c g:=by
 have n:mQ w (fun a=>a∈F∧a≠e) b g:=fun g h i=>by obtain⟨a,j,e,b,k⟩:=d.1.b g h i;exact⟨a,j,e,⟨b,m _ e⟩,k⟩
 have m:=n.c (w':=f) (fun a f b=>l.m a f (Y6 b.2));exact⟨⟨d.1.e,d.1.f,fun g h i=>by obtain⟨a,j,e,b,k⟩:=m g h i;exact⟨a,j,e,b.1,k⟩⟩,d.2⟩
def KW.j {w g:aB} {p a:fq} {F:List Nat} (b:KW w p F) (d:bg [p.b] w g) (e:p.l) (i:bH g p.b 142 (fC a)) (h:a.b=p.b) (j:a.h=p.h∧a.i=p.i∧a.a=p.a∧a.c=p.c∧a.d=p.d∧a.e=p.e∧a.f=p.f∧a.g=p.g∧a.k=p.k∧a.j=p.j) (f:a.x=p.x):KW g a F:=by
 obtain⟨a,g,k,l,m,n,o,q,r,s⟩:=j;refine⟨by rw[h];exact i,by rw[h];exact b.b,?_,?_,?_,?_,?_⟩
 ·rw[a,g,f];exact b.g.a d e.1
 ·rw[k,l,f];exact b.d.a d e.2.1
 ·rw[m,n,f];exact b.e.a d e.2.2.1
 ·rw[o,q,f];exact b.c.a d e.2.2.2.1
 ·rw[r,s,f];exact b.f.a d e.2.2.2.2
section
variable {w:aB} {c:Co} {P:Pt} {p:fq} {F:Nat→List Nat}
def lX.v (b:lX w c P (R p) F) (h:p.l) (a:Int) (i:a=0∨a=1∨a=2∨a=3):Cp c P (R (p.n a)) F w (w.setCell ⟨p.b,40+a.toNat,O⟩ (aO true)):=by
 have d:=b.e;have e:bg [p.b] w (w.setCell ⟨p.b,40+a.toNat,O⟩ (aO true)):=bg.f (F:=[p.b]) (by simp) [aO true] (40+a.toNat) w;have j:=bH.o [aO true] (40+a.toNat) w _ d.a;refine b.k 14 Y2 ⟨e.g (fun f a=>.inl (by simp at a;rw[a];exact d.b)),fun f a=>.inl a⟩ (fun f a=>aV (b.h.a 14 f a) e.b) (fun l g=>?_) (by rintro(_|_|_|_|_|_|_|_|_|_|_|_|_|_|_|m) k<;>first|rfl|exact absurd rfl k);injection g with g;subst g;rcases i with rfl|rfl|rfl|rfl
 all_goals exact d.j e h j rfl ⟨rfl,rfl,rfl,rfl,rfl,rfl,rfl,rfl,rfl,rfl⟩ rfl
end
structure GR (c:Co) (P:Pt) (X:Option fq) (F:Nat→List Nat) (w:aB) (p:fq) (G:List Nat) (W:aB) (F':Nat→List Nat):Prop where
 a:lX W c P X F'
 g:gG (Z6 F) (Z6 F') w W
 d:KW W p G
 f:p.l
 e:∀b∈G,b∉Z6 F'∧w.heap.size≤b∧b<W.heap.size
 h:2≤w.heap.size
def sP (c:Co) (P:Pt) (X:Option fq) (F:Nat→List Nat) (w:aB) (p:fq) (W:aB):Prop:=∃G F',GR c P X F w p G W F'
def fq.B (p p':fq):Prop:=p'.b=p.b∧(p'.h=p.h∧p'.i=p.i∧p'.a=p.a∧p'.c=p.c∧p'.d=p.d∧p'.e=p.e)∧p'.x.r=p.x.r∧p'.x.f=p.x.f
section
variable {w W W':aB} {c c':Co} {P P':Pt} {X X':Option fq} {F F':Nat→List Nat} {p p':fq} {G G':List Nat}
def GR.k (a:GR c P X F w p G W F') (b:aJ W W W'):GR c P X F w p G W' F':=
 ⟨a.a.a b,a.g.a (gG.d b),a.d.h (F1:=[]) (bg.d b) (fun _ _=>Y1),a.f,fun d e=>⟨(a.e d e).1,(a.e d e).2.1,aV (a.e d e).2.2 b.size⟩,a.h⟩
def GR.j (a:GR c P X F w p G W F') (e:bg [p.b] W W') (k:KW W' p' G') (l:p'.l) (m:∀d∈G',d∈G∨d∉Z6 F'∧w.heap.size≤d∧d<W.heap.size):GR c P X F w p' G' W' F':=by
 have g:=a.e _ a.d.b;have n:∀b,b<15→p.b∉F' b:=fun b h o=>g.1 (iM h o);refine⟨⟨a.a.h.d e.b,fun b=>?_,a.a.j.d e (fun j f=>?_),a.a.l⟩,⟨a.g.1.a e (fun j f=>.inr ?_),a.g.2⟩,k,l,fun d q=>?_,a.h⟩
 ·by_cases h:b<15
  ·exact gL c P X b W W' _ [p.b] (a.a.d b) e (fun j f=>by simp;exact fun r=>n b h (by rw[←r];exact f))
  ·obtain⟨i,rfl⟩:∃i,b=i+15:=⟨b-15,by omega⟩;exact a.a.d (i+15)
 ·rw[aC.1 f];exact aR a.h g.2.1
 ·rw[aC.1 f];exact g.2.1
 ·have:=(m d q).elim (a.e d) id;exact⟨this.1,this.2.1,aV this.2.2 e.b⟩
def KW.i (a:KW W p G) (b:bg [p.b] W W') (d:p.l) (f:bH W' p'.b 142 (fC p')) (g:p.B p') (h:Aw W' G p'.f p'.x.b.length p'.g (dx p'.x.b)) (i:Aw W' G p'.k p'.x.d.length p'.j (p'.x.d.map (J U))):KW W' p' G:=by
 obtain⟨j,⟨k,l,m,n,o,q⟩,r,e⟩:=g;refine⟨f,by rw[j];exact a.b,?_,?_,?_,h,i⟩
 ·rw[k,l,r];exact a.g.a b d.1
 ·rw[m,n,e];exact a.d.a b d.2.1
 ·rw[o,q,e];exact a.e.a b d.2.2.1
def fq.l.a (a:p.l) (b:p.B p') (d:wJ p.b p'.f) (e:wJ p.b p'.k):p'.l:=by obtain⟨f,⟨g,_,h,_,i,_⟩,_⟩:=b;unfold fq.l;rw[f,g,h,i];exact⟨a.1,a.2.1,a.2.2.1,d,e⟩
def GR.l (a:GR c P X F w p G W F') (b:List aI) (d:Nat) (i:gV (fC p) d b=fC p') (f:p.B p') (j:p'.f=p.f∧p'.g=p.g∧p'.k=p.k∧p'.j=p.j∧p'.x.b=p.x.b∧p'.x.d=p.x.d):GR c P X F w p' G (W.setCells p.b d b) F':=by
 have e:bg [p.b] W (W.setCells p.b d b):=bg.f (by simp) b d W;obtain⟨g,k,h,l,m,n⟩:=j;refine a.j e (a.d.i e a.f ?_ f ?_ ?_) (a.f.a f ?_ ?_) (fun o j=>.inl j)
 ·rw[f.1,←i];exact bH.o b d W _ a.d.a
 ·rw[g,k,m];exact a.d.c.a e a.f.2.2.2.1
 ·rw[h,l,n];exact a.d.f.a e a.f.2.2.2.2
 ·rw[g];exact a.f.2.2.2.1
 ·rw[h];exact a.f.2.2.2.2
def sP.b (a:sP c P X F w p W):bH W P.g 128 (sN c P):=by obtain⟨G,F',a⟩:=a;exact a.a.f
def sP.a (a:sP c P X F w p W):bH W p.b 142 (fC p):=by obtain⟨G,F',a⟩:=a;exact a.d.a
def sP.d (a:sP c P X F w p W) (b:aJ W W W'):sP c P X F w p W':=by obtain⟨G,F',a⟩:=a;exact⟨G,F',a.k b⟩
def sP.f (a:sP c P X F w p W):sP c P X F w p W.drew:=a.d (ay _ _).drew
def sP.g (a:sP c P X F w p W):p.b<W.heap.size∧p.b≠P.g:=by obtain⟨G,F',a⟩:=a;exact⟨a.d.a.e,fun b=>(a.e _ a.d.b).1 (iM (i:=0) Y2 (by rw[b];exact(a.a.d 0).1))⟩
def sP.e (a:sP c P X F w p W) (b:List aI) (d:Nat) (e:gV (fC p) d b=fC p') (f:p.B p') (g:p'.f=p.f∧p'.g=p.g∧p'.k=p.k∧p'.j=p.j∧p'.x.b=p.x.b∧p'.x.d=p.x.d):sP c P X F w p' (W.setCells p.b d b):=by obtain⟨G,F',a⟩:=a;exact⟨G,F',a.l b d e f g⟩
def lX.x (b:lX W c P X F) (e:bg [P.g] W W') (f:bH W' P'.g 128 (sN c' P')) (g:P'.g=P.g)
  (h:∀a,a≠0→Rr c' P' X a=Rr c P X a:=by rintro(_|_|_|_|_|_|_|_|_|_|_|_|_|_|_|a) d<;>first|rfl|exact absurd rfl d):Cp c' P' X F W W':=
 b.k 0 Y2 ⟨e.g (fun d a=>.inl (by rw[aC.1 a];exact(b.d 0).1)),fun d a=>.inl a⟩ (fun d a=>aV (b.h.a 0 d a) e.b) ⟨by rw[g];exact(b.d 0).1,f⟩ h
def lX.m (e:lX W c P X F) (a:List aI) (b:Nat) (g:gV (sN c P) b a=sN c' P') (f:P'.g=P.g)
  (h:∀d,d≠0→Rr c' P' X d=Rr c P X d:=by rintro(_|_|_|_|_|_|_|_|_|_|_|_|_|_|_|d) i<;>first|rfl|exact absurd rfl i):Cp c' P' X F W (W.setCells P.g b a):=
 e.x (bg.f Y1 a b W) (by rw[f,←g];exact bH.o a b W _ e.f) f h
def lX.y (f:lX W c P X F) (l:KW W p G) (k:∀b∈G,b∉Z6 F∧b<W.heap.size∧2≤b):lX W c P (R p) (GL F 14 G):=by
 have e:∀g b,b∈F g→b∈G→False:=fun g b d i=>by
  by_cases h:g<15
  ·exact(k b i).1 (iM h d)
  ·obtain⟨a,rfl⟩:∃a,g=a+15:=⟨g-15,Y0⟩;have:=f.d (a+15);rw[show F (a+15)=[]from this]at d;cases d
 refine⟨⟨fun a g b j h=>?_,fun a b e=>?_⟩,fun a=>?_,f.j,fun a b e=>?_⟩
 ·by_cases d:a=14
  ·by_cases i:g=14
   ·rw[d,i]
   ·subst d;rw[fF]at j;rw[dS i]at h;exact(e g b h j).elim
  ·rw[dS d]at j;by_cases i:g=14
   ·subst i;rw[fF]at h;exact(e a b j h).elim
   ·rw[dS i]at h;exact f.h.c a g b j h
 ·by_cases d:a=14
  ·subst d;rw[fF]at e;exact(k b e).2.1
  ·rw[dS d]at e;exact f.h.a a b e
 ·by_cases d:a=14
  ·subst d;rw[fF];exact fun h g=>by injection g with g;subst g;exact l
  ·rw[dS d];have:=f.d a;revert this d;rcases a with _|_|_|_|_|_|_|_|_|_|_|_|_|_|_|a
   all_goals first|exact fun _ f=>f|exact fun f=>absurd rfl f
 ·by_cases d:a=14
  ·subst d;rw[fF]at e;exact(k b e).2.2
  ·rw[dS d]at e;exact f.l a b e
def GR.m (b:GR c P X F w p G W F'):Cp c P (R p) F w W:=by
 refine⟨GL F' 14 G,b.a.y b.d (fun d a=>⟨(b.e d a).1,(b.e d a).2.2,aR b.h (b.e d a).2.1⟩),b.g.1,fun d a=>?_⟩;obtain⟨f,g,a⟩:=xD.1 a;by_cases e:f=14
 ·subst e;rw[fF]at a;exact .inr (b.e d a).2.1
 ·rw[dS e]at a;exact b.g.2 d (iM g a)
end
def fD (a:Sm):Array aI:=a
def pV (a:Sm):aI:=aS (fD a)
def jG {a d:aB} {b:bB} {c:Array aI} (e:aJ (a.drew.alloc (.cells c b)).heap.size (a.drew.alloc (.cells c b)) d):bH d a b c:=
 bH.b (show bH (a.drew.alloc (.cells c b)) a.heap.size b c from bH.d a b c) e
structure Di (W0 wx:aB) (b:Nat) (t:bB) (cs:Array aI):Prop where
 a:aJ W0 W0 wx
 c:bH wx b t cs
 d:W0.heap.size≤b
def vG {b c d:aB} {f:bB} {g:Array aI} (a:aJ b b c) (e:aJ c c d):Di b (d.alloc (.cells g f)) d.heap.size f g:=
 ⟨(a.trans (e.mono a.size)).alloc (aR a.size e.size) _,bH.d _ _ _,aR a.size e.size⟩
def Sq {a c:aB} {d:bB} {e:Array aI} (b:List aI) (f:aJ (a.drew.alloc (.cells e d)).heap.size (a.drew.alloc (.cells e d)) c) (h:b.length=e.size):Di a (c.setCells a.heap.size 0 b) a.heap.size d b.toArray:=by have g:aJ a a (a.drew.alloc (.cells e d)):=(ay _ _).drew.alloc (aD _) _;have d:=g.trans (f.mono g.size);exact⟨d.trans ((bg.f (F:=[a.heap.size]) Y1 b 0 c).c d.size Y1),(jG f).y b h,aD _⟩
def Sr {a d:aB} {b:Sm} {c:Array aI} (e:aJ (a.drew.alloc (.cells c 211)).heap.size (a.drew.alloc (.cells c 211)) d) (f:c.size=17):Di a (d.setCells a.heap.size 0 (eU b)) a.heap.size 211 (fD b):=Sq (eU b) e f.symm
def Dj (b:aB) (a:Nat) (c d e f g h i j k l m n o p q r s:aI):((((((((((((((((b.setCell ⟨a,0,O⟩ c).setCell ⟨a,1,O⟩ d).setCell ⟨a,2,O⟩ e).setCell ⟨a,3,O⟩ f).setCell ⟨a,4,O⟩ g).setCell ⟨a,5,O⟩ h).setCell ⟨a,6,O⟩ i).setCell ⟨a,7,O⟩ j).setCell ⟨a,8,O⟩ k).setCell ⟨a,9,O⟩ l).setCell ⟨a,10,O⟩ m).setCell ⟨a,11,O⟩ n).setCell ⟨a,12,O⟩ o).setCell ⟨a,13,O⟩ p).setCell ⟨a,14,O⟩ q).setCell ⟨a,15,O⟩ r).setCell ⟨a,16,O⟩ s=b.setCells a 0 [c,d,e,f,g,h,i,j,k,l,m,n,o,p,q,r,s]:=by simp only[World.setCells]
def bH.t {a:aB} {b:Nat} {u:bB} {d e f g h i j k l m n o p q r s t:aI} (c:bH a b u #[d,e,f,g,h,i,j,k,l,m,n,o,p,q,r,s,t]):a.cell? ⟨b,0,O⟩=R d∧a.cell? ⟨b,1,O⟩=R e∧a.cell? ⟨b,2,O⟩=R f∧a.cell? ⟨b,3,O⟩=R g∧a.cell? ⟨b,4,O⟩=R h∧a.cell? ⟨b,5,O⟩=R i∧a.cell? ⟨b,6,O⟩=R j∧a.cell? ⟨b,7,O⟩=R k∧a.cell? ⟨b,8,O⟩=R l∧a.cell? ⟨b,9,O⟩=R m∧a.cell? ⟨b,10,O⟩=R n∧a.cell? ⟨b,11,O⟩=R o∧a.cell? ⟨b,12,O⟩=R p∧a.cell? ⟨b,13,O⟩=R q∧a.cell? ⟨b,14,O⟩=R r∧a.cell? ⟨b,15,O⟩=R s∧a.cell? ⟨b,16,O⟩=R t:=⟨c.a 0,c.a 1,c.a 2,c.a 3,c.a 4,c.a 5,c.a 6,c.a 7,c.a 8,c.a 9,c.a 10,c.a 11,c.a 12,c.a 13,c.a 14,c.a 15,c.a 16⟩
def zcH {e:Int} {b:List Sm} {g:List Nat} {h:Option aX} {i j:Nat} {k:Option Nat} (d:Nat) (c:Int) (a:aB) (f:Ec a d e b g h i j k) (h:Y ((Lit.int U c).wf=true)) (e:dY (lu b) c=O):
  aF au 104 #[qp d,c] a fun g b=>g=av (aN #[pV .s,false])∧aJ a a b:=by have b:=aj (gU a 211 (fD .s));have i:=aj (mV d c 0 false _ h (aj (f.f b.o.1)) (aj (by unfold Cm;rw[e];rfl)) (aj (by rw[e];rfl)));clear f e;go_enter func104,ntmps104;go_wp2_with fail;refine mB i.o ?_;rintro c rfl;go_wp2_with (refine wpList_store_row rfl 211 (.tmp 4) (.tmp 16) rfl a.heap.size (fD .s) rfl rfl 211 (fD .s) b.o.2 Y3 rfl Y3 ?_);exact aG (eH results104 a.heap.size rfl (b.o.2.p _) underlying211 rfl Y3) rfl ⟨rfl,b.o.1.trans ((bg.h (F:=[a.heap.size]) _ a.heap.size _ Y1).c b.o.1.size Y1)⟩
def nu {M:Int} {a:List Sm} {F:List Nat} (e:Nat) (b:Int) (c:aB) (k:a.length≤1000) (f:Ro c e M a F) (i:Y ((Lit.int U b).wf=true)):
  aF au 104 #[qp e,b] c fun d g=>d=av (aN #[pV (fG a b).1,aO (fG a b).2])∧aJ c c g:=by
 obtain⟨h,j,l,m,g⟩:=f;cases hp:dY (lu a) b with
 |none=>
  have d:fG a b=(.s,false):=by unfold fG;rw[hp]
  rw[d];exact zcH e b c g i hp
 |some h=>
  have l:h<a.length:=by rw[←kU];exact iV hp
  obtain⟨f,j⟩:∃f,a[h]?=R f:=⟨_,aQ l⟩;have d:fG a b=(f,true):=by unfold fG;rw[hp];dsimp only;rw[aY,j];rfl
  rw[d];exact Md e b c (by rw[←g.a];exact k) (aj g) i h f (aj hp) (aj j)
section
variable {w:aB} {c:Co} {P:Pt} {p:fq}
def Gg (g:Nat→List Nat) (e:lX w c P (R p) g) (x:c.l.length≤1000) (y:ko p.x.r.a=true) (z:(Lit.int U p.x.a.b).wf=true):
  aF au 201 #[qp P.g,qp p.b] w (CP (sZ c p.x) w):=by
 have A:=e.e.a;obtain⟨j,k⟩:=exq p.x.r.a;obtain⟨f,l⟩:=exq p.x.a.b;obtain⟨h,m⟩:=exq P.g;obtain⟨i,s⟩:=exq P.c;obtain⟨b,t⟩:=exq ((fG c.l f).1);obtain⟨n,u⟩:=exq ((fG c.l f).2);have o:Y (∀a,aJ w w a→a.cell? ⟨h,31,O⟩=R (aK (R ⟨i,0,O⟩))∧a.cell? ⟨p.b,26,O⟩=R (J U f)∧a.cell? ⟨p.b,0,O⟩=R (J U j)):=aj fun a d=>⟨by rw[←m,←s];exact(e.a d).f.a 31,by rw[←l];exact(e.a d).e.a.a 26,by rw[←k];exact(e.a d).e.a.a 0⟩;have v:Y (∀a,aJ w w a→aF au 104 #[qp i,f] a fun q r=>q=av (aN #[pV b,n])∧(r.cell? ⟨h,31,O⟩=R (aK (R ⟨i,0,O⟩))∧r.cell? ⟨p.b,26,O⟩=R (J U f))∧Y (aJ a a r)):=aj fun a d=>by refine mB (nu (M:=c.a.b) (F:=g 13) i f a x (by rw[←s];exact(e.a d).d 13) (aj (by rw[←l];exact z))) fun r g=>?_;have r:=o.o _ (bG d g);exact⟨by rw[t,u],⟨r.1,r.2.1⟩,aj g⟩
 have r:Y (sZ c p.x=if n then b.u j else .b):=aj (by unfold sZ;rw[l,k,t,u]);have E:Y (j=0∨j=1):=aj (by rw[←k];exact dN y);have d:=aj (gU w 208 #[false,aA {data:=#[]},J U 0,J U 0,J U 0]);obtain⟨B,C,D⟩:=o.o _ d.o.1;have j:h<w.heap.size:=by rw[←m];exact e.f.e
 have F:=A.e;have G:=ku;unfold pV fD at v;rw[m];clear e x y z A k l m s t u;go_enter func201,ntmps201;go_wp2;generalize k:w.alloc (.cells #[false,aA {data:=#[]},J U 0,J U 0,J U 0] 208)=e at d B C D⊢;clear k;have j:e.heap.size≠h:=by have:=d.o.1.size;omega
 have F:e.heap.size≠p.b:=by have:=d.o.1.size;omega
 go_upto_region 1 with fail;go_cut [5,6] (fun k l m=>∃j,k=aK (R ⟨j,0,O⟩)∧l=aO n∧Y (Di e m j 211 (fD b)));case first=>
  go_region_held3 (fun a=>a.cell? ⟨h,31,O⟩=R (aK (R ⟨i,0,O⟩))∧a.cell? ⟨p.b,26,O⟩=R (J U f)) (go_keep) (first|(go_at_call 104;refine(v.o _ (by first|exact d.o.1.drew|exact d.o.1.drew.alloc d.o.1.size _)).mono ?_;rintro q Q ⟨rfl,⟨S,T⟩,e⟩;first|(have k:=aj (jG e.o);have V:=k.o.c;obtain⟨l,m,s,t,u,x,y,z,A,F,G,H,I,K,L,M,N⟩:=bH.t k.o)|skip));all_goals
   go_wp2;go_meet;first|(rw[Dj];exact⟨_,rfl,rfl,aj (Sr e.o rfl)⟩)|exact⟨_,rfl,rfl,aj (vG (ay _ _).drew e.o)⟩
 case rest=>
  obtain⟨j,rfl,rfl,a⟩:=hcut;obtain⟨e,f,h⟩:=o.o _ (d.o.1.trans (a.o.a.mono d.o.1.size));obtain⟨l,m,s,t,u,x,y,z,A,F,G,H,I,K,L,M,N⟩:=bH.t a.o.c;have e:=aj (d.o.2.b a.o.a);have f:=aj (d.o.1.trans (a.o.a.mono d.o.1.size));clear a o v B C D;cases n
  ·go_wp2_with fail;refine mB (QW _) fun a g=>?_;have a:=aj (e.o.b g);have d:=aj (f.o.trans (g.mono f.o.size));clear g;go_wp2_with (refine wpList_store_row rfl 208 (.tmp 4) (.tmp 22) rfl w.heap.size (rU .b) rfl rfl 208 _ a.o Y3 rfl Y3 ?_);exact aG (iC results201 w.heap.size rfl (a.o.p _) underlying208 rfl Y3) rfl ⟨by rw[r.o];rfl,d.o.trans ((bg.h (F:=[w.heap.size]) _ w.heap.size _ Y1).c d.o.size Y1)⟩
  ·rcases E.o with rfl|rfl
   all_goals
    go_wp2_with (first|refine wpList_store_row rfl 208 (.tmp 4) (.tmp 30) rfl w.heap.size (rU ⟨b.f,b.g,b.h,b.i,b.j⟩) rfl rfl 208 _ e.o Y3 rfl Y3 ?_ |refine wpList_store_row rfl 208 (.tmp 4) (.tmp 30) rfl w.heap.size (rU ⟨b.l,b.m,b.n,b.p,b.q⟩) rfl rfl 208 _ e.o Y3 rfl Y3 ?_);exact aG (iC results201 w.heap.size rfl (e.o.p _) underlying208 rfl Y3) rfl ⟨by rw[r.o];rfl,f.o.trans ((bg.h (F:=[w.heap.size]) _ w.heap.size _ Y1).c f.o.size Y1)⟩
end
section
variable {w W W':aB} {c c':Co} {P P':Pt} {X X':Option fq} {F F':Nat→List Nat} {p p':fq} {G G':List Nat}
def oF (a:Int) (b:Nat):Prop:=(a=0∧b=6)∨(a=1∧b=18)
def oF.a {b:Int} (a:b=0∨b=1):∃d,oF b d:=a.elim (fun a=>⟨6,.inl ⟨a,rfl⟩⟩) (fun a=>⟨18,.inr ⟨a,rfl⟩⟩)
def ql {b:Int} {d:Nat} (e:oF b d) (a:bH W P.g 128 (sN c P)):(W.cell? ⟨P.g,d,O⟩=R (aO (c.p b).h)∧W.cell? ⟨P.g,d+1,O⟩=R (aO (c.p b).d)∧W.cell? ⟨P.g,d+2,O⟩=R (aK (R ⟨(P.q b).f,0,O⟩))∧W.cell? ⟨P.g,d+3,O⟩=R (aK (R ⟨(P.q b).h,0,O⟩))∧W.cell? ⟨P.g,d+4,O⟩=R (J U (c.p b).i)∧W.cell? ⟨P.g,d+5,O⟩=R (aO (c.p b).e))∧
  W.cell? ⟨P.g,d+6,O⟩=R (aK (R ⟨(P.q b).d,0,O⟩))∧W.cell? ⟨P.g,d+7,O⟩=R (Z (P.q b).e (c.p b).c.length (P.q b).g)∧W.cell? ⟨P.g,d+8,O⟩=R (aK (R ⟨(P.q b).a,0,O⟩))∧W.cell? ⟨P.g,d+9,O⟩=R (aK (R ⟨(P.q b).c,0,O⟩))∧W.cell? ⟨P.g,d+10,O⟩=R (aO (c.p b).f)∧W.cell? ⟨P.g,d+11,O⟩=R (J U (c.p b).g):=by
 rcases e with⟨rfl,rfl⟩|⟨rfl,rfl⟩
 ·exact⟨⟨a.a 6,a.a 7,a.a 8,a.a 9,a.a 10,a.a 11⟩,a.a 12,a.a 13,a.a 14,a.a 15,a.a 16,a.a 17⟩
 ·exact⟨⟨a.a 18,a.a 19,a.a 20,a.a 21,a.a 22,a.a 23⟩,a.a 24,a.a 25,a.a 26,a.a 27,a.a 28,a.a 29⟩
def GR.i (d:Nat) {e:List Nat} (a:GR c P X F w p G W F') (h:d<15) (i:gG (F' d) e W W') (j:∀b∈e,b<W'.heap.size) (k:Rr c' P' X' d W' e)
  (l:∀f,f≠d→Rr c' P' X' f=Rr c P X f:=by rintro(_|_|_|_|_|_|_|_|_|_|_|_|_|_|_|f) m<;>first|rfl|exact absurd rfl m):GR c' P' X' F w p G W' (GL F' d e):=by obtain⟨n,g⟩:=a.a.s d h i j k l;refine⟨n,a.g.a g,a.d.h g.1 (fun b d=>(a.e b d).1),a.f,fun b d=>⟨fun e=>(g.2 b e).elim (a.e b d).1 (fun e=>?_),(a.e b d).2.1,aV (a.e b d).2.2 g.1.b⟩,a.h⟩;have:=(a.e b d).2.2;omega
def zbF (c:Co) (P:Pt) (X:Option fq) (F:Nat→List Nat) (w:aB) (p:fq) (G:List Nat) (b:Int) (a:As×Fr×Bool×Int) (g:Ending) (d:aB):Prop:=
 ∃e f h i j F',g=av (aN #[Av a.2.1 e a.2.1.c.length f h i j,a.2.2.1,a.2.2.2])∧GR (c.b b {c.p b with x:=a.1}) P X F w p G d F'∧a.2.1.c.length≤f∧bU d e (dP a.2.1.c)
def ZQ {s:Int} (g:s=0∨s=1) (a:GR c P X F w p G W F') (d:Fx c.a=true) (b:(c.p s).x.c.length≤100000) (m:p.x.f.c.length≤300) (n:p.x.f.i.length≤300) (o:p.x.f.d≤255) (q:mg p.x.f.a=true→p.x.f.i=[]):
  aF au 90 #[aK (R ⟨(P.q s).f,0,O⟩),Av p.x.f p.a p.x.f.c.length p.c p.d p.x.f.i.length p.e] W (zbF c P X F w p G s (jY c.a.c (c.p s).x p.x.f)):=by
 have r:0≤c.a.c∧c.a.c≤1048576:=by unfold Fx bV at d;simp at d;omega
 have t:∀e,e<15→FS W (fun d=>d∉F' e) p.x.f p.a p.x.f.c.length p.c p.d p.x.f.i.length p.e:=fun e f=>⟨rfl,rfl,a.d.d.1.d fun d _ b e=>(a.e d b).1 (iM f e),a.d.e.1.d fun d _ b e=>(a.e d b).1 (iM f e)⟩
 rcases g with rfl|rfl
 ·refine(Lg p.x.f p.a p.d p.c p.e W (a.a.d 1) r b m n o q (t 1 Y2)).mono ?_;rintro u v ⟨e,f,g,h,i,x,j,d,k,l⟩;exact⟨e,f,g,h,i,_,j,a.i (c':=c.b 0 {c.p 0 with x:=(jY c.a.c (c.p 0).x p.x.f).1}) (P':=P) (X':=X) 1 Y2 k d.b d,l⟩
 ·refine(Lg p.x.f p.a p.d p.c p.e W (a.a.d 2) r b m n o q (t 2 Y2)).mono ?_;rintro u v ⟨e,f,g,h,i,x,j,d,k,l⟩;exact⟨e,f,g,h,i,_,j,a.i (c':=c.b 1 {c.p 1 with x:=(jY c.a.c (c.p 1).x p.x.f).1}) (P':=P) (X':=X) 2 Y2 k d.b d,l⟩
def Jw (W d:aB) (F':Nat→List Nat) (b:Option aX) (e f:Nat) (g:List aI):Prop:=∃a,Aw d a b e f g∧(∀e,b=R e→e.block∈a)∧∀b∈a,b∉Z6 F'∧W.heap.size≤b∧b<d.heap.size
def zbG (c:Co) (P:Pt) (X:Option fq) (F:Nat→List Nat) (w:aB) (p:fq) (G:List Nat) (d:Int) (W:aB) (a:AO×Int) (i:Ending) (b:aB):Prop:=
 ∃e f g h F',i=av (aN #[aS #[Z e a.1.a.length f,Z g a.1.b.length h],a.2])∧GR (c.b d {c.p d with t:=a.1.t}) P X F w p G b F'∧Jw W b F' e a.1.a.length f (dx a.1.a)∧Jw W b F' g a.1.b.length h (a.1.b.map (J U))
def zW.a {d:Nat} {e:qB} {b:List Nat} (a:zW w d e b):∀d∈b,d<w.heap.size:=by obtain⟨b,d,a⟩:=a;exact a.e
def yw {g:List Nat} {h:Nat} {d:Option aX} {b e:Nat} {i:List aI} {k l:Nat} (hF:∀f,∀a∈F' f,a<W.heap.size) (j:W'.ownsRow W k l (Z d b e) b i) (l:∀k,(Z d b e).ownBlock=R k→k∉g):Jw W W' (GL F' h g) d b e i:=by
 refine⟨(Z d b e).ownBlock.toList,Aw.j j (fun a g=>by rw[g];simp),fun k i=>by rw[i];exact aC.2 rfl,fun a g=>?_⟩;have i:(Z d b e).ownBlock=R a:=Y6 g;have b:=j.lt a i;refine⟨fun b=>?_,Y0,Y0⟩;obtain⟨f,d,b⟩:=xD.1 b;by_cases d:f=h
 ·subst d;rw[fF]at b;exact l a i b
 ·rw[dS d]at b;have:=hF f a b;omega
def NU {d:Int} (h:d=0∨d=1) (a:GR c P X F w p G W F') (t:(c.p d).t.c) (f:Option aX) (e g:Nat) (b:List Int) (u:b.length=e) (v:e≤100000) (x:e≤g) (y:bU W f (dP b)) (z:gZ b):
  aF au 91 #[aK (R ⟨(P.q d).h,0,O⟩),Z f e g] W (zbG c P X F w p G d W (pG (c.p d).t b)):=by
 rcases h with rfl|rfl
 ·refine(zX f e g b W (a.a.d 3) t (aj a.a.j) u v x y z).mono ?_;rintro A B ⟨h,i,j,k,l,m,d,n,⟨o,q⟩,r,s⟩;exact⟨h,j,i,k,GL F' 3 l,m,a.i (c':=c.b 0 {c.p 0 with t:=(pG (c.p 0).t b).1.t}) 3 Y2 n d.a d,yw a.a.h.a o q,yw a.a.h.a r s⟩
 ·refine(zX f e g b W (a.a.d 4) t (aj a.a.j) u v x y z).mono ?_;rintro A B ⟨h,i,j,k,l,m,d,n,⟨o,q⟩,r,s⟩;exact⟨h,j,i,k,GL F' 4 l,m,a.i (c':=c.b 1 {c.p 1 with t:=(pG (c.p 1).t b).1.t}) 4 Y2 n d.a d,yw a.a.h.a o q,yw a.a.h.a r s⟩
def KW.k {W:aB} {p:fq} {G G':List Nat} (a:KW W p G) (b:∀d∈G,d∈G'):KW W p G':=
 ⟨a.a,b _ a.b,a.g.e b,a.d.e b,a.e.e b,a.c.e b,a.f.e b⟩
def fq.C (p:fq) (a:List Fd) (b:List Int) (d:Option aX) (e:Nat) (f:Option aX) (g:Nat):fq:={p with x:={p.x with b:=a,d:=b},f:=d,g:=e,k:=f,j:=g}
def WV (p:fq) (a:List Fd) (b:List Int) (d:Option aX) (e:Nat) (f:Option aX) (g:Nat):gV (fC p) 37 [Z d a.length e,Z f b.length g]=fC (p.C a b d e f g):=by kernel_rfl
def GR.n {g:aB} {a:List Fd} {b:List Int} {d e:Option aX} {h i:Nat} (f:GR c P X F w p G W F') (j:w.heap.size≤g.heap.size) (j:p.b<g.heap.size) (l:Jw g W F' d a.length h (dx a)) (n:Jw g W F' e b.length i (b.map (J U))):
  sP c P X F w (p.C a b d h e i) (W.setCells p.b 37 [Z d a.length h,Z e b.length i]):=by
 obtain⟨j,o,q,k⟩:=l;obtain⟨l,r,s,m⟩:=n;have g:bg [p.b] W (W.setCells p.b 37 [Z d a.length h,Z e b.length i]):=bg.f Y1 _ _ _;have h:wJ p.b d:=fun a b=>by have:=(k _ (q a b)).2.1;omega
 have d:wJ p.b e:=fun a b=>by have:=(m _ (s a b)).2.1;omega
 refine⟨G++(j++l),F',f.j g ((f.d.k (G':=G++(j++l)) (fun b a=>by simp[a])).i g f.f ?_ ⟨rfl,⟨rfl,rfl,rfl,rfl,rfl,rfl⟩,rfl,rfl⟩ ?_ ?_) (f.f.a ⟨rfl,⟨rfl,rfl,rfl,rfl,rfl,rfl⟩,rfl,rfl⟩ h d) (fun b a=>?_)⟩
 ·rw[←WV];exact bH.o _ 37 W _ f.d.a
 ·exact(o.e (fun b a=>by simp[a])).a g h
 ·exact(r.e (fun b a=>by simp[a])).a g d
 ·rcases bK.1 a with a|a
  ·exact .inl a
  ·rcases bK.1 a with a|a
   ·have:=k b a;exact .inr ⟨this.1,Y0,this.2.2⟩
   ·have:=m b a;exact .inr ⟨this.1,Y0,this.2.2⟩
def Dn (c:Co) (a:Int) (d b:yg):(c.b a d).b a b=c.b a b:=by unfold Co.b;split<;>rfl
end
def rC (a:Int×Int) (c:Co) (P:Pt) (p:fq) (b:Nat→List Nat) (w:aB) (d:Ending) (e:aB):Prop:=d=av (aN #[a.1,a.2])∧Cp c P (R p) b w e
def lX.g {w b:aB} {c:Co} {P:Pt} {p:fq} {a:Nat→List Nat} (e:lX w c P (R p) a) (d:aJ w w b):Cp c P (R p) a w b:=⟨a,e.a d,gG.d d⟩
def uj (a:Int) (w:aB):aF au 213 #[a] w fun b d=>b=av (aN #[J U (nC a).1,J U (nC a).2])∧w=d:=
 (dR a w).mono fun b d ⟨e,f⟩=>⟨by rw[e];unfold nC;by_cases g:a=0<;>simp[g],f⟩
def ny (a:Bool) (b:Int) (w:aB):aF au 211 #[a,b] w fun d e=>d=av (aN #[J U (jv a b).1,J U (jv a b).2])∧w=e:=
 (MF a b w).mono fun d e ⟨f,g⟩=>⟨by rw[f];cases a<;>rfl,g⟩
structure Gw (w:aB)where
 W:aB
 h:aJ w w W
instance (w:aB):Inhabited (Gw w):=⟨⟨w,ay _ _⟩⟩
structure WQ (P:Program) (ops:Array Oper) (C:aB→Prop) (Q:Act→Prop) (l:List Oper) (a:Act):Prop where
 c:wpQuiet P ops C Q l a
def WQ.b {P:Program} {d:Array Oper} {e:aB→Prop} {a:Act→Prop} {b:Act} (f:a b):WQ P d e a [] b:=⟨f⟩
def WQ.d {P:Program} {e:Array Oper} {f:aB→Prop} {g:Act→Prop} {d:Oper} {h:List Oper} {a:Act}
  (i:∀b:Act→Prop,(∀a,WQ P e f g h a→b a)→if Region.wanted d (yielded e a.tmps)then d.quiet P a f b else b (a.put d.dst bq)):WQ P e f g (d::h) a:=
 ⟨wpQuiet_step fun b d=>i b fun a b=>d a b.c⟩
def dJ {P:Program} {g:Nat} {e:Exit→Act→aB→Prop} {f:Act} {w:aB} {d:List Oper} (h:P.follows .mixedOrders=true) (i:Region.lexB .any d.toArray=true)
  (j:WQ P d.toArray (fun a=>∃b:Gw w,a=b.W) (fun l=>∀a,(∃b:Gw w,a=b.W)→e .normal l a) d f):(Code.region g d.toArray true).wp P e f w:=
 wp_region_quiet (C:=fun a=>∃b:Gw w,a=b.W) h i ⟨⟨w.drew,(ay _ w).drew⟩,rfl⟩ (Y6 j.c)
def Calls.gw {P:Program} {e:FuncId} {f:Array aI} {w:aB} {a:Gw w} {g:aI} (h:aF P e f a.W fun b d=>b=av g∧aJ a.W.heap.size a.W d):aF P e f a.W fun b e=>b=av g∧∃b:Gw w,e=b.W:=
 h.mono fun _ d ⟨b,e⟩=>⟨b,⟨d,bG a.h e⟩,rfl⟩
def Gw.a {w a:aB} (b:aJ w w a) (d:Gw a):aJ w w d.W:=b.trans (d.h.mono b.size)
section
variable {w:aB} {c:Co} {P:Pt} {p:fq} {k:Nat}
def iZ.b {a:Lk} (b:iZ a) (d:a.r.c≠ -1):0≤a.r.e∧a.r.e≤255∧0≤a.r.d∧a.r.d≤2147483647:=by have:=b.j d;unfold gK bV at this;simp at this;omega
def Lc {P:Pt} {c:Co} {a:Int} (b:a=0∨a=1):(a=0∧c.p (1-a)=c.f∧P.q (1-a)=P.b∧c.p a=c.e∧P.q a=P.a)∨(a=1∧c.p (1-a)=c.e∧P.q (1-a)=P.a∧c.p a=c.f∧P.q a=P.b):=by
 rcases b with rfl|rfl
 ·exact .inl ⟨rfl,rfl,rfl,rfl,rfl⟩
 ·exact .inr ⟨rfl,rfl,rfl,rfl,rfl⟩
def Sv (F:Nat→List Nat) (h:lX w c P (R p) F) (hx:iZ p.x) (h6:p.x.r.c=6) (hw:p.x.w=(0,0)):
  aF au 246 #[aK (R ⟨P.g,0,O⟩),aK (R ⟨p.b,0,O⟩)] w (rC (uY c p.x) c P p F w):=by
 have hs:=dN hx.a;have hf:=hx.c hw Y0;have hfl:=hx.b Y0;obtain⟨fr,hfr⟩:=exq p.x.r.a;obtain⟨n,hn⟩:=exq p.x.f.c.length;obtain⟨g,hg⟩:=exq P.g;obtain⟨q,hq⟩:=exq (zcb p.x.r);obtain⟨wq,hwq⟩:=exq ((c.p (1-fr)).b.b p.x.f.c);have h8:n=8:=by rw[←hn];exact hf.e h6
 rw[hfr]at hs;obtain⟨ix,cl,hfi,hX,hW⟩:∃ix cl,((fr=0∧ix=27)∨(fr=1∧ix=15))∧(∀W,aJ w.heap.size w W→W.cell? ⟨g,ix,O⟩=R (aK (R ⟨cl,0,O⟩)))∧∀W,aJ w.heap.size w W→aF au 196 #[aK (R ⟨cl,0,O⟩),Z p.a n p.c] W fun e w'=>e=av (aO wq)∧aJ W.heap.size W w':=by
  rcases Lc (P:=P) (c:=c) hs with⟨h0,h1,_⟩|⟨h0,h1,_⟩
  ·exact⟨27,P.b.c,.inl ⟨h0,rfl⟩,fun W hW=>by rw[←hg];exact(h.a hW).f.a 27,fun W hW=>by rw[←hwq,h1];exact wF (M:=c.a.d) (F:=F 12) p.a n p.c p.x.f.c W ((h.a hW).d 12) hn h8 hf.a (h.a hW).e.d.d⟩
  ·exact⟨15,P.a.c,.inr ⟨h0,rfl⟩,fun W hW=>by rw[←hg];exact(h.a hW).f.a 15,fun W hW=>by rw[←hwq,h1];exact wF (M:=c.a.d) (F:=F 11) p.a n p.c p.x.f.c W ((h.a hW).d 11) hn h8 hf.a (h.a hW).e.d.d⟩
 have x1:∀u:Gw w,u.W.cell? ⟨g,ix,O⟩=R (aK (R ⟨cl,0,O⟩)):=fun u=>hX _ u.h;have x2:∀u:Gw w,u.W.cell? ⟨p.b,0,O⟩=R (J U fr):=fun u=>by rw[←hfr];exact(h.a u.h).e.a.a 0
 have x3:∀u:Gw w,u.W.cell? ⟨p.b,10,O⟩=R (Z p.a n p.c):=fun u=>by rw[←hn];exact(h.a u.h).e.a.a 10
 have HA:Y (∀u:Gw w,aF au 157 #[aK (R ⟨p.b,0,O⟩)] u.W fun e w'=>e=av (aO q)∧∃u':Gw w,w'=u'.W):=aj fun u=>Calls.gw (by refine(Gf (h.a u.h).e.a Y0).mono ?_;rintro e w' ⟨rfl,m,rfl⟩;exact⟨by rw[hq],bI (ay _ _) m⟩)
 have HW:Y (∀u:Gw w,aF au 196 #[aK (R ⟨cl,0,O⟩),Z p.a n p.c] u.W fun e w'=>e=av (aO wq)∧∃u':Gw w,w'=u'.W):=aj fun u=>Calls.gw (hW _ u.h);have HZ:Y (uY c p.x=if q&& !wq then(2,0)else(1,0)):=aj (by unfold uY;rw[hq,hfr,hwq]);have HC:=aj h;rw[hg];clear h hx h6 hw hs hf hfl hfr hn hg hq hwq h8 hX hW;have hw0:U.wrap 0=0:=rfl;have hw1:U.wrap 1=1:=rfl;rcases hfi with⟨rfl,rfl⟩|⟨rfl,rfl⟩
 all_goals
  cases q<;>cases wq;all_goals
   go_enter func246,ntmps246;go_wp2_with fail;refine dJ Y3 Y3 ?_;repeat(refine WQ.d (fun K hK=>?_);go_simp;first|(refine hK _ ?_;clear hK K)|(apply Exists.intro;refine⟨fun _=>?_,hK _ ?_⟩;(first|(go_at_call 157;exact HA.o _)|(go_at_call 196;exact HW.o _));clear hK K))
   refine WQ.b ?_;rintro _ ⟨u,rfl⟩;go_wp2;go_ret2;exact⟨by rw[HZ.o];rfl,HC.o.g u.h⟩
end
section
variable {w W:aB} {c:Co} {P:Pt} {X:Option fq} {F:Nat→List Nat} {p:fq}
def jB (a:aB→Prop) (W:aB):Prop:=a W
def fq.r (p:fq) (wh:Fr) (a:Bool) (D:Option aX) (dc:Nat) (S:Option aX) (sn sc:Nat):fq:={p with x:={p.x with a:=wh,c:=a},u:=D,v:=wh.c.length,w:=dc,y:=S,z:=sn,A:=sc}
abbrev FrC (W:aB) (p:fq):Prop:=W.cell? ⟨p.b,6,O⟩=R (J U p.x.f.a)∧W.cell? ⟨p.b,7,O⟩=R (J U p.x.f.d)∧W.cell? ⟨p.b,8,O⟩=R (J U p.x.f.b)∧W.cell? ⟨p.b,9,O⟩=R (J U p.x.f.f)∧W.cell? ⟨p.b,10,O⟩=R (Z p.a p.x.f.c.length p.c)∧W.cell? ⟨p.b,11,O⟩=R (Z p.d p.x.f.i.length p.e)∧W.cell? ⟨p.b,12,O⟩=R (J U p.x.f.k)∧W.cell? ⟨p.b,13,O⟩=R (J U p.x.f.l)∧W.cell? ⟨p.b,14,O⟩=R (aO p.x.f.m)∧W.cell? ⟨p.b,15,O⟩=R (J U p.x.f.e)∧W.cell? ⟨p.b,16,O⟩=R (J U p.x.f.h)∧W.cell? ⟨p.b,17,O⟩=R (J U p.x.f.j)∧W.cell? ⟨p.b,18,O⟩=R (J U p.x.f.g)
abbrev WhC (W:aB) (p:fq):Prop:=W.cell? ⟨p.b,23,O⟩=R (aO p.x.c)∧W.cell? ⟨p.b,24,O⟩=R (J U p.x.a.a)∧W.cell? ⟨p.b,25,O⟩=R (J U p.x.a.d)∧W.cell? ⟨p.b,26,O⟩=R (J U p.x.a.b)∧W.cell? ⟨p.b,27,O⟩=R (J U p.x.a.f)∧W.cell? ⟨p.b,28,O⟩=R (Z p.u p.v p.w)∧W.cell? ⟨p.b,29,O⟩=R (Z p.y p.z p.A)∧W.cell? ⟨p.b,30,O⟩=R (J U p.x.a.k)∧W.cell? ⟨p.b,31,O⟩=R (J U p.x.a.l)∧W.cell? ⟨p.b,32,O⟩=R (aO p.x.a.m)∧W.cell? ⟨p.b,33,O⟩=R (J U p.x.a.e)∧W.cell? ⟨p.b,34,O⟩=R (J U p.x.a.h)∧W.cell? ⟨p.b,35,O⟩=R (J U p.x.a.j)∧W.cell? ⟨p.b,36,O⟩=R (J U p.x.a.g)
def whC {W:aB} {p:fq} (a:bH W p.b 142 (fC p)):WhC W p:=⟨a.a 23,a.a 24,a.a 25,a.a 26,a.a 27,a.a 28,a.a 29,a.a 30,a.a 31,a.a 32,a.a 33,a.a 34,a.a 35,a.a 36⟩
def frC {W:aB} {p:fq} (a:bH W p.b 142 (fC p)):FrC W p:=⟨a.a 6,a.a 7,a.a 8,a.a 9,a.a 10,a.a 11,a.a 12,a.a 13,a.a 14,a.a 15,a.a 16,a.a 17,a.a 18⟩
def WW {p:fq} {a:Nat} {b:Int}:(fC p)[a]?≠R (J .u8 b):=fun a=>by
 have:=Array.mem_of_getElem? a
 simp[fC]at this
def Gm {W a:aB} {p:fq} {D:Option aX} {b:List Int} (e:bH W p.b 142 (fC p)) (f:bU W D (dP b)) (g:bg [p.b] W a):bU a D (dP b):=fun h i d=>by
 obtain⟨b,j,k,a⟩:=f h i d
 have f:b≠p.b:=fun h=>by
  obtain⟨i,_,rfl⟩:=dI.1 (bP d)
  rw[h,e.a]at a
  exact WW a
 refine⟨b,j,k,?_⟩
 have d:=g.m b (bf W _ a) (Y6 f)
 unfold World.cell? at a⊢
 rw[d]
 exact a
def fq.G (p:fq) (wh:Fr) (D:Option aX) (dc:Nat) (S:Option aX) (sn sc:Nat):fq:={p with x:={p.x with a:=wh},u:=D,v:=wh.c.length,w:=dc,y:=S,z:=sn,A:=sc}
def whL (wh:Fr) (D:Option aX) (dc:Nat) (S:Option aX) (sn sc:Nat):List aI:=[J U wh.a,J U wh.d,J U wh.b,J U wh.f,Z D wh.c.length dc,Z S sn sc,J U wh.k,J U wh.l,aO wh.m,J U wh.e,J U wh.h,J U wh.j,J U wh.g]
section
variable (p:fq) (wh:Fr) (is:Bool) (D:Option aX) (dc:Nat) (S:Option aX) (sn sc:Nat)
def NV:gV (fC p) 24 (whL wh D dc S sn sc)=fC (p.G wh D dc S sn sc):=by kernel_rfl
def SQ:gV (fC (p.G wh D dc S sn sc)) 23 [aO is]=fC (p.r wh is D dc S sn sc):=by kernel_rfl
end
def fq.H (p:fq):fq:={p with x:={p.x with g:=true}}
def fq.I (p:fq) (a:Bool):fq:={p with x:={p.x with h:=a}}
def ZR (p:fq):gV (fC p) 22 [aO true]=fC p.H:=by kernel_rfl
def WX (p:fq) (a:Bool):gV (fC p) 39 [aO a]=fC (p.I a):=by kernel_rfl
def WY {a:Lk} (b:a.c=false) (wh:Fr):({a with a:=wh,c:=false}:Lk)={a with a:=wh}:=by cases a;dsimp only at b;subst b;rfl
def Yx (b:yg×Lk) (c:Co) (P:Pt) (X:Option fq) (F:Nat→List Nat) (w:aB) (p:fq) (a:Ending) (d:aB):Prop:=a=av (aN #[])∧∃a,a.b=p.b∧a.x=b.2∧sP (c.b p.x.r.a b.1) P X F w a d
def WZ {z0:Nat} (d:sP c P X F w p W) (ho:dU c z0) (hk:z0≤300) (E:iZ p.x) (c0:p.x.r.c≠ -1) (k0:p.x.c=false):
  aF au 58 #[qp P.g,qp p.b] W (Yx (kN c.a.c (c.p p.x.r.a) p.x) c P X F w p):=by
 have hs:=dN E.a;obtain⟨a,G⟩:=exq p.x.r.a;obtain⟨od,T⟩:=exq p.x.e;obtain⟨v,x,y⟩:∃m0 z,p.x.w=(m0,z):=⟨_,_,rfl⟩;obtain⟨fm,V⟩:=exq ((c.p a).d);obtain⟨op,a0⟩:=exq (iU p.x.r.c p.x.r.e);rw[G]at hs;obtain⟨j,hq⟩:=oF.a hs;have n0:=E.b c0;have HX:Y (∀W,sP c P X F w p W→(W.cell? ⟨P.g,j+1,O⟩=R (aO fm)∧W.cell? ⟨P.g,j+2,O⟩=R (aK (R ⟨(P.q a).f,0,O⟩)))∧(W.cell? ⟨p.b,0,O⟩=R (J U a)∧W.cell? ⟨p.b,1,O⟩=R (J U p.x.r.c)∧W.cell? ⟨p.b,2,O⟩=R (J U p.x.r.e)∧W.cell? ⟨p.b,3,O⟩=R (J U p.x.r.d)∧W.cell? ⟨p.b,4,O⟩=R (aO p.m)∧W.cell? ⟨p.b,5,O⟩=R (Z p.h p.x.r.b.length p.i))∧W.cell? ⟨p.b,19,O⟩=R (J U v)∧W.cell? ⟨p.b,20,O⟩=R (J U x)∧W.cell? ⟨p.b,21,O⟩=R (aO od)):=aj fun W h=>by have hc:=(ql hq h.b).1;have A:=h.a;exact⟨⟨by rw[←V];exact hc.2.1,hc.2.2.1⟩,⟨by rw[←G];exact A.a 0,A.a 1,A.a 2,A.a 3,A.a 4,A.a 5⟩,by rw[show v=p.x.w.1 by rw[y]];exact A.a 19,by rw[show x=p.x.w.2 by rw[y]];exact A.a 20,by rw[←T];exact A.a 21⟩
 have HF:Y (∀c1 W,sP c1 P X F w p W→W.cell? ⟨P.g,j+2,O⟩=R (aK (R ⟨(P.q a).f,0,O⟩))∧FrC W p):=aj fun c1 W h=>by exact⟨(ql hq h.b).1.2.2.1,frC h.a⟩
 have HO:Y (∀W,aF au 89 #[aS (qs a p.x.r.c p.x.r.e p.x.r.d p.m p.h p.x.r.b.length p.i)] W fun b g=>b=av op∧aJ W W g):=aj fun W=>by rw[←a0];exact sj a p.x.r.c p.x.r.e _ _ _ _ _ W (by omega)
 obtain⟨sk,o0⟩:∃m0:Bool,m0=(!od||(!(v==0&&x==0)||(!fm&& !op))):=⟨_,rfl⟩;have d0:Y (sk=true→kN c.a.c (c.p a) p.x=(c.p a,p.x)):=aj fun e=>by
  unfold kN;rw[T,y,V,a0,aP];rw[o0]at e;simp only[Bool.or_eq_true,Bool.not_eq_true',Bool.and_eq_true,Bool.and_eq_false_imp]at e;rcases e with e|e|e
  ·exact .inl e
  ·refine .inr (.inl fun b=>?_);injection b with e1 e2;rw[e1,e2]at e;simp at e
  ·exact .inr (.inr e)
 have p0:c.b a (c.p a)=c:=Ab c (by rcases hs with rfl|rfl<;>rfl);have HS:=aj d;have b0:=aj o0;obtain⟨⟨xf,xa⟩,⟨x0,x1,x2,x3,x4,x5⟩,q0,r0,s0⟩:=HX.o _ d;unfold Yx;rw[G];clear d o0;have HK:=aj (And.intro ho (And.intro hk (And.intro E (And.intro c0 (And.intro k0 (And.intro G (And.intro T (And.intro y (And.intro V (And.intro a0 (And.intro n0 p0)))))))))));clear ho hk E c0 k0 G T y V a0 n0 p0 hs;go_enter func58,ntmps58;go_upto_region 0 with fail;go_cut [4] (fun z H=>z=aK (R ⟨P.g,j,O⟩)∧Y (sP c P X F w p H));case first=>
  clear HX HF HO d0 b0 HK;rcases hq with⟨rfl,rfl⟩|⟨rfl,rfl⟩
  all_goals
   go_quiet (fail);go_wp2_with fail;go_meet;exact⟨rfl,aj (HS.o.d (bI (ay _ _) nq))⟩
 case rest=>
  obtain⟨rfl,N⟩:=hcut;clear HS xf xa x0 x1 x2 x3 x4 x5 q0 r0 s0;obtain⟨⟨xf,xa⟩,⟨x0,x1,x2,x3,x4,x5⟩,q0,r0,s0⟩:=HX.o _ N.o;go_upto_region 1 with fail;go_cut [42] (fun z H=>z=aO sk∧Y (sP c P X F w p H));case first=>
   have e0:=b0;clear d0 HK HF HX b0;cases od
   ·go_wp2_with fail;go_meet;exact⟨by rw[e0.o];rfl,N⟩
   have y:(v=0∧x=0)∨(¬v=0∧(v==0)=false)∨(v=0∧¬x=0∧(x==0)=false):=by
    by_cases e:v=0
    ·by_cases i:x=0
     ·exact .inl ⟨e,i⟩
     ·exact .inr (.inr ⟨e,i,aM.2 i⟩)
    ·exact .inr (.inl ⟨e,aM.2 e⟩)
   rcases y with⟨rfl,rfl⟩|⟨H0,t0⟩|⟨rfl,H0,t0⟩
   ·cases fm
    ·go_wp2_with fail;refine(HO.o _).mono ?_;rintro b x ⟨rfl,hb⟩;have I:=aj (N.o.d hb);clear hb;go_wp2_with fail;go_meet;exact⟨by rw[e0.o];simp,I⟩
    ·go_wp2_with fail;go_meet;exact⟨by rw[e0.o];rfl,N⟩
   ·go_wp2_with fail;all_goals
     go_meet;exact⟨by rw[e0.o,t0];rfl,N⟩
   ·go_wp2_with fail;all_goals
     go_meet;exact⟨by rw[e0.o,t0];rfl,N⟩
  case rest=>
   obtain⟨rfl,I⟩:=hcut;clear N xf xa x0 x1 x2 x3 x4 x5 q0 r0 s0 HO;cases sk
   ·have hw:od=true∧v=0∧x=0:=by have:=b0.o;simp only[Bool.false_eq,Bool.or_eq_false_iff,Bool.not_eq_false',Bool.and_eq_true,dX]at this;exact⟨this.1,this.2.1⟩
    obtain⟨I0,hA⟩:=exq (jY c.a.c (c.p a).x p.x.f);obtain⟨k,wh,is,er⟩:=I0;have B:Y ((kN c.a.c (c.p a) p.x=if er≠0 then({c.p a with x:=k},{p.x with a:=wh,c:=is,g:=true})else if is then({c.p a with x:=k,t:=(pG (c.p a).t wh.c).1.t},{p.x with a:=wh,c:=true,b:=(pG (c.p a).t wh.c).1.a,d:=(pG (c.p a).t wh.c).1.b,h:=(pG (c.p a).t wh.c).2 !=0})else({c.p a with x:=k},{p.x with a:=wh}))∧wh.c.length≤100000∧gZ wh.c∧(c.p a).t.c∧ko a=true∧p.x.c=false∧∀W,sP c P X F w p W→aF au 90 #[aK (R ⟨(P.q a).f,0,O⟩),Av p.x.f p.a p.x.f.c.length p.c p.d p.x.f.i.length p.e] W fun b g=>∃D dc S sn sc,b=av (aN #[Av wh D wh.c.length dc S sn sc,is,er])∧sP (c.b a {c.p a with x:=k}) P X F w p g∧wh.c.length≤dc∧bU g D (dP wh.c)):=aj (by
     obtain⟨ho,hk,E,c0,k0,G,T,y,V,a0,n0,p0⟩:=HK.o;have f0:=ho.a a;have A0:p.x.w=(0,0):=by rw[y,hw.2.1,hw.2.2]
     have l:=E.c A0 c0;have ha:=zcz (M:=c.a.c) f0.e f0.f f0.h l;have hd:=ha.d;rw[hA]at hd;refine⟨?_,by have:=hd.1;dsimp only at this;omega,hd.2,f0.t,by rw[←G];exact E.a,k0,fun W h=>?_⟩
     ·unfold kN;rw[aL,hA];rintro(d|d|d)
      ·rw[T,hw.1]at d;cases d
      ·exact d A0
      ·have:=b0.o;rw[←V,←a0,d.1,d.2]at this;simp at this
     ·obtain⟨Q,K,h⟩:=h;refine(ZQ (s:=a) (by have:=E.a;rw[G]at this;exact dN this) h ho.n (by have:=f0.e;omega) l.b l.d (by rw[l.g];omega) (fun d=>l.h.e (fun b=>by rw[b]at d;cases d))).mono ?_;rintro b g ⟨D,dc,S,sn,sc,F2,m,e,i⟩;rw[hA]at m e i;exact⟨D,dc,S,sn,sc,m,⟨_,_,e⟩,i⟩)
    clear d0 HK b0 hA hw;obtain⟨L,l⟩:∃L:aB→Prop,∀W,jB L W=(W.cell? ⟨P.g,j+2,O⟩=R (aK (R ⟨(P.q a).f,0,O⟩))∧FrC W p):=⟨_,fun _=>rfl⟩;have hg:p.b≠P.g:=I.o.g.2;have HA:Y (aF au 90 #[aK (R ⟨(P.q a).f,0,O⟩),Av p.x.f p.a p.x.f.c.length p.c p.d p.x.f.i.length p.e] wc.drew fun b g=>∃D dc S sn sc,b=av (aN #[Av wh D wh.c.length dc S sn sc,is,er])∧jB L g∧Y (sP (c.b a {c.p a with x:=k}) P X F w p g∧wh.c.length≤dc∧bU g D (dP wh.c))):=aj (by refine(B.o.2.2.2.2.2.2 _ I.o.f).mono ?_;rintro b g ⟨D,dc,S,sn,sc,m,e,i⟩;exact⟨D,dc,S,sn,sc,m,by rw[l];exact HF.o _ _ e,aj ⟨e,i⟩⟩)
    have B0:jB L wc.drew:=by rw[l];exact HF.o _ _ I.o.f
    have K0:∀W,jB L W→W.cell? ⟨P.g,j+2,O⟩=R (aK (R ⟨(P.q a).f,0,O⟩))∧FrC W p:=fun W d=>by rw[l]at d;exact d
    have C0:Y (∀W o g0,jB L W→23≤o→jB L (W.setCell ⟨p.b,o,O⟩ g0)):=aj fun W o g0 d hi=>by have b:∀h0,h0<23→(W.setCell ⟨p.b,o,O⟩ g0).cell? ⟨p.b,h0,O⟩=W.cell? ⟨p.b,h0,O⟩:=fun h0 hj=>World.cell?_setCells_out p.b [g0] o W ⟨p.b,h0,O⟩ (fun _ _=>by simp;omega);rw[l]at d⊢;refine⟨(World.cell?_setCells_out p.b [g0] o W ⟨P.g,j+2,O⟩ (fun d=>absurd d (Ne.symm hg))).trans d.1,?_⟩;have i:=d.2;unfold FrC at i⊢;rw[b 6 (by decide),b 7 (by decide),b 8 (by decide),b 9 (by decide),b 10 (by decide),b 11 (by decide),b 12 (by decide),b 13 (by decide),b 14 (by decide),b 15 (by decide),b 16 (by decide),b 17 (by decide),b 18 (by decide)];exact i
    unfold Av at HA;clear l;go_upto_region 3 with fail;go_cut [5] (fun z H=>∃D dc S sn sc,z=J U er∧Y (sP (c.b a {c.p a with x:=k}) P X F w (p.r wh is D dc S sn sc) H∧wh.c.length≤dc∧bU H D (dP wh.c)));case first=>
     clear HF HX B I hg;go_region_held3 (jB L) (with_reducible (repeat(first|assumption|refine C0.o _ _ _ ?_ (by decide)))) (first|(go_at_call 90;refine HA.o.mono ?_;rintro b w4 ⟨D,dc,S,sn,sc,rfl,L0,C⟩;have M0:=C.o.1.a.c;have D0:=whC C.o.1.a));all_goals
      go_wp2_with fail;go_meet;have h5:=C.o.1.e (whL wh D dc S sn sc) 24 (NV ..) ⟨rfl,⟨rfl,rfl,rfl,rfl,rfl,rfl⟩,rfl,rfl⟩ ⟨rfl,rfl,rfl,rfl,rfl,rfl⟩;have h6:=h5.e [aO is] 23 (SQ p wh is D dc S sn sc) ⟨rfl,⟨rfl,rfl,rfl,rfl,rfl,rfl⟩,rfl,rfl⟩ ⟨rfl,rfl,rfl,rfl,rfl,rfl⟩;have h7:=Gm h5.a (Gm C.o.1.a C.o.2.2 (bg.f (by simp) (whL wh D dc S sn sc) 24 w4)) (bg.f (F:=[p.b]) (g:=p.b) (aC.2 rfl) [aO is] 23 _);exact⟨D,dc,S,sn,sc,rfl,aj ⟨h6,C.o.2.1,h7⟩⟩
    case rest=>
     obtain⟨D,dc,S,sn,sc,rfl,n⟩:=hcut;clear HA B0 K0 C0 HF HX I;have i0:=n.o.1.a;have S0:wc.cell? ⟨p.b,23,O⟩=R (aO is):=i0.a 23;have E0:wc.cell? ⟨p.b,28,O⟩=R (Z D wh.c.length dc):=i0.a 28;have T0:wc.cell? ⟨p.b,22,O⟩=R (aO p.x.g):=i0.a 22;have yf:∀o,wc.frozen? ⟨p.b,o,O⟩=false:=i0.c;have y3:wc.cell? ⟨P.g,j+3,O⟩=R (aK (R ⟨(P.q a).h,0,O⟩)):=(ql hq n.o.1.b).1.2.2.2.1;clear i0;by_cases m:er=0
     ·subst m;have q:=aj (B.o.1.trans (aL (by simp)));cases is
      ·have N0:=aj B.o.2.2.2.2.2.1;clear B;go_wp2_with fail;refine bodyPost_end (results_none rfl _ _ _) rfl ?_;exact⟨rfl,p.r wh false D dc S sn sc,rfl,by rw[q.o];exact WY N0.o wh,by rw[q.o];exact n.o.1⟩
      obtain⟨f,u0⟩:=exq (pG (c.p a).t wh.c);have F0:Y (kN c.a.c (c.p a) p.x=({c.p a with x:=k,t:=f.1.t},{p.x with a:=wh,c:=true,b:=f.1.a,d:=f.1.b,h:=f.2 !=0})):=aj (by rw[q.o,u0];rfl);obtain⟨j0,hn⟩:=exq wh.c.length;have HD:Y (aF au 91 #[aK (R ⟨(P.q a).h,0,O⟩),Z D j0 dc] wc.drew fun b g=>∃r s t u,b=av (aN #[aS #[Z r f.1.a.length s,Z t f.1.b.length u],f.2])∧(g.cell? ⟨P.g,j+3,O⟩=R (aK (R ⟨(P.q a).h,0,O⟩))∧g.cell? ⟨p.b,28,O⟩=R (Z D j0 dc))∧Y (∃Q K,GR (c.b a {c.p a with x:=k,t:=f.1.t}) P X F w (p.r wh true D dc S sn sc) Q g K∧Jw wc.drew g K r f.1.a.length s (dx f.1.a)∧Jw wc.drew g K t f.1.b.length u (f.1.b.map (J U)))):=aj (by obtain⟨_,e,i,h3,h4,_⟩:=B.o;obtain⟨Q,K,h⟩:=n.o.1.f;have v0:(c.b a {c.p a with x:=k}).p a={c.p a with x:=k}:=Sc c h4 _;have:=NU (dN h4) h (by rw[v0];exact h3) D j0 dc wh.c hn (by omega) (by rw[←hn];exact n.o.2.1) (n.o.2.2.a (ay _ _).drew) i;rw[v0]at this;dsimp only at this;rw[u0]at this;refine this.mono ?_;rintro b g ⟨r,s,t,u,F2,m,M,k2,k3⟩;rw[v0,Dn]at M;exact⟨r,s,t,u,m,⟨(ql hq M.a.f).1.2.2.2.1,by rw[←hn];exact M.d.a.a 28⟩,aj ⟨Q,F2,M,k2,k3⟩⟩)
      rw[hn]at E0;have B0:wc.drew.cell? ⟨P.g,j+3,O⟩=R (aK (R ⟨(P.q a).h,0,O⟩))∧wc.drew.cell? ⟨p.b,28,O⟩=R (Z D j0 dc):=⟨y3,E0⟩;have w0:Y (p.b≠P.g∧p.b<wc.heap.size∧w.heap.size≤wc.heap.size):=aj ⟨n.o.1.g.2,n.o.1.g.1,by obtain⟨Q,K,h⟩:=n.o.1;exact h.g.1.b⟩;have hg:=w0.o.1;clear B q n u0 hn;go_upto_region 7 with fail;go_cut [5] (fun z H=>z=J U f.2∧∃r s t u,Y (sP (c.b a {c.p a with x:=k,t:=f.1.t}) P X F w ((p.r wh true D dc S sn sc).C f.1.a f.1.b r s t u) H));case first=>
       go_region_held3 (fun W=>W.cell? ⟨P.g,j+3,O⟩=R (aK (R ⟨(P.q a).h,0,O⟩))∧W.cell? ⟨p.b,28,O⟩=R (Z D j0 dc)) (first|(with_reducible assumption)|(refine⟨?_,?_⟩<;>simp[*,World.cell?_setCell_far,World.cell?_setCell_other])) (first|(go_at_call 91;refine HD.o.mono ?_;rintro b w4 ⟨r,s,t,u,rfl,L0,C⟩;have l0:bH w4 p.b 142 (fC (p.r wh true D dc S sn sc)):=by{obtain⟨Q,K,M,_⟩:=C.o;exact M.d.a};have M0:=l0.c;have D0:=l0.a 37;have P0:=l0.a 38;dsimp only[fC]at D0 P0;clear l0));all_goals
        go_wp2_with fail;go_meet;refine⟨rfl,r,s,t,u,aj ?_⟩;obtain⟨Q,K,M,k2,k3⟩:=C.o;exact M.n w0.o.2.2 w0.o.2.1 k2 k3
      case rest=>obtain⟨rfl,r,s,t,u,G0⟩:=hcut;have y0:=G0.o.a;have V0:wc.cell? ⟨p.b,39,O⟩=R (aO p.x.h):=y0.a 39;have yf:∀o,wc.frozen? ⟨p.b,o,O⟩=false:=y0.c;clear y0;go_wp2_with fail;refine bodyPost_end (results_none rfl _ _ _) rfl ?_;exact⟨rfl,((p.r wh true D dc S sn sc).C f.1.a f.1.b r s t u).I (f.2 !=0),rfl,by rw[F0.o];rfl,by rw[F0.o];exact G0.o.e [aO (f.2 !=0)] 39 (WX _ _) ⟨rfl,⟨rfl,rfl,rfl,rfl,rfl,rfl⟩,rfl,rfl⟩ ⟨rfl,rfl,rfl,rfl,rfl,rfl⟩⟩
     ·have q:=aj (B.o.1.trans (aP m));have W0:(er==0)=false:=aM.2 m;clear B m;go_wp2_with fail;refine aG (results_none rfl _ _ _) rfl ?_;exact⟨rfl,(p.r wh is D dc S sn sc).H,rfl,by rw[q.o];rfl,by rw[q.o];exact n.o.1.e [aO true] 22 (ZR _) ⟨rfl,⟨rfl,rfl,rfl,rfl,rfl,rfl⟩,rfl,rfl⟩ ⟨rfl,rfl,rfl,rfl,rfl,rfl⟩⟩
   ·have q:=aj (d0.o rfl);have Q0:=aj HK.o.2.2.2.2.2.2.2.2.2.2.2;clear d0 HK;go_wp2_with fail;refine aG (results_none rfl _ _ _) rfl ?_;exact⟨rfl,p,rfl,by rw[q.o],by rw[q.o,Q0.o];exact I.o⟩
end
abbrev Ow:=Nat×bB×Array aI
structure StF (c:Co) (P:Pt) (X:Option fq) (F:Nat→List Nat) (w:aB) (L:List Ow) (W:aB) (F':Nat→List Nat):Prop where
 a:lX W c P X F'
 e:gG (Z6 F) (Z6 F') w W
 b:∀x∈L,Loc W F' x.1 x.2.1 x.2.2∧w.heap.size≤x.1
 f:(L.map (fun x=>x.1)).Nodup
 g:2≤w.heap.size
def St (c:Co) (P:Pt) (X:Option fq) (F:Nat→List Nat) (w:aB) (L:List Ow) (W:aB):Prop:=∃F',StF c P X F w L W F'
section
variable {w W W':aB} {c c':Co} {P P':Pt} {X X':Option fq} {F F':Nat→List Nat} {L:List Ow} {b:Nat} {t:bB} {cs cs':Array aI}
def StF.h (a:StF c P X F w L W F') (f:aJ W W W') (g:bH W' b t cs) (h:W.heap.size≤b):StF c P X F w ((b,t,cs)::L) W' F':=by
 refine⟨a.a.a f,a.e.a (gG.d f),fun e d=>?_,?_,a.g⟩
 ·rcases bA.1 d with rfl|d
  ·exact⟨⟨g,fun g=>by have:=a.a.o g;omega⟩,aR a.e.1.b h⟩
  ·exact⟨(a.b e d).1.d f,(a.b e d).2⟩
 ·refine List.nodup_cons.2 ⟨fun g=>?_,a.f⟩;obtain⟨e,d,f⟩:=dI.1 g;have:=(a.b e d).1.a.e;dsimp only at f;omega
def StF.i (a:StF c P X F w ((b,t,cs)::L) W F') (g:bg [b] W W') (m:bH W' b t cs'):StF c P X F w ((b,t,cs')::L) W' F':=by
 have h:=a.b _ (bM ..);have n:∀e,e<15→b∉F' e:=fun e i o=>h.1.c (iM i o);have p:∀f∈L,f.1≠b:=fun f d j=>(List.nodup_cons.1 a.f).1 (dI.2 ⟨f,d,j⟩);refine⟨⟨a.a.h.d g.b,fun e=>?_,a.a.j.d g (fun f d=>?_),a.a.l⟩,⟨a.e.1.a g (fun f d=>.inr ?_),a.e.2⟩,fun f d=>?_,a.f,a.g⟩
 ·by_cases i:e<15
  ·exact gL c P X e W W' _ [b] (a.a.d e) g (fun f d=>by simp;exact fun j=>n e i (by rw[←j];exact d))
  ·obtain⟨k,rfl⟩:∃k,e=k+15:=⟨e-15,by omega⟩;exact a.a.d (k+15)
 ·rw[aC.1 d];exact aR a.g h.2
 ·rw[aC.1 d];exact h.2
 ·rcases bA.1 d with rfl|d
  ·exact⟨⟨m,h.1.c⟩,h.2⟩
  ·have l:=a.b f (bJ _ d);exact⟨⟨l.1.a.g g (by simpa using p f d),l.1.c⟩,l.2⟩
def StF.d (a:StF c P X F w L W F') (d:Cp c' P' X' F' W W'):St c' P' X' F w L W':=by obtain⟨e,f,t⟩:=d;exact⟨e,f,a.e.a t,fun d e=>⟨(a.b d e).1.e t,(a.b d e).2⟩,a.f,a.g⟩
def St.y (a:lX w c P X F):St c P X F w [] w:=⟨F,a,gG.e _ _,by simp,by simp,a.j.b⟩
def St.a (a:St c P X F w L W) (d:aJ W W W'):St c P X F w L W':=by obtain⟨F',a⟩:=a;exact⟨F',a.a.a d,a.e.a (gG.d d),fun e f=>⟨(a.b e f).1.d d,(a.b e f).2⟩,a.f,a.g⟩
def St.e (a:St c P X F w L W):St c P X F w L W.drew:=a.a (ay _ _).drew
def St.n (d:St c P X F w L W) (a:Nat):St c P X F w L (W.drewN a):=d.a (bI (ay _ _) a)
def St.z (a:St c P X F w L W) (d:aJ W W W') (e:bH W' b t cs) (f:W.heap.size≤b):St c P X F w ((b,t,cs)::L) W':=by obtain⟨F',a⟩:=a;exact⟨F',a.h d e f⟩
def St.i (a:St c P X F w L W) (t:bB) (cs:Array aI):St c P X F w ((W.heap.size,t,cs)::L) (W.alloc (.cells cs t)):=
 a.z ((ay _ _).alloc (aD _) _) (bH.d _ _ _) (aD _)
def St.J {d:aB} (e:St c P X F w L d) (a:Di d W b t cs):St c P X F w ((b,t,cs)::L) W:=e.z a.a a.c a.d
def St.h (a:St c P X F w L W) {x:Ow} (d:x∈L):bH W x.1 x.2.1 x.2.2:=by obtain⟨F',a⟩:=a;exact(a.b x d).1.a
def St.d (a:St c P X F w L W):bH W P.g 128 (sN c P):=by obtain⟨F',a⟩:=a;exact a.a.f
def St.f {d:fq} (a:St c P (R d) F w L W):∃F',KW W d F':=by obtain⟨F',a⟩:=a;exact⟨_,a.a.e⟩
def St.A (a:St c P X F w ((b,t,cs)::L) W):b<W.heap.size∧b≠P.g:=by obtain⟨F',a⟩:=a;have d:=(a.b _ (bM ..)).1;exact⟨d.a.e,fun e=>d.c (iM (i:=0) Y2 (by rw[e];exact(a.a.d 0).1))⟩
def St.B {d:fq} (a:St c P (R d) F w ((b,t,cs)::L) W):b≠d.b:=by obtain⟨F',a⟩:=a;have d:=(a.b _ (bM ..)).1;exact fun e=>d.c (iM (i:=14) Y2 (by rw[e];exact a.a.e.b))
def St.k (a:St c P X F w ((b,t,cs)::L) W) (d:bg [b] W W') (e:bH W' b t cs'):St c P X F w ((b,t,cs')::L) W':=by obtain⟨F',a⟩:=a;exact⟨F',a.i d e⟩
def St.C (d:St c P X F w ((b,t,cs)::L) W) (a:aI) (e:cs.size=1):St c P X F w ((b,t,#[a])::L) (W.setCell ⟨b,0,O⟩ a):=by have f:=d.h (bM ..);exact d.k (bg.f (F:=[b]) Y1 [a] 0 W) (f.y [a] e.symm)
def St.v {d e:Ow} (a:St c P X F w (d::e::L) W):St c P X F w (e::d::L) W:=by obtain⟨F',a⟩:=a;refine⟨F',a.a,a.e,fun f e=>a.b f (by simp at e⊢;rcases e with a|a|a<;>simp[a]),?_,a.g⟩;have d:=a.f;simp at d⊢;exact⟨⟨fun a=>d.1.1 a.symm,d.2.1⟩,d.1.2,d.2.2⟩
def St.m (a:St c P X F w L W):Cp c P X F w W:=by obtain⟨F',a⟩:=a;exact⟨F',a.a,a.e⟩
def St.g {d:Ow} (a:St c P X F w (d::L) W):St c P X F w L W:=by obtain⟨F',a⟩:=a;exact⟨F',a.a,a.e,fun d e=>a.b d (bJ _ e),(List.nodup_cons.1 a.f).2,a.g⟩
def qS (P:Pt) (a:Int):Nat:=(P.q a).d
def lX.n (e:lX w c P X F) (d:Int):xP w (qS P d) (c.p d).q (F (if d=0 then 5 else 6)):=by
 unfold qS Pt.q Co.p;by_cases a:d=0
 ·rw[aP a,aP a,aP a];exact e.d 5
 ·rw[aL a,aL a,aL a];exact e.d 6
def lX.p (f:lX w c P X F) (d:Int) {e:List Nat} (t:gG (F (if d=0 then 5 else 6)) e w W) (a:xP W (qS P d) (c.p d).q e):Cp c P X F w W:=by
 unfold qS Pt.q Co.p at a;by_cases e:d=0
 ·rw[aP e]at a t;rw[aP e]at a;exact f.k 5 Y2 t a.a a (fun d g=>rfl)
 ·rw[aL e]at a t;rw[aL e]at a;exact f.k 6 Y2 t a.a a (fun d g=>rfl)
def wI {d:Nat} (a:St c P X F w L W) (h:dU c d) (e:d≤900) (d:Int):aF au 154 #[aK (R ⟨qS P d,0,O⟩)] W fun e f=>e=av (EM (c.p d).q.e)∧St c P X F w L f:=by obtain⟨F',a⟩:=a;have g:=(h.a d).q;refine(tO W (a.a.n d) g.a (by have:=g.d;omega)).mono ?_;rintro e f ⟨h,rfl,g,t,_⟩;exact⟨rfl,a.d (a.a.p d t g)⟩
def Le {d:Nat} (a:St c P X F w L W) (h:dU c d) (e:d≤900) (d:Int):aF au 151 #[aK (R ⟨qS P d,0,O⟩)] W fun f g=>f=av (J U (c.p d).q.b)∧St c P X F w L g:=by obtain⟨F',a⟩:=a;have e:=(h.a d).q;refine(EP W (a.a.n d) e.a (by have:=e.d;omega) e.c (by have:=e.b;have:=e.a;unfold Qu.b at*;omega)).mono ?_;rintro f g ⟨k,e,h,i,rfl,j,t⟩;exact⟨rfl,a.d (a.a.p d t (.inl ⟨e,h,i,j⟩))⟩
def Gi (a:St c P X F w L W) (d:Int):aF au 152 #[aK (R ⟨qS P d,0,O⟩)] W fun e f=>e=av (J U (c.p d).q.c)∧f=W:=by obtain⟨F',a⟩:=a;exact Bv W (a.a.n d)
end
section
variable {w W W':aB} {c:Co} {P:Pt} {X:Option fq} {F:Nat→List Nat} {L:List Ow}
def St.b {a:Nat} {b:bB} {d:Array aI} (e:St c P X F w ((a,b,d)::L) W):bH W a b d:=e.h (x:=(a,b,d)) (bM ..)
def Co.i (c:Co) (a:Sm):Co:={c with l:=oM c.l a}
def Lf (a:Sm) (b:St c P X F w L W) (f:c.l.length≤1000) (g:(Lit.int U a.c).wf=true):aF au 148 #[qp P.c,pV a] W fun d e=>d=av (aO (Hg c.l a))∧St (c.i a) P X F w L e:=by obtain⟨h,b⟩:=b;refine mB (Zo (M:=c.a.b) (F:=h 13) P.c a W (aj f) (aj (b.a.d 13)) (aj g)) fun e ⟨h,a,f,g⟩=>?_;refine⟨rfl,b.d (b.a.k 13 Y2 ⟨f,g⟩ ?_ a)⟩;exact a.a
abbrev Gl (W:aB) (b:Nat) (a:Sm):Prop:=W.cell? ⟨b,0,O⟩=R (J U a.c)∧W.cell? ⟨b,1,O⟩=R (J U a.k)∧W.cell? ⟨b,2,O⟩=R (J U a.o)∧W.cell? ⟨b,3,O⟩=R (aO a.a)∧W.cell? ⟨b,4,O⟩=R (aO a.b)∧W.cell? ⟨b,5,O⟩=R (J U a.y)∧W.cell? ⟨b,6,O⟩=R (aH aW a.d a.e)∧W.cell? ⟨b,7,O⟩=R (aO a.f)∧W.cell? ⟨b,8,O⟩=R (aA a.g)∧W.cell? ⟨b,9,O⟩=R (J U a.h)∧W.cell? ⟨b,10,O⟩=R (J U a.i)∧W.cell? ⟨b,11,O⟩=R (J U a.j)∧W.cell? ⟨b,12,O⟩=R (aO a.l)∧W.cell? ⟨b,13,O⟩=R (aA a.m)∧W.cell? ⟨b,14,O⟩=R (J U a.n)∧W.cell? ⟨b,15,O⟩=R (J U a.p)∧W.cell? ⟨b,16,O⟩=R (J U a.q)
structure jh (P:Pt) (k:Nat):Prop where
 a:P.a.b≤k
 b:P.b.b≤k
 c:P.a.i≤k
 d:P.b.i≤k
def Pt.f (P:Pt) (b:Int) (a:Nat):Pt:=if b=0 then{P with a:={P.a with b:=a}}else{P with b:={P.b with b:=a}}
def Co.h (c:Co) (b a:Int):Co:=if b=0 then{c with e:={c.e with a:=c.e.a.j a}}else{c with f:={c.f with a:=c.f.a.j a}}
def Gr.a {w:aB} {b d:Nat} {e:Int} {f:nG} {F:List Nat} (a:Gr w b e f F d):∀b∈F,b<w.heap.size:=by obtain⟨b,d,e,f,a⟩:=a;exact a.h
def WU {e:Nat} (f a:Int) (k:f=0∨f=1) (b:St c P X F w L W) (g:(c.p f).a.e∧(c.p f).a.a.length≤e) (d:(P.q f).b≤e) (h:e≤900) (m:(Lit.int U a).wf=true):aF au 149 #[aK (R ⟨(P.q f).a,0,O⟩),a] W fun i j=>(∃h:Bool,i=av h)∧∃h,h≤e+1∧St (c.h f a) (P.f f h) X F w L j:=by
 obtain⟨f,b⟩:=b;rcases k with rfl|rfl
 ·have d:P.a.b≤e:=d;have g:c.e.a.e∧c.e.a.a.length≤e:=g;have k:Gr W P.a.a c.a.a c.e.a (f 9) P.a.b:=b.a.d 9;cases hpos:dY c.e.a.a a with
  |some n=>
   refine mB (Bn P.a.a P.a.b c.a.a a c.e.a (f 9) n W (aj m) (aj hpos) (aj k)) ?_;rintro j rfl;refine⟨⟨_,rfl⟩,P.a.b,cZ d,?_⟩;have h:c.h 0 a=c:=by unfold Co.h nG.j;rw[hpos];rfl
   rw[h];exact⟨f,b⟩
  |none=>
   refine(Bp P.a.a P.a.b c.a.a a c.e.a (f 9) W (by have:=g.2;omega) (by have:=d;omega) g.1 m hpos k).mono ?_;rintro i j ⟨rfl,q,l,o,p⟩;refine⟨⟨_,rfl⟩,P.a.b+1,Nat.succ_le_succ d,b.d (b.a.k 9 Y2 ⟨o,p⟩ l.a ?_)⟩;have h:c.h 0 a={c with e:={c.e with a:=⟨c.e.a.a++[a],c.e.a.d++[0],c.e.a.b++[0]⟩}}:=by unfold Co.h nG.j;rw[hpos];rfl
   rw[h];exact l
 ·have d:P.b.b≤e:=d;have g:c.f.a.e∧c.f.a.a.length≤e:=g;have k:Gr W P.b.a c.a.a c.f.a (f 10) P.b.b:=b.a.d 10;cases hpos:dY c.f.a.a a with
  |some n=>
   refine mB (Bn P.b.a P.b.b c.a.a a c.f.a (f 10) n W (aj m) (aj hpos) (aj k)) ?_;rintro j rfl;refine⟨⟨_,rfl⟩,P.b.b,cZ d,?_⟩;have h:c.h 1 a=c:=by unfold Co.h nG.j;rw[hpos];rfl
   rw[h];exact⟨f,b⟩
  |none=>
   refine(Bp P.b.a P.b.b c.a.a a c.f.a (f 10) W (by have:=g.2;omega) (by have:=d;omega) g.1 m hpos k).mono ?_;rintro i j ⟨rfl,q,l,o,p⟩;refine⟨⟨_,rfl⟩,P.b.b+1,Nat.succ_le_succ d,b.d (b.a.k 10 Y2 ⟨o,p⟩ l.a ?_)⟩;have h:c.h 1 a={c with f:={c.f with a:=⟨c.f.a.a++[a],c.f.a.d++[0],c.f.a.b++[0]⟩}}:=by unfold Co.h nG.j;rw[hpos];rfl
   rw[h];exact l
end
structure PqS (a b:Pq):Prop where
 d:b.f=a.f
 e:b.h=a.h
 f:b.d=a.d
 g:b.a=a.a
 c:b.c=a.c
structure Xd (P P':Pt):Prop where
 g:P'.g=P.g
 h:P'.c=P.c
 c:P'.d=P.d
 d:P'.e=P.e
 a:PqS P.a P'.a
 b:PqS P.b P'.b
def Xd.e (P:Pt):Xd P P:=⟨rfl,rfl,rfl,rfl,⟨rfl,rfl,rfl,rfl,rfl⟩,⟨rfl,rfl,rfl,rfl,rfl⟩⟩
def jh.e {P:Pt} {k m:Nat} (a:jh P k) (b:k≤m):jh P m:=⟨aR a.a b,aR a.b b,aR a.c b,aR a.d b⟩
def Pt.i (P:Pt) (b:Int) (a:Nat):Pt:=if b=0 then{P with a:={P.a with i:=a}}else{P with b:={P.b with i:=a}}
def xU (c':Co) (P:Pt) (X:Option fq) (F:Nat→List Nat) (w:aB) (L:List Ow) (k:Nat) (W:aB):Prop:=∃a,Xd P a∧jh a k∧St c' a X F w L W
section
variable {w W W':aB} {c c':Co} {P:Pt} {X:Option fq} {F:Nat→List Nat} {L:List Ow} {p:fq} {k m:Nat}
def xU.a (a:St c P X F w L W) (b:jh P k):xU c P X F w L k W:=⟨P,.e P,b,a⟩
def xU.b (a:xU c P X F w L k W) (b:k≤m):xU c P X F w L m W:=by obtain⟨d,e,f,g⟩:=a;exact⟨d,e,f.e b,g⟩
def xU.d (a:xU c P X F w L k W) (b:aJ W W W'):xU c P X F w L k W':=by obtain⟨d,e,f,g⟩:=a;exact⟨d,e,f,g.a b⟩
def Xe {s:Int} (r:s=0∨s=1) (d:St c P (R p) F w L W) (g:dU c k) (b:jh P k) (a:k≤900) (l:p.x.f.c.length=8) (e:gZ p.x.f.c):
  (aF au 158 #[aK (R ⟨(P.q s).c,0,O⟩),Z p.a p.x.f.c.length p.c] W fun i a=>i=av (aO ((c.p s).b.d p.x.f.c).2)∧xU (c.b s {c.p s with b:=((c.p s).b.d p.x.f.c).1}) P (R p) F w L (k+1) a)∧
  aF au 159 #[aK (R ⟨(P.q s).c,0,O⟩),Z p.a p.x.f.c.length p.c] W fun i a=>i=av (J U ((c.p s).b.a c.a.d p.x.f.c).2)∧xU (c.b s {c.p s with b:=((c.p s).b.a c.a.d p.x.f.c).1}) P (R p) F w L (k+1) a:=by
 obtain⟨f,d⟩:=d;have n:=d.a.e.d.d;have h:=g.h.d;have h:=g.i.d;have g:=b.c;have g:=b.d;have t:jh (P.i 0 (P.a.i+1)) (k+1):=⟨cZ b.a,cZ b.b,Nat.succ_le_succ b.c,cZ b.d⟩;have u:jh (P.i 1 (P.b.i+1)) (k+1):=⟨cZ b.a,cZ b.b,cZ b.c,Nat.succ_le_succ b.d⟩;have v:Xd P (P.i 0 (P.a.i+1)):=⟨rfl,rfl,rfl,rfl,⟨rfl,rfl,rfl,rfl,rfl⟩,⟨rfl,rfl,rfl,rfl,rfl⟩⟩;have x:Xd P (P.i 1 (P.b.i+1)):=⟨rfl,rfl,rfl,rfl,⟨rfl,rfl,rfl,rfl,rfl⟩,⟨rfl,rfl,rfl,rfl,rfl⟩⟩;have o:∀{a:aB} g,bg (f g) W a→∀j∈f g,j<a.heap.size:=fun g b j e=>aV (d.a.h.a g j e) b.b;have q:∀(g:Pg) {a:aB},(Jt a P.a.c c.a.d g (f 11) (P.a.i+1)→bg (f 11) W a→xU (c.b 0 {c.p 0 with b:=g}) P (R p) F w L (k+1) a)∧(Jt a P.b.c c.a.d g (f 12) (P.b.i+1)→bg (f 12) W a→xU (c.b 1 {c.p 1 with b:=g}) P (R p) F w L (k+1) a):=fun g a=>⟨fun h b=>⟨_,v,t,d.d (d.a.k (c':=c.b 0 {c.p 0 with b:=g}) 11 Y2 ⟨b,fun j e=>.inl e⟩ (o 11 b) h)⟩,fun h b=>⟨_,x,u,d.d (d.a.k (c':=c.b 1 {c.p 1 with b:=g}) 12 Y2 ⟨b,fun j e=>.inl e⟩ (o 12 b) h)⟩⟩
 rcases r with rfl|rfl
 ·have g:=d.a.d 11;refine⟨(Aa p.a _ p.c _ W g Y0 rfl l e n Y0).mono ?_,(FX p.a _ p.c _ W g Y0 rfl l e n Y0).mono ?_⟩;all_goals
   rintro i a ⟨rfl,h,b⟩;exact⟨rfl,(q _).1 h b⟩
 ·have g:=d.a.d 12;refine⟨(Aa p.a _ p.c _ W g Y0 rfl l e n Y0).mono ?_,(FX p.a _ p.c _ W g Y0 rfl l e n Y0).mono ?_⟩;all_goals
   rintro i a ⟨rfl,h,b⟩;exact⟨rfl,(q _).2 h b⟩
def Lh (a:Co×Bool) (P:Pt) (X:Option fq) (F:Nat→List Nat) (w:aB) (L:List Ow) (k:Nat) (b:Ending) (d:aB):Prop:=b=av (aO a.2)∧xU a.1 P X F w L k d
def NW (c:Co) (a:Lk) (b:ko a.r.a=true):nU c a=if zcb a.r then(c.b (1-a.r.a) {c.p (1-a.r.a)with b:=((c.p (1-a.r.a)).b.d a.f.c).1},((c.p (1-a.r.a)).b.d a.f.c).2)else(c.b a.r.a {c.p a.r.a with b:=((c.p a.r.a).b.a c.a.d a.f.c).1},((c.p a.r.a).b.a c.a.d a.f.c).2==0):=by
 have e:ko (1-a.r.a)=true:=by rcases dN b with d|d<;>rw[d]<;>rfl
 unfold nU;dsimp only;split
 ·unfold Pg.d;split
  ·rfl
  ·rw[show({c.p (1-a.r.a)with b:=(c.p (1-a.r.a)).b}:yg)=c.p (1-a.r.a)from rfl,Ab c e]
 ·unfold Pg.a;split
  ·rw[show({c.p a.r.a with b:=(c.p a.r.a).b}:yg)=c.p a.r.a from rfl,Ab c b];rfl
  ·rfl
def NY (a:St c P (R p) F w L W) (V:dU c k) (hp:jh P k) (hk:k≤900) (n:iZ p.x) (h6:p.x.r.c=6) (hw:p.x.w=(0,0)):
  aF au 108 #[qp P.g,qp p.b] W (Lh (nU c p.x) P (R p) F w L (k+1)):=by
 have D:=dN n.a;have E:p.x.r.c≠ -1:=by omega
 have G:=n.c hw E;have c0:=n.b E;obtain⟨i,t⟩:=exq p.x.r.a;obtain⟨o,H⟩:=exq p.x.f.c.length;obtain⟨j,I⟩:=exq (zcb p.x.r);rw[t]at D;obtain⟨l,u⟩:∃l,(j=true∧(i=0∧l=27∨i=1∧l=15))∨(j=false∧(i=0∧l=15∨i=1∧l=27)):=by
  cases j<;>rcases D with a|a
  ·exact⟨15,.inr ⟨rfl,.inl ⟨a,rfl⟩⟩⟩
  ·exact⟨27,.inr ⟨rfl,.inr ⟨a,rfl⟩⟩⟩
  ·exact⟨27,.inl ⟨rfl,.inl ⟨a,rfl⟩⟩⟩
  ·exact⟨15,.inl ⟨rfl,.inr ⟨a,rfl⟩⟩⟩
 obtain⟨b,v⟩:∃b,b=if j then 1-i else i:=⟨_,rfl⟩
 have a0:b=0∨b=1:=by rw[v];rcases u with⟨rfl,a⟩|⟨rfl,a⟩<;>simp<;>omega
 obtain⟨h,K⟩:∃h:aB→Prop,∀W,jB h W=(W.cell? ⟨P.g,l,O⟩=R (aK (R ⟨(P.q b).c,0,O⟩))∧W.cell? ⟨p.b,0,O⟩=R (J U i)∧W.cell? ⟨p.b,10,O⟩=R (Z p.a o p.c)):=⟨_,fun _=>rfl⟩;have q:Y (∀c' g W,Xd P g→St c' g (R p) F w L W→jB h W):=aj fun c' g W r x=>by
  rw[K];obtain⟨F',y⟩:=x.f;have z:=x.d;refine⟨?_,by rw[←t];exact y.a.a 0,by rw[←H];exact y.a.a 10⟩;rw[←r.g,v];rcases u with⟨rfl,⟨rfl,rfl⟩|⟨rfl,rfl⟩⟩|⟨rfl,⟨rfl,rfl⟩|⟨rfl,rfl⟩⟩
  ·rw[show(P.q (if true then 1- (0:Int)else 0)).c=g.b.c from r.b.c.symm];exact z.a 27
  ·rw[show(P.q (if true then 1- (1:Int)else 1)).c=g.a.c from r.a.c.symm];exact z.a 15
  ·rw[show(P.q (if false then 1- (0:Int)else 0)).c=g.a.c from r.a.c.symm];exact z.a 15
  ·rw[show(P.q (if false then 1- (1:Int)else 1)).c=g.b.c from r.b.c.symm];exact z.a 27
 have e0:=fun W (a:jB h W)=>by rw[K]at a;exact a
 have A:Y (∀W,St c P (R p) F w L W→_):=aj fun W x=>Xe (s:=b) a0 x V hp hk (G.e h6) G.a;have b0:Y (aF au 157 #[qp p.b] W fun d e=>d=av j∧St c P (R p) F w L e):=aj (by obtain⟨F',y⟩:=a.f;refine(Gf y.a (by omega)).mono ?_;rintro d e ⟨rfl,o,rfl⟩;exact⟨by rw[I],a.n o⟩)
 have B:=aj (NW c p.x n.a);have f:=aj (And.intro t (And.intro H (And.intro I v)));clear a V hp hk n h6 hw D E G c0 t H I v K a0;go_enter func108,ntmps108;go_wp2_with fail;refine b0.o.mono ?_;rintro d w2 ⟨rfl,M⟩;have C:=aj M;have h0:=q.o _ _ _ (.e P) M.e;clear M b0;cases j
 ·have N:Y (aF au 159 #[aK (R ⟨(P.q b).c,0,O⟩),Z p.a o p.c] w2.drew fun d e=>d=av (J U ((c.p b).b.a c.a.d p.x.f.c).2)∧jB h e∧Y (xU (c.b b {c.p b with b:=((c.p b).b.a c.a.d p.x.f.c).1}) P (R p) F w L (k+1) e)):=aj (by rw[←f.o.2.1];refine(A.o _ C.o.e).2.mono ?_;rintro d e ⟨rfl,a⟩;exact⟨rfl,by obtain⟨g,Q,_,S⟩:=a;exact q.o _ _ _ Q S,aj a⟩)
  have s:Y (nU c p.x=(c.b b {c.p b with b:=((c.p b).b.a c.a.d p.x.f.c).1},((c.p b).b.a c.a.d p.x.f.c).2==0)):=aj (by rw[B.o,f.o.2.2.1,aL (by decide),f.o.1,f.o.2.2.2];rfl)
  clear A C q B f;rcases u with⟨a,_⟩|⟨_,⟨rfl,rfl⟩|⟨rfl,rfl⟩⟩
  ·cases a
  all_goals
   go_upto_region 3 with fail;go_region_held3 (jB h) (with_reducible assumption) (first|(go_at_call 159;refine N.o.mono ?_;rintro d w4 ⟨rfl,d0,T⟩));go_wp2_with fail;go_ret;exact⟨by rw[s.o];rfl,by rw[s.o];exact T.o⟩
 ·have N:Y (aF au 158 #[aK (R ⟨(P.q b).c,0,O⟩),Z p.a o p.c] w2.drew fun d e=>d=av (aO ((c.p b).b.d p.x.f.c).2)∧jB h e∧Y (xU (c.b b {c.p b with b:=((c.p b).b.d p.x.f.c).1}) P (R p) F w L (k+1) e)):=aj (by rw[←f.o.2.1];refine(A.o _ C.o.e).1.mono ?_;rintro d e ⟨rfl,a⟩;exact⟨rfl,by obtain⟨g,Q,_,S⟩:=a;exact q.o _ _ _ Q S,aj a⟩)
  have s:Y (nU c p.x=(c.b b {c.p b with b:=((c.p b).b.d p.x.f.c).1},((c.p b).b.d p.x.f.c).2)):=aj (by rw[B.o,f.o.2.2.1,aP rfl,f.o.1,f.o.2.2.2];rfl)
  clear A C q B f;rcases u.resolve_right (fun a=>by cases a.1)with⟨_,⟨rfl,rfl⟩|⟨rfl,rfl⟩⟩;all_goals
   have f0:U.wrap (1-0)=1:=rfl;have g0:U.wrap (1-1)=0:=rfl;have i0:U.wrap 1=1:=rfl;have j0:U.wrap 0=0:=rfl;go_upto_region 2 with fail;go_region_held3 (jB h) (with_reducible assumption) (first|(go_at_call 158;refine N.o.mono ?_;rintro d w4 ⟨rfl,d0,T⟩));go_wp2_with fail;go_ret;exact⟨by rw[s.o];rfl,by rw[s.o];exact T.o⟩
end
def ZV {d:aB} {e:Nat} {c:aI} {a:List Int} (b:d.ownsRow e 3 1 c a.length (a.map (J U))):∃e f,c=Z e a.length f∧OT d e f a c.ownBlock.toList:=by
 rcases b.2 with⟨rfl,c⟩|⟨i,j,e,rfl,k,d,f,l,g,h⟩
 ·have:a=[]:=dL c;subst this;exact⟨O,0,rfl,⟨fun _=>Y5,aD 0,fun i c=>by cases c⟩⟩
 ·refine⟨_,_,rfl,⟨fun b=>(by cases b),f,fun i c=>?_⟩⟩;injection c with c;subst c;refine⟨rfl,aC.2 rfl,e,d,by simp[g],fun c f d=>?_⟩;have g:c<a.length:=by
   rcases Nat.lt_or_ge c a.length with b|b
   ·exact b
   ·rw[bQ b]at d;cases d
  have b:(e.toList.take (a.length*1))[c]?=R (J U f):=by rw[h,bS,d];rfl
  rw[List.getElem?_take,aP Y0]at b;simpa using b
def NZ {c:aB} {g:Option aX} {q:Nat} {a:List Int} {r:List Nat} {b:Nat} {x:Int} (l:OT c g q a r) (hF:∀e∈r,e<c.heap.size) (d:a.length≤100000) (h:bH c b 3 #[x]) (d:b∉r):
  ∃i j d k,(Builtin.append_ #[37,37] 37 #[Z g a.length q,Z (R ⟨b,0,O⟩) 1 1]).run au c=.ok (Z i (a.length+1) j) d∧OT d i j (a++[x]) k∧gG r k c d∧∀e∈k,e<d.heap.size:=by
 have z:=World.news_of_block (cs:=#[x]) h;have I:∀s∈([J U x]:List aI),s.oneCell'=true:=fun s y=>by rw[aC.1 y];rfl
 have m:(Tryz.prog.info? 3).map (fun n=>(n.size,n.bytes,n.zero))=R (1,8,R (J U 0)):=Y3;obtain⟨n,A,h⟩:=Option.map_eq_some_iff.1 m;injection h with v h;injection h with K L;clear m;have M:∀o d h,d.ownsRow h 3 1 o (a.length+1) (a.map (J U)++[J U x])→c.heap.size≤h→c.grownBy d O→∃i j k,o=Z i (a.length+1) j∧OT d i j (a++[x]) k∧gG r k c d∧∀e∈k,e<d.heap.size:=fun o d h p t m=>by have h:(a++[x]).length=a.length+1:=Y1;have t:(a++[x]).map (J U)=a.map (J U)++[J U x]:=Y1;have u:=p;rw[←t,←h]at u;obtain⟨i,j,t,w⟩:=ZV u;rw[h]at t;exact⟨i,j,_,t,w,⟨bg.k m (fun _ l=>by cases l),fun e m=>.inr (by have:=(p.lt e (Y6 m)).1;omega)⟩,fun e m=>(p.lt e (Y6 m)).2⟩
 cases g with
 |none=>obtain⟨rfl,rfl⟩:=l.c rfl;obtain⟨o,d,u,p,m,_⟩:=run_append_own_at (P:=au) c c.heap.size 37 37 3 n (J U 0) 1 8 underlying37 A L v K rfl Y2 (Z O 0 0) 0 [] (aT _ _ _ _) ⟨b,0,O⟩ 1 1 [J U x] rfl z I Y2 Y2 (aD _);obtain⟨i,j,k,t,B,C,D⟩:=M o d c.heap.size p (aD _) m;exact⟨i,j,d,k,by rw[←t];exact u,B,C,D⟩
 |some E=>
  obtain⟨h,F,G,w,N,H⟩:=l.b E rfl;obtain⟨e,g,P⟩:=E;dsimp only at h F w N H;subst h;by_cases h:a.length+1≤q
  ·have u:=run_append_room_cells (P:=au) c 37 37 3 n underlying37 A e g a.length q ⟨b,0,O⟩ 1 1 [J U x] (by rw[v];rfl) z I h (fun f h=>by have I:f=0:=Y6 h;subst I;rw[v,w.a];have:g+a.length<G.size:=Y0;simp[this]) (fun f h=>w.c _)
   rw[v]at u;have P:bg [e] c (c.setCells e (g+a.length*1) [J U x]):=bg.f Y1 _ _ _;refine⟨_,_,_,r,u,⟨(fun l=>by cases l),by simp;omega,fun E I=>?_⟩,⟨P.g (fun E r=>.inl (by rw[aC.1 r];exact F)),fun E r=>.inl r⟩,fun E r=>aV (hF E r) P.b⟩;injection I with I;subst I;refine⟨rfl,F,_,bH.o [J U x] (g+a.length*1) c _ w,?_,fun f r h=>?_⟩
   ·show g+q≤(G.setIfInBounds _ _).size
    simpa using N
   ·show(G.setIfInBounds (g+a.length*1) (J U x))[g+f]?=_
    rcases Nat.lt_or_ge f a.length with E|E
    ·rw[dh E]at h;rw[Array.getElem?_setIfInBounds_ne Y0];exact H f r h
    ·rw[cB E]at h;have E:f-a.length=0:=by
      rcases Nat.eq_zero_or_pos (f-a.length)with l|l
      ·exact l
      ·rw[bQ (by simp;omega)]at h;cases h
     rw[E]at h;injection h with h;rw[←h,show g+f=g+a.length*1 by omega,Array.getElem?_setIfInBounds_self_of_lt Y0]
  ·obtain⟨o,d,u,p,m⟩:=run_append_arg_grows (P:=au) c 37 37 3 n (J U 0) 1 8 underlying37 A L v K rfl Y2 ⟨e,g,O⟩ a.length q (a.map (J U)) Y1 (fun f s y=>by
    rw[bS]at y;obtain⟨r,a,rfl⟩:=Option.map_eq_some_iff.1 y;have:(⟨e,g,O⟩:aX).add f=⟨e,g+f,O⟩:=by unfold Addr.add;split<;>simp_all
    rw[this,w.a];exact H f r a) ⟨b,0,O⟩ 1 1 [J U x] rfl z Y0 (by unfold maxLen;omega) Y0
   obtain⟨i,j,k,t,B,C,D⟩:=M o d c.heap.size p (aD _) m;exact⟨i,j,d,k,by rw[←t];exact u,B,C,D⟩
section
variable {w W W1 W2:aB} {c c':Co} {P P':Pt} {X:Option fq} {F F':Nat→List Nat} {L':List Nat} {L:List Ow} {p:fq} {k q:Nat} {s:Int}
def lX.t (d:Nat) (e:lX W c P X F) (o:d<15) (b:d≠0) (h:gG (F d) L' W W1) (g:∀f∈L',f<W1.heap.size) (r:Rr c' P' X d W1 L') (i:bg [P.g] W1 W2) (t:bH W2 P'.g 128 (sN c' P')) (u:P'.g=P.g)
  (v:∀a,a≠0→a≠d→Rr c' P' X a=Rr c P X a):Cp c' P' X F W W2:=by
 have l:=e.h.e h g;have m:P.g∈GL F d L' 0:=by rw[dS (Ne.symm b)];exact(e.d 0).1
 have n:∀a,a≠0→∀f∈GL F d L' a,f∉[P.g]:=fun a g f b j=>by rw[aC.1 j]at b;exact g (l.c a 0 P.g b m)
 refine⟨GL F d L',⟨l.d i.b,fun a=>?_,(e.j.d h.1 (e.l d)).d i (fun l j=>by rw[aC.1 j];exact e.l 0 _ (e.d 0).1),fun a f b=>?_⟩,?_,fun f b=>?_⟩
 ·by_cases j:a=0
  ·subst j;exact⟨by rw[u];exact m,t⟩
  ·by_cases g:a=d
   ·subst g;exact gL c' P' X a W1 W2 _ [P.g] (by rw[fF];exact r) i (n a j)
   ·refine gL c' P' X a W1 W2 _ [P.g] ?_ i (n a j);rw[dS g,v a j g];exact gL c P X a W W1 (F a) (F d) (e.d a) h.1 (e.h.f g)
 ·by_cases g:a=d
  ·subst g;rw[fF]at b;exact(h.2 f b).elim (e.l a f) (fun j=>aR e.j.b j)
  ·rw[dS g]at b;exact e.l a f b
 ·exact(h.1.g (F1:=Z6 F) (fun f b=>.inl (iM o b))).a i (fun f b=>.inl (by rw[aC.1 b];exact iM Y2 (e.d 0).1))
 ·obtain⟨a,g,b⟩:=xD.1 b;by_cases e:a=d
  ·subst e;rw[fF]at b;exact(h.2 f b).imp (iM g) id
  ·rw[dS e]at b;exact .inl (iM g b)
def Pt.h (P:Pt) (s:Int) (a:Option aX) (b:Nat):Pt:=if s=0 then{P with a:={P.a with e:=a,g:=b}}else{P with b:={P.b with e:=a,g:=b}}
def zcB (c:Co) (P:Pt) (a:Option aX) (b:Nat) (d:List Int):gV (sN c P) 13 [Z a d.length b]=sN (c.b 0 {c.p 0 with c:=d}) (P.h 0 a b):=by kernel_rfl
def zcC (c:Co) (P:Pt) (a:Option aX) (b:Nat) (d:List Int):gV (sN c P) 25 [Z a d.length b]=sN (c.b 1 {c.p 1 with c:=d}) (P.h 1 a b):=by kernel_rfl
def iT (s:Int):Nat:=if s=0 then 7 else 8
def lX.r (a:lX W c P X F) (b:s=0∨s=1):OT W (P.q s).e (P.q s).g (c.p s).c (F (iT s)):=by
 rcases b with rfl|rfl
 ·exact a.d 7
 ·exact a.d 8
def Li {d:Option aX} {e:Nat} {f:List Int} (i:oF s q) (a:lX W c P X F) (b:gG (F (iT s)) L' W W1) (g:∀h∈L',h<W1.heap.size) (h:OT W1 d e f L'):
  Cp (c.b s {c.p s with c:=f}) (P.h s d e) X F W (W1.setCells P.g (q+7) [Z d f.length e]):=by
 have f:∀d,d≠0→P.g∉F d:=fun d e j=>e (a.h.c d 0 P.g j (a.d 0).1);rcases i with⟨rfl,rfl⟩|⟨rfl,rfl⟩
 ·refine a.t 7 Y2 Y2 b g h (bg.f Y1 _ _ _) ?_ rfl ?_
  ·rw[←zcB];exact bH.o _ 13 W1 _ (a.f.g b.1 (f 7 Y2))
  ·rintro(_|_|_|_|_|_|_|_|_|_|_|_|_|_|_|i) d e<;>first|rfl|exact absurd rfl d|exact absurd rfl e
 ·refine a.t 8 Y2 Y2 b g h (bg.f Y1 _ _ _) ?_ rfl ?_
  ·rw[←zcC];exact bH.o _ 25 W1 _ (a.f.g b.1 (f 8 Y2))
  ·rintro(_|_|_|_|_|_|_|_|_|_|_|_|_|_|_|i) d e<;>first|rfl|exact absurd rfl d|exact absurd rfl e
def Xd.f (a:s=0∨s=1) (b:Option aX) (d:Nat):Xd P (P.h s b d):=by rcases a with rfl|rfl<;>exact⟨rfl,rfl,rfl,rfl,⟨rfl,rfl,rfl,rfl,rfl⟩,⟨rfl,rfl,rfl,rfl,rfl⟩⟩
def jh.f (a:jh P k) (b:s=0∨s=1) (d:Option aX) (e:Nat):jh (P.h s d e) k:=by rcases b with rfl|rfl<;>exact⟨a.a,a.b,a.c,a.d⟩
def Af (f:s=0∨s=1) {a:Qu} (d:lX W c P X F) (e:gG (F (if s=0 then 5 else 6)) L' W W1) (b:xP W1 (qS P s) a L'):Cp (c.b s {c.p s with q:=a}) P X F W W1:=by
 rcases f with rfl|rfl
 ·exact d.k (c':=c.b 0 {c.p 0 with q:=a}) 5 Y2 e b.a b
 ·exact d.k (c':=c.b 1 {c.p 1 with q:=a}) 6 Y2 e b.a b
def Xf (g:s=0∨s=1) (a:St c P (R p) F w L W) (b:dU c k) (d:k≤900) (d:p.x.f.i.length≤300):aF au 153 #[aK (R ⟨(P.q s).d,0,O⟩),Z p.d p.x.f.i.length p.e] W fun d e=>d=av (aN #[])∧St (c.b s {c.p s with q:=(c.p s).q.f p.x.f.i}) P (R p) F w L e:=by
 obtain⟨F',a⟩:=a;have f:=(b.a s).q;have h:mQ W (fun b=>b∉F' (if s=0 then 5 else 6)) p.d (qU p.x.f.i):=a.a.e.e.1.b.d fun b _ i j=>by have:=a.a.h.c _ _ b i j;split at this<;>omega
 refine(QG W (a.a.n s) f.a (by have:=f.d;omega) p.d _ p.e p.x.f.i rfl Y0 h).mono ?_;rintro d e ⟨h,rfl,b,f⟩;exact⟨rfl,a.d (Af g a.a f b)⟩
def ZW (f:s=0∨s=1) (b:St c P X F w L W) (g:dU c k) (a:k≤900):aF au 155 #[aK (R ⟨(P.q s).d,0,O⟩)] W fun d e=>(∃a,d=av a)∧St (c.b s {c.p s with q:=(c.p s).q.h}) P X F w L e:=by obtain⟨F',b⟩:=b;have a:=(g.a s).q;refine(Wq W (b.a.n s) a.a (by have:=a.d;omega) a.c (by have:=a.l;omega) a.e a.f).mono ?_;rintro d e ⟨i,a,g,h⟩;exact⟨a,b.d (Af f b.a h g)⟩
def ZX (b:s=0∨s=1) (a:St c P X F w L W):aF au 156 #[aK (R ⟨(P.q s).h,0,O⟩)] W fun d e=>d=av (J U (c.p s).t.a)∧e=W:=by
 obtain⟨F',a⟩:=a;rcases b with rfl|rfl
 ·exact FR W (a.a.d 3)
 ·exact FR W (a.a.d 4)
def Jz {f:Int} {g:Nat} (h:oF s q) (a:St c P X F w ((g,3,#[f])::L) W) (b:(c.p s).c.length≤1000):
  ∃b d e,(Builtin.append_ #[37,37] 37 #[Z (P.q s).e (c.p s).c.length (P.q s).g,Z (R ⟨g,0,O⟩) 1 1]).run au W=.ok (Z b ((c.p s).c.length+1) d) e∧bH e P.g 128 (sN c P)∧St (c.b s {c.p s with c:=(c.p s).c++[f]}) (P.h s b d) X F w ((g,3,#[f])::L) (e.setCell ⟨P.g,q+7,O⟩ (Z b ((c.p s).c.length+1) d)):=by
 obtain⟨F',a⟩:=a;have l:=h.imp And.left And.left;have i:=a.b _ (bM ..);have m:iT s<15:=by unfold iT;split<;>omega
 have n:iT s≠0:=by unfold iT;split<;>omega
 obtain⟨b,d,e,u,o,r,j,t⟩:=NZ (x:=f) (b:=g) (a.a.r l) (a.a.h.a _) Y0 i.1.a (fun f=>i.1.c (iM m f));refine⟨b,d,e,o,a.a.f.g j.1 (fun f=>n (a.a.h.c _ 0 P.g f (a.a.d 0).1)),?_⟩;have:=a.d (Li h a.a j t r);simp only[bL,List.length_singleton]at this;exact this
end
end Go.Proofs.YtdcacpeaimjdlaaGreatDoor
