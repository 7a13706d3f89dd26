/- Part of the proof. -/
import Derived.Test.YtdcacpeaimjdlaaGreatDoorPai
namespace Go.Proofs.YtdcacpeaimjdlaaGreatDoor
open Go.RowKit Go.Maps Go.Proofs.Tryz Mq MFr
open Go.Value renaming int→J,slice→Z,string→aA,pointer→aK,bool→aO,tuple→aN,agg→aS,complex→aH
open Go.IntKind renaming i64→U
open Option renaming none→O,some→R
open Go.Ending renaming returned→av
open Go renaming World→aB,Value→aI,Calls→aF,Addr→aX,TypeId→bB,undef→bq
open Go.RowKit renaming Below→aJ
open Go.Proofs.Tryz renaming prog→au
open Go.FloatKind renaming f64→aW
set_option maxRecDepth 20000
set_option maxHeartbeats 0
set_option linter.all false
def bH.C {a:aB} {b:Nat} {j:bB} {d e f g h i:aI} (c:bH a b j #[d,e,f,g,h,i]):a.cell? ⟨b,0,O⟩=R d∧a.cell? ⟨b,1,O⟩=R e∧a.cell? ⟨b,2,O⟩=R f∧a.cell? ⟨b,3,O⟩=R g∧a.cell? ⟨b,4,O⟩=R h∧a.cell? ⟨b,5,O⟩=R i:=⟨c.a 0,c.a 1,c.a 2,c.a 3,c.a 4,c.a 5⟩
def xO (a:Vl):Array aI:=a
def EM (a:Vl):aI:=aS a
def EN (a:aB):aF au 137 #[] a fun b c=>b=av (EM .g)∧aJ a a c:=by go_enter func137,ntmps137;go_wp2_with fail;have b:=(bH.d a 213 (xO .g)).a;exact aG (v:=EM .g) (by simp[results,results137,go_sem,b,xO,Vl.g];rfl) rfl ⟨rfl,(ay _ a).alloc (aD _) _⟩
def QD (b c d:Int) (a:aB):aF au 263 #[aS #[b,c],d] a fun e f=>e=av (J U (wT (b,c) d))∧aJ a a f:=by
 go_enter func263,ntmps263;go_wp2;all_goals
  go_ret;refine⟨JX ?_,(ay _ _).alloc (aD _) _⟩;unfold wT;simp_all
def EO {c:Type} {a:List c} {b:Nat} {d:c} (c:a[b]?=R d):a.drop b=d::a.drop (b+1):=by have a:=(aU.1 c);rw[List.drop_eq_getElem_cons a.1,a.2]
def qU (a:List (Int×Int)):List aI:=a.flatMap fun a=>[J U a.1,J U a.2]
def tN:∀{l:List (Int×Int)} {i:Nat} {p:Int×Int},l[i]?=R p→(qU l)[i*2]?=R (J U p.1)∧(qU l)[i*2+1]?=R (J U p.2)
 |c::b,0,p,a=>by simp at a;subst a;exact Y5
 |c::b,i+1,p,a=>by
  have:=tN (l:=b) (i:=i) (p:=p) (Y6 a)
  unfold qU at this⊢
  rw[List.flatMap_cons,show(i+1)*2=i*2+2 by omega]
  exact this
def zn {c:aB} {f:Option aX} {g:List (Int×Int)} (h:bU c f (qU g)) {d:Nat} {e:Int×Int} (l:g[d]?=R e):∃a b,f=R ⟨a,b,O⟩∧c.cell? ⟨a,b+d*2,O⟩=R (J U e.1)∧c.cell? ⟨a,b+d*2+1,O⟩=R (J U e.2):=by
 have i:=tN l
 obtain⟨a,b,j,m⟩:=h _ _ i.1
 obtain⟨r,s,k,n⟩:=h _ _ i.2
 rw[j]at k
 have o:=Option.some.inj k
 injection o with p q
 subst p q
 exact⟨a,b,j,m,n⟩
def CB (a:Int×Int):aI:=aS #[a.1,a.2]
def kp1 {a d:aB} {b:bB} {c:Array aI} (e:aJ (a.alloc (.cells c b)).heap.size (a.alloc (.cells c b)) d):aJ a a d∧bH d a b c:=⟨wP e,(bH.d a b c).b e⟩
def gU (a:aB) (b:bB) (c:Array aI):aJ a a (a.alloc (.cells c b))∧bH (a.alloc (.cells c b)) a.heap.size b c:=⟨(ay _ a).alloc (aD _) _,bH.d a b c⟩
def zo (s:Option aX) (g D:Nat) (d:List (Int×Int)) (e:Int) (a:aB) (t:d.length=g) (S:g≤100000) (u:bU a s (qU d)):
  aF au 224 #[Z s g D,e] a fun v E=>v=av (aN #[CB (jw d e).1,aO (jw d e).2])∧aJ a a E:=by
 have w:=aj t;have F:=aj u;obtain⟨h,k⟩:=exq (jw d e);rw[k];have G:=aj k;clear t u k;go_enter func224,ntmps224;go_wp2_with fail;obtain⟨x,y⟩:=gU a 91 #[J U 0,J U 0];have H:=aj x;have I:=aj y;clear x y;go_loopw [11] (fun l wr=>∃f:Nat,f≤g∧l=J U f∧Y (jw (d.drop f) e=h)∧Y (aJ a a wr∧bH wr a 91 #[J U 0,J U 0])) (fun l _=>g- (intOf l).toNat);case atStart=>exact⟨0,aZ _,rfl,G,aj ⟨H.o,I.o⟩⟩
 case round=>
  obtain⟨f,T,rfl,c,b⟩:=hrel;by_cases K:f<g
  ·obtain⟨m,n⟩:∃m,d[f]?=R m:=⟨_,aQ (by rw[w.o];exact K)⟩;obtain⟨V,W,rfl,X,c1⟩:=zn (F.o.a b.o.1) n;rw[EO n]at c;obtain⟨z,A⟩:=m;clear n;obtain⟨o,p⟩:=exq (wT (z,A) e);have B:=fun a=>aj (QD z A e a);rw[p]at B;unfold jw at c;rw[p]at c;clear p;go_wp2_with fail;refine(B _).o.mono ?_;rintro v w2 ⟨rfl,q⟩;have L:=aj (kp1 q);have i:=aj ((b.o.2.h _).b q);have C:=aj (b.o.1.trans (L.o.1.mono b.o.1.size));clear q;by_cases j:o=0
   ·subst j;rw[aL (by decide)]at c;go_wp2_with fail;go_roundw;case rel=>exact⟨f+1,by omega,by go_num,c,aj ⟨C.o,i.o⟩⟩
    case measure=>simp[intOf];omega
   ·have M:(o !=0)=true:=by simpa using j
    rw[aP M]at c;clear j;have N:=i.o.c;have j:=i.o.a 0;have P:=i.o.a 1;go_wp2_with fail;have r:=((i.o.f 0 (J U 2)).f 1 (J U o)).a;exact aG (v:=aN #[CB h.1,h.2]) (by rw[←c.o];simp[results,results224,go_sem,r];rfl) rfl ⟨rfl,(C.o.setCell (aD _) _).setCell (aD _) _⟩
  ·have Q:Y (h=((0,0),true)):=aj (by rw[←c.o,List.drop_eq_nil_of_le (by rw[w.o];omega)];rfl);have N:=b.o.2.c;have j:=b.o.2.a 0;have P:=b.o.2.a 1;go_wp2_with fail;have r:=((b.o.2.f 0 (J U 0)).f 1 (J U 0)).a;exact aG (v:=aN #[CB h.1,h.2]) (by rw[Q.o];simp[results,results224,go_sem,r];rfl) rfl ⟨rfl,(b.o.1.setCell (aD _) _).setCell (aD _) _⟩
def sK (a:aB) (b d:bB) (c e:Array aI):aJ a a ((a.alloc (.cells c b)).alloc (.cells e d))∧bH ((a.alloc (.cells c b)).alloc (.cells e d)) a.heap.size b c∧bH ((a.alloc (.cells c b)).alloc (.cells e d)) (a.heap.size+1) d e:=
 ⟨((ay _ a).alloc (aD _) _).alloc Y1 _,(bH.d a b c).h _,by have:=bH.d (a.alloc (.cells c b)) d e;simpa using this⟩
def MW (a:Vl) (a b:Int):(a=1∨a=2∨a=3∨a=4∨a=5∨a=6)∨((a==1)=false∧(a==2)=false∧(a==3)=false∧(a==4)=false∧(a==5)=false∧(a==6)=false):=by simp;omega
def Bu (f:Vl) (a:Option aX) (e h:Nat) (d:List (Int×Int)) (b:aB) (c:d.length=e) (g:e≤100000) (g:bU b a (qU d)):
  aF au 193 #[EM f,Z a e h] b fun a h=>a=av (EM (oN f d))∧aJ b b h:=by
 have k:=aj c;have h:=aj g;obtain⟨i,a⟩:=exq (oN f d);rw[a];have j:=aj a;clear c g a;unfold EM;go_enter func193,ntmps193;go_wp2;obtain⟨a,c,g⟩:=sK b 213 213 (xO f) (xO ⟨0,0,0,0,0,0⟩);have l:=aj a;have m:=aj c;have n:=aj g;clear a c g;go_loopw [9] (fun g wr=>∃(c:Nat) (a:Vl),c≤e∧g=J U c∧Y (oN a (d.drop c)=i)∧Y (aJ b b wr∧bH wr b 213 (xO a)∧bH wr (b.heap.size+1) 213 (xO ⟨0,0,0,0,0,0⟩))) (fun g _=>e- (intOf g).toNat);case atStart=>exact⟨0,f,aZ _,rfl,j,aj ⟨l.o,m.o,n.o⟩⟩
 case round=>
  obtain⟨c,a,g,rfl,f,b⟩:=hrel;by_cases g:c<e
  ·obtain⟨e,j⟩:∃e,d[c]?=R e:=⟨_,aQ (by rw[k.o];exact g)⟩;obtain⟨g,l,rfl,m,n⟩:=zn (h.o.a b.o.1) j;rw[EO j]at f;have l:=f;obtain⟨g,h⟩:=e;dsimp only at m n;have e:=aj (gU wr 252 #[g,h]);have d:=aj (b.o.2.1.h (.cells #[g,h] 252));have m:=aj (b.o.2.2.h (.cells #[g,h] 252));have n:=aj (b.o.1.trans (e.o.1.mono b.o.1.size));clear j f;have j:=d.o.c;have o:=e.o.2.a 0;have p:=e.o.2.a 1;have e:=d.o.a 0;have q:=d.o.a 1;have r:=d.o.a 2;have s:=d.o.a 3;have t:=d.o.a 4;have u:=d.o.a 5;rcases MW a g h with(rfl|rfl|rfl|rfl|rfl|rfl)|⟨v,w,x,y,z,A⟩
   all_goals
    go_wp2;go_roundw;case rel=>first
     |exact⟨c+1,_,Y0,by go_num,l,aj ⟨n.o.setCell (aD _) _,d.o.f _ _,m.o.i Y1 _⟩⟩
     |exact⟨c+1,_,Y0,by go_num,l,aj ⟨n.o,by simp[Vl.h,v,w,x,y,z,A];exact d.o,m.o⟩⟩
    case measure=>simp[intOf];omega
  ·have c:Y (a=i):=aj (by rw[←f.o,List.drop_eq_nil_of_le (by rw[k.o];omega)];rfl);have j:=b.o.2.2.c;obtain⟨o,p,d,f,g,h⟩:=bH.C b.o.2.1;obtain⟨e,q,r,s,t,u⟩:=bH.C b.o.2.2;go_wp2_with fail;have d:=((((((b.o.2.2.f 0 (J U a.d)).f 1 (J U a.e)).f 2 (J U a.c)).f 3 (J U a.a)).f 4 (J U a.b)).f 5 (J U a.f)).a;exact aG (v:=EM a) (by simp[results,results193,go_sem,d,xO];rfl) rfl ⟨by rw[←c.o];rfl,(((((b.o.1.setCell Y1 _).setCell Y1 _).setCell Y1 _).setCell Y1 _).setCell Y1 _).setCell Y1 _⟩
def vX {d:Type} {f:d→List aI} {s:Nat} (e:∀g,(f g).length=s):∀a:List d,(a.flatMap f).length=a.length*s
 |[]=>Y1
 |g::a=>by rw[List.flatMap_cons,bL,e,vX e a,List.length_cons,Nat.succ_mul];omega
def mZ {a:Type} {f:a→List aI} {s:Nat} (e:∀m,(f m).length=s):∀{l:List a} {i:Nat} {m:a},l[i]?=R m→∀a,a<s→(l.flatMap f)[i*s+a]?=(f m)[a]?
 |[],i,m,d,a,g=>by simp at d
 |h::l,0,m,d,a,g=>by
  simp at d;subst d
  rw[List.flatMap_cons,Nat.zero_mul,cK,dh (by rw[e];exact g)]
 |h::l,i+1,m,d,a,g=>by
  have:=mZ e (l:=l) (i:=i) (m:=m) (Y6 d) a g
  rw[List.flatMap_cons,cB (by rw[e,Nat.succ_mul];omega),e,show(i+1)*s+a-s=i*s+a by rw[Nat.succ_mul];omega]
  exact this
def gF (a:List Vl):List aI:=a.flatMap fun a=>(xO a).toList
def AL (a:List Vl):(gF a).length=a.length*6:=vX (f:=fun d=>(xO d).toList) (fun _=>rfl) a
structure IG (w:aB) (b:Nat) (A:Option aX) (n c:Nat) (q:Qu) (F:List Nat):Prop where
 d:q.a.length=n
 a:bH w b 195 #[Z A n c,q.d,q.c]
 e:w.ownsRow 0 213 6 (Z A n c) n (gF q.a)
 f:∀r,(Z A n c).ownBlock=R r→r∈F∧r≠b
 g:b∈F
 h:∀x∈F,x<w.heap.size
structure QuE (w:aB) (b:Nat) (q:Qu) (F:List Nat):Prop where
 c:q.a=[.g]
 a:bH w b 195 #[Z O 0 0,q.d,q.c]
 d:b∈F
 e:∀x∈F,x<w.heap.size
def xP (w:aB) (b:Nat) (q:Qu) (F:List Nat):Prop:=(∃A n c,IG w b A n c q F)∨QuE w b q F
section
variable {w w':aB} {b:Nat} {q:Qu} {F F1:List Nat} {A:Option aX} {n c:Nat}
def IG.i (a:IG w b A n c q F) (e:bg F1 w w') (hF:∀d∈F,d∉F1):IG w' b A n c q F:=
 ⟨a.d,a.a.g e (hF b a.g),bO a.e e (fun d f=>hF d (a.f d f).1),a.f,a.g,fun d f=>aV (a.h d f) e.b⟩
def IG.j (a:IG w b A n c q F) (d:aJ w w w'):IG w' b A n c q F:=a.i (F1:=[]) (bg.d d) (fun _ _=>by simp)
def QuE.f (a:QuE w b q F) (e:bg F1 w w') (hF:∀d∈F,d∉F1):QuE w' b q F:=⟨a.c,a.a.g e (hF b a.d),a.d,fun d f=>aV (a.e d f) e.b⟩
def xP.d (a:xP w b q F) (d:bg F1 w w') (hF:∀e∈F,e∉F1):xP w' b q F:=by
 rcases a with⟨A,n,c,a⟩|a
 ·exact .inl ⟨A,n,c,a.i d hF⟩
 ·exact .inr (a.f d hF)
def xP.f (a:xP w b q F) (d:aJ w w w'):xP w' b q F:=a.d (F1:=[]) (bg.d d) (fun _ _=>by simp)
def xP.a (h:xP w b q F):∀x∈F,x<w.heap.size:=by
 rcases h with⟨A,n,c,h⟩|h
 ·exact h.h
 ·exact h.e
def xP.e (a:xP w b q F):w.cell? ⟨b,1,O⟩=R (J U q.d)∧w.cell? ⟨b,2,O⟩=R (J U q.c)∧b<w.heap.size:=by
 rcases a with⟨A,n,c,a⟩|a
 ·exact⟨a.a.a 1,a.a.a 2,a.a.e⟩
 ·exact⟨a.a.a 1,a.a.a 2,a.a.e⟩
end
def gG (F d:List Nat) (w w':aB):Prop:=bg F w w'∧∀a∈d,a∈F∨w.heap.size≤a
def gG.e (F:List Nat) (w:aB):gG F F w w:=⟨bg.o _ _,fun _ a=>.inl a⟩
def gG.a {F F1 d:List Nat} {w e f:aB} (a:gG F F1 w e) (g:gG F1 d e f):gG F d w f:=
 ⟨a.1.a g.1 (fun d e=>a.2 d e),fun d e=>(g.2 d e).elim (fun e=>a.2 d e) (fun e=>.inr (aR a.1.b e))⟩
def gG.d {F:List Nat} {w w':aB} (a:aJ w w w'):gG F F w w':=⟨bg.d a,fun _ a=>.inl a⟩
def QE (w:aB):aF au 52 #[] w fun a w'=>a=av (aK (R ⟨w,0,O⟩))∧xP w' w.heap.size .j [w.heap.size]∧aJ w w w':=by have a:=aj (gU w 195 #[Z O 0 0,J U 0,J U 0]);go_enter func52,ntmps52;go_wp2;go_ret;exact⟨rfl,.inr ⟨rfl,a.o.2,Y1,fun e d=>by rw[aC.1 d];exact a.o.2.e⟩,a.o.1⟩
def VO:∀(g:Array aI),g.size=6→∀a b c d e f:aI,(((((g.setIfInBounds 0 a).setIfInBounds 1 b).setIfInBounds 2 c).setIfInBounds 3 d).setIfInBounds 4 e).setIfInBounds 5 f=#[a,b,c,d,e,f]:=by
 rintro⟨g⟩ h a b c d e f;match g,h with
 |[_,_,_,_,_,_],_=>rfl
def stV {w:aB} {a:Nat} {g:Array aI} (h:bH w a 213 g) (j:g.size=6) (d:Vl):∀w',w'=((((((w.setCell ⟨a,0,O⟩ (J U d.d)).setCell ⟨a,1,O⟩ (J U d.e)).setCell ⟨a,2,O⟩ (J U d.c)).setCell ⟨a,3,O⟩ (J U d.a)).setCell ⟨a,4,O⟩ (J U d.b)).setCell ⟨a,5,O⟩ (J U d.f))→bH w' a 213 (xO d)∧bg [a] w w':=by rintro w' rfl;have e:∀(w:aB) (f:Nat) (i:aI),bg [a] w (w.setCell ⟨a,f,O⟩ i):=fun w f i=>bg.e (F:=[a]) (p:=⟨a,f,O⟩) w Y1 i;have f:∀b∈[a],b∈[a]∨w.heap.size≤b:=fun _ h=>.inl h;refine⟨?_,(((((e _ _ _).a (e _ _ _) f).a (e _ _ _) f).a (e _ _ _) f).a (e _ _ _) f).a (e _ _ _) f⟩;have a:=(((((h.f 0 (J U d.d)).f 1 (J U d.e)).f 2 (J U d.c)).f 3 (J U d.a)).f 4 (J U d.b)).f 5 (J U d.f);rw[VO g j]at a;exact a
def Zy (b:Nat) (q:Qu) (F:List Nat) (w:aB) (d:Ending) (w':aB):Prop:=∃A n c a,d=av (Z A n c)∧IG w' b A n c q a∧gG F a w w'∧∀d e f,IG w b d e f q F→a=F∧d=A∧e=n∧f=c∧w'=w
def zq {b:Nat} {q:Qu} {F:List Nat} {A:Option aX} {n c:Nat} (w:aB) (d:Y (IG w b A n c q F)) (a:0<n):
  aF au 97 #[qp b] w fun a w'=>a=av (Z A n c)∧w'=w:=by
 have a:=d.o.a.a 0;have d:=a;have d:((n:Int)==0)=false:=by simp;omega
 clear a;go_enter func97,ntmps97;go_wp2;go_ret;exact Y5
def MX {b:Nat} {q:Qu} {F:List Nat} (w:aB) (d:Y (QuE w b q F)):aF au 97 #[qp b] w (Zy b q F w):=by
 have e:=d.o.a.H 0;go_enter func97,ntmps97;go_wp2_with fail;refine mB (EN _) fun a g=>?_;have f:=aj (d.o.a.b g);have h:=aj g;unfold EM;clear g e;have e:(a.alloc (.cells (xO .g) 213)).cell? ⟨b,0,O⟩=R (Z O 0 0):=(f.o.h _).a 0;have g:=(f.o.h (.cells (xO .g) 213)).c 0;unfold xO at e g;go_wp2;go_ret;have j:bg [b] a ((a.alloc (.cells (xO .g) 213)).setCell ⟨b,0,O⟩ (Z (R ⟨a,0,O⟩) 1 1)):=(bg.n (F:=[b]) a _).a (bg.e (F:=[b]) (p:=⟨b,0,O⟩) _ Y1 _) (fun _ e=>.inl e);have g:b≠a.heap.size:=by have:=f.o.e;omega
 have i:a.heap.size<((a.alloc (.cells (xO .g) 213)).setCell ⟨b,0,O⟩ (Z (R ⟨a,0,O⟩) 1 1)).heap.size:=Y1;refine⟨_,1,1,a.heap.size::F,rfl,⟨by rw[d.o.c];rfl,(f.o.h _).f 0 _,?_,?_,bJ _ d.o.d,?_⟩,(?_ :_∧_),?_⟩
 ·rw[d.o.c];exact ownsRow_setCell_other (World.ownsRow_lit a (xO .g) 1 (aZ _) Y2 rfl) (by simpa[Value.ownBlock]using g.symm) _
 ·intro f k;have:f=a.heap.size:=by simpa[Value.ownBlock]using k.symm
  rw[this];exact⟨Y1,g.symm⟩
 ·intro f a;rcases bA.1 a with rfl|e
  ·exact i
  ·exact Nat.lt_trans (aV (d.o.e f e) h.o.size) i
 ·exact⟨(bg.d h.o).a j (fun f a=>.inl (by rw[aC.1 a];exact d.o.d)),fun f a=>(bA.1 a).elim (fun e=>.inr (by rw[e];exact h.o.size)) .inl⟩
 ·intro a f g e
  ·have f:=e.a.symm.trans d.o.a;have a:=e.d;rw[d.o.c]at a;simp at f a;omega
def ow {b:Nat} {q:Qu} {F:List Nat} (w:aB) (a:xP w b q F) (d:0<q.a.length):aF au 97 #[qp b] w (Zy b q F w):=by
 rcases a with⟨A,n,c,a⟩|a
 ·refine mB (zq w (aj a) (by rw[←a.d];exact d)) ?_;rintro w' rfl;refine⟨A,n,c,F,rfl,a,gG.e _ _,fun d f g e=>?_⟩;have d:=a.a.symm.trans e.a;simp at d;exact⟨rfl,d.1.symm,d.2.1.symm,d.2.2.symm,rfl⟩
 ·exact MX w (aj a)
def zu {e:List Vl} {f:Nat} {a:Vl} (g:e[f]?=R a) (d:Nat) (h:d<6):(gF e)[f*6+d]?=(xO a).toList[d]?:=mZ (f:=fun a=>(xO a).toList) (fun _=>rfl) g d h
def IG.k {w:aB} {b:Nat} {q:Qu} {F:List Nat} {A:Option aX} {n c:Nat} (d:IG w b A n c q F) {e:Nat} {f:Vl} (g:q.a[e]?=R f):∃a,A=R ⟨a,0,O⟩∧a∈F∧a≠b∧w.cell? ⟨a,e*6,O⟩=R (J U f.d)∧w.cell? ⟨a,e*6+1,O⟩=R (J U f.e)∧w.cell? ⟨a,e*6+2,O⟩=R (J U f.c)∧w.cell? ⟨a,e*6+3,O⟩=R (J U f.a)∧w.cell? ⟨a,e*6+4,O⟩=R (J U f.b)∧w.cell? ⟨a,e*6+5,O⟩=R (J U f.f):=by have e:=(aU.1 g).1;obtain⟨a,f,e⟩:=eu d.e (by have:=d.d;omega);injection e with e f f;subst e;have e:=zu g;exact⟨a,rfl,(d.f a rfl).1,(d.f a rfl).2,dG d.e (e 0 Y2),dG d.e (e 1 Y2),dG d.e (e 2 Y2),dG d.e (e 3 Y2),dG d.e (e 4 Y2),dG d.e (e 5 Y2)⟩
def zbv (b:Nat) (q:Qu) (F:List Nat) (w:aB) (d:Ending) (w':aB):Prop:=∃a,d=av (EM q.e)∧xP w' b q a∧gG F a w w'∧∀A n c,IG w b A n c q F→a=F∧aJ w w w'
def tO {b:Nat} {q:Qu} {F:List Nat} (w:aB) (a:xP w b q F) (r:0<q.a.length) (B:q.a.length≤1000):aF au 154 #[qp b] w (zbv b q F w):=by
 have C:Y (∀f,aJ w w f→aF au 97 #[qp b] f (Zy b q F f)):=aj fun f D=>ow f (a.f D) r
 obtain⟨g,k⟩:∃g,q.a[q.a.length-1]?=R g:=⟨_,aQ (by omega)⟩
 have E:Y (q.e=g):=aj (by unfold Qu.e;rw[List.getLastD_eq_getLast?,List.getLast?_eq_getElem?,k];rfl)
 have s:=aj k
 obtain⟨t,u⟩:=gU w 213 (xO ⟨0,0,0,0,0,0⟩)
 have e:=aj t
 have G:=aj u
 have v:=aj a.a
 clear k a t u
 go_enter func154,ntmps154
 go_wp2_with fail
 refine(C.o _ e.o).mono ?_
 rintro a0 w1 ⟨A,n,c,x,rfl,h,l,y⟩
 have z:=aj h
 have H:=aj y
 have m:=aj l
 have b0:0<n:=by rw[←h.d];exact r
 have c0:n≤1000:=by rw[←h.d];exact B
 have o:=aj (G.o.g l.1 (fun j=>by have:=v.o _ j;omega))
 rw[z.o.d]at s
 obtain⟨d0,rfl,e0,f0,I,K,L,M,N,P⟩:=h.k s.o
 have hn:((n:Int)==0)=false:=by simp;omega
 have Q:U.wrap ((n:Int)-1)=((n-1:Nat):Int):=by rw[bF _ (by omega)];omega
 have S:n-1<n:=by omega
 obtain⟨g0,j⟩:=exq (n-1)
 rw[j]at Q S I K L M N P
 obtain⟨y0,y1,y2,y3,y4,y5⟩:=bH.C o.o
 have gf:=o.o.c
 clear h l j y
 go_wp2_with fail
 obtain⟨T,p⟩:=stV o.o rfl g _ rfl
 have a:=T.a
 have V:∀d∈x,d≠w.heap.size:=fun d i=>by
  rcases m.o.2 d i with a|a
  ·have:=v.o d a;omega
  ·have:=e.o.size;simp at a;omega
 exact aG (v:=EM g) (by simp[results,results154,go_sem,a,xO];rfl) rfl ⟨x,by rw[E.o],.inl ⟨_,_,_,z.o.i p (fun d i a=>V d i (aC.1 a))⟩,⟨((bg.d e.o).a m.o.1 (fun d a=>.inl a)).a p (fun d a=>.inr (by rw[aC.1 a];exact aD _)),fun d i=>(m.o.2 d i).imp id (fun a=>aR e.o.size a)⟩,fun A n c W=>by
  obtain⟨X,_,_,_,e2⟩:=H.o A n c (W.j e.o)
  subst e2
  exact⟨X,e.o.trans (p.c e.o.size (by simp))⟩⟩
def Bv {b:Nat} {q:Qu} {F:List Nat} (w:aB) (a:xP w b q F):aF au 152 #[qp b] w fun d w'=>d=av q.c∧w'=w:=by obtain⟨d,e,_⟩:=a.e;clear a;go_enter func152,ntmps152;go_wp2;go_ret;exact Y5
def Yn (b:Nat) (q:Qu) (F:List Nat) (w:aB) (d:Ending) (w':aB):Prop:=∃a A n c,d=av q.b∧IG w' b A n c q a∧gG F a w w'
def EP {b:Nat} {q:Qu} {F:List Nat} (w:aB) (f:xP w b q F) (i:0<q.a.length) (l:q.a.length≤1000) (m:0≤q.d) (o:q.d≤1000):aF au 151 #[qp b] w (Yn b q F w):=by
 obtain⟨p,_,_⟩:=f.e;have j:Y (∀a,aF au 97 #[qp b] (w.drewN a) fun h w'=>∃A c d,h=av (Z A q.a.length c)∧w'.cell? ⟨b,1,O⟩=R (J U q.d)∧Y (IG w' b A q.a.length c q d∧gG F d w w')):=aj fun a=>((ow (w.drewN a) (f.f (w':=w.drewN a) (bI (ay _ w) a)) i).mono (by rintro h w' ⟨A,n,c,d,rfl,g,k,_⟩;have e:=g.d;subst e;exact⟨A,c,d,rfl,g.a.a 1,aj ⟨g,⟨bg.a (bg.j w a) k.1 (fun _ f=>.inl f),k.2⟩⟩⟩))
 obtain⟨a,g⟩:=exq q.d;obtain⟨n,e⟩:=exq q.a.length;rw[g]at p m o;rw[g,e]at j;rw[e]at i l;have i:Y (q.b=a+n-1):=aj (by rw[←g,←e];rfl);have k:U.wrap (a+n)=a+n:=bF _ Y0;have k:U.wrap (a+n-1)=a+n-1:=bF _ Y0;clear f g e;go_enter func151,ntmps151;go_wp2;go_region_held3 (fun w'=>w'.cell? ⟨b,1,O⟩=R (J U a)) (go_keep) (first|(go_at_call 97;refine(j.o _).mono ?_;rintro h f ⟨A,c,d,rfl,g,e⟩));all_goals
  go_wp2;go_ret;exact⟨d,_,_,_,by rw[i.o];rfl,e.o.1,e.o.2⟩
def CF:(Tryz.prog.info? 213).map (fun a=>(a.zero,a.size,a.bytes))=R (R (EM ⟨0,0,0,0,0,0⟩),6,48):=by kernel_rfl
def oW {i:Program} {w:aB} {x:Array Oper} {y:List Oper} {h:Oper} {j:Act} {z:Exit→Act→aB→Prop} (B:h.guard=O) (o p:Operand) (k:bB)
  (C:h.op=.call {callee:=.builtin .append,args:=#[o,p],argTypes:=#[k,k]})
  (l:Nat) (a:bB) (e:Nat) {r:aI} {s:Nat} (D:(i.info? a).map (fun d=>(d.zero,d.size,d.bytes))=R (R r,e,s)) (E:r.cells.size=e) (G:0<e) (H:i.underlying k=R (.slice a))
  (d:Array aI) (I:d.size=e) (f:aI) (n:Nat) (t:List aI) (K:j.eval o=f) (L:w.ownsRow l a e f n t) (M:j.eval p=Z (R ⟨w,0,O⟩) 1 1)
  (N:∀u∈d.toList,u.oneCell'=true) (P:n+1≤maxLen) (Q:(n+1)*s≤140737488355328) (g:l≤w.heap.size)
  (v:∀g m w',w'.ownsRow l a e (Z (R ⟨g,0,O⟩) (n+1) m) (n+1) (t++d.toList)→bg f.ownBlock.toList w w'→(g∈f.ownBlock.toList∨w.heap.size≤g)→g<w'.heap.size→wpList i x z y (j.put h.dst (Z (R ⟨g,0,O⟩) (n+1) m)) w'):wpList i x z (h::y) j (w.alloc (.cells d a)):=by
 obtain⟨i,j,x,y,z⟩:=info_parts D;refine wpList_append_lies _ B o p k C l a i r e s H j x y z E G f n t K (dF L (gU w a d).1) _ 1 1 d.toList M (by simp[I]) (fun i u j=>?_) N Y2 P Q (by simp;omega) _ rfl ?_
 ·obtain⟨b,h,e,k⟩:=bU.i w a d (0,0) i u j;injection e with e;rw[e,Addr.add_lit];exact k
 ·intro g m w' h i e j;refine v g m w' h ((bg.d (F:=f.ownBlock.toList) (gU w a d).1).a (bg.k i (F:=f.ownBlock.toList) (fun b a=>.inl (by rw[a];simp))) (fun _ v=>.inl v)) ?_ j;rcases e with e|e
  ·exact .inl (by rw[e];simp)
  ·exact .inr (by rw[e];simp)
def QF (b:Nat) (q:Qu) (F:List Nat) (w:aB) (d:Ending) (w':aB):Prop:=∃a,d=av (aN #[])∧xP w' b q a∧gG F a w w'
def II {w w':aB} {F d:List Nat} {A:Option aX} {e:List aI} (f:mQ w (fun a=>a∉F) A e) (g:gG F d w w'):mQ w' (fun a=>a∉d) A e:=
 ((f.d (K':=fun a=>a∉F∧a<w.heap.size) fun a e d=>⟨d,e⟩).c fun a e d=>g.1.m a e d.1).d fun a e d h=>(g.2 a h).elim d.1 (fun f=>Y0)
def QG {b:Nat} {q:Qu} {F:List Nat} (w:aB) (a:xP w b q F) (d:0<q.a.length) (g:q.a.length≤1000) (A:Option aX) (n c:Nat) (f:List (Int×Int)) (h:f.length=n) (j:n≤100000) (i:mQ w (fun e=>e∉F) A (qU f)):
  aF au 153 #[qp b,Z A n c] w (QF b (q.f f) F w):=by
 have k:=aj (ow w a d);have e:Y (0<q.a.length∧q.a.length≤1000):=aj ⟨d,g⟩;have r:=aj h;have s:=aj i;clear a i h d g;go_enter func153,ntmps153;go_wp2_with fail;refine k.o.mono ?_;rintro m p ⟨v,h,x,F1,rfl,d,l,_⟩;have i:=aj d;have g:=aj l;have o:=aj (tO p (.inl ⟨_,_,_,d⟩) e.o.1 e.o.2);clear d l k;go_wp2_with fail;refine o.o.mono ?_;rintro m t ⟨d,rfl,u,y,l⟩;obtain⟨_,d⟩:=l _ _ _ i.o;have k:=aj d;have p:=aj (Bu q.e A n c f t r.o j ((II s.o g.o).a.a d));clear u y l d o;go_wp2_with fail;refine mB p.o fun l r=>?_;have m:=aj (k.o.trans (r.mono k.o.size));obtain⟨s,o⟩:=exq (oN q.e f);have y:=aj o;rw[o];have d:=aj (i.o.j m.o);clear r o k p;unfold EM;have k:h≤1000:=by rw[←i.o.d];exact e.o.2
 go_wp2_with (at_builtin;go_loud (refine oW rfl (.tmp 8) (.tmp 13) 159 rfl 0 213 6 CF rfl Y2 underlying159 (xO s) rfl (Z v h x) h (gF q.a) rfl d.o.e rfl (by simp[xO,Value.oneCell']) (by unfold maxLen;omega) Y0 (aZ _) ?_));intro e p r t k u z;have o:=aj (d.o.a.g k (fun j=>(d.o.f b (bC.1 j)).2 rfl));have x:=aj t;have B:=aj (k.g fun b j=>.inl (d.o.f b (bC.1 j)).1);have v:=aj (u.imp (fun j=>d.o.f e j) id);have j:=o.o.a 0;have j:=o.o.c 0;clear t k u;go_wp2_with fail;refine aG (v:=aN #[]) (by simp[results,results153,go_sem]) rfl ?_;have j:e≠b:=by
  rcases v.o with a|a
  ·exact a.2
  ·have:=d.o.a.e;omega
 have k:bg F1 l (r.setCell ⟨b,0,O⟩ (Z (R ⟨e,0,O⟩) (h+1) p)):=B.o.a (bg.e (F:=F1) (p:=⟨b,0,O⟩) _ d.o.g _) (fun _ a=>.inl a);refine⟨e::F1,rfl,.inl ⟨_,_,_,by simp[Qu.f,i.o.d],o.o.f 0 _,?_,?_,by simp[d.o.g],?_⟩,?_⟩
 ·have:=ownsRow_setCell_other x.o (a:=⟨b,0,O⟩) (by simpa[Value.ownBlock]using j) (Z (R ⟨e,0,O⟩) (h+1) p);rw[show(q.f f).a=q.a++[s] by rw[←y.o];rfl];unfold gF at this⊢;rw[List.flatMap_append];simpa using this
 ·intro f h;have:f=e:=by simpa[Value.ownBlock]using h.symm
  rw[this];exact⟨Y1,j⟩
 ·intro e f;rcases bA.1 f with rfl|a
  ·simpa using z
  ·exact aV (d.o.h e a) k.b
 ·refine⟨(g.o.1.a (bg.d (F:=F) m.o) (fun _ a=>.inl a)).a k (fun e f=>(g.o.2 e f)),fun e f=>?_⟩;rcases bA.1 f with rfl|a
  ·rcases v.o with a|a
   ·exact g.o.2 _ a.1
   ·exact .inr (aR (aR g.o.1.b m.o.size) a)
  ·exact g.o.2 e a
def MV (d:Option aX) (c e:Nat) (a:Nat) (b:aB) (f:1≤a) (f:a≤4) (f:c<a):
  aF au 204 #[Z d c e,a] b fun c d=>c=av (aN #[J U 0,J U 3])∧b=d:=by
 have d:=fun b=>aj (Im (a:Int) b);have b:bV (a:Int) 1 4=true:=by unfold bV;simp;omega
 obtain⟨f,e⟩:=exq (vV (a:Int));rw[b,e]at d;clear b e;go_enter func204,ntmps204;go_wp2_with (go_at_call 113;refine(d _).o.mono ?_;rintro c a ⟨rfl,rfl⟩);go_ways;go_ret2;exact Y5
def VN (a:Nat) (b:a<4294967296):bits .and U (a:Int) 2147483648=if 2147483648≤a then 2147483648 else 0:=by
 have c:=Yk a 2147483648 Y0 Y2;rw[show((2147483648:Nat):Int)=2147483648 from rfl]at c;have d:a&&&2147483648=(a.testBit 31).toNat*2147483648:=by
  apply Nat.eq_of_testBit_eq;intro e;rw[Nat.testBit_and,show(2147483648:Nat)=2^31 from rfl,Nat.testBit_two_pow];by_cases b:31=e
  ·subst b;cases a.testBit 31
   ·simp
   ·simp only[Bool.true_and,Bool.toNat_true,Nat.one_mul,Nat.testBit_two_pow]
  ·cases a.testBit 31
   ·simp[b]
   ·simp only[Bool.toNat_true,Nat.one_mul,Nat.testBit_two_pow,b,decide_false,Bool.and_false]
 rw[c,d,Nat.testBit_eq_decide_div_mod_eq];by_cases c:2147483648≤a
 ·have b:a/2^31%2=1:=Y0;rw[b,aP c];rfl
 ·have b:a/2^31%2=0:=Y0;rw[b,aL c];rfl
def IC (a:Nat) (d:a<2^32):a&&&(2^64- (2^31+1))=a%2^31:=by
 apply Nat.eq_of_testBit_eq;intro b;rw[Nat.testBit_and,Nat.testBit_two_pow_sub_succ Y2,Nat.testBit_two_pow,Nat.testBit_mod_two_pow];by_cases c:b<31
 ·have:¬31=b:=Y0;simp[c,this];omega
 ·by_cases e:b=31
  ·subst e;simp
  ·have e:a.testBit b=false:=Nat.testBit_lt_two_pow (aV d (Nat.pow_le_pow_right (by decide) (by omega)));simp[c,e]
def IE (a:Nat) (b:a<4294967296):bits .andNot U (a:Int) 2147483648=(a:Int)%2147483648:=by
 have c:=BitVec.ofInt_natCast 64 a;show U.wrap ((BitVec.ofInt 64 (a:Int)&&&~~~(BitVec.ofInt 64 2147483648)).toNat:Int)=_
 rw[c,BitVec.toNat_and,BitVec.toNat_not,BitVec.toNat_ofNat,Nat.mod_eq_of_lt Y0];have c:(BitVec.ofInt 64 2147483648).toNat=2^31:=Y2;rw[c,show 2^64-1-2^31=2^64- (2^31+1) by decide,IC a b];have:a%2^31<2147483648:=Nat.mod_lt _ Y2;rw[bF _ Y0];omega
def KG (a:Int) (b:aB) (c:0≤a) (e:a<4294967296):aF au 165 #[a] b fun d f=>d=av (aN #[J U (lJ a),aO (qN a)])∧b=f:=by
 obtain⟨a,rfl⟩:=bR c;have b:a<4294967296:=Y0;have d:=VN a b;have f:=IE a b;unfold lJ qN;obtain⟨g,b⟩:=exq ((a:Int)%2147483648);rw[b]at f⊢;clear c e b;by_cases c:2147483648≤a
 ·rw[aP c]at d;have b:decide ((2147483648:Int)≤a)=true:=by simp;omega
  rw[b];clear b;go_enter func165,ntmps165;go_wp2;go_ret2;exact Y5
 ·rw[aL c]at d;have b:decide ((2147483648:Int)≤a)=false:=by simp;omega
  rw[b];clear b;go_enter func165,ntmps165;go_wp2;go_ret2;exact Y5
def kG (a:Int) (b:Bool):Int:=if b then a+2147483648 else a
def Zx (a:Nat) (b:a<2147483648):bits .or U (a:Int) 2147483648=(a:Int)+2147483648:=by have b:=zaE a 2147483648 Y0 Y2;rw[show((2147483648:Nat):Int)=2147483648 from rfl]at b;rw[b,Nat.or_comm,show(2147483648:Nat)=2^31*1 from rfl,←Nat.two_pow_add_eq_or_of_lt Y0];omega
def QC (a:Int) (b:Bool) (c:aB) (e:0≤a) (g:a<2147483648):aF au 73 #[a,b] c fun d f=>d=av (aN #[J U (kG a b),J U 0])∧c=f:=by
 obtain⟨a,rfl⟩:=bR e;have d:=Zx a Y0;have c:a<2147483648:=Y0;obtain⟨h,c⟩:=exq ((a:Int)+2147483648);rw[c]at d;have f:Y (∀d,kG (a:Int) d=if d then h else a):=aj fun d=>by unfold kG;rw[c]
 clear e c g;cases b
 ·go_enter func73,ntmps73;go_wp2;go_ret2;exact⟨by rw[f.o];rfl,rfl⟩
 ·go_enter func73,ntmps73;go_wp2;go_ret2;exact⟨by rw[f.o];rfl,rfl⟩
structure Yo (w:aB) (F:Nat→List Nat):Prop where
 c:∀i j b,b∈F i→b∈F j→i=j
 a:∀i,∀b∈F i,b<w.heap.size
def GL (F:Nat→List Nat) (i:Nat) (L:List Nat):Nat→List Nat:=fun j=>if j=i then L else F j
section
variable {w w':aB} {F:Nat→List Nat} {i j:Nat} {L:List Nat}
def fF:GL F i L i=L:=aP rfl
def dS (a:j≠i):GL F i L j=F j:=aL a
def Yo.e (h:Yo w F) (l:gG (F i) L w w') (n:∀a∈L,a<w'.heap.size):Yo w' (GL F i L):=by
 have o:w.heap.size≤w'.heap.size:=l.1.b;have m:∀j a,j≠i→a∈F j→a∉L:=fun j a p c q=>by
  rcases l.2 a q with b|b
  ·exact p (h.c j i a c b)
  ·have:=h.a j a c;omega
 refine⟨fun d k a e f=>?_,fun d a c=>?_⟩
 ·by_cases b:d=i
  ·by_cases g:k=i
   ·rw[b,g]
   ·subst b;rw[fF]at e;rw[dS g]at f;exact absurd e (m k a g f)
  ·by_cases g:k=i
   ·subst g;rw[fF]at f;rw[dS b]at e;exact absurd f (m d a b e)
   ·rw[dS b]at e;rw[dS g]at f;exact h.c d k a e f
 ·by_cases b:d=i
  ·subst b;rw[fF]at c;exact n a c
  ·rw[dS b]at c;exact aV (h.a d a c) o
def Yo.f (b:Yo w F) (c:j≠i):∀a∈F j,a∉F i:=fun a d e=>c (b.c j i a d e)
def Yo.d (a:Yo w F) (b:w.heap.size≤w'.heap.size):Yo w' F:=⟨a.c,fun i c d=>aV (a.a i c d) b⟩
def IJ (a:Nat→aB→List Nat→Prop):Prop:=∀i w w' L b,a i w L→bg b w w'→(∀c∈L,c∉b)→a i w' L
def Yo.g {a b:Nat→aB→List Nat→Prop} (c:Yo w F) (d:IJ a) (e:∀j,a j w (F j)) (f:gG (F i) L w w') (g:b i w' L) (h:∀j,j≠i→b j=a j):∀j,b j w' (GL F i L j):=fun j=>by
 by_cases a:j=i
 ·subst a;rw[fF];exact g
 ·rw[dS a,h j a];exact d j w w' (F j) (F i) (e j) f.1 (c.f a)
def Yo.h {a:Nat→aB→List Nat→Prop} (b:IJ a) (c:∀j,a j w (F j)) (d:aJ w w w'):∀j,a j w' (F j):=fun j=>b j w w' (F j) [] (c j) (bg.d d) (fun _ _=>by simp)
end
end Go.Proofs.YtdcacpeaimjdlaaGreatDoor
