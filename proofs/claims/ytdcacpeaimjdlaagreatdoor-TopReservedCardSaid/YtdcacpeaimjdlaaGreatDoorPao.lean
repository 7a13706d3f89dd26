/- Part of the proof. -/
import Derived.Test.YtdcacpeaimjdlaaGreatDoorPaj
import Derived.Test.YtdcacpeaimjdlaaGreatDoorPam
import Derived.Test.YtdcacpeaimjdlaaGreatDoorPad
namespace Go.Proofs.YtdcacpeaimjdlaaGreatDoor
open Go.RowKit Go.Maps Go.Proofs.Tryz Mq MFr
open Go.Value renaming int→J,slice→Z,string→aA,pointer→aK,bool→aO,tuple→aN,agg→aS
open Go.IntKind renaming i64→U
open Option renaming none→O,some→R
open Go.Ending renaming returned→av
open Go renaming World→aB,Value→aI,Calls→aF,Addr→aX,TypeId→bB,undef→bq
open Go.RowKit renaming Below→aJ
open Go.Proofs.Tryz renaming prog→au
set_option maxRecDepth 20000
set_option maxHeartbeats 0
set_option linter.all false
variable {J0 J1 J2 J3 J4 J5 J6 J7 J8 J9 M0 M1 M2 M3 M4 M5 M6 M7 M8 M9 N0 N1 N2 N3 N4 N5 N6 N7 N8 N9 O0 O1 O2 O3 O4 O5 O6 O7 O8 O9 Q0 Q1 Q2 Q3 Q4 Q5 Q6 Q7 Q8 Q9 R0 R1 R2 R3 R4 R5 R6 R7 R8 R9 T0 T1 T2 T3 T4 T5 T6 T7 T8 T9 X0 X1 X2 X3 X4 X5 X6 X7 X8 X9 u1 u100 u101 u102 u103 u104 u105 u106 u107 u108 u109 u110 u111 u112 u113 u114 u115 u2 u3 u4 u5 u6 u7 u8 u9 u90 u91 u92 u93 u94 u95 u96 u97 u98 u99:aI}
def pO (a:Nat×Nat) (b:Nat):Prop:=b<a.1∨a.2≤b
structure gH (w:aB) (B:Nat×Nat) (g:Nat) (l:List Int) (k:Nat):Prop where
 d:∃A c,bH w g 283 #[Z A l.length c,J U (k:Nat)]∧Sl w (fun b=>b≠g∧¬pO B b) A l.length c (dP l)
 e:k≤l.length
 a:¬pO B g
def gH.f {a e:aB} {b:Nat×Nat} {d f:Nat} {g:List Int} {F:List Nat} (c:gH a b d g f) (h:bg F a e) (hF:∀a∈F,pO b a):gH e b d g f:=by obtain⟨f,g,i,j⟩:=c.d;have e:∀a,¬pO b a→a∉F:=fun a b k=>b (hF a k);exact⟨⟨f,g,i.g h (e d c.a),j.a h (fun a b=>e a b.2)⟩,c.e,c.a⟩
def gH.h {b:aB} {c:Nat×Nat} {d e:Nat} {f:List Int} (a:gH b c d f e) (g:Nat):gH (b.drewN g) c d f e:=by obtain⟨b,c,d,e⟩:=a.d;exact⟨⟨b,c,d.q g,e.h fun _ _ _=>rfl⟩,a.e,a.a⟩
def mQ.b {d:aB} {e:Nat→Prop} {a b f g k:Nat} {c:List aI} (h:mQ d e (R ⟨a,b,O⟩) c) (i:c.length=f) (i:f≤g):mQ d e (if g=k then R ⟨a,b,O⟩else R ⟨a,b+k,O⟩) (c.drop k):=fun d e c=>by
 rw[List.getElem?_drop]at c
 have d:=(aU.1 c).1
 obtain⟨i,j,d,f,g⟩:=h _ e c
 injection d with d
 injection d with c d
 subst c d
 rw[aL Y0]
 exact⟨a,b+k,rfl,f,by rw[Nat.add_assoc];exact g⟩
def zP (a:List Int) (b:Nat):(dP a).drop b=dP (a.drop b):=by unfold dP;rw[List.map_drop]
def Rm (a:List Int) (b:Nat):(dP a).take b=dP (a.take b):=by unfold dP;rw[List.map_take]
def zQ (g:Nat) (a:List Int) (b:Nat) (h:Nat×Nat) (i:aB) (f:Ending) (c:aB):Prop:=
 ∃d e,f=av (Z d (a.length-b) e)∧Sl c (fun f=>f≠g∧¬pO h f) d (a.length-b) e (dP (a.drop b))∧∃a,c=i.drewN a
def zR (g:Nat) (b:List Int) (a:Nat) (o:Nat×Nat) (h:aB) (u:Y (gH h o g b a)) (z:b.length≤1000000):aF au 169 #[qp g] h (zQ g b a o h):=by
 obtain⟨l,i,j,e⟩:=u.o.d;have A:=u.o.e;obtain⟨m,f⟩:=exq b.length;have p:Y (∀c q,(∃l i,c=av (Z l (m-a) i)∧Sl q (fun n=>n≠g∧¬pO o n) l (m-a) i (dP (b.drop a))∧∃B,q=h.drewN B)→zQ g b a o h c q):=aj fun c q d=>by unfold zQ;rw[f];exact d
 rw[f]at j e A z;have G:h.cell? ⟨g,0,O⟩=R (Z l m i):=j.a 0;have H:h.cell? ⟨g,1,O⟩=R (J U (a:Nat)):=j.a 1;have v:=aj f;have w:=aj e;have C:=e.f;cases l with
 |none=>
  obtain⟨rfl,rfl⟩:=e.e rfl;have D:a=0:=by omega
  subst D;clear j e f;go_enter func169,ntmps169;go_wp2_with fail;go_quiet (fail);go_wp2_with fail;go_ret;refine p.o _ _ ⟨O,0,rfl,?_,_,rfl⟩;have r:b=[]:=List.length_eq_zero_iff.1 v.o;rw[r];exact Sl.i _ _
 |some E=>
  obtain⟨n,x,F⟩:=E;by_cases s:F=O;rotate_left
  ·have r:b=[]:=by
    cases b with
    |nil=>rfl
    |cons I b=>obtain⟨_,_,c,_⟩:=w.o.b 0 _ rfl;injection c with c;injection c with _ _ c;exact absurd c s
   subst r;obtain rfl:m=0:=f.symm;obtain rfl:a=0:=by omega
   clear j e f s;go_enter func169,ntmps169;go_wp2_with fail;go_quiet (fail);go_wp2_with fail;go_ret;exact p.o _ _ ⟨_,_,rfl,⟨(fun d=>nomatch d),aZ _,fun K L d=>by simp[dP]at d⟩,_,rfl⟩
  subst s;have k:=mQ.b (k:=a) (w.o.b) (by rw[gW,v.o]) C;rw[zP]at k;by_cases y:i=a
  ·subst y;rw[aP rfl]at k;have t:=aj k;clear j e f k;go_enter func169,ntmps169;go_wp2_with fail;go_quiet (fail);go_wp2_with fail;go_ret;exact p.o _ _ ⟨R ⟨n,x,O⟩,0,by rw[show m-i=0 by omega];rfl,⟨(fun d=>nomatch d),by omega,t.o.c fun _ _ _=>rfl⟩,_,rfl⟩
  ·rw[aL y]at k;have t:=aj k;clear j e f k;go_enter func169,ntmps169;go_wp2_with fail;go_quiet (fail);go_wp2_with fail;go_ret;exact p.o _ _ ⟨R ⟨n,x+a,O⟩,i-a,rfl,⟨(fun d=>nomatch d),by omega,t.o.c fun _ _ _=>rfl⟩,_,rfl⟩
def zS (f:Nat) (b:List Int) (g:Nat) (i:Nat×Nat) (a:aB) (k:Y (gH a i f b g)) (c:b.length≤1000000):aF au 127 #[qp f] a fun d h=>d=av (J U ((b.length-g:Nat):Int))∧∃e,h=a.drewN e:=by have j:=aj (zR f b g i a k c);obtain⟨i,c⟩:=exq (b.length-g);have k:Y (aF au 169 #[qp f] a fun d h=>∃b g,d=av (Z b i g)∧∃e,h=a.drewN e):=aj (j.o.mono fun d h ⟨b,g,a,_,f⟩=>⟨b,g,by rw[←c];exact a,f⟩);rw[c];clear j c;go_enter func127,ntmps127;go_wp2_with fail;refine k.o.mono ?_;rintro d a ⟨b,g,rfl,e,rfl⟩;go_wp2;go_ret;exact⟨rfl,e,rfl⟩
def gH.i {b:aB} {e:Nat×Nat} {a d:Nat} {c:List Int} (f:gH b e a c d) {d:Nat} (g:d≤c.length):gH (b.setCell ⟨a,1,O⟩ (J U (d:Nat))) e a c d:=by obtain⟨c,d,e,h⟩:=f.d;exact⟨⟨c,d,e.f 1 _,h.a (bg.e (F:=[a]) b (p:=⟨a,1,O⟩) (aC.2 rfl) _) (fun c a b=>a.1 (aC.1 b))⟩,g,f.a⟩
def FE (a:Nat) (e:List Int) (b:Nat) (f:Nat×Nat) (c:Nat) (d:aB) (g:Y (gH d f a e b)) (h:e.length≤1000000) (i:b+c≤e.length):aF au 170 #[qp a,c] d fun j h=>j=av (aN #[])∧gH h f a e (b+c)∧bg [a] d h:=by
 obtain⟨h,j,e,f⟩:=g.o.d;have h:=e.H 1;have h:=e.c 1;have h:U.wrap ((b:Int)+c)=((b+c:Nat):Int):=by rw[bF _ Y0];omega
 clear e f;go_enter func170,ntmps170;go_wp2;go_end0;exact⟨rfl,g.o.i i,bg.e (F:=[a]) d (p:=⟨a,1,O⟩) (aC.2 rfl) _⟩
def jH (a:Nat) (b:List Int) (c:Nat) (f:Nat×Nat) (e:Nat) (g:aB) (h:Ending) (d:aB):Prop:=
 if e≤b.length-c then h=av (aN #[J U (uQ ((b.drop c).take e)),J U 0])∧gH d f a b (c+e)∧bg [a] g d
 else h=av (aN #[J U 0,J U 3])∧gH d f a b c∧bg [a] g d
def jN (h:Nat) (c:List Int) (d:Nat) (k:Nat×Nat) (e:Nat) (j:aB) (p:Y (gH j k h c d)) (v:c.length≤1000000) (q:1≤e) (x:e≤4) (s:gZ c):aF au 164 #[qp h,e] j (jH h c d k e j):=by
 have t:=aj (zR h c d k j p v);obtain⟨l,n⟩:=exq (c.length-d);have a:=p.o.e;have z:=aj (s.b d);have A:Y ((c.drop d).length=l):=aj (by rw[bT,n]);have y:Y (aF au 169 #[qp h] j fun a b=>∃f g,a=av (Z f l g)∧Y (l≤g∧bU b f (dP (c.drop d)))∧∃o,b=j.drewN o):=aj (t.o.mono fun a b ⟨f,g,q,i,m⟩=>⟨f,g,by rw[←n];exact q,aj ⟨by rw[←n];exact i.f,i.b.a⟩,m⟩);by_cases u:e≤l
 ·have r:Y (∀a b,(a=av (aN #[J U (uQ ((c.drop d).take e)),J U 0])∧gH b k h c (d+e)∧bg [h] j b)→jH h c d k e j a b):=aj fun a b m=>by unfold jH;rw[n,aP u];exact m
  have B:Y (∀i,gH i k h c d→aF au 170 #[qp h,e] i fun a b=>a=av (aN #[])∧Y (gH b k h c (d+e)∧bg [h] i b)):=aj fun i w=>(FE h c d k e i (aj w) v Y0).mono fun a b m=>⟨m.1,aj m.2⟩;obtain⟨C,v⟩:=exq (uQ ((c.drop d).take e));have w:Y (∀(f:Option aX) (g:Nat) (i:aB),l≤g→bU i f (dP (c.drop d))→aF au 204 #[Z f l g,e] i fun a b=>a=av (aN #[C,J U 0])∧i=b):=aj fun f g i C D=>by rw[←v];exact VL f l g (c.drop d) e i q x A.o u Y0 C z (aj D)
  rw[v]at r;clear t n s v;go_enter func164,ntmps164;go_wp2_with fail;refine y.o.mono ?_;rintro a A ⟨f,g,rfl,v,o,rfl⟩;go_wp2_with fail;refine mB (w.o f g _ v.o.1 v.o.2) ?_;rintro C rfl;go_wp2_with fail;refine mB (B.o _ (p.o.h o)) fun B z=>?_;go_wp2;go_ret2;exact r.o _ _ ⟨rfl,z.o.1,(bg.j j o).a z.o.2 (fun _ m=>.inl m)⟩
 ·have r:Y (∀a b,(a=av (aN #[J U 0,J U 3])∧gH b k h c d∧bg [h] j b)→jH h c d k e j a b):=aj fun a b m=>by unfold jH;rw[n,aL u];exact m
  have w:Y (∀(f:Option aX) (g:Nat) (i:aB),aF au 204 #[Z f l g,e] i fun a b=>a=av (aN #[J U 0,J U 3])∧i=b):=aj fun f g i=>MV f l g e i q x Y0;clear t n s;go_enter func164,ntmps164;go_wp2_with fail;refine y.o.mono ?_;rintro a A ⟨f,g,rfl,v,o,rfl⟩;go_wp2_with fail;refine mB (w.o f g _) ?_;rintro C rfl;go_wp2;go_ret2;exact r.o _ _ ⟨rfl,p.o.h o,bg.j j o⟩
def tZ (c:Option aX) (b h:Nat) (d:List Int) (a:aB) (f:d.length=b) (l:b≤1000000) (i:c=O→b=0) (j:bU a c (dP d)):
  aF au 124 #[Z c b h] a fun k g=>∃e,k=av (aK (R ⟨e,0,O⟩))∧a.heap.size≤e∧gH g (a.heap.size,g.heap.size) e d 0∧aJ a a g:=by
 have g:=aj (jd c b h d a f l i j);have h:=aj f;clear f j i;go_enter func124,ntmps124;go_wp2_with fail;refine g.o.mono ?_;rintro k c ⟨f,g,rfl,i,j⟩;have k:=aj i;have d:=aj j;clear i j;go_wp2;go_ret;refine⟨c,rfl,d.o.size,⟨⟨f,g,?_,?_⟩,aZ _,by have:=d.o.size;simp[pO];omega⟩,d.o.alloc d.o.size _⟩
 ·rw[h.o];exact bH.d _ _ _
 ·rw[h.o];exact((Cg k.o).d (K':=fun d=>d≠c.heap.size∧¬pO (a.heap.size,(c.alloc (.cells #[Z f b g,J U 0] 283)).heap.size) d) (fun e a d=>⟨Y0,by simp[pO];omega⟩)).g ((ay _ c).alloc (aD _) (.cells #[Z f b g,J U 0] 283))
def Wj (c:Nat) (d:List Int) (e:Nat) (i:Nat×Nat) (a:Nat) (f:aB) (j:Ending) (b:aB):Prop:=
 ∃g h,j=av (aN #[Z g a h,J U 0])∧b.ownsRow f 5 1 (Z g a h) a (dP ((d.drop e).take a))∧gH b i c d (e+a)∧bg [c] f b
def Nn (b:Nat) (c:List Int) (d:Nat) (g:Nat×Nat) (e:Nat) (l:aB) (s:Y (gH l g b c d)) (n:c.length≤1000000) (w:d+e≤c.length) (a:g.2≤l.heap.size):aF au 129 #[qp b,e] l (Wj b c d g e l):=by
 obtain⟨k,p⟩:=exq (c.length-d);have x:e≤k:=Y0;have a:k≤1000000:=Y0;have y:Y (∀a,gH a g b c d→aF au 127 #[qp b] a fun f h=>f=av (J U (k:Nat))∧∃o,h=a.drewN o):=aj fun a q=>by rw[←p];exact zS b c d g a (aj q) n
 have z:Y (∀a,gH a g b c d→aF au 169 #[qp b] a fun f h=>∃j i,f=av (Z j k i)∧Y (Sl h (fun m=>m≠b∧¬pO g m) j k i (dP (c.drop d)))∧e≤i∧∃o,h=a.drewN o):=aj fun a q=>(zR b c d g a (aj q) n).mono fun f h ⟨j,i,r,o,t⟩=>⟨j,i,by rw[←p];exact r,aj (by rw[←p];exact o),by have:=o.f;omega,t⟩
 have A:Y (∀(j:Option aX) (i:Nat) (a:aB),Sl a (fun m=>m≠b∧¬pO g m) j k i (dP (c.drop d))→aF au 34 #[Z j e i] a fun f h=>∃u v,f=av (Z u e v)∧Y (h.ownsRow a 5 1 (Z u e v) e (dP ((c.drop d).take e))∧aJ a a h)):=aj fun j i a k=>(jd j e i ((c.drop d).take e) a (by rw[dw,bT,p,Nat.min_eq_left x]) Y0 (fun x=>by have:=(k.e x).1;omega) (by rw[←Rm];exact k.b.a.j e)).mono fun f h ⟨u,v,r,o,t⟩=>⟨u,v,r,aj ⟨o,t⟩⟩
 have u:Y (∀a,gH a g b c d→aF au 170 #[qp b,e] a fun f h=>f=av (aN #[])∧Y (gH h g b c (d+e)∧bg [b] a h)):=aj fun a q=>(FE b c d g e a (aj q) n w).mono fun f h k=>⟨k.1,aj k.2⟩;clear p w n;go_enter func129,ntmps129;go_wp2_with fail;refine mB (y.o _ s.o) ?_;rintro e ⟨a,rfl⟩;go_wp2_with fail;refine(z.o _ (s.o.h a)).mono ?_;rintro f p ⟨j,i,rfl,h,q,e,rfl⟩;go_wp2_with fail;refine(A.o j i (l.drewN (a+e)) (h.o.h (w':=l.drewN (a+e)) fun _ _ _=>rfl)).mono ?_;rintro f i ⟨j,p,rfl,h⟩;have q:Y (bg [b] l i):=aj ((bg.j l (a+e)).a (bg.d (F:=[b]) h.o.2) (fun _ k=>.inl k));have l:=aj (gH.f (F:=[]) (s.o.h (a+e)) (bg.d h.o.2) (fun m a=>nomatch a));go_wp2_with fail;refine mB (u.o _ l.o) fun c b=>?_;go_wp2;go_ret2;refine⟨j,p,rfl,bO h.o.1 b.o.2 (fun m a n=>?_),b.o.1,q.o.a b.o.2 (fun _ k=>.inl k)⟩;have r:=(h.o.1.lt m a).1;have o:=s.o.a;have t:=aC.1 n;simp at r;exact o (.inr Y0)
def BG (a:Int) (b:aB):aF au 87 #[a] b fun c d=>c=av (J U (lV a))∧d=b:=by
 unfold lV;by_cases b:a=0
 ·subst b;go_enter func87,ntmps87;go_wp2;go_ret;exact Y5
 ·have c:=aM.2 b;rw[c,Bool.false_or];cases hq:a==2
  ·clear b;go_enter func87,ntmps87;go_wp2;go_ret;exact Y5
  ·clear b;go_enter func87,ntmps87;go_wp2;go_ret;exact Y5
def rW (b c:Int) (a:aB):aF au 85 #[b,c] a fun d e=>d=av (aS #[b,c])∧aJ a a e:=by go_enter func85,ntmps85;go_wp2_with fail;obtain⟨d,e⟩:=bH.m (bH.d a 91 #[b,c]);exact aG (v:=aS #[b,c]) (by simp[results,results85,go_sem,d,e]) rfl ⟨rfl,(ay _ a).alloc (aD _) _⟩
def fO (a b c d:Int) (e:Bool) (f:Option aX) (g h:Nat):aI:=aS (qs a b c d e f g h)
def CW (c b e d:Int) (f:Bool) (g:Option aX) (h i:Nat) (a:aB):aF au 84 #[fO c b e d f g h i] a fun c e=>c=av (aO (rP b d))∧aJ a a e:=by
 unfold fO rP;obtain⟨d,f⟩:=exq (oh b);have e:=fun a=>aj (Ez b a);rw[f]at e⊢;clear f;by_cases b:d=0
 ·subst b;go_enter func84,ntmps84;go_wp2_with fail;refine mB ((e _).o) ?_;rintro g rfl;go_wp2;go_ret;exact⟨rfl,(ay _ a).alloc (aD _) _⟩
 ·rw[aL b];have h:=aM.2 b;by_cases f:d=1
  ·subst f;clear b h;go_enter func84,ntmps84;go_wp2_with fail;refine mB ((e _).o) ?_;rintro g rfl;go_wp2;go_ret;exact⟨rfl,(ay _ a).alloc (aD _) _⟩
  ·rw[aL f];have h:=aM.2 f;clear b f;go_enter func84,ntmps84;go_wp2_with fail;refine mB ((e _).o) ?_;rintro g rfl;go_wp2;go_ret;exact⟨rfl,(ay _ a).alloc (aD _) _⟩
def rX (a b:Nat):((a:Int)==(b:Int))=(a==b):=by
 cases h:a==b
 ·have:=aM.1 h;exact aM.2 Y0
 ·have:=dX.1 h;exact dX.2 Y0
def Rn (a:Nat):Int.tmod (a:Int) 6=((a%6:Nat):Int):=by rw[Int.tmod_eq_emod_of_nonneg (by omega)];omega
def Np (b c g d:Int) (f:Bool) (h:Option aX) (a i:Nat) (e:aB) (j:g≤9223372036854775807):aF au 86 #[fO b c g d f h a i] e fun s b=>s=av (aO (tK c g a))∧aJ e e b:=by
 have f:=fun e=>aj (mF c g 1 e j);obtain⟨h,b⟩:=exq (tK c g a);rw[b];unfold fO;by_cases i:c=2
 ·subst i;have d:Y (h=((a:Int)==5)):=aj (by rw[←b];exact(rX a 5).symm);clear b f;go_enter func86,ntmps86;go_wp2;go_ret;exact⟨by rw[d.o];rfl,(ay _ e).alloc (aD _) _⟩
 have k:=aM.2 i;by_cases j:c=3
 ·subst j;have d:Y (h=((a:Int)==4)):=aj (by rw[←b];exact(rX a 4).symm);clear b f i k;go_enter func86,ntmps86;go_wp2;go_ret;exact⟨by rw[d.o];rfl,(ay _ e).alloc (aD _) _⟩
 have m:=aM.2 j;by_cases l:c=8
 ·subst l;have d:Y (h=((a:Int)==4)):=aj (by rw[←b];exact(rX a 4).symm);clear b f i k j m;go_enter func86,ntmps86;go_wp2;go_ret;exact⟨by rw[d.o];rfl,(ay _ e).alloc (aD _) _⟩
 have p:=aM.2 l;by_cases n:c=6
 ·subst n;have d:Y (h=((a:Int)==8)):=aj (by rw[←b];exact(rX a 8).symm);clear b f i k j m l p;go_enter func86,ntmps86;go_wp2;go_ret;exact⟨by rw[d.o];rfl,(ay _ e).alloc (aD _) _⟩
 have t:=aM.2 n;by_cases q:c=7
 ·subst q;have d:Y (h=decide ((8:Int)≤a)):=aj (by rw[←b];show decide (8≤a)=_;rw[decide_eq_decide];omega);clear b f i k j m l p n t;go_enter func86,ntmps86;go_wp2;go_ret;exact⟨by rw[d.o];rfl,(ay _ e).alloc (aD _) _⟩
 have v:=aM.2 q;by_cases u:c=4
 ·subst u;clear i k j m l p n t q v;obtain⟨y,o⟩:=exq (zbX 4 g 1);rw[o]at f;have w:=Rn a;obtain⟨x,r⟩:=exq (a%6);rw[r]at w;cases y
  ·have d:Y (h=((x:Int)==0)):=aj (by rw[←b];show(if zbX 4 g 1=true then a==0 else a%6==0)=_;rw[o,r];exact(rX x 0).symm);clear b o r;go_enter func86,ntmps86;go_wp2_with fail;refine mB ((f _).o) ?_;rintro x rfl;go_wp2;go_ret;exact⟨by rw[d.o];rfl,(ay _ e).alloc (aD _) _⟩
  ·have d:Y (h=((a:Int)==0)):=aj (by rw[←b];show(if zbX 4 g 1=true then a==0 else a%6==0)=_;rw[o];exact(rX a 0).symm);clear b o r w;go_enter func86,ntmps86;go_wp2_with fail;refine mB ((f _).o) ?_;rintro x rfl;go_wp2;go_ret;exact⟨by rw[d.o];rfl,(ay _ e).alloc (aD _) _⟩
 have a:=aM.2 u;have d:Y (h=true):=aj (by rw[←b];unfold tK;rw[k,m,p,t,v,a];rfl);clear b f i j l n q u;go_enter func86,ntmps86;go_wp2;go_ret;exact⟨by rw[d.o];rfl,(ay _ e).alloc (aD _) _⟩
structure UW (w:aB) (B:Nat×Nat) (r g:Nat) (l:List Int) (k:Nat) (sh:Bool):Prop where
 b:bH w r 243 #[qp g,sh]
 a:gH w B g l k
 c:pO B r
def UW.d {e b:aB} {f:Nat×Nat} {a c:Nat} {g:List Int} {i j:Nat} {k d:Bool} (h:UW e f a c g i k) (i:gH b f c g j∧bg [c] e b):UW (b.setCell ⟨a,1,O⟩ (aO d)) f a c g j d∧bg [c,a] e (b.setCell ⟨a,1,O⟩ (aO d)):=by have f:=h.a.a;have e:=h.c;have g:=h.b.g i.2 (fun h=>f (by rw[←aC.1 h];exact e));have f:bg [a] b (b.setCell ⟨a,1,O⟩ (aO d)):=bg.e (F:=[a]) b (p:=⟨a,1,O⟩) (aC.2 rfl) _;exact⟨⟨g.f 1 (aO d),i.1.f f (fun d b=>by rw[aC.1 b];exact e),e⟩,(i.2.g (F1:=[c,a]) (fun d b=>.inl (by rw[aC.1 b];simp))).a f (fun d b=>.inl (by rw[aC.1 b];simp))⟩
def oC (c:List Int) (a b:Nat):Int×Nat×Bool:=if b≤c.length-a then(uQ ((c.drop a).take b),a+b,false)else(0,a,true)
def FH (f:Nat×Nat) (d e:Nat) (a:List Int) (c b:Nat) (j:Bool) (i:aB) (k:UW i f d e a c j) (m:a.length≤1000000) (n:1≤b) (o:b≤4) (p:gZ a):
  aF au 125 #[qp d,b] i fun g h=>g=av (J U (oC a c b).1)∧UW h f d e a (oC a c b).2.1 (j||(oC a c b).2.2)∧bg [e,d] i h:=by
 have i:Y (∀l,UW l f d e a c j→aF au 164 #[qp e,b] l fun g h=>g=av (aN #[J U (oC a c b).1,J U (if(oC a c b).2.2=true then 3 else 0)])∧Y (gH h f e a (oC a c b).2.1∧bg [e] l h)):=aj fun l d=>by
  refine(jN e a c f b l (aj d.a) m n o p).mono ?_;intro g h d;unfold jH at d;unfold oC;by_cases h:b≤a.length-c
  ·rw[aP h]at d⊢;exact⟨d.1,aj d.2⟩
  ·rw[aL h]at d⊢;exact⟨d.1,aj d.2⟩
 obtain⟨l,m,h,n⟩:∃l m h,oC a c b=(l,m,h):=⟨_,_,_,rfl⟩;rw[n]at i⊢;dsimp only at i⊢;have l:=k.a.a;have e:=k.c;have a:=aj k;obtain⟨b,c⟩:=bH.m k.b;clear n k;cases h
 ·rw[aL Y2]at i;rw[Bool.or_false];go_enter func125,ntmps125;go_wp2_with fail;refine mB (i.o _ a.o) fun f b=>?_;have c:=aj (a.o.b.g b.o.2 (fun d=>l (by rw[←aC.1 d];exact e)));obtain⟨h,k⟩:=bH.m c.o;have m:=c.o.c 1;cases j
  ·go_wp2;go_ret;exact⟨rfl,a.o.d b.o⟩
  ·go_wp2;go_ret;exact⟨rfl,a.o.d b.o⟩
 ·rw[aP rfl]at i;rw[Bool.or_true];go_enter func125,ntmps125;go_wp2_with fail;refine mB (i.o _ a.o) fun f b=>?_;have c:=aj (a.o.b.g b.o.2 (fun d=>l (by rw[←aC.1 d];exact e)));obtain⟨h,k⟩:=bH.m c.o;have m:=c.o.c 1;cases j
  ·go_wp2;go_ret;exact⟨rfl,a.o.d b.o⟩
  ·go_wp2;go_ret;exact⟨rfl,a.o.d b.o⟩
def zcv (a:List Int) (b:Nat):(Int×Bool)×Nat×Bool:=((lJ (oC a b 4).1,qN (oC a b 4).1),(oC a b 4).2)
def Wm {l:List Int} {k s:Nat} (b:gZ l):0≤(oC l k s).1∧(oC l k s).1<256^s:=by
 unfold oC;split
 ·have a:=Cv ((b.b k).a s);rw[dw,bT,Nat.min_eq_left Y0]at a;exact a
 ·exact⟨Int.le_refl _,Int.pow_pos Y2⟩
def zcw (f:Nat×Nat) (d e:Nat) (a:List Int) (b:Nat) (g:Bool) (c:aB) (k:UW c f d e a b g) (l:a.length≤1000000) (h:gZ a):
  aF au 168 #[qp d] c fun i j=>i=av (aN #[J U (zcv a b).1.1,aO (zcv a b).1.2])∧UW j f d e a (zcv a b).2.1 (g||(zcv a b).2.2)∧bg [e,d] c j:=by have j:=aj (FH f d e a b 4 g c k l Y2 Y2 h);have d:=Wm (l:=a) (k:=b) (s:=4) h;have f:(oC a b 4).1<4294967296:=Int.lt_of_lt_of_le d.2 (by decide);unfold zcv;obtain⟨e,g,l,m⟩:∃e g l,oC a b 4=(e,g,l):=⟨_,_,_,rfl⟩;rw[m]at j d f⊢;dsimp only at j d f⊢;have a:=fun c=>aj (KG e c d.1 f);obtain⟨c,b⟩:=exq (lJ e);obtain⟨g,c⟩:=exq (qN e);rw[b,c]at a⊢;clear m b c d f k h;go_enter func168,ntmps168;go_wp2_with fail;refine mB j.o fun c b=>?_;have c:=aj b;clear b;go_wp2_with fail;refine mB ((a _).o) ?_;rintro a rfl;go_wp2;go_ret2;exact⟨rfl,c.o⟩
structure vk (w:aB) (B:Nat×Nat) (r g:Nat) (cu:Cu):Prop where
 a:∃l k,cu.r=l.drop k∧UW w B r g l k cu.b∧gZ l∧l.length≤1000000
def UW.e {e f:aB} {a:Nat×Nat} {b g:Nat} {h:List Int} {i:Nat} {j:Bool} {c:List Nat} (d:UW e a b g h i j) (k:bg c e f) (hF:∀e∈c,pO a e) (e:b∉c):UW f a b g h i j:=⟨d.b.g k e,d.a.f k hF,d.c⟩
def vk.b {c d:aB} {a:Nat×Nat} {b e:Nat} {f:Cu} {F:List Nat} (g:vk c a b e f) (h:bg F c d) (hF:∀c∈F,pO a c) (c:b∉F):vk d a b e f:=by obtain⟨a,b,d,e,f⟩:=g.a;exact⟨a,b,d,e.e h hF c,f⟩
def FI (a:List Int) (b c:Nat) (d:Bool) (e:b≤a.length):Cu.a ⟨a.drop b,d⟩ c=((oC a b c).1,⟨a.drop (oC a b c).2.1,d||(oC a b c).2.2⟩):=by
 unfold Cu.a oC;rw[bT];by_cases d:c≤a.length-b
 ·rw[aL Y0,aP d,List.drop_drop,Bool.or_false]
 ·rw[aP Y0,aL d,Bool.or_true]
def rY (g:Nat×Nat) (c d:Nat) (a:Cu) (b:Nat) (e:aB) (n:vk e g c d a) (o:1≤b) (p:b≤4):
  aF au 125 #[qp c,b] e fun j h=>j=av (J U (a.a b).1)∧vk h g c d (a.a b).2∧bg [d,c] e h:=by
 obtain⟨f,i,q,k,l,m⟩:=n.a;have n:a=⟨f.drop i,a.b⟩:=by rw[←q]
 refine(FH g c d f i b a.b e k m o p l).mono ?_;rintro j h ⟨c,d,e⟩;rw[n,FI f i b a.b k.a.e];exact⟨c,⟨f,_,rfl,d,l,m⟩,e⟩
def vo (f:Nat×Nat) (b c:Nat) (a:Cu) (d:aB) (m:vk d f b c a):
  aF au 168 #[qp b] d fun i g=>i=av (aN #[J U (lJ (a.a 4).1),aO (qN (a.a 4).1)])∧vk g f b c (a.a 4).2∧bg [c,b] d g:=by
 obtain⟨e,h,n,j,k,l⟩:=m.a;have m:a=⟨e.drop h,a.b⟩:=by rw[←n]
 refine(zcw f b c e h a.b d j l k).mono ?_;rintro i g ⟨b,c,d⟩;rw[m,FI e h 4 a.b j.a.e];exact⟨b,⟨e,_,rfl,c,k,l⟩,d⟩
def OQ (a:Fr):Array aI:=(qf a O 0 0 O 0 0)
structure zT (w:aB) (B:Nat×Nat) (r g fb:Nat) (f:Fr) (cu:Cu):Prop where
 b:vk w B r g cu
 a:bH w fb 137 (OQ f)
 e:pO B fb
 h:fb≠r
def vk.c {d:aB} {a:Nat×Nat} {b c:Nat} {e:Cu} (f:vk d a b c e):¬pO a c∧pO a b:=by obtain⟨b,c,d,a,e⟩:=f.a;exact⟨a.a.a,a.c⟩
def zT.c {g d:aB} {e:Nat×Nat} {b c h:Nat} {i:Fr} {f j:Cu} (a:zT g e b c h i f) (f:vk d e b c j) (k:bg [c,b] g d):zT d e b c h i j:=by
 refine⟨f,a.a.g k (fun b=>?_),a.e,a.h⟩;have f:=a.b.c;have c:=a.e;have d:=a.h;simp at b;rcases b with a|a
 ·rw[a]at c;exact f.1 c
 ·exact d a
def zT.d {e:aB} {f:Nat×Nat} {g h b:Nat} {i f':Fr} {j:Cu} (a:zT e f g h b i j) (c:Nat) (d:aI) (k:(OQ i).setIfInBounds c d=OQ f'):zT (e.setCell ⟨b,c,O⟩ d) f g h b f' j:=by refine⟨a.b.b (bg.e (F:=[b]) e (p:=⟨b,c,O⟩) (aC.2 rfl) d) (fun e b=>by rw[aC.1 b];exact a.e) (fun b=>a.h (aC.1 b).symm),?_,a.e,a.h⟩;rw[←k];exact a.a.f c d
def kJ {c b:aB} {d e a i:Nat} {v:aI} (f:bg [d,e,a] c b):bg [d,e,a] c (b.setCell ⟨a,i,O⟩ v):=f.a (bg.e (F:=[a]) b (p:=⟨a,i,O⟩) (aC.2 rfl) v) (fun b a=>.inl (by rw[aC.1 a];simp))
def KM {d e f:aB} {b c g:Nat} (a:bg [b,c,g] d e) (i:bg [b,c] e f):bg [b,c,g] d f:=a.a i (fun j h=>.inl (by simp at h⊢;rcases h with a|a<;>simp[a]))
def xA (g:Nat×Nat) (a b j:Nat) (l:Fr) (e:Cu) (c:aB) (q:zT c g a b j l e):
  aF au 167 #[qp a,qp j] c fun f d=>f=av (aN #[])∧zT d g a b j (kY l e).1 (kY l e).2∧bg [b,a,j] c d:=by have m:Y (∀c,vk c g a b e→aF au 168 #[qp a] c fun f d=>f=av (aN #[J U (lJ (e.a 4).1),aO (qN (e.a 4).1)])∧Y (vk d g a b (e.a 4).2∧bg [b,a] c d)):=aj fun c o=>(vo g a b e c o).mono fun f d h=>⟨h.1,aj h.2⟩;unfold kY;obtain⟨i,k,r⟩:∃i n,e.a 4=(i,n):=⟨_,_,rfl⟩;rw[r]at m⊢;dsimp only at m⊢;have p:Y (∀c,vk c g a b k→aF au 125 #[qp a,J U 1] c fun f d=>f=av (J U (k.a 1).1)∧Y (vk d g a b (k.a 1).2∧bg [b,a] c d)):=aj fun c o=>(rY g a b k 1 c o Y2 Y2).mono fun f d h=>⟨h.1,aj h.2⟩;obtain⟨w,c,d⟩:∃i n,k.a 1=(i,n):=⟨_,_,rfl⟩;rw[d]at p⊢;dsimp only at p⊢;obtain⟨c,g⟩:=exq (lJ i);obtain⟨e,k⟩:=exq (qN i);rw[g,k]at m⊢;have x:=aj q;clear r d g k q;obtain⟨g,i,k,o,q,r,y,d,B,s,t,u,v⟩:=l;go_enter func167,ntmps167;go_wp2_with fail;refine mB (m.o _ x.o.b) fun d l=>?_;have d:=aj (x.o.c l.o.1 l.o.2);have C:=d.o.a.c;have m:=d.o.a.a 6;have x:=d.o.a.a 7;have z:=d.o.a.a 8;simp[OQ]at m x z;go_wp2_with fail;have A:=aj ((d.o.d (f':=⟨g,i,k,o,q,r,y,c,B,s,t,u,v⟩) 7 (J U c) rfl).d (f':=⟨g,i,k,o,q,r,y,c,e,s,t,u,v⟩) 8 (aO e) rfl);have y:=aj (kJ (i:=8) (v:=aO e) (kJ (i:=7) (v:=J U c) (l.o.2.g (F1:=[b,a,j]) (fun n d=>.inl (by simp at d⊢;rcases d with h|h<;>simp[h])))));refine mB (p.o _ A.o.b) fun b a=>?_;have b:=aj (A.o.c a.o.1 a.o.2);have d:=b.o.a.c;have d:=b.o.a.a 6;simp[OQ]at d;clear C m x z;go_wp2;go_end0;exact⟨rfl,b.o.d (f':=⟨g,i,k,o,q,r,w,c,e,s,t,u,v⟩) 6 (J U w) rfl,kJ (KM y.o a.o.2)⟩
def kK (g:aB) (h:Nat×Nat) (a b c:Nat) (d:Fr) (e:Cu) (i:Ending) (f:aB):Prop:=i=av (aN #[])∧zT f h a b c (eO d e).1 (eO d e).2∧bg [b,a,c] g f
def vv {b c:aB} {d e fb:Nat} (a:bg [d,e] b c):bg [d,e,fb] b c:=a.g (fun g f=>.inl (by simp at f⊢;rcases f with a|a<;>simp[a]))
def zaP (f:Nat×Nat) (b d v:Nat) (k l m n o p q x r:Int) (s:List Int) (t:List (Int×Int)) (u:Bool) (a:Cu) (w:aB) (y:zT w f b d v ⟨3,k,l,m,s,t,n,o,u,p,q,x,r⟩ a):
  aF au 126 #[qp b,qp v] w (kK w f b d v ⟨3,k,l,m,s,t,n,o,u,p,q,x,r⟩ a):=by
 have G:Y (∀a c,vk c f b d a→aF au 168 #[qp b] c fun j g=>j=av (aN #[J U (lJ (a.a 4).1),aO (qN (a.a 4).1)])∧Y (vk g f b d (a.a 4).2∧bg [d,b] c g)):=aj fun a c z=>(vo f b d a c z).mono fun j g h=>⟨h.1,aj h.2⟩;have H:Y (∀a c,vk c f b d a→aF au 125 #[qp b,J U 4] c fun j g=>j=av (J U (a.a 4).1)∧Y (vk g f b d (a.a 4).2∧bg [d,b] c g)):=aj fun a c z=>(rY f b d a 4 c z (by decide) (by decide)).mono fun j g h=>⟨h.1,aj h.2⟩;have A:Y (∀e i,a.a 4=(e,i)→eO ⟨3,k,l,m,s,t,n,o,u,p,q,x,r⟩ a=(⟨3,k,l,m,s,t,n,o,u,p,q,e,r⟩,i)):=aj fun e i h=>by show((_:Fr),_)=_;rw[h]
 have B:=aj (G.o a);have C:=aj (H.o a);obtain⟨e,i,D⟩:∃e i,a.a 4=(e,i):=⟨_,_,rfl⟩;rw[D]at B C;dsimp only at B C;replace A:=aj (A.o e i D);clear G H D B;have I:=aj y;have K:w.cell? ⟨v,0,O⟩=R (J U 3):=y.a.a 0;clear y;go_enter func126,ntmps126;go_wp2_with fail;refine(C.o _ I.o.b).mono ?_;rintro j M ⟨rfl,E⟩;have F:=aj (I.o.c E.o.1 E.o.2);have N:=F.o.a.c;have L:=F.o.a.a 11;simp[OQ]at L;clear K;go_wp2_with fail;go_end0;refine⟨rfl,?_,kJ (vv E.o.2)⟩;rw[A.o];exact F.o.d (f':=⟨3,k,l,m,s,t,n,o,u,p,q,e,r⟩) 11 (J U e) rfl
def zaQ (f:Nat×Nat) (b d x:Nat) (l m n o p A q r s:Int) (t:List Int) (u:List (Int×Int)) (v:Bool) (a:Cu) (y:aB) (B:zT y f b d x ⟨5,l,m,n,t,u,o,p,v,A,q,r,s⟩ a):
  aF au 126 #[qp b,qp x] y (kK y f b d x ⟨5,l,m,n,t,u,o,p,v,A,q,r,s⟩ a):=by
 have I:Y (∀a c,vk c f b d a→aF au 168 #[qp b] c fun k g=>k=av (aN #[J U (lJ (a.a 4).1),aO (qN (a.a 4).1)])∧Y (vk g f b d (a.a 4).2∧bg [d,b] c g)):=aj fun a c C=>(vo f b d a c C).mono fun k g h=>⟨h.1,aj h.2⟩;have K:Y (∀a c,vk c f b d a→aF au 125 #[qp b,J U 4] c fun k g=>k=av (J U (a.a 4).1)∧Y (vk g f b d (a.a 4).2∧bg [d,b] c g)):=aj fun a c C=>(rY f b d a 4 c C (by decide) (by decide)).mono fun k g h=>⟨h.1,aj h.2⟩;have D:Y (∀e i j,a.a 4=(e,i)→lJ e=j→eO ⟨5,l,m,n,t,u,o,p,v,A,q,r,s⟩ a=(⟨5,l,m,n,t,u,o,p,v,j,q,r,s⟩,i)):=aj fun e i j h w=>by show((_:Fr),_)=_;rw[h,w]
 have z:=aj (I.o a);have E:=aj (K.o a);obtain⟨e,i,F⟩:∃e i,a.a 4=(e,i):=⟨_,_,rfl⟩;rw[F]at z E;dsimp only at z E;obtain⟨j,w⟩:=exq (lJ e);obtain⟨Q,L⟩:=exq (qN e);rw[w,L]at z;replace D:=aj (D.o e i j F w);clear I K F w L E;have M:=aj B;have N:y.cell? ⟨x,0,O⟩=R (J U 5):=B.a.a 0;clear B;go_enter func126,ntmps126;go_wp2_with fail;refine(z.o _ M.o.b).mono ?_;rintro k S ⟨rfl,G⟩;have H:=aj (M.o.c G.o.1 G.o.2);have T:=H.o.a.c;have P:=H.o.a.a 9;simp[OQ]at P;clear N;go_wp2_with fail;go_end0;refine⟨rfl,?_,kJ (vv G.o.2)⟩;rw[D.o];exact H.o.d (f':=⟨5,l,m,n,t,u,o,p,v,j,q,r,s⟩) 9 (J U j) rfl
def zaR (f:Nat×Nat) (b d x:Nat) (l m n o p q r s A:Int) (t:List Int) (u:List (Int×Int)) (v:Bool) (a:Cu) (y:aB) (B:zT y f b d x ⟨8,l,m,n,t,u,o,p,v,q,r,s,A⟩ a):
  aF au 126 #[qp b,qp x] y (kK y f b d x ⟨8,l,m,n,t,u,o,p,v,q,r,s,A⟩ a):=by
 have I:Y (∀a c,vk c f b d a→aF au 168 #[qp b] c fun k g=>k=av (aN #[J U (lJ (a.a 4).1),aO (qN (a.a 4).1)])∧Y (vk g f b d (a.a 4).2∧bg [d,b] c g)):=aj fun a c C=>(vo f b d a c C).mono fun k g h=>⟨h.1,aj h.2⟩;have K:Y (∀a c,vk c f b d a→aF au 125 #[qp b,J U 4] c fun k g=>k=av (J U (a.a 4).1)∧Y (vk g f b d (a.a 4).2∧bg [d,b] c g)):=aj fun a c C=>(rY f b d a 4 c C (by decide) (by decide)).mono fun k g h=>⟨h.1,aj h.2⟩;have D:Y (∀e i j,a.a 4=(e,i)→lJ e=j→eO ⟨8,l,m,n,t,u,o,p,v,q,r,s,A⟩ a=(⟨8,l,m,n,t,u,o,p,v,q,r,s,j⟩,i)):=aj fun e i j h w=>by show((_:Fr),_)=_;rw[h,w]
 have z:=aj (I.o a);have E:=aj (K.o a);obtain⟨e,i,F⟩:∃e i,a.a 4=(e,i):=⟨_,_,rfl⟩;rw[F]at z E;dsimp only at z E;obtain⟨j,w⟩:=exq (lJ e);obtain⟨Q,L⟩:=exq (qN e);rw[w,L]at z;replace D:=aj (D.o e i j F w);clear I K F w L E;have M:=aj B;have N:y.cell? ⟨x,0,O⟩=R (J U 8):=B.a.a 0;clear B;go_enter func126,ntmps126;go_wp2_with fail;refine(z.o _ M.o.b).mono ?_;rintro k S ⟨rfl,G⟩;have H:=aj (M.o.c G.o.1 G.o.2);have T:=H.o.a.c;have P:=H.o.a.a 12;simp[OQ]at P;clear N;go_wp2_with fail;go_end0;refine⟨rfl,?_,kJ (vv G.o.2)⟩;rw[D.o];exact H.o.d (f':=⟨8,l,m,n,t,u,o,p,v,q,r,s,j⟩) 12 (J U j) rfl
def zaS (i:Nat×Nat) (b d x:Nat) (n o p q r s C z t:Int) (u:List Int) (v:List (Int×Int)) (w:Bool) (a:Cu) (A:aB) (D:zT A i b d x ⟨7,n,o,p,u,v,q,r,w,s,C,z,t⟩ a):
  aF au 126 #[qp b,qp x] A (kK A i b d x ⟨7,n,o,p,u,v,q,r,w,s,C,z,t⟩ a):=by
 have P:Y (∀a c,vk c i b d a→aF au 168 #[qp b] c fun j k=>j=av (aN #[J U (lJ (a.a 4).1),aO (qN (a.a 4).1)])∧Y (vk k i b d (a.a 4).2∧bg [d,b] c k)):=aj fun a c E=>(vo i b d a c E).mono fun j k l=>⟨l.1,aj l.2⟩;have Q:Y (∀a c,vk c i b d a→aF au 125 #[qp b,J U 4] c fun j k=>j=av (J U (a.a 4).1)∧Y (vk k i b d (a.a 4).2∧bg [d,b] c k)):=aj fun a c E=>(rY i b d a 4 c E (by decide) (by decide)).mono fun j k l=>⟨l.1,aj l.2⟩;have F:Y (∀e f g h m,a.a 4=(e,f)→lJ e=g→f.a 4=(h,m)→eO ⟨7,n,o,p,u,v,q,r,w,s,C,z,t⟩ a=(⟨7,n,o,p,u,v,q,r,w,s,g,h,t⟩,m)):=aj fun e f g h m l y X=>by show((_:Fr),_)=_;rw[l,y,X]
 have B:=aj (P.o a);obtain⟨e,f,G⟩:∃e f,a.a 4=(e,f):=⟨_,_,rfl⟩;rw[G]at B;dsimp only at B;have H:=aj (Q.o f);obtain⟨h,m,I⟩:∃h m,f.a 4=(h,m):=⟨_,_,rfl⟩;rw[I]at H;dsimp only at H;obtain⟨g,y⟩:=exq (lJ e);obtain⟨tb,S⟩:=exq (qN e);rw[y,S]at B;replace F:=aj (F.o e f g h m G y I);clear P Q G y S I;have T:=aj D;have d0:A.cell? ⟨x,0,O⟩=R (J U 7):=D.a.a 0;clear D;go_enter func126,ntmps126;go_wp2_with fail;refine(B.o _ T.o.b).mono ?_;rintro j w1 ⟨rfl,K⟩;have L:=aj (T.o.c K.o.1 K.o.2);have gf:=L.o.a.c;have V:=L.o.a.a 10;simp[OQ]at V;clear d0;go_wp2_with fail;have W:=aj (L.o.d (f':=⟨7,n,o,p,u,v,q,r,w,s,g,z,t⟩) 10 (J U g) rfl);have O2:=aj (kJ (i:=10) (v:=J U g) (vv (fb:=x) K.o.2));refine(H.o _ W.o.b).mono ?_;rintro j w2 ⟨rfl,M⟩;have N:=aj (W.o.c M.o.1 M.o.2);have a0:=N.o.a.c;have e6:=N.o.a.a 11;simp[OQ]at e6;clear gf V;go_wp2_with fail;go_end0;refine⟨rfl,?_,kJ (KM O2.o M.o.2)⟩;rw[F.o];exact N.o.d (f':=⟨7,n,o,p,u,v,q,r,w,s,g,h,t⟩) 11 (J U h) rfl
def zaT (q:Nat×Nat) (b c a:Nat) (d e f g h i j k l:Int) (m:List Int) (n:List (Int×Int)) (o:Bool) (p:Cu) (s:aB) (u:zT s q b c a ⟨2,d,e,f,m,n,g,h,o,i,j,k,l⟩ p):
  aF au 126 #[qp b,qp a] s (kK s q b c a ⟨2,d,e,f,m,n,g,h,o,i,j,k,l⟩ p):=by have y:Y (∀r,zT r q b c a ⟨2,d,e,f,m,n,g,h,o,i,j,k,l⟩ p→aF au 167 #[qp b,qp a] r fun v w=>v=av (aN #[])∧Y (zT w q b c a (kY ⟨2,d,e,f,m,n,g,h,o,i,j,k,l⟩ p).1 (kY ⟨2,d,e,f,m,n,g,h,o,i,j,k,l⟩ p).2∧bg [c,b,a] r w)):=aj fun r t=>(xA q b c a ⟨2,d,e,f,m,n,g,h,o,i,j,k,l⟩ p r t).mono fun v w t=>⟨t.1,aj t.2⟩;have z:=aj u;have A:s.cell? ⟨a,0,O⟩=R (J U 2):=u.a.a 0;clear u;go_enter func126,ntmps126;go_wp2_with fail;refine(y.o _ z.o).mono ?_;rintro v B ⟨rfl,x⟩;go_wp2_with fail;go_end0;exact⟨rfl,x.o.1,x.o.2⟩
def zaU (u:Nat×Nat) (q t d:Nat) (a e f g h i j k l:Int) (m:List Int) (n:List (Int×Int)) (o:Bool) (p:Cu) (c:aB) (v:zT c u q t d ⟨1,a,e,f,m,n,g,h,o,i,j,k,l⟩ p) (E:a≤9223372036854775807):
  aF au 126 #[qp q,qp d] c (kK c u q t d ⟨1,a,e,f,m,n,g,h,o,i,j,k,l⟩ p):=by
 have F:Y (∀r,zT r u q t d ⟨1,a,e,f,m,n,g,h,o,i,j,k,l⟩ p→aF au 167 #[qp q,qp d] r fun w x=>w=av (aN #[])∧Y (zT x u q t d (kY ⟨1,a,e,f,m,n,g,h,o,i,j,k,l⟩ p).1 (kY ⟨1,a,e,f,m,n,g,h,o,i,j,k,l⟩ p).2∧bg [t,q,d] r x)):=aj fun r b=>(xA u q t d ⟨1,a,e,f,m,n,g,h,o,i,j,k,l⟩ p r b).mono fun w x b=>⟨b.1,aj b.2⟩;have y:=aj v;have H:c.cell? ⟨d,0,O⟩=R (J U 1):=v.a.a 0;have I:c.cell? ⟨d,1,O⟩=R (J U a):=v.a.a 1;have A:=fun r=>aj (mF 1 a 32 r E);obtain⟨C,B⟩:=exq (zbX 1 a 32);have z:Y (eO ⟨1,a,e,f,m,n,g,h,o,i,j,k,l⟩ p=if C=true then kY ⟨1,a,e,f,m,n,g,h,o,i,j,k,l⟩ p else(⟨1,a,e,f,m,n,g,h,o,i,j,k,l⟩,p)):=aj (by rw[←B];rfl);rw[B]at A;clear B;cases C
 ·rw[aL (by decide)]at z;clear v;go_enter func126,ntmps126;go_wp2_with fail;go_quiet (first|exact Calls.quiet_of_same ((A _).o.mono fun w x b=>⟨b.1,b.2.symm⟩));go_wp2_with fail;go_end0;refine⟨rfl,?_,bg.j c _⟩;rw[z.o];exact y.o.c (y.o.b.b (F:=[]) (bg.j c _) (fun G s=>nomatch s) (fun s=>nomatch s)) (bg.j c _)
 ·rw[aP rfl]at z;clear v;go_enter func126,ntmps126;go_wp2_with fail;go_quiet (first|exact Calls.quiet_of_same ((A _).o.mono fun w x b=>⟨b.1,b.2.symm⟩));go_wp2_with fail;refine(F.o _ (y.o.c (y.o.b.b (F:=[]) (bg.j c nq) (fun G s=>nomatch s) (fun s=>nomatch s)) (bg.j c nq))).mono ?_;rintro w K ⟨rfl,D⟩;go_wp2_with fail;go_end0;refine⟨rfl,?_,(bg.j c nq).a D.o.2 (fun _ b=>.inl b)⟩;rw[z.o];exact D.o.1
def zaV (g:Nat×Nat) (e h b:Nat) (a:Fr) (c:Cu) (d:aB) (f:zT d g e h b a c) (i:(a.a==1)=false) (j:(a.a==2)=false) (k:(a.a==3)=false) (l:(a.a==5)=false) (m:(a.a==7)=false) (n:(a.a==8)=false):
  aF au 126 #[qp e,qp b] d (kK d g e h b a c):=by
 have e:=aj f;have g:Y (eO a c=(a,c)):=aj (by unfold eO;rw[i,j,k,l,m,n];rfl);obtain⟨h,c⟩:=exq a.a;have a:d.cell? ⟨b,0,O⟩=R (J U h):=by rw[←c];exact f.a.a 0
 rw[c]at i j k l m n;clear f c;go_enter func126,ntmps126;go_wp2;go_end0;refine⟨rfl,?_,bg.o _ _⟩;rw[g.o];exact e.o
def Rq (f:Nat×Nat) (b g d:Nat) (c:Fr) (h:Cu) (e:aB) (a:zT e f b g d c h) (i:c.d≤9223372036854775807):
  aF au 126 #[qp b,qp d] e (kK e f b g d c h):=by
 obtain⟨b,d,e,f,g,h,j,k,l,m,n,o,p⟩:=c;by_cases c:b=1
 ·subst c;exact zaU _ _ _ _ _ _ _ _ _ _ _ _ _ _ _ _ _ _ a i
 by_cases d:b=2
 ·subst d;exact zaT _ _ _ _ _ _ _ _ _ _ _ _ _ _ _ _ _ _ a
 by_cases e:b=3
 ·subst e;exact zaP _ _ _ _ _ _ _ _ _ _ _ _ _ _ _ _ _ _ a
 by_cases f:b=5
 ·subst f;exact zaQ _ _ _ _ _ _ _ _ _ _ _ _ _ _ _ _ _ _ a
 by_cases g:b=7
 ·subst g;exact zaS _ _ _ _ _ _ _ _ _ _ _ _ _ _ _ _ _ _ a
 by_cases h:b=8
 ·subst h;exact zaR _ _ _ _ _ _ _ _ _ _ _ _ _ _ _ _ _ _ a
 exact zaV _ _ _ _ _ _ _ a (aM.2 c) (aM.2 d) (aM.2 e) (aM.2 f) (aM.2 g) (aM.2 h)
def bN (a:List (Int×Int)):List aI:=a.flatMap fun a=>[J U a.1,J U a.2]
def nk (a:List (Int×Int)):(bN a).length=a.length*2:=by
 unfold bN;induction a with
 |nil=>rfl
 |cons b c a=>simp[a];omega
def dz {a:aB} {b c:Nat} {d:bB} {e:Nat} {f:aI} {g:Nat} {h:List aI} (i:a.ownsRow c d e f g h) (j:b≤c):a.ownsRow b d e f g h:=by
 refine⟨i.1,?_⟩;rcases i.2 with a|⟨b,c,d,e,f,g⟩
 ·exact .inl a
 ·exact .inr ⟨b,c,d,e,aR j f,g⟩
def wu:∀(c:Nat) (b:List Int),b.length=6*c→(eX b).length=c
 |0,b,a=>by
  have:b=[]:=List.length_eq_zero_iff.1 Y0
  subst this;rfl
 |c+1,b,a=>by
  match b,a with
  |d::e::f::g::h::i::b,a=>
   simp only[eX,List.length_cons]
   rw[wu c b (by simp at a;omega)]
  |[],a=>simp at a
  |[_],a=>simp at a;omega
  |[_,_],a=>simp at a;omega
  |[_,_,_],a=>simp at a;omega
  |[_,_,_,_],a=>simp at a;omega
  |[_,_,_,_,_],a=>simp at a;omega
def BH:∀(d b:Nat) (c:List Int),c.length=6*d→b<d→(eX c)[b]?=R (uQ ((c.drop (6*b)).take 2),uQ ((c.drop (6*b+2)).take 4))
 |0,b,c,a,e=>Y0
 |d+1,b,c,a,e=>by
  match c,a with
  |e::f::g::h::i::j::c,a=>
   cases b with
   |zero=>simp[eX]
   |succ b=>
    simp only[eX,List.getElem?_cons_succ]
    rw[BH d b c (by simp at a;omega) Y0,show 6*(b+1)=6*b+1+1+1+1+1+1 by omega]
    simp
  |[],a=>simp at a
  |[_],a=>simp at a;omega
  |[_,_],a=>simp at a;omega
  |[_,_,_],a=>simp at a;omega
  |[_,_,_,_],a=>simp at a;omega
  |[_,_,_,_,_],a=>simp at a;omega
def CX (a:List (Int×Int)) (b:aB) (f:Ending) (c:aB):Prop:=∃d e,f=av (aN #[Z d a.length e,J U 0])∧c.ownsRow b 252 2 (Z d a.length e) a.length (bN a)∧aJ b b c
def Nq (d:Option aX) (a s:Nat) (b:List Int) (e:aB) (h:Nat) (f:b.length=a) (t:a≤1000000) (g:a=6*h) (i:d=O→a=0) (j:bU e d (dP b)) (c:gZ b):
  aF au 128 #[Z d a s] e (CX (eX b) e):=by
 have l:=aj (tZ d a s b e f t i j);have u:=aj f;have C:=aj c;have d:Int.tmod (a:Int) 6=0:=by rw[Int.tmod_eq_emod_of_nonneg Y0,g];omega
 have D:=aj (wu h b Y0);have H:Y (∀a,a<h→(eX b)[a]?=R (uQ ((b.drop (6*a)).take 2),uQ ((b.drop (6*a+2)).take 4))):=aj fun a k=>BH h a b Y0 k;have z:=aj g;have d:h≤166667:=Y0;clear f j i c g;go_enter func128,ntmps128;go_wp2_with fail;refine l.o.mono ?_;rintro g m ⟨d,rfl,I,f,j⟩;obtain⟨o,i⟩:∃o,o=(e.heap.size,m.heap.size):=⟨_,rfl⟩;rw[←i]at f;have K:=aj i;have L:d<m.heap.size:=by obtain⟨_,_,q,_⟩:=f.d;exact q.e
 clear i;have l:=aj f;have w:=aj j;clear f j;go_wp2;go_loopw [5] (fun e wr=>∃(a:Nat) (i:Option aX) (j:Nat),a≤h∧e=Z i a j∧Y (gH wr o d b (6*a)∧wr.ownsRow m 252 2 (Z i a j) a (bN ((eX b).take a))∧bg [d] m wr)) (fun e _=>h- (match e with|Z _ x _=>x|_=>0));case atStart=>exact⟨0,O,0,aZ _,rfl,aj ⟨l.o,by simpa[bN]using aT _ _ _ _,bg.o _ _⟩⟩
 case round=>
  obtain⟨a,i,j,k,rfl,p⟩:=hrel;obtain⟨v,y⟩:=exq (b.length-6*a);have E:Y (aF au 127 #[qp d] wr fun g n=>g=av (J U (v:Nat))∧∃r,n=wr.drewN r):=aj (by rw[←y];exact zS d b (6*a) _ wr (aj p.o.1) (by rw[u.o];exact t));have F:v=6*(h-a):=by have:=u.o;have:=z.o;omega
  by_cases G:a<h
  ·have e:0<v:=Y0;obtain⟨k,z⟩:=exq (uQ ((b.drop (6*a)).take 2));obtain⟨l,A⟩:=exq (uQ ((b.drop (6*a+2)).take 4));have M:Y (∀f,gH f o d b (6*a)→aF au 164 #[qp d,J U 2] f fun g n=>g=av (aN #[k,J U 0])∧Y (gH n o d b (6*a+2)∧bg [d] f n)):=aj fun f B=>by refine(jN d b (6*a) _ 2 f (aj B) (by rw[u.o];exact t) Y2 Y2 C.o).mono fun g n e=>?_;unfold jH at e;rw[aP Y0,z]at e;exact⟨e.1,aj e.2⟩
   have N:Y (∀f,gH f o d b (6*a+2)→aF au 164 #[qp d,J U 4] f fun g n=>g=av (aN #[l,J U 0])∧Y (gH n o d b (6*a+2+4)∧bg [d] f n)):=aj fun f B=>by refine(jN d b (6*a+2) _ 4 f (aj B) (by rw[u.o];exact t) Y2 Y2 C.o).mono fun g n e=>?_;unfold jH at e;rw[aP Y0,A]at e;exact⟨e.1,aj e.2⟩
   have P:Y (bN ((eX b).take (a+1))=bN ((eX b).take a)++[J U k,J U l]):=aj (by have q:=H.o a G;rw[List.take_add_one,q,z,A];simp[bN])
   clear y F z A;go_wp2_with fail;refine mB E.o ?_;rintro Q ⟨r,rfl⟩;go_wp2_with fail;refine mB (M.o _ (p.o.1.h r)) fun n f=>?_;go_wp2_with fail;refine mB (N.o _ f.o.1) fun n z=>?_;have u:Y (bg [d] wr n):=aj (((bg.j wr r).a f.o.2 (fun _ e=>.inl e)).a z.o.2 (fun _ e=>.inl e));have H:Y ((n.alloc (.cells #[k,l] 252)).ownsRow m 252 2 (Z i a j) a (bN ((eX b).take a))):=aj (dF (bO p.o.2.1 u.o (fun f c t=>by have q:=(p.o.2.1.lt f c).1;have A:=L;have B:=aC.1 t;omega)) ((ay _ _).alloc (aD _) _))
   have L:Y (bU (n.alloc (.cells #[k,l] 252)) (R ⟨n,0,O⟩) [J U k,J U l]):=aj (fun x B t=>⟨_,_,rfl,by have:=(bH.d n 252 #[k,l]).a x;rw[cK];refine Eq.trans this ?_;rw[←t];exact List.getElem?_toArray⟩)
   have M:m.heap.size≤(n.alloc (.cells #[k,l] 252)).heap.size:=by have q:=p.o.2.2.b;have A:=u.o.b;simp;omega
   go_wp2_with (at_builtin;go_loud (refine fK rfl (.tmp 29) (.tmp 33) 135 rfl m.heap.size 252 2 Kl rfl Y2 underlying135 (Z i a j) a (bN ((eX b).take a)) rfl H.o (R ⟨n,0,O⟩) 1 1 [J U k,J U l] rfl rfl (fun e=>nomatch e) L.o (by simp[Value.oneCell']) (by unfold maxLen;omega) Y0 M ?_));intro x A t B C;have L:Y (gH t o d b (6*(a+1))∧t.ownsRow m 252 2 (Z x (a+1) A) (a+1) (bN ((eX b).take (a+1)))∧bg [d] m t):=aj (by
    have M:∀f,(Z i a j).ownBlock=R f→f∈(Z i a j).ownBlock.toList∨(n.alloc (.cells #[k,l] 252)).heap.size≤f:=fun f c=>.inl (by rw[c];simp);have H:=bg.k C M;have t:∀f∈(Z i a j).ownBlock.toList,m.heap.size≤f:=fun f c=>by
     cases hv:(Z i a j).ownBlock with
     |none=>rw[hv]at c;simp at c
     |some s=>rw[hv]at c;simp at c;rw[c];exact(p.o.2.1.lt s hv).1
    have m:gH (n.alloc (.cells #[k,l] 252)) o d b (6*a+2+4):=gH.f (F:=[]) z.o.1 (bg.n _ _) (fun f c=>nomatch c);refine⟨?_,by rw[P.o];exact B,?_⟩
    ·have:=m.f H (fun f c=>by rw[K.o];exact .inr (t f c));rw[show 6*(a+1)=6*a+2+4 by omega];exact this
    ·exact((p.o.2.2.a u.o (fun _ e=>.inl e)).a (bg.n (F:=[d]) _ _) (fun _ e=>.inl e)).a H (fun f c=>.inr (t f c)))
   clear B C;go_wp2;go_roundw;case rel=>exact⟨a+1,x,A,Y0,rfl,L⟩
   case measure=>simp;omega
  ·have d:a=h:=Y0;subst d;have d:v=0:=Y0;subst d;clear y F G;go_wp2_with fail;refine mB E.o ?_;rintro Q ⟨r,rfl⟩;go_wp2;go_ret2;have d:=bW (l:=eX b) (i:=a) (by rw[D.o];omega);have q:=p.o.2.1;rw[d]at q;unfold CX;rw[D.o];exact⟨i,j,rfl,dz (nX q r) w.o.size,bI (w.o.trans (p.o.2.2.c w.o.size (fun f c=>by rw[aC.1 c];exact I))) r⟩
def zbz (b:List Vl):∀a∈gF b,a.oneCell'=true:=fun a b=>by
 obtain⟨c,_,a⟩:=List.mem_flatMap.1 b
 simp[xO]at a
 rcases a with rfl|rfl|rfl|rfl|rfl|rfl<;>rfl
def vw (d:Option aX) (a c:Nat) (e:List Vl) (b:aB) (f:e.length=a) (f:a≤1000000) (f:d=O→a=0) (g:zA d) (h:bU b d (gF e)):aF au 96 #[Z d a c] b (jm 213 6 a (gF e) b):=
 oz CF Y2 (fun a c b=>AnyE.slices_Clone_nil Tryz.lc96 a c b) (fun i j a c k b l m n o p=>by
  obtain⟨q,r,s,t,u⟩:=info_parts CF
  exact AnyE.slices_Clone Tryz.lc96 q _ 6 48 r s t u rfl Y2 Tryz.sizeOf213 i j a c k b l m n o p) d a c (gF e) b (by rw[AL];omega) Y0 Y0 f g h (zbz e)
def FK (a:List Vl) (b:Nat):(gF a).drop (b*6)=gF (a.drop b):=by
 induction b generalizing a with
 |zero=>simp
 |succ b c=>
  cases a with
  |nil=>simp[gF]
  |cons d a=>rw[List.drop_succ_cons,←c a];unfold gF;rw[List.flatMap_cons,show(b+1)*6=6+b*6 by omega,←List.drop_drop];rfl
def ZJ {c:aB} {a d b:Nat} {e:aI} {f:Option aI} (g:c.cell? ⟨a,b,O⟩=f) (h:d≠b):(c.setCell ⟨a,d,O⟩ e).cell? ⟨a,b,O⟩=f:=by exact(World.cell?_setCells_out a [e] d c ⟨a,b,O⟩ (fun _ _=>by simp;omega)).trans g
def Wp {d:Nat} {a:Qu} {f:List Nat} (b:aB) (c:Int) (e:xP b d a f) (f:c≤a.d):aF au 100 #[qp d,c] b fun d g=>d=av (aN #[])∧g=b:=by obtain⟨d,_,_⟩:=e.e;obtain⟨g,b⟩:=exq a.d;rw[b]at d f;have a:¬c>g:=Y0;clear e b f;go_enter func100,ntmps100;go_wp2_with fail;exact bodyPost_end (v:=aN #[]) (by simp[results,results100,go_sem]) rfl Y5
def zcx {e:Nat} {f:Qu} {o:List Nat} {F:Option aX} {d z:Nat} (c:aB) (a:Nat) (b:IG c e F d z f o) (hk:a<d) (h0:0<a) (u:d≤1000) (A:0≤f.d) (Q:f.d≤1000):
  aF au 100 #[qp e,J U (f.d+a)] c (QF e (f.i (f.d+a)) o c):=by
 have G:Y (∀h,aF au 97 #[qp e] (c.drewN h) fun q i=>q=av (Z F d z)∧i=c.drewN h):=aj fun h=>zq (c.drewN h) (aj (b.j (w':=c.drewN h) (bI (ay _ c) h))) (by omega);obtain⟨s,p,S⟩:=eu b.e (by omega);injection S with T e2 V;subst T;obtain rfl:p=z:=V.symm;have W:c.cell? ⟨e,1,O⟩=R (J U f.d):=b.a.a 1;obtain⟨j,v⟩:=exq f.d;rw[v]at W A Q⊢;have a0:¬(j+a≤j):=by omega
 have m:=aj b;have H:=aj v;have hw:U.wrap (j+a-j)=((a:Nat):Int):=by rw[bF _ (by omega)];omega
 have b0:=(fH b.e).2;have i1:(0:Int)≤(a:Int):=by omega
 have i2:(a:Int)≤(d:Int):=by omega
 have i3:(a:Int)≤(p:Int):=by omega
 have i5:¬p=a:=by omega
 have i4:(d:Int)≤(p:Int):=by omega
 have I:Y (∀h,aF au 96 #[Z (R ⟨s,a*6,O⟩) (d-a) (p-a)] (c.drewN h) fun q i=>∃k l,q=av (Z k (d-a) l)∧i.cell? ⟨e,1,O⟩=R (J U j)∧i.cell? ⟨e,0,O⟩=R (Z (R ⟨s,0,O⟩) d p)∧i.frozen? ⟨e,0,O⟩=false∧Y (i.ownsRow c 213 6 (Z k (d-a) l) (d-a) (gF (f.a.drop a))∧aJ c c i)):=aj fun h=>by
  have X:bU (c.drewN h) (R ⟨s,a*6,O⟩) (gF (f.a.drop a)):=fun c0 e0 K=>by refine⟨s,a*6,rfl,dG b.e ?_⟩;rw[←FK,List.getElem?_drop]at K;exact K
  refine(vw (R ⟨s,a*6,O⟩) (d-a) (p-a) (f.a.drop a) (c.drewN h) (by rw[bT,b.d]) (by omega) (fun b=>nomatch b) (fun f0 B=>by injection B with B;rw[←B]) X).mono ?_;rintro q i ⟨k,l,rfl,ho,hb⟩;have w:aJ c c i:=bG (bI (ay _ c) h) hb;exact⟨k,l,rfl,by rw[←v];exact(b.a.b w).a 1,(b.a.b w).a 0,(b.a.b w).c 0,aj ⟨ho,w⟩⟩
 clear b v;go_enter func100,ntmps100;go_wp2_with fail;go_region_held3 (fun i=>i.cell? ⟨e,1,O⟩=R (J U j)) (first|go_keep|exact ZJ (by assumption) (by decide)) (first|(go_at_call 97;refine(G.o _).mono ?_;rintro q w1 ⟨rfl,rfl⟩)|(go_at_call 96;refine(I.o _).mono ?_;rintro q L ⟨k,l,rfl,M,d0,N,t⟩));obtain⟨r,x⟩:=exq (L.setCell ⟨e,0,O⟩ (Z k (d-a) l));have C:Y (bH r e 195 #[Z k (d-a) l,j,f.c]):=aj (by rw[←x,←H.o];exact(m.o.a.b t.o.2).f 0 _);have D:Y (r.ownsRow c 213 6 (Z k (d-a) l) (d-a) (gF (f.a.drop a))∧bg o c r):=aj (by rw[←x];refine⟨ownsRow_setCell_other t.o.1 (fun b=>?_) _,(bg.d t.o.2).a (bg.e (F:=o) (p:=⟨e,0,O⟩) L m.o.g _) (fun _ b=>.inl b)⟩;have u:=t.o.1.lt e b;have A:=m.o.a.e;omega)
 rw[x];clear x d0 M N t I G;have N:=C.o.c;have M:=C.o.a 1;go_wp2_with fail;refine bodyPost_end (v:=aN #[]) (by simp[results,results100,go_sem]) rfl ?_;have P:bg o c (r.setCell ⟨e,1,O⟩ (J U (j+a))):=D.o.2.a (bg.e (F:=o) (p:=⟨e,1,O⟩) r m.o.g _) (fun _ b=>.inl b);have y:∀g,(Z k (d-a) l).ownBlock=R g→c.heap.size≤g∧g<r.heap.size∧g≠e:=fun g n=>by have u:=D.o.1.lt g n;have A:=m.o.a.e;exact⟨u.1,u.2,by omega⟩
 have E:f.i (j+a)=⟨f.a.drop a,j+a,f.c⟩:=by unfold Qu.i;rw[H.o,aP (by omega)];simp;congr 1;omega
 refine⟨(Z k (d-a) l).ownBlock.toList++o,rfl,.inl ⟨_,_,_,by rw[E];simp[m.o.d],?_,?_,fun g n=>⟨List.mem_append_left _ (bC.2 n),(y g n).2.2⟩,List.mem_append_right _ m.o.g,fun g n=>?_⟩,P,fun g n=>?_⟩
 ·rw[E];exact C.o.f 1 _
 ·rw[E];exact ownsRow_setCell_other (dz D.o.1 (aZ _)) (fun b=>(y e b).2.2 rfl) _
 ·rcases bK.1 n with b|b
  ·have:=(y g (bC.1 b)).2.1;simpa using this
  ·exact aV (m.o.h g b) P.b
 ·rcases bK.1 n with b|b
  ·exact .inr (y g (bC.1 b)).1
  ·exact .inl b
def FL {d:Nat} {a:Qu} {e:List Nat} {i:Option aX} {f j:Nat} (c:aB) (b:Int) (g:IG c d i f j a e) (o:b<a.d+f) (k:f≤1000) (l:0≤a.d) (m:a.d≤1000):
  aF au 100 #[qp d,b] c (QF d (a.i b) e c):=by
 by_cases n:b≤a.d
 ·refine(Wp c b (.inl ⟨_,_,_,g⟩) n).mono ?_;rintro p q ⟨rfl,rfl⟩;exact⟨e,rfl,by unfold Qu.i;rw[aL (by omega)];exact .inl ⟨_,_,_,g⟩,gG.e _ _⟩
 ·obtain⟨h,r⟩:=bR (show 0≤b-a.d by omega);obtain rfl:b=a.d+h:=by omega
  exact zcx c h g (by omega) (by omega) k l m
def zbA (c:Nat) (d:Qu) (e:List Nat) (f:aB) (g:Ending) (a:aB):Prop:=∃b,(∃h,g=av h)∧xP a c d.h b∧gG e b f a
def Wq {d:Nat} {a:Qu} {l:List Nat} (e:aB) (f:xP e d a l) (p:0<a.a.length) (b:a.a.length≤1000) (i:0≤a.d) (j:a.d≤1000) (r:0≤a.c) (h:a.c≤a.b):aF au 155 #[qp d] e (zbA d a l e):=by
 have q:=aj (Bv e f);have k:=aj (EP e f p b i j);have g:Y (a.a.length≤1000∧0≤a.d∧a.d≤1000∧a.b=a.d+a.a.length-1):=aj ⟨b,i,j,rfl⟩;obtain⟨c,m⟩:=exq a.c;obtain⟨n,o⟩:=exq a.b;unfold Yn at k;rw[m]at q r h;rw[o]at k g h;have h:Y (a.c=c∧a.b=n):=aj ⟨m,o⟩;clear f m o p b i j;go_enter func155,ntmps155;go_wp2_with fail;refine mB q.o ?_;rintro e rfl;go_wp2_with fail;refine k.o.mono ?_;rintro m i ⟨j,q,r,s,rfl,k,o⟩;have b:=aj k;have p:=aj o;clear k o;by_cases k:c=n
 ·subst k;go_wp2;go_ret;exact⟨j,⟨_,rfl⟩,by unfold Qu.h;rw[aP (by rw[h.o.1,h.o.2])];exact .inl ⟨_,_,_,b.o⟩,p.o⟩
 ·have o:=aM.2 k;have n:U.wrap (c+1)=c+1:=bF _ (by have:=g.o;omega);have n:i.cell? ⟨d,2,O⟩=R (J U c):=by rw[←h.o.1];exact b.o.a.a 2
  have n:=b.o.a.c 2;have n:Y (IG (i.setCell ⟨d,2,O⟩ (J U (c+1))) d q r s {a with c:=c+1} j):=aj ⟨b.o.d,b.o.a.f 2 _,ownsRow_setCell_other b.o.e (fun f=>(b.o.f d f).2 rfl) _,b.o.f,b.o.g,fun a o=>by simpa using b.o.h a o⟩;have a:=aj (FL (i.setCell ⟨d,2,O⟩ (J U (c+1))) (c+1) n.o (by have:=g.o;have:=b.o.d;dsimp only;omega) (by rw[←b.o.d];exact g.o.1) g.o.2.1 g.o.2.2.1);have g:=n.o.a.a 2;go_wp2_with fail;refine a.o.mono ?_;rintro m n ⟨a,rfl,c,g⟩;have m:=aj c;have o:Y (gG l a e n):=aj (p.o.a (gG.a (F1:=j) ⟨bg.e (F:=j) (p:=⟨d,2,O⟩) i b.o.g _,fun _ f=>.inl f⟩ g));have b:=aj k;clear c g k;go_wp2;go_ret;exact⟨a,⟨_,rfl⟩,by unfold Qu.h;rw[h.o.1,h.o.2,aL b.o];exact m.o,o.o⟩
set_option maxRecDepth 100000 in
def Fg (b:Ta) (h:Option aX) (e i:Nat) (d:List Fd) (f:Bool) (a:aB) (j:d.length=e) (m:e≤100000) (k:bU a h (dx d)) (hF:∀g∈d,g.n.size≤1000000∧g.v.size≤1000000):
  aF au 202 #[aS b,Z h e i,f] a (zcg (b.h d f) a):=by
 have u:=aj (fun c (l:aJ a a c)=>Nh b h e i d f c j m (k.a l) hF);have v:=aj (fun c (l:aJ a a c)=>rT 2 h e i d c j m (k.a l) hF);obtain⟨g,i⟩:=exq (b.g d f);obtain⟨h,l⟩:=exq (gD 2 d);rw[l]at v;rw[i]at u;have F:=fun a=>aj (zy b a);have e:Y (b.h d f=if b.p=0 then g else if b.p=2∨f=false then(.b,.a,33)else if h.2≠0 then(.b,.a,h.2)else if b.c.2≠0 then(.b,.a,b.c.2)else(b.c.1,h.1,0)):=aj (by unfold Ta.h;rw[l,i]);clear i l j k hF;obtain⟨i,d⟩:=exq b.c;rw[d]at F e;clear d;obtain⟨⟨q,r,s,t⟩,G⟩:=h;obtain⟨⟨N,P,Q,S,V⟩,⟨W,gt,gn,gq⟩,fr⟩:=g;obtain⟨I,K,g,L,M⟩:=b;obtain⟨⟨w,x,y,z,A⟩,T⟩:=i;dsimp only at*;have H:=aj (zaJ a);have B:Y (aJ a a (((a.alloc (.cells #[I,aA K,g,L,M] 208)).alloc (.cells #[false,aA {data:=#[]},J U 0,J U 0,J U 0] 208)).alloc (.cells #[aA {data:=#[]},J U 0,J U 0,false] 314))):=aj (qX _ _ _);by_cases b:g=0
 ·subst b;rw[aP rfl]at e;have d:=e;go_enter func202,ntmps202;go_wp2_with fail;refine mB (u.o _ B.o) fun i h=>?_;have a0:=aj (bG B.o h);have D:Y (bH i (a.heap.size+1) 208 (rU .b)):=aj (bH.b (bH.w.h _) h);have E:=aj (bH.b bH.A h);clear h u v F;obtain⟨h,i,j,k,l⟩:=bH.k D.o;obtain⟨m,n,o,p⟩:=bH.l E.o;have b0:¬a.heap.size+1+1=a.heap.size+1:=Y0;have c0:¬a.heap.size+1=a.heap.size+1+1:=Y0;have C:=D.o.c;have D:=E.o.c;unfold lS uV;go_wp2_with fail;exact aG (v:=aN #[lS ⟨N,P,Q,S,V⟩,uV ⟨W,gt,gn,gq⟩,fr]) (by simp[results,results202,go_sem,h,i,j,k,l,m,n,o,p];exact Y5) rfl ⟨by rw[d.o],H.o _ _ _ _ _ _ _ _ _ _ _ _ Y0 Y0 a0.o⟩
 ·have E:(g==0)=false:=by rw[aM];exact b
  rw[aL b]at e;clear b;by_cases b:g=2∨f=false
  ·rw[aP b]at e;have d:=e;have h:=trivial;have i:=trivial;have j:=trivial;have k:=trivial;have l:=trivial;have m:=trivial;have n:=trivial;have o:=trivial;have p:=trivial;have N:g=2∨(g==2)=false∧f=false:=by
    by_cases E:g=2
    ·exact .inl E
    ·exact .inr ⟨by rw[aM];exact E,b.resolve_left E⟩
   clear b u v F;rcases N with rfl|⟨b,rfl⟩
   all_goals
    go_enter func202,ntmps202;go_wp2_with fail;exact aG (v:=aN #[lS .b,uV .a,J U 33]) (by simp[results,results202,go_sem];exact Y5) rfl ⟨by rw[d.o],B.o⟩
  ·have N:(g==2)=false:=by rw[aM];exact fun E=>b (.inl E)
   have E:f=true:=by cases f;exact absurd (.inr rfl) b;rfl
   subst E;rw[aL b]at e;clear b u;go_enter func202,ntmps202;go_wp2_with fail;refine mB (v.o _ B.o) fun b f=>?_;have u:=aj (bG B.o f);have E:Y (bH b a 208 #[I,aA K,g,L,M]):=aj (bH.b (((bH.d a _ _).h _).h _) f);have N:Y (bH b (a.heap.size+1) 208 (rU .b)):=aj (bH.b (bH.w.h _) f);have B:=aj (bH.b bH.A f);clear f v;have f:=aj u.o.size;have v:Y (bH (b.alloc (.cells #[aA q,r,s,t] 314)) a.heap.size 208 #[I,aA K,g,L,M]):=aj (E.o.h _);have V:Y (bH (b.alloc (.cells #[aA q,r,s,t] 314)) (a.heap.size+1) 208 (rU .b)):=aj (N.o.h _);have W:Y (bH (b.alloc (.cells #[aA q,r,s,t] 314)) (a.heap.size+1+1) 314 (qW .a)):=aj (B.o.h _);have G4:Y (bH (b.alloc (.cells #[aA q,r,s,t] 314)) b.heap.size 314 #[aA q,r,s,t]):=aj (bH.d _ _ _);have GB:Y (aJ a a (b.alloc (.cells #[aA q,r,s,t] 314))):=aj (u.o.alloc f.o _);have f:=B.o.e;have f:¬b.heap.size=a.heap.size+1:=Y0;have f:¬a.heap.size+1=b.heap.size:=Y0;have f:¬b.heap.size=a.heap.size+1+1:=Y0;have f:¬a.heap.size+1+1=b.heap.size:=Y0;have f:¬a.heap.size+1+1=a.heap.size:=Y0;have f:¬a.heap.size=a.heap.size+1+1:=Y0;have b0:¬a.heap.size+1+1=a.heap.size+1:=Y0;have c0:¬a.heap.size+1=a.heap.size+1+1:=Y0;have f:¬b.heap.size=a.heap.size:=Y0;have g:¬a.heap.size=b.heap.size:=Y0;have g:=aj f;obtain⟨B,E,I,K,L⟩:=bH.k v.o;obtain⟨h,i,j,k,l⟩:=bH.k V.o;obtain⟨m,n,o,p⟩:=bH.l W.o;obtain⟨M,N,P,Q⟩:=bH.l G4.o;have C:=v.o.c;have D:=V.o.c;have S:=W.o.c;unfold uV;by_cases u:G=0
   ·subst u;rw[aL Y2]at e;go_wp2_with fail;refine(F _).o.mono ?_;clear B E I K L h i j k l m n o p M N P Q C D S;rintro X w6 ⟨rfl,f⟩;have a0:=aj (bG GB.o f);have X:=aj (v.o.b f);have I2:=aj (V.o.b f);have V:=aj (W.o.b f);have W:=aj (G4.o.b f);clear f;obtain⟨B,E,I,K,L⟩:=bH.k X.o;obtain⟨h,i,j,k,l⟩:=bH.k I2.o;obtain⟨m,n,o,p⟩:=bH.l V.o;obtain⟨M,N,P,Q⟩:=bH.l W.o;have C:=X.o.c;have D:=I2.o.c;have S:=V.o.c;unfold lS;by_cases F:T=0
    ·subst F;have d:=e;rw[aL Y2]at d;go_wp2;obtain⟨v,f⟩:=exq ((((((w6.setCell ⟨a,0,O⟩ (aO w)).setCell ⟨a,1,O⟩ (aA x)).setCell ⟨a,2,O⟩ (J U y)).setCell ⟨a,3,O⟩ (J U z)).setCell ⟨a,4,O⟩ (J U A)));have b0:Y (aJ a a v):=aj (by rw[←f];exact Fb a _ _ _ _ _ _ _ (aD _) a0.o);have L1:Y (bH v a 208 #[w,aA x,y,z,A]):=aj (by rw[←f];exact((((X.o.f 0 (aO w)).f 1 (aA x)).f 2 (J U y)).f 3 (J U z)).f 4 (J U A));have X:Y (bH v (a.heap.size+1) 208 (rU .b)):=aj (by rw[←f];exact((((I2.o.i Y1 _).i Y1 _).i Y1 _).i Y1 _).i Y1 _);have L3:Y (bH v (a.heap.size+1+1) 314 (qW .a)):=aj (by rw[←f];exact((((V.o.i (by simp;omega) _).i (by simp;omega) _).i (by simp;omega) _).i (by simp;omega) _).i (by simp;omega) _);have V:Y (bH v b 314 #[aA q,r,s,t]):=aj (by rw[←f];exact((((W.o.i g.o _).i g.o _).i g.o _).i g.o _).i g.o _);rw[f];clear f B E I K L h i j k l m n o p M N P Q C D S;obtain⟨B,E,I,K,L⟩:=bH.k L1.o;obtain⟨h,i,j,k,l⟩:=bH.k X.o;obtain⟨m,n,o,p⟩:=bH.l L3.o;obtain⟨M,N,P,Q⟩:=bH.l V.o;have C:=L1.o.c;have D:=X.o.c;have S:=L3.o.c;go_region_held3 (fun c=>c.cell? ⟨a,0,O⟩=R (aO w)∧c.cell? ⟨a,1,O⟩=R (aA x)∧c.cell? ⟨a,2,O⟩=R (J U y)∧c.cell? ⟨a,3,O⟩=R (J U z)∧c.cell? ⟨a,4,O⟩=R (J U A)∧c.cell? ⟨b,0,O⟩=R (aA q)∧c.cell? ⟨b,1,O⟩=R (J U r)∧c.cell? ⟨b,2,O⟩=R (J U s)∧c.cell? ⟨b,3,O⟩=R (aO t)) (go_keep) (first|fail);go_wp2_with fail;exact aG (v:=aN #[lS ⟨w,x,y,z,A⟩,uV ⟨q,r,s,t⟩,J U 0]) (by simp[results,results202,go_sem,h,i,j,k,l,m,n,o,p];exact Y5) rfl ⟨by rw[d.o],bI (H.o _ _ _ _ _ _ _ _ _ _ _ _ Y0 Y0 b0.o) 1⟩
    ·have d:=e;rw[aP F]at d;have b:(T !=0)=true:=by rw[bne_iff_ne];exact F
     clear F;go_wp2_with fail;exact aG (v:=aN #[lS .b,uV .a,T]) (by simp[results,results202,go_sem,h,i,j,k,l,m,n,o,p];exact Y5) rfl ⟨by rw[d.o],H.o _ _ _ _ _ _ _ _ _ _ _ _ Y0 Y0 (Fb a _ _ _ _ _ _ _ (aD _) a0.o)⟩
   ·have d:=e;rw[aP u]at d;have a:(G !=0)=true:=by rw[bne_iff_ne];exact u
    have a:(G==0)=false:=by rw[aM];exact u
    clear u;go_wp2_with fail;exact aG (v:=aN #[lS .b,uV .a,G]) (by simp[results,results202,go_sem,h,i,j,k,l,m,n,o,p];exact Y5) rfl ⟨by rw[d.o],H.o _ _ _ _ _ _ _ _ _ _ _ _ Y0 Y0 GB.o⟩
def Jf (a:List Bool):Int:=match jJ a with
 |some a=>(a:Nat)
 |none=> -1
def BI:∀(a:List Bool) (b:Nat),Lib.idxByFrom (fun c d=>c==d) true a b=((jJ a).map fun c=>((b+c:Nat):Int)).getD (-1)
 |[],_=>rfl
 |true::a,b=>by simp[Lib.idxByFrom,jJ]
 |false::a,b=>by
  have:=BI a (b+1)
  simp only[Lib.idxByFrom,jJ]
  rw[aL Y2,aL Y2,this]
  cases h:jJ a<;>simp<;>omega
def Ws (a:List Bool):Lib.idxBy (fun b c=>b==c) a true=Jf a:=by unfold Lib.idxBy Jf;rw[BI a 0];cases jJ a<;>simp
def BJ:∀{b:List Bool} {c:Nat},jJ b=R c→c<b.length
 |d::b,c,a=>by
  unfold jJ at a
  split at a
  ·injection a with a;subst a;simp
  ·cases hf:jJ b with
   |none=>rw[hf]at a;cases a
   |some e=>rw[hf]at a;simp at a;have:=BJ hf;simp;omega
def Nu (d:Option aX) (e f:Nat) (a:List Bool) (b:aB) (k:a.length=e) (s:e≤100000) (g:bU b d (a.map aO)):
  aF au 99 #[Z d e f,true] b fun c l=>c=av (J U (Jf a))∧l=b:=by
 subst k;rw[←Ws];cases hl:a with
 |nil=>exact AnyE.slices_Index_empty Tryz.li99 d f _ b
 |cons m t=>
  obtain⟨n,o,rfl,_⟩:=g 0 (aO m) (by simp[hl]);have h:=AnyE.slices_Index Tryz.li99 aO _ (EqlAt.bool (P:=au) (Tryz.li99_ren.t 23) underlying4) n o a.length f a true b (aD _) (by omega) (fun i j=>by obtain⟨u,v,c,p⟩:=g i (aO a[i]) (by simp[j]);injection c with c;injection c with q r;subst q r;rw[p];simp[j])
  rw[List.take_length]at h;rw[←hl];exact h
def FM (a:Qu) (b:List Bool):Bool:=match jJ b with
 |none=>false
 |some b=>decide (b<a.a.length)
def zbB (c:Nat) (d:Bool) (e:Qu) (f:List Nat) (g:aB) (h:Ending) (a:aB):Prop:=∃b,h=av d∧xP a c e b∧gG f b g a
def Jg {h:Nat} {a:Qu} {o:List Nat} (d:aB) (p:xP d h a o) (w:0<a.a.length) (x:a.a.length≤1000) (y:0≤a.d) (z:a.d≤1000) (q:Option aX) (i A:Nat) (b:List Bool) (r:b.length=i) (K:i≤100000) (B:bU d q (b.map aO)):
  aF au 68 #[qp h,Z q i A] d (zbB h (FM a b) (a.g b) o d):=by
 have f:=aj (Nu q i A b d r K B);have s:=aj (ow d p w);have C:Y (a.a.length≤1000∧0≤a.d∧a.d≤1000):=aj ⟨x,y,z⟩;have L:=aj p;clear B w x y z p;cases hf:jJ b with
 |none=>
  have g:Jf b= -1:=by unfold Jf;rw[hf]
  have e:Y (a.g b=a):=aj (by unfold Qu.g;rw[hf]);rw[show FM a b=false by unfold FM;rw[hf]];rw[g]at f;clear hf g s r;go_enter func68,ntmps68;go_wp2_with fail;refine f.o.mono ?_;rintro t d ⟨rfl,rfl⟩;go_wp2_with fail;go_ret;exact⟨o,rfl,by rw[e.o];exact L.o,gG.e _ _⟩
 |some c=>
  have g:Jf b=(c:Nat):=by unfold Jf;rw[hf]
  have e:Y (a.g b=if c<a.a.length then a.i (a.d+c)else a):=aj (by unfold Qu.g;rw[hf]);rw[show FM a b=decide (c<a.a.length) by unfold FM;rw[hf]];rw[g]at f;have V:c≤100000:=by have:=BJ hf;omega
  clear hf g r;go_enter func68,ntmps68;go_wp2_with fail;refine f.o.mono ?_;rintro t d ⟨rfl,rfl⟩;go_wp2_with fail;refine s.o.mono ?_;rintro t D ⟨W,u,X,M,rfl,j,E,_⟩;have k:=aj j;have F:=aj E;rw[j.d]at e C;have N:=C.o;obtain⟨l,m⟩:=exq a.d;have x1:D.cell? ⟨h,1,O⟩=R (J U l):=by rw[←m];exact j.a.a 1
  rw[m]at e N;have v:=aj m;clear j E m s f;by_cases n:c<u
  ·have G:¬((c:Int)≥(u:Int)):=by omega
   have hw:U.wrap (l+c)=l+c:=bF _ (by omega);have P:=aj (FL D (l+c) k.o (by rw[v.o];omega) (by omega) (by rw[v.o];omega) (by rw[v.o];omega));go_wp2_with fail;refine P.o.mono ?_;rintro t w4 ⟨Q,rfl,H,I⟩;have S:=aj H;have T:=aj I;clear H I G;go_wp2_with fail;go_ret;exact⟨Q,by rw[k.o.d,cO n];rfl,by rw[e.o,aP n];exact S.o,F.o.a T.o⟩
  ·have G:(c:Int)≥(u:Int):=by omega
   go_wp2_with fail;go_ret;exact⟨M,by rw[k.o.d,dK n];rfl,by rw[e.o,aL n];exact .inl ⟨_,_,_,k.o⟩,F.o⟩
def Xr {A B:aB→Prop} {i:Exit→Act→aB→Prop} {wc:aB} {g e c:Nat} {f:Bool} {b:Vl} {a1 a2:Int} 
  (d:A wc.drew) (h:∀a:Wd A,aF au 138 #[qp g,aS b,f] a.W fun k j=>k=av (aN #[a1,a2])∧B j)
  (k:∀a:Wd A,a.W.cell? ⟨e,0,O⟩=R (aK (R ⟨g,0,O⟩)))
  (k:∀a:Wd A,a.W.cell? ⟨c,0,O⟩=R (J U b.d))
  (k:∀a:Wd A,a.W.cell? ⟨c,1,O⟩=R (J U b.e))
  (k:∀a:Wd A,a.W.cell? ⟨c,2,O⟩=R (J U b.c))
  (k:∀a:Wd A,a.W.cell? ⟨c,3,O⟩=R (J U b.a))
  (k:∀a:Wd A,a.W.cell? ⟨c,4,O⟩=R (J U b.b))
  (k:∀a:Wd A,a.W.cell? ⟨c,5,O⟩=R (J U b.f))
  (b:∀l m n o p q r s t u k,B k→i .normal ⟨#[qp e,u1,f,u3,aK (R ⟨c,0,O⟩),bq,u6,a1,J U a2,l,m,n,o,p,q,r,s,t,u,Q9,T0,T1,T2,T3,T4,T5,T6,T7,T8,T9,N0,N1,N2,N3,N4,N5,N6,N7,N8,N9,X0,X1,X2,X3,X4,X5,X6,X7,X8,X9,O0,O1,O2,O3,O4,O5,O6,O7,O8,O9,J0,J1,J2,J3,J4],[]⟩ k):
  Code.wp au (fu 1 (f98.body.getD .skip)) i ⟨#[qp e,u1,f,u3,aK (R ⟨c,0,O⟩),bq,u6,u7,u8,u9,Q0,Q1,Q2,Q3,Q4,Q5,Q6,Q7,Q8,Q9,T0,T1,T2,T3,T4,T5,T6,T7,T8,T9,N0,N1,N2,N3,N4,N5,N6,N7,N8,N9,X0,X1,X2,X3,X4,X5,X6,X7,X8,X9,O0,O1,O2,O3,O4,O5,O6,O7,O8,O9,J0,J1,J2,J3,J4],[]⟩ wc:=by
 haveI:Nonempty (Wd A):=⟨⟨_,d⟩⟩;haveI:Nonempty (Wd fun c=>A c∨B c):=⟨⟨_,.inl d⟩⟩;replace h:=aj h;have e:=aj b;clear b;conv=>arg 2;whnf
 refine jQ A B [6] 6 d ?_;clear d;repeat((first|refine WL.c (fun c b=>?_)|refine WL.d (fun c b=>?_));go_simp;refine b _ ?_;clear b c)
 refine WL.f (aN #[a1,a2]) (fun a=>?_) ?_
 ·go_simp;exact h.o a
 repeat((first|refine WL.c (fun c b=>?_)|refine WL.d (fun c b=>?_));go_simp;refine b _ ?_;clear b c)
 exact WL.b fun j a=>by apply e.o;exact a
def Xt {A0:aB→Prop} {A1 A2:aI→aB→Prop} {B:aB→Prop} {o:Exit→Act→aB→Prop} {wc:aB} {b i m c d:Nat} {j f g h n:Int} {p:Bool} {q r:Option aX} 
  (k:A0 wc.drew) (l:∀a,cU A0 A1 A2 a→a.cell? ⟨b,1,O⟩=R (J U f)∧a.cell? ⟨b,2,O⟩=R (J U g)∧a.cell? ⟨b,3,O⟩=R (J U h)∧a.cell? ⟨b,4,O⟩=R (J U n)∧a.cell? ⟨b,5,O⟩=R (aO p)∧a.cell? ⟨b,6,O⟩=R (Z r c d)∧a.cell? ⟨b,14,O⟩=R (Z q i m)∧∀e,a.frozen? ⟨b,e,O⟩=false)
  (e:∀a,A0 a→aF au 141 #[j,aS (qs f g h n p r c d)] a fun f g=>∃c,f=av (pY c)∧A1 c g)
  (h:∀d a,A1 d a→aF au 140 #[Z q i m,d] a fun f g=>∃c,f=av (pY c)∧A2 c g)
  (i:∀d a,A2 d a→∃m c n,d=Z m c n∧B (a.setCell ⟨b,14,O⟩ (Z m c n)))
  (c:∀d p q r s t u v w x y z A C D E a,B a→o .normal ⟨#[qp b,u1,u2,u3,u4,u5,u6,u7,J U j,u9,Q0,Q1,Q2,Q3,Q4,Q5,Q6,Q7,Q8,Q9,T0,T1,T2,T3,T4,T5,T6,T7,T8,T9,N0,N1,N2,N3,d,p,q,r,s,t,u,v,w,x,y,z,A,C,D,E,O0,O1,O2,O3,O4,O5,O6,O7,O8,O9,J0,J1,J2,J3,J4],[]⟩ a):
  Code.wp au (fu 4 (f98.body.getD .skip)) o ⟨#[qp b,u1,u2,u3,u4,u5,u6,u7,J U j,u9,Q0,Q1,Q2,Q3,Q4,Q5,Q6,Q7,Q8,Q9,T0,T1,T2,T3,T4,T5,T6,T7,T8,T9,N0,N1,N2,N3,N4,N5,N6,N7,N8,N9,X0,X1,X2,X3,X4,X5,X6,X7,X8,X9,O0,O1,O2,O3,O4,O5,O6,O7,O8,O9,J0,J1,J2,J3,J4],[]⟩ wc:=by
 haveI:Nonempty (Wd (cU A0 A1 A2)):=⟨⟨_,.inl k⟩⟩;have o:=fun b:Wd (cU A0 A1 A2)=>l b.W b.a;have p:=aj l;replace e:=aj e;replace h:=aj h;replace i:=aj i;have j:=aj c;clear c l;conv=>arg 2;whnf
 refine zaC A0 A1 A2 B 11 12 16 [] (fun _=>bq) k (fun b=>?_);clear k;repeat(refine WL.q (fun d c=>?_);go_simp;refine c _ ?_;clear c d)
 refine WL.x (fun a b=>?_) ?_
 ·go_simp;exact e.o _ b
 repeat(refine WL.q (fun d c=>?_);go_simp;refine c _ ?_;clear c d)
 refine WL.y (fun a b=>?_) ?_
 ·go_simp;exact h.o _ _ b
 repeat(refine WL.q (fun d c=>?_);go_simp;refine c _ ?_;clear c d)
 refine WL.z (fun a b=>?_) ?_
 ·obtain⟨m,d,n,f,c⟩:=i.o _ _ b;have c:=aj c;have d:=p.o a (.inr (.inr ⟨_,b⟩));clear b e h i j o;go_simp;exact c.o
 exact WL.b fun g a=>by apply j.o;exact a
def Xu {A0:aB→Prop} {A1 A2:aI→aB→Prop} {B:aB→Prop} {q:Exit→Act→aB→Prop} {wc:aB} {c b h:Nat} {d:Int} {mv:aI} 
  (l:A0 wc.drew) (r:d=0∨d=1) (m:∀a,cU A0 A1 A2 a→a.cell? ⟨c,0,O⟩=R (aK (R ⟨b,0,O⟩))∧a.cell? ⟨c,1,O⟩=R (J U d)∧a.cell? ⟨c,12,O⟩=R mv∧∀e,a.frozen? ⟨c,e,O⟩=false)
  (n:∀a,A0 a→aF au 65 #[qp b,J U (1-d)] a fun e f=>e=av (aK (R ⟨h,0,O⟩))∧A0 f)
  (i:∀a,A0 a→aF au 66 #[qp h] a fun e f=>∃b,e=av (pY b)∧A1 b f)
  (j:∀g a,A1 g a→aF au 64 #[g,.func (.func 67) #[qp c] #[]] a fun e f=>∃b,e=av (pY b)∧A2 b f)
  (k:∀g a,A2 g a→∃o b p,g=Z o b p∧B (a.setCell ⟨c,12,O⟩ (Z o b p)))
  (b:∀g s t u v w x y z A C D E F G H I K a,B a→q .normal ⟨#[qp c,u1,g,s,t,u,v,w,x,y,z,A,C,D,E,F,G,H,I,K],[]⟩ a):
  Code.wp au (fu 0 (f30.body.getD .skip)) q ⟨#[qp c,u1,u2,u3,u4,u5,u6,u7,u8,u9,Q0,Q1,Q2,Q3,Q4,Q5,Q6,Q7,Q8,Q9],[]⟩ wc:=by
 haveI:Nonempty (Wd (cU A0 A1 A2)):=⟨⟨_,.inl l⟩⟩;have q:=fun c:Wd (cU A0 A1 A2)=>m c.W c.a;have s:=aj m;replace n:=aj n;replace i:=aj i;replace j:=aj j;replace k:=aj k;have g:=aj b;clear b m;have c:U.wrap (1-d)=1-d:=by rcases r with rfl|rfl<;>rfl
 conv=>arg 2;whnf
 refine zaC A0 A1 A2 B 12 15 18 [11] (fun c=>if c=11 then aK (R ⟨h,0,O⟩)else bq) l (fun c=>?_);clear l;repeat(refine WL.q (fun d b=>?_);go_simp;refine b _ ?_;clear b d)
 refine WL.A (aK (R ⟨h,0,O⟩)) (fun a c=>?_) ?_ (hv:=rfl)
 ·go_simp;exact n.o _ c
 repeat(refine WL.q (fun d b=>?_);go_simp;refine b _ ?_;clear b d)
 refine WL.x (fun a c=>?_) ?_
 ·go_simp;exact i.o _ c
 repeat(refine WL.q (fun d b=>?_);go_simp;refine b _ ?_;clear b d)
 refine WL.y (fun a c=>?_) ?_
 ·go_simp;exact j.o _ _ c
 repeat(refine WL.q (fun d b=>?_);go_simp;refine b _ ?_;clear b d)
 refine WL.z (fun a c=>?_) ?_
 ·obtain⟨o,d,p,e,b⟩:=k.o _ _ c;have b:=aj b;have d:=s.o a (.inr (.inr ⟨_,c⟩));clear c i j k g q;go_simp;exact b.o
 exact WL.b fun f a=>by apply g.o;exact a
def XE {A B:aB→Prop} {h:Exit→Act→aB→Prop} {wc:aB} {e c i g:Nat} {en:Int} {b:Option aX} {j k:Nat} {l m n o:Int} {p:Bool} 
  (d:A wc.drew) (f:∀a:Wd A,aF au 26 #[qp g,aS (qs l m n o p b k j)] a.W fun r q=>r=av en∧B q)
  (r:∀a:Wd A,a.W.cell? ⟨e,0,O⟩=R (aK (R ⟨g,0,O⟩)))
  (r:∀a:Wd A,a.W.cell? ⟨c,0,O⟩=R (J U l))
  (l:∀a:Wd A,a.W.cell? ⟨c,1,O⟩=R (J U m))
  (l:∀a:Wd A,a.W.cell? ⟨c,2,O⟩=R (J U n))
  (l:∀a:Wd A,a.W.cell? ⟨c,3,O⟩=R (J U o))
  (l:∀a:Wd A,a.W.cell? ⟨c,4,O⟩=R (aO p))
  (l:∀a:Wd A,a.W.cell? ⟨c,5,O⟩=R (Z b k j))
  (b:∀k l m n o p j,B j→h .normal ⟨#[qp e,u1,bq,qp c,qp i,J U 0,en,u7,u8,u9,Q0,Q1,Q2,Q3,Q4,Q5,Q6,Q7,k,l,m,n,o,p,T4,T5,T6,T7,T8,T9,N0,N1,N2,N3,N4,N5,N6,N7,N8,N9,X0,X1,X2,X3,X4,X5,X6,X7,X8,X9,O0,O1,O2,O3,O4,O5,O6,O7,O8,O9,J0,J1,J2,J3,J4,J5,J6,J7,J8,J9,R0,R1,R2,R3,R4,R5,R6,R7,R8,R9,M0,M1,M2,M3,M4,M5,M6,M7,M8,M9,u90,u91,u92,u93,u94,u95,u96,u97,u98,u99,u100,u101,u102,u103,u104,u105,u106,u107,u108,u109,u110,u111,u112,u113,u114,u115],[]⟩ j):
  Code.wp au (fu 5 (f13.body.getD .skip)) h ⟨#[qp e,u1,bq,qp c,qp i,J U 0,u6,u7,u8,u9,Q0,Q1,Q2,Q3,Q4,Q5,Q6,Q7,Q8,Q9,T0,T1,T2,T3,T4,T5,T6,T7,T8,T9,N0,N1,N2,N3,N4,N5,N6,N7,N8,N9,X0,X1,X2,X3,X4,X5,X6,X7,X8,X9,O0,O1,O2,O3,O4,O5,O6,O7,O8,O9,J0,J1,J2,J3,J4,J5,J6,J7,J8,J9,R0,R1,R2,R3,R4,R5,R6,R7,R8,R9,M0,M1,M2,M3,M4,M5,M6,M7,M8,M9,u90,u91,u92,u93,u94,u95,u96,u97,u98,u99,u100,u101,u102,u103,u104,u105,u106,u107,u108,u109,u110,u111,u112,u113,u114,u115],[]⟩ wc:=by
 haveI:Nonempty (Wd A):=⟨⟨_,d⟩⟩;haveI:Nonempty (Wd fun c=>A c∨B c):=⟨⟨_,.inl d⟩⟩;replace f:=aj f;have e:=aj b;clear b;conv=>arg 2;whnf
 refine jQ A B [5] 5 d ?_;clear d;repeat((first|refine WL.c (fun c b=>?_)|refine WL.d (fun c b=>?_));go_simp;refine b _ ?_;clear b c)
 refine WL.f (J U en) (fun a=>?_) ?_
 ·go_simp;exact f.o a
 repeat((first|refine WL.c (fun c b=>?_)|refine WL.d (fun c b=>?_));go_simp;refine b _ ?_;clear b c)
 exact WL.b fun q a=>by apply e.o;exact a
def XF {A B:aB→Prop} {h:Exit→Act→aB→Prop} {wc:aB} {e c i g n0:Nat} {b:Option aX} {j k:Nat} {l m n o:Int} {p:Bool} 
  (d:A wc.drew) (f:∀a:Wd A,a.W.heap.size=n0∧B (a.W.alloc (.cells #[qp g,l,m,n,o,p,Z b k j,J U 0,false,false,J U 0,false,Z O 0 0,J U 0,Z O 0 0,Z O 0 0,Z O 0 0] 81)))
  (q:∀a:Wd A,a.W.cell? ⟨e,0,O⟩=R (aK (R ⟨g,0,O⟩)))
  (q:∀a:Wd A,a.W.cell? ⟨c,0,O⟩=R (J U l))
  (l:∀a:Wd A,a.W.cell? ⟨c,1,O⟩=R (J U m))
  (l:∀a:Wd A,a.W.cell? ⟨c,2,O⟩=R (J U n))
  (l:∀a:Wd A,a.W.cell? ⟨c,3,O⟩=R (J U o))
  (l:∀a:Wd A,a.W.cell? ⟨c,4,O⟩=R (aO p))
  (l:∀a:Wd A,a.W.cell? ⟨c,5,O⟩=R (Z b k j))
  (b:∀k l m n o p q j,B j→h .normal ⟨#[qp e,u1,bq,qp c,qp i,J U 0,J U 0,aK (R ⟨n0,0,O⟩),u8,u9,Q0,Q1,Q2,Q3,Q4,Q5,Q6,Q7,Q8,Q9,T0,T1,T2,T3,T4,T5,T6,T7,k,l,m,n,o,p,q,N5,N6,N7,N8,N9,X0,X1,X2,X3,X4,X5,X6,X7,X8,X9,O0,O1,O2,O3,O4,O5,O6,O7,O8,O9,J0,J1,J2,J3,J4,J5,J6,J7,J8,J9,R0,R1,R2,R3,R4,R5,R6,R7,R8,R9,M0,M1,M2,M3,M4,M5,M6,M7,M8,M9,u90,u91,u92,u93,u94,u95,u96,u97,u98,u99,u100,u101,u102,u103,u104,u105,u106,u107,u108,u109,u110,u111,u112,u113,u114,u115],[]⟩ j):
  Code.wp au (fu 8 (f13.body.getD .skip)) h ⟨#[qp e,u1,bq,qp c,qp i,J U 0,J U 0,u7,u8,u9,Q0,Q1,Q2,Q3,Q4,Q5,Q6,Q7,Q8,Q9,T0,T1,T2,T3,T4,T5,T6,T7,T8,T9,N0,N1,N2,N3,N4,N5,N6,N7,N8,N9,X0,X1,X2,X3,X4,X5,X6,X7,X8,X9,O0,O1,O2,O3,O4,O5,O6,O7,O8,O9,J0,J1,J2,J3,J4,J5,J6,J7,J8,J9,R0,R1,R2,R3,R4,R5,R6,R7,R8,R9,M0,M1,M2,M3,M4,M5,M6,M7,M8,M9,u90,u91,u92,u93,u94,u95,u96,u97,u98,u99,u100,u101,u102,u103,u104,u105,u106,u107,u108,u109,u110,u111,u112,u113,u114,u115],[]⟩ wc:=by
 haveI:Nonempty (Wd A):=⟨⟨_,d⟩⟩;haveI:Nonempty (Wd fun c=>A c∨B c):=⟨⟨_,.inl d⟩⟩;replace f:=aj f;have e:=aj b;clear b;conv=>arg 2;whnf
 refine jQ A B [6] 6 d ?_;clear d;repeat((first|refine WL.c (fun c b=>?_)|refine WL.d (fun c b=>?_));go_simp;refine b _ ?_;clear b c)
 refine WL.f (aK (R ⟨n0,0,O⟩)) (fun a=>?_) ?_
 ·go_simp;obtain⟨d,h⟩:=f.o a;rw[d];exact⟨rfl,h⟩
 repeat((first|refine WL.c (fun c b=>?_)|refine WL.d (fun c b=>?_));go_simp;refine b _ ?_;clear b c)
 exact WL.b fun b a=>by apply e.o;exact a
def Om {A B:aB→Prop} {f:Exit→Act→aB→Prop} {wc:aB} {g h i b:Nat} 
  (d:A wc.drew) (e:∀a:Wd A,B (a.W.setCell ⟨b,9,O⟩ (aO false)))
  (c:∀a:Wd A,a.W.cell? ⟨b,8,O⟩=R (aO false))
  (c:∀a:Wd A,a.W.cell? ⟨b,9,O⟩=R (aO false))
  (c:∀(a:Wd A) c,a.W.frozen? ⟨b,c,O⟩=false)
  (c:∀k l m n o p q r s t u v w x y z C D E F G H j,B j→f .normal ⟨#[qp g,u1,bq,qp h,qp i,J U 0,J U 0,aK (R ⟨b,0,O⟩),u8,u9,Q0,Q1,Q2,Q3,Q4,Q5,Q6,Q7,Q8,Q9,T0,T1,T2,T3,T4,T5,T6,T7,T8,T9,N0,N1,N2,N3,N4,N5,N6,N7,N8,N9,X0,X1,X2,X3,X4,X5,X6,X7,X8,k,l,m,n,o,p,q,r,s,t,u,v,w,x,y,z,C,D,E,F,G,H,R1,R2,R3,R4,R5,R6,R7,R8,R9,M0,M1,M2,M3,M4,M5,M6,M7,M8,M9,u90,u91,u92,u93,u94,u95,u96,u97,u98,u99,u100,u101,u102,u103,u104,u105,u106,u107,u108,u109,u110,u111,u112,u113,u114,u115],[]⟩ j):
  Code.wp au (fu 10 (f13.body.getD .skip)) f ⟨#[qp g,u1,bq,qp h,qp i,J U 0,J U 0,aK (R ⟨b,0,O⟩),u8,u9,Q0,Q1,Q2,Q3,Q4,Q5,Q6,Q7,Q8,Q9,T0,T1,T2,T3,T4,T5,T6,T7,T8,T9,N0,N1,N2,N3,N4,N5,N6,N7,N8,N9,X0,X1,X2,X3,X4,X5,X6,X7,X8,X9,O0,O1,O2,O3,O4,O5,O6,O7,O8,O9,J0,J1,J2,J3,J4,J5,J6,J7,J8,J9,R0,R1,R2,R3,R4,R5,R6,R7,R8,R9,M0,M1,M2,M3,M4,M5,M6,M7,M8,M9,u90,u91,u92,u93,u94,u95,u96,u97,u98,u99,u100,u101,u102,u103,u104,u105,u106,u107,u108,u109,u110,u111,u112,u113,u114,u115],[]⟩ wc:=by
 haveI:Nonempty (Wd A):=⟨⟨_,d⟩⟩;haveI:Nonempty (Wd fun b=>A b∨B b):=⟨⟨_,.inl d⟩⟩;replace e:=aj e;have f:=aj c;clear c;conv=>arg 2;whnf
 refine jQ A B [22] 22 d ?_;clear d;repeat((first|refine WL.c (fun b c=>?_)|refine WL.d (fun b c=>?_));go_simp;refine c _ ?_;clear c b)
 refine WL.f bq (fun a=>?_) ?_
 ·go_simp;exact e.o a
 exact WL.b fun b a=>by apply f.o;exact a
def Oo {A B:aB→Prop} {l:Exit→Act→aB→Prop} {wc:aB} {f h m c g kn:Nat} {fr id:Int} {x can0:Bool} 
  (d:A wc.drew) (o:fr=0∨fr=1)
  (i:∀a:Wd A,aF au 28 #[qp g,J U (1-fr)] a.W fun b e=>b=av (aK (R ⟨kn,0,O⟩))∧A e)
  (j:∀a:Wd A,aF au 29 #[qp kn,id] a.W fun b e=>b=av x∧A e)
  (k:∀a:Wd A,B (a.W.setCell ⟨c,9,O⟩ (aO x)))
  (b:∀a:Wd A,a.W.cell? ⟨f,0,O⟩=R (aK (R ⟨g,0,O⟩)))
  (b:∀a:Wd A,a.W.cell? ⟨h,0,O⟩=R (J U fr))
  (b:∀a:Wd A,a.W.cell? ⟨c,7,O⟩=R (J U id))
  (b:∀a:Wd A,a.W.cell? ⟨c,8,O⟩=R (aO true))
  (b:∀a:Wd A,a.W.cell? ⟨c,9,O⟩=R (aO can0))
  (b:∀(a:Wd A) b,a.W.frozen? ⟨c,b,O⟩=false)
  (b:∀p q r s t u v w y z C D E F G H I K L M N P n,B n→l .normal ⟨#[qp f,u1,bq,qp h,qp m,J U 0,J U 0,aK (R ⟨c,0,O⟩),u8,u9,Q0,Q1,Q2,Q3,Q4,Q5,Q6,Q7,Q8,Q9,T0,T1,T2,T3,T4,T5,T6,T7,T8,T9,N0,N1,N2,N3,N4,N5,N6,N7,N8,N9,X0,X1,X2,X3,X4,X5,X6,X7,X8,p,q,r,s,t,u,v,w,y,z,C,D,E,F,G,H,I,K,L,M,N,P,R1,R2,R3,R4,R5,R6,R7,R8,R9,M0,M1,M2,M3,M4,M5,M6,M7,M8,M9,u90,u91,u92,u93,u94,u95,u96,u97,u98,u99,u100,u101,u102,u103,u104,u105,u106,u107,u108,u109,u110,u111,u112,u113,u114,u115],[]⟩ n):
  Code.wp au (fu 10 (f13.body.getD .skip)) l ⟨#[qp f,u1,bq,qp h,qp m,J U 0,J U 0,aK (R ⟨c,0,O⟩),u8,u9,Q0,Q1,Q2,Q3,Q4,Q5,Q6,Q7,Q8,Q9,T0,T1,T2,T3,T4,T5,T6,T7,T8,T9,N0,N1,N2,N3,N4,N5,N6,N7,N8,N9,X0,X1,X2,X3,X4,X5,X6,X7,X8,X9,O0,O1,O2,O3,O4,O5,O6,O7,O8,O9,J0,J1,J2,J3,J4,J5,J6,J7,J8,J9,R0,R1,R2,R3,R4,R5,R6,R7,R8,R9,M0,M1,M2,M3,M4,M5,M6,M7,M8,M9,u90,u91,u92,u93,u94,u95,u96,u97,u98,u99,u100,u101,u102,u103,u104,u105,u106,u107,u108,u109,u110,u111,u112,u113,u114,u115],[]⟩ wc:=by
 haveI:Nonempty (Wd A):=⟨⟨_,d⟩⟩;haveI:Nonempty (Wd fun c=>A c∨B c):=⟨⟨_,.inl d⟩⟩;replace i:=aj i;replace j:=aj j;replace k:=aj k;have f:=aj b;have c:U.wrap (1-fr)=1-fr:=by rcases o with rfl|rfl<;>rfl
 clear b;conv=>arg 2;whnf
 refine jQ A B [13,18,22] 22 d ?_;clear d;repeat((first|refine WL.c (fun c b=>?_)|refine WL.d (fun c b=>?_));go_simp;refine b _ ?_;clear b c)
 refine WL.F (aK (R ⟨kn,0,O⟩)) (fun a=>?_) ?_
 ·go_simp;exact i.o a
 repeat((first|refine WL.c (fun c b=>?_)|refine WL.d (fun c b=>?_));go_simp;refine b _ ?_;clear b c)
 refine WL.F (aO x) (fun a=>?_) ?_
 ·go_simp;exact j.o a
 repeat((first|refine WL.c (fun c b=>?_)|refine WL.d (fun c b=>?_));go_simp;refine b _ ?_;clear b c)
 refine WL.f bq (fun a=>?_) ?_
 ·go_simp;exact k.o a
 exact WL.b fun e a=>by apply f.o;exact a
def TT {A:aB→Prop} {B:aI×Int→aB→Prop} {j:Exit→Act→aB→Prop} {wc:aB} {d k l e g:Nat} {ans:Int} 
  (f:A wc.drew) (a:∀a:Wd A,a.W.cell? ⟨d,0,O⟩=R (aK (R ⟨g,0,O⟩)))
  (b:∀a:Wd A,a.W.cell? ⟨e,10,O⟩=R (J U ans))
  (h:∀c,A c→aF au 32 #[qp g,ans] c fun m i=>∃a:aI×Int,m=av (aN #[a.1,a.2])∧B a i)
  (b:∀n o p q r s t u v w x y a c,B a c→j .normal ⟨#[qp d,u1,bq,qp k,qp l,J U 0,J U 0,aK (R ⟨e,0,O⟩),a.1,a.2,Q0,Q1,Q2,Q3,Q4,Q5,Q6,Q7,Q8,Q9,T0,T1,T2,T3,T4,T5,T6,T7,T8,T9,N0,N1,N2,N3,N4,N5,N6,N7,N8,N9,X0,X1,X2,X3,X4,X5,X6,X7,X8,X9,O0,O1,O2,O3,O4,O5,O6,O7,O8,O9,J0,J1,J2,J3,J4,J5,J6,J7,J8,J9,R0,R1,R2,R3,R4,R5,R6,R7,R8,R9,M0,M1,M2,M3,M4,M5,M6,M7,M8,M9,u90,n,o,p,q,r,s,t,u,v,w,x,y,u103,u104,u105,u106,u107,u108,u109,u110,u111,u112,u113,u114,u115],[]⟩ c):
  Code.wp au (fu 17 (f13.body.getD .skip)) j ⟨#[qp d,u1,bq,qp k,qp l,J U 0,J U 0,aK (R ⟨e,0,O⟩),u8,u9,Q0,Q1,Q2,Q3,Q4,Q5,Q6,Q7,Q8,Q9,T0,T1,T2,T3,T4,T5,T6,T7,T8,T9,N0,N1,N2,N3,N4,N5,N6,N7,N8,N9,X0,X1,X2,X3,X4,X5,X6,X7,X8,X9,O0,O1,O2,O3,O4,O5,O6,O7,O8,O9,J0,J1,J2,J3,J4,J5,J6,J7,J8,J9,R0,R1,R2,R3,R4,R5,R6,R7,R8,R9,M0,M1,M2,M3,M4,M5,M6,M7,M8,M9,u90,u91,u92,u93,u94,u95,u96,u97,u98,u99,u100,u101,u102,u103,u104,u105,u106,u107,u108,u109,u110,u111,u112,u113,u114,u115],[]⟩ wc:=by
 haveI:Nonempty (Wd A):=⟨⟨_,f⟩⟩;haveI:Nonempty (Wd fun _=>True):=⟨⟨wc,trivial⟩⟩;replace h:=aj h;have e:=aj b;clear b;conv=>arg 2;whnf
 refine zaD A B 8 (fun a:aI×Int=>aN #[a.1,a.2]) f (fun d=>?_);clear f;repeat(refine WL.C (fun d b=>?_);go_simp;refine b _ ?_;clear b d)
 refine WL.E (fun c f=>?_) ?_
 ·go_simp;exact(h.o _ f).mono fun m i ⟨a,c,f⟩=>⟨a.1,a.2,c,f⟩
 dsimp only[Act.put];repeat(refine WL.D (fun d b=>?_);go_simp;refine b _ ?_;clear b d)
 exact WL.b fun i a=>by apply e.o;exact a
def Yc {A:aB→Prop} {Q:Exit→Act→aB→Prop} {wc:aB} {b o C b5:Nat} 
  (hA:A wc.drew) (G0:∀u:Wd A,aF au 75 #[aS #[J U 2,J U 6]] u.W fun e w'=>e=av (aO true)∧A w')
  (G1:∀u:Wd A,aF au 76 #[Z O 0 0,aS #[J U 2,J U 6]] u.W fun e w'=>e=av (aO false)∧A w')
  (G2:∀u:Wd A,aF au 75 #[aS #[J U 0,J U 0]] u.W fun e w'=>e=av (aO false)∧A w')
  (x0:∀u:Wd A,u.W.cell? ⟨b,o,O⟩=R (J U 2))
  (x1:∀u:Wd A,u.W.cell? ⟨b,o+1,O⟩=R (J U 6))
  (x2:∀u:Wd A,u.W.cell? ⟨b5,0,O⟩=R (J U 0))
  (x3:∀u:Wd A,u.W.cell? ⟨b5,1,O⟩=R (J U 0))
  (hK:∀v20 v21 v22 v23 v24 v25 v26 v27 v28 v29 v30 v31 v32 v33 v34 v35 v36 v37 v38 v39 v40 v41 v42 v43 v44 v45 W,A W→Q .normal ⟨#[Z (R ⟨b,o,O⟩) 1 C,u1,u2,Z O 0 0,u4,aK (R ⟨b5,0,O⟩),J U 0,u7,u8,u9,Q0,Q1,Q2,Q3,Q4,Q5,Q6,Q7,Q8,Q9,v20,v21,v22,v23,v24,v25,v26,v27,v28,v29,v30,v31,v32,v33,v34,v35,v36,v37,v38,v39,v40,v41,v42,v43,v44,v45,aO true,X7,X8,X9,O0,O1,O2,O3,O4,O5,O6,O7],[]⟩ W):
  Code.wp au (fu 9 (f37.body.getD .skip)) Q ⟨#[Z (R ⟨b,o,O⟩) 1 C,u1,u2,Z O 0 0,u4,aK (R ⟨b5,0,O⟩),J U 0,u7,u8,u9,Q0,Q1,Q2,Q3,Q4,Q5,Q6,Q7,Q8,Q9,T0,T1,T2,T3,T4,T5,T6,T7,T8,T9,N0,N1,N2,N3,N4,N5,N6,N7,N8,N9,X0,X1,X2,X3,X4,X5,X6,X7,X8,X9,O0,O1,O2,O3,O4,O5,O6,O7],[]⟩ wc:=by
 haveI:Nonempty (Wd A):=⟨⟨_,hA⟩⟩;replace G0:=aj G0;replace G1:=aj G1;replace G2:=aj G2;have HK:=aj hK;clear hK;conv=>arg 2;whnf
 refine Mg A [4,11,16] hA ?_;clear hA;repeat(refine WL.m (fun K hK=>?_);go_simp;refine hK _ ?_;clear hK K)
 refine WL.u (aO true) (fun u=>?_) ?_
 ·go_simp;exact G0.o u
 repeat(refine WL.m (fun K hK=>?_);go_simp;refine hK _ ?_;clear hK K)
 refine WL.u (aO false) (fun u=>?_) ?_
 ·go_simp;exact G1.o u
 repeat(refine WL.m (fun K hK=>?_);go_simp;refine hK _ ?_;clear hK K)
 refine WL.u (aO false) (fun u=>?_) ?_
 ·go_simp;exact G2.o u
 repeat(refine WL.m (fun K hK=>?_);go_simp;refine hK _ ?_;clear hK K)
 exact WL.b fun w' hw'=>by apply HK.o;exact hw'
end Go.Proofs.YtdcacpeaimjdlaaGreatDoor
