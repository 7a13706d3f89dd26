/- Part of the proof. -/
import Derived.Test.YtdcacpeaimjdlaaGreatDoorPaw
import Derived.Test.YtdcacpeaimjdlaaGreatDoorRows
import Derived.ChangeSame
import Derived.Deep.Fields
import Derived.Deep.Slices
import Derived.Handed
import Derived.LaidMore
import Derived.Lib.LaidTab
import Derived.OpenShut
import Derived.ProofKit
import Derived.Shelf.Vars
import Derived.Stop.Joined
namespace Go.Proofs.YtdcacpeaimjdlaaGreatDoor
open Go.RowKit Go.Maps Go.Proofs.Tryz Mq MFr MRw
open Go.Value renaming int→J,slice→Z,string→aA,pointer→aK,bool→aO,tuple→aN,agg→aS
open Go.IntKind renaming i64→U
open Option renaming none→O,some→R
open Go.Ending renaming returned→av
open Go renaming World→aB,Value→aI,Calls→aF,Addr→aX,TypeId→bB,undef→bq
open Go.RowKit renaming Below→aJ
open Go.Proofs.Tryz renaming prog→au
set_option maxRecDepth 20000
set_option maxHeartbeats 0
set_option linter.all false
abbrev jz (g:Nat) (r:Rw) (res:Bool) (A:Option aX) (a C:Nat) (b:Int) (c d:Bool):Array aI:=#[qp g,r.a,r.c,r.e,r.d,res,Z A a C,b,c,d,J U 0,false,Z O 0 0,J U 0,Z O 0 0,Z O 0 0,Z O 0 0]
section
variable {W:aB} {mb k g:Nat} {m:Mo} {L:List Nat} {r:Rw} {res:Bool} {A:Option aX} {C:Nat} {P:Pt} {F:Nat→List Nat}
def XG {a c':Co} (b:iN a r=true):(Lit.int U (kH c' r).1).wf=true:=by
 unfold kH;split
 ·rfl
 ·rename_i a;have:=(pU b).2 (fun b=>a (.inl b));unfold gK bV at this;simp at this;exact bX (by dsimp only;omega)
def TU (a:Co) (r:Rw) (P:Pt) (F:Nat→List Nat) (c:aB) (d:List Ow) (W:aB):Prop:=
 (iN a r=false∧St a P O F c d W)∨(iN a r=true∧∃b,b.x=(fU a r).2∧b.l∧St (fU a r).1 {P with d:=R ⟨b.b,0,O⟩} (R b) F c d W)
def XH {b:aB} {a:Co} {e:List Ow} (c:St a P O F b e W) (i:P.d=O) (j:P.e=false) (l:dU a k) (n:k≤300) (o:r.b.length≤300) (d:gZ r.b) (p:A=O→r.b.length=0) (q:∀f,bg (Z6 F) b f→bU f A (dP r.b)):
  aF au 26 #[qp P.g,fO r.a r.c r.e r.d res A r.b.length C] W fun f h=>f=av (J U (if iN a r then 0 else 1))∧TU a r P F b e h:=by
 obtain⟨a,hF⟩:=id c;refine(Xc r res A C hF.a i j l n o d p (q W c.q)).mono ?_;rintro f h (⟨a,rfl,d⟩|⟨a,rfl,b,e,i,j⟩)
 ·exact⟨by rw[a];rfl,.inl ⟨a,c.a d⟩⟩
 ·exact⟨by rw[a];rfl,.inr ⟨a,b,e,i,hF.d j⟩⟩
def St.c {c:aB} {d:Co} {P:Pt} {e:Option fq} {F:Nat→List Nat} {L1 f:List Ow} {a:Nat} {h:bB} {b:Array aI} (i:St d P e F c (L1++(a,h,b)::f) W) (b:Array aI):St d P e F c (L1++(a,h,b)::f) (W.setRow a b):=
 i.G (bg.h W a b Y1) (i.u.p b)
def MoG.h {c:Pt} {b:Co} {a:aB} {h:List Ow} {e:Nat} (d:MoG W mb g m k L) (f:MoC W mb g m.c k L P F) (j:St b c O F W h a) (h:bH a mb 77 #[qp P.g,false]) (l:c.g=P.g) (n:c.d=O) (o:c.e=false) (p:dU b e) (q:jh c e):∃i,Ay a mb ⟨b,false⟩ e i∧gG L i W a:=by
 obtain⟨e,hF⟩:=j;have a:=d.c.e;have a:=hF.g;have i:∀b∈Z6 e,b∈L∨W.heap.size≤b:=fun b a=>(hF.e.2 b a).imp (f.a b) id;have j:mb∉Z6 e:=fun a=>(hF.e.2 mb a).elim f.i (fun d=>Y0);refine⟨mb::Z6 e,⟨P.g,h,Y1,fun b a=>?_,fun b a=>?_,fun _=>⟨c,e,l,hF.a,p,q,n,o,j,fun b a=>bJ _ a⟩⟩,hF.e.1.g (fun b a=>.inl (f.a b a)),fun b a=>?_⟩
 ·rcases bA.1 a with rfl|a
  ·exact h.e
  ·exact hF.a.o a
 ·rcases bA.1 a with rfl|a
  ·exact d.d _ d.a
  ·exact hF.a.u a
 ·rcases bA.1 a with rfl|a
  ·exact .inl d.a
  ·exact i b a
structure zbJ (w:aB) (F:Nat→List Nat) (n0 b4 b3:Nat) (z4 z3:Array aI) (cs:Array aI) (vR vF:aI) (ru:List Int) (fa:List Ft) (W:aB):Prop where
 a:bg (Z6 F) w W
 b:w.heap.size≤n0∧w.heap.size≤b4
 c:n0≠b4
 d:bH W n0 81 cs
 e:bH W b4 52 z4
 f:∀(mb:Nat) W',mb<w.heap.size→bg [mb,n0,b4] W W'→W'.ownsRow w 91 2 vF fa.length (bN fa)∧W'.ownsRow w 3 1 vR ru.length (ru.map (J U))
def Ot {b:JE} {n:aI} {s:List Ow} {h:Nat} {o:Bool} {a:List Int} {e:List Ft} {f d:Nat} {p t:Array aI} {q:aB} (c:JJ b n s h ⟨0,o,a,e⟩ q) (u:b.L=[(f,52,p),(d,30,t)]):
  ∃h i j l,zbJ b.w b.F b.a f d p t (jA b ⟨0,o,a,e⟩ n (Z j a.length l) (Z h e.length i)) (Z j a.length l) (Z h e.length i) a e q:=by
 obtain⟨w,x,y,t,v,d⟩:=c;obtain⟨j,l,rfl⟩:=dB (St.p (L1:=[]) d.a d.b);obtain⟨h,i,rfl⟩:=dB (d.a.p d.d);refine⟨h,i,j,l,?_⟩;have w:=((d.a.j t).j v).j s;rw[u]at w;obtain⟨x,s⟩:=w;have w:=s.b (b.a,81,jA b ⟨0,o,a,e⟩ n (Z j a.length l) (Z h e.length i)) Y1;have l:=s.b (f,52,p) Y1;have a:=s.f;simp only[List.map_cons,List.nodup_cons,bA]at a;have p:b.a≠f:=fun e=>a.1 (.inl e);obtain⟨a,n⟩:=d.a;have e:=n.f;rw[u]at e;have o:∀(mb:Nat) (a:Ow),mb<b.w.heap.size→a∈t∨a∈v→bH q a.1 a.2.1 a.2.2∧b.w.heap.size≤a.1∧a.1∉[mb,b.a,f]:=fun mb a i h=>by
  have j:=n.b a (by rcases h with c|c<;>simp[c]);refine⟨j.1.a,j.2,?_⟩;have n:a.1≠b.a∧a.1≠f:=by
   simp only[List.map_append,List.map_cons,List.nodup_append,bK,bA,dI]at e;rcases h with c|c
   ·exact⟨e.2.2 _ ⟨a,c,rfl⟩ _ Y1,e.2.2 _ ⟨a,c,rfl⟩ _ Y1⟩
   ·exact⟨e.2.1.2.2 _ ⟨a,c,rfl⟩ _ Y1,e.2.1.2.2 _ ⟨a,c,rfl⟩ _ Y1⟩
  have b:=j.2;simp[n.1,n.2];omega
 refine⟨d.a.q,⟨w.2,l.2⟩,p,w.1.a,l.1.a,fun mb c i b=>⟨d.d.a fun a h=>?_,d.b.a fun a h=>?_⟩⟩
 ·have:=o mb a i (.inr h);exact⟨this.1.g b this.2.2,this.2.1⟩
 ·have:=o mb a i (.inl h);exact⟨this.1.g b this.2.2,this.2.1⟩
def Ou {a:JE} {d:Co} {e:Pt} {b:aI} {f:List Ow} {i:Nat} {c:Jd} {h:aB} (j:JJ (a.f d e) b f i c h):∃b i,b.x=a.x∧b.b=a.b∧(c.a=1→b.o=true)∧(c.a=2→b.p=true)∧i[10]?=R (J U c.a)∧St d e (R b) a.F a.w ((a.a,81,i)::a.L) h:=by obtain⟨b,e,h,c,d,a⟩:=j;exact⟨b,_,a.c,a.e,a.h,a.i,rfl,((a.a.j c).j d).j f⟩
def XI {c:Co} {P:Pt} {b:fq} {F:Nat→List Nat} {d:aB} {e:List Ow} {a:Int} (f:St c P (R b) F d e W) (c:a=1→b.o=true) (d:a=2→b.p=true) (e:a=1∨a=2):W.cell? ⟨b.b,40+a.toNat,O⟩=R (aO true):=by
 obtain⟨b,a⟩:=f.f;rcases e with rfl|rfl
 ·rw[←c rfl];exact a.a.a 41
 ·rw[←d rfl];exact a.a.a 42
def zcj {a:aB} {d:Nat} {c e:bB} {f h b:Nat} {i:aI} {j:List aI} {n:Array aI} (l:a.ownsRow d c f i h j) (o:bH a b e n) (n:e≠c) (e:Array aI):(a.setRow b e).ownsRow d c f i h j:=by
 refine⟨l.1,l.2.imp id ?_⟩;rintro⟨g,d,f,h,i,c,j⟩;have l:g≠b:=fun p=>by subst p;have:=o.symm.trans c;simp at this;exact n this.2
 exact⟨g,d,f,h,i,(setRow_other a b g e l).trans c,j⟩
def Ov (b:MoG W mb g m k L) (e:m.a=false) (N:k≤280) (t:r.b.length≤300) (f:gZ r.b) (w:A=O→r.b.length=0) (I:∀a,bg L W a→bU a A (dP r.b)):
  aF au 13 #[aK (R ⟨mb,0,O⟩),fO r.a r.c r.e r.d res A r.b.length C] W (xI m r mb k L W):=by
 obtain⟨P,F,c⟩:=b.e e;have HM:Y (∀a,bg (Z6 F) W a→bH a mb 77 #[aK (R ⟨P.g,0,O⟩),aO false]):=aj fun a o=>by have:=b.c;rw[e,←c.g]at this;exact this.g o c.i
 have Q:=aj (((St.y c.j).i 30 #[J U r.a,J U r.c,J U r.e,J U r.d,aO res,Z A r.b.length C]).i 52 zO);obtain⟨v,T⟩:=exq r.b.length;obtain⟨h,l⟩:∃h:List Ow,h=[(W.heap.size+1,52,#[J U 0,Z O 0 0,Z O 0 0,Z O 0 0]),(W.heap.size,30,#[J U r.a,J U r.c,J U r.e,J U r.d,aO res,Z A v C])]:=⟨_,rfl⟩;have i:Y (St m.c P O F W h ((W.alloc (.cells #[J U r.a,J U r.c,J U r.e,J U r.d,aO res,Z A v C] 30)).alloc (.cells #[J U 0,Z O 0 0,Z O 0 0,Z O 0 0] 52))):=aj (by have:=Q.o;rw[show(W.alloc (.cells #[J U r.a,J U r.c,J U r.e,J U r.d,aO res,Z A r.b.length C] 30)).heap.size=W.heap.size+1 by simp,T]at this;rw[l];exact this)
 have G:Y (∀a,St m.c P O F W h a→aF au 26 #[aK (R ⟨P.g,0,O⟩),aS #[J U r.a,J U r.c,J U r.e,J U r.d,aO res,Z A v C]] a fun j B=>j=av (J U (if iN m.c r then 0 else 1))∧TU m.c r P F W h B):=aj fun a b=>by have:=XH (res:=res) (A:=A) (C:=C) (r:=r) b c.h c.e c.d Y0 t f w (fun a o=>I a (o.g (fun x f=>.inl (c.a x f))));rw[T]at this;exact this
 have p:Y (∀q D s a,St q D s F W h a→bH a (W.heap.size) 30 #[J U r.a,J U r.c,J U r.e,J U r.d,aO res,Z A v C]∧bH a (W.heap.size+1) 52 #[J U 0,Z O 0 0,Z O 0 0,Z O 0 0]∧bH a mb 77 #[aK (R ⟨P.g,0,O⟩),aO false]):=aj fun q D s a b=>by have d:=HM.o a b.q;rw[l]at b;exact⟨b.h (x:=(W.heap.size,30,_)) Y1,b.h (x:=(W.heap.size+1,52,_)) Y1,d⟩
 have y:=aj c;have z:=aj b;have E:=aj (And.intro N (And.intro t (And.intro f (And.intro w I))));have H:=aj (zch (p.o _ _ _ _ i.o).2.2);obtain⟨n,M⟩:∃n:Int,(if iN m.c r then 0 else 1)=n:=⟨_,rfl⟩;have u:=aj M;have w0:=aj l;have K:=aj e;rw[M]at G;unfold fO;rw[T];clear b c Q N t f w I M l e;go_enter func13,ntmps13;go_upto_region 5 with(go_at_call 25;refine H.o.mono ?_;rintro j c ⟨rfl,rfl⟩);generalize(W.alloc (.cells #[J U r.a,J U r.c,J U r.e,J U r.d,aO res,Z A v C] 30)).alloc (.cells #[J U 0,Z O 0 0,Z O 0 0,Z O 0 0] 52)=c at i H⊢;have l:=aj fun q D s a b=>p.o q D s a b;refine XE (en:=n) (g:=P.g) (A:=fun a=>St m.c P O F W h a) (B:=fun a=>TU m.c r P F W h a) i.o.e (fun c=>G.o _ c.a) (fun c=>(p.o _ _ _ _ c.a).2.2.a 0) (fun c=>(p.o _ _ _ _ c.a).1.a 0) (fun c=>(p.o _ _ _ _ c.a).1.a 1) (fun c=>(p.o _ _ _ _ c.a).1.a 2) (fun c=>(p.o _ _ _ _ c.a).1.a 3) (fun c=>(p.o _ _ _ _ c.a).1.a 4) (fun c=>(p.o _ _ _ _ c.a).1.a 5) ?_;intros;rename_i w e;have q:=aj e;clear e G H i l;rcases q.o with⟨d,l⟩|⟨d,s,H,M,l⟩
 ·have t:n=1:=by rw[←u.o,d];rfl
  subst t;have i:=aj l;have N:=aj (p.o _ _ _ _ l).2.1;have e:Y (dH m r=(m,.d,1)):=aj (by unfold dH;rw[aL (by rw[K.o];decide),aP d]);have Q:Y (xI m r mb k L W (av (aN #[aS #[J U 0,Z O 0 0,Z O 0 0,Z O 0 0],J U 1])) (w.setRow (W.heap.size+1) #[J U 0,Z O 0 0,Z O 0 0,Z O 0 0])):=aj (by
   have G:=i.o;rw[w0.o]at G;have h2:=St.c (L1:=[]) G #[J U 0,Z O 0 0,Z O 0 0,Z O 0 0];obtain⟨L',hM,hT⟩:=z.o.h y.o h2 (HM.o _ h2.q) rfl y.o.h y.o.e y.o.d y.o.f;have j:(⟨m.c,false⟩:Mo)=m:=by rw[←K.o]
   refine⟨Z O 0 0,Z O 0 0,Z O 0 0,L',by rw[e.o];rfl,by rw[e.o,←j];exact hM.f Y0,hT,(fun b=>by rw[e.o,K.o]at b;cases b),by rw[e.o];exact iO ..,by rw[e.o];exact iO ..,by rw[e.o];exact iO ..⟩)
  have f0:=aj (N.o.p #[J U 0,Z O 0 0,Z O 0 0,Z O 0 0]);clear l d i e p q E y z u HM w0 K;go_wp2_with (refine wpList_store_row rfl 52 (.tmp 4) (.tmp 26) rfl (W.heap.size+1) #[J U 0,Z O 0 0,Z O 0 0,Z O 0 0] rfl rfl 52 _ N.o Y3 rfl Y3 ?_);exact aG (v:=aN #[aS #[J U 0,Z O 0 0,Z O 0 0,Z O 0 0],J U 1]) (eH results13 (W.heap.size+1) rfl f0.o underlying52 rfl Y3) rfl Q.o
 ·have t:n=0:=by rw[←u.o,d];rfl
  subst t;have i:=aj l;have S:=aj (And.intro d (And.intro H M));clear d H M l q u;go_upto_region 8 with fail;obtain⟨e,n⟩:=exq ((fU m.c r).1);obtain⟨q,l⟩:∃q:Pt,q={P with d:=R ⟨s.b,0,O⟩}:=⟨_,rfl⟩;rw[n,←l]at i;have u:q.g=P.g:=by rw[l]
  obtain⟨d,H⟩:=exq w.heap.size;have d0:=aj l;have a0:=aj n;have l0:=aj u;have w:=aj H;have M:Y (∀a,St e q (R s) F W h a∧a.heap.size=d→a.heap.size=d∧St e q (R s) F W ((d,81,jz P.g r res A v C 0 false false)::h) (a.alloc (.cells #[aK (R ⟨P.g,0,O⟩),J U r.a,J U r.c,J U r.e,J U r.d,aO res,Z A v C,J U 0,aO false,aO false,J U 0,aO false,Z O 0 0,J U 0,Z O 0 0,Z O 0 0,Z O 0 0] 81))):=aj fun a b=>⟨b.2,by rw[←b.2];exact b.1.i _ _⟩;clear n l u H;refine XF (g:=P.g) (n0:=d) (A:=fun a=>St e q (R s) F W h a∧a.heap.size=d) (B:=fun a=>St e q (R s) F W ((d,81,jz P.g r res A v C 0 false false)::h) a) ⟨i.o.e,w.o⟩ (fun c=>M.o _ c.a) (fun c=>(p.o _ _ _ _ c.a.1).2.2.a 0) (fun c=>(p.o _ _ _ _ c.a.1).1.a 0) (fun c=>(p.o _ _ _ _ c.a.1).1.a 1) (fun c=>(p.o _ _ _ _ c.a.1).1.a 2) (fun c=>(p.o _ _ _ _ c.a.1).1.a 3) (fun c=>(p.o _ _ _ _ c.a.1).1.a 4) (fun c=>(p.o _ _ _ _ c.a.1).1.a 5) ?_;intros;rename_i n l;have V:=aj l;clear l i M w;obtain⟨⟨l,u⟩,w⟩:∃n:Int×Bool,kH e r=n:=⟨_,rfl⟩;have x0:=aj w;have i:=Lb y.o.d (by have:=E.o.1;omega) S.o.1 E.o.2.1 E.o.2.2.1;rw[a0.o]at i;have M:=aj i;have H:Y (∀a,St e q (R s) F W ((d,81,jz P.g r res A v C 0 false false)::h) a→aF au 27 #[aK (R ⟨P.g,0,O⟩)] a fun j B=>j=av (aN #[J U l,aO u])∧St e q (R s) F W ((d,81,jz P.g r res A v C 0 false false)::h) B):=aj fun a b=>by obtain⟨Q,hF⟩:=id b;have N:=NT Q hF.a (p:=s) (by rw[d0.o]) M.o.1 (by have:=E.o.1;omega) (by rw[S.o.2.1];exact M.o.2);rw[l0.o]at N;refine mB N fun B f=>?_;refine⟨?_,b.a f⟩;rw[S.o.2.1,Sn,x0.o]
  have N:=(p.o _ _ _ _ V.o.g).2.2.a 0;have b0:=aj (H.o _ V.o);clear w i H;go_upto_region 10 with(go_at_call 27;refine b0.o.mono ?_;rintro j i ⟨rfl,h4⟩;have H4:=aj h4;have w:=h4.u (L1:=[]);have x7:i.cell? ⟨d,7,O⟩=R (J U 0):=w.a 7;have x8:i.cell? ⟨d,8,O⟩=R (aO false):=w.a 8;have xf:=w.c;clear h4 w N);have y0:Y (St e q (R s) F W ((d,81,jz P.g r res A v C l u false)::h) ((i.setCell ⟨d,7,O⟩ (J U l)).setCell ⟨d,8,O⟩ (aO u))):=aj ((H4.o.o (L1:=[]) 7 [J U l]).o (L1:=[]) 8 [aO u]);generalize(i.setCell ⟨d,7,O⟩ (J U l)).setCell ⟨d,8,O⟩ (aO u)=i at y0⊢;obtain⟨n,N⟩:=exq ((fU m.c r).2);have Q:n.r=r:=by rw[←N];exact Sn
  obtain⟨H,c0⟩:=exq ((u&&(e.p (1-r.a)).a.h e.a.a l));obtain⟨i,w⟩:∃i:JE,i={c:=e,P:=q,x:=n,b:=s.b,F:=F,w:=W,L:=h,k:=k+1,a:=d,j:=res,i:=A,l:=C,g:=l,d:=u,e:=H}:=⟨_,rfl⟩;have g0:jA i .e (Z O 0 0) (Z O 0 0) (Z O 0 0)=jz P.g r res A v C l u H:=by rw[w];unfold jA;dsimp only;rw[Q,l0.o,T];rfl
  have K0:Y (∀a,St e q (R s) F W ((d,81,jz P.g r res A v C l u false)::h) a→JJ i (Z O 0 0) [] 0 .e (a.setCell ⟨d,9,O⟩ (aO H))):=aj fun a b=>by have T:St e q (R s) F W ((d,81,jz P.g r res A v C l u H)::h) (a.setCell ⟨d,9,O⟩ (aO H)):=b.o (L1:=[]) 9 [aO H];rw[←g0]at T;refine⟨s,Z O 0 0,Z O 0 0,[],[],by rw[w];exact S.o.2.1.trans N,by rw[w],S.o.2.2,(fun b=>by cases b),(fun b=>by cases b),.inl rfl,?_,eZ.d ..,eZ.d ..,aD _,aD _⟩;rw[w]at T⊢;exact T
  have h0:i.h:=by rw[w];exact⟨by rw[d0.o],M.o.1,by dsimp only;have:=E.o.1;omega,by dsimp only;rw[←N];exact M.o.2,fun a o=>by dsimp only;rw[Q];exact E.o.2.2.2.2 a (o.g (fun x f=>.inl (y.o.a x f))),fun b=>by dsimp only;rw[Q];exact E.o.2.2.2.1 b⟩
  have I:=(pU S.o.1).1;have T:r.a=0∨r.a=1:=dN I;have m0:ko (1-r.a)=true:=by rcases T with j|j<;>rw[j]<;>rfl
  have X:(Lit.int U l).wf=true:=by have:=XG (c':=e) S.o.1;rw[x0.o]at this;exact this
  have k1:Y (∀a,St e q (R s) F W ((d,81,jz P.g r res A v C l u false)::h) a→aF au 28 #[aK (R ⟨P.g,0,O⟩),J U (1-r.a)] a fun j B=>j=av (aK (R ⟨(q.q (1-r.a)).a,0,O⟩))∧St e q (R s) F W ((d,81,jz P.g r res A v C l u false)::h) B):=aj fun a b=>by have:=xE (1-r.a) m0 b.d;rw[l0.o]at this;exact this.mono fun j B ⟨t,e2⟩=>⟨t,by rw[e2];exact b⟩
  have l1:Y (∀a,St e q (R s) F W ((d,81,jz P.g r res A v C l u false)::h) a→aF au 29 #[aK (R ⟨(q.q (1-r.a)).a,0,O⟩),J U l] a fun j B=>j=av (aO ((e.p (1-r.a)).a.h e.a.a l))∧St e q (R s) F W ((d,81,jz P.g r res A v C l u false)::h) B):=aj fun a b=>zai (1-r.a) l b M.o.1 (by have:=E.o.1;omega) X;have o:=aj w;have z0:=aj h0;have e0:=aj (And.intro N Q);have n0:=aj (And.intro T X);have A0:=aj c0;clear N Q w g0 h0 I T m0 X c0 x7 x8 xf H4 b0 V;have N:fU m.c r=(e,n):=Prod.ext a0.o e0.o.1;obtain⟨w,I⟩:=exq (jZ e n (u&&H) (e.p (1-r.a)).q.a .e);have B0:Y (dH m r=if w.1.a=0 then(⟨e,true⟩,⟨3,w.1.b,w.1.c,[]⟩,0)else
    (if(KL (oH e (1-r.a) w.2 (u&& !w.1.d) l) n w.1.a).2=false then(⟨(KL (oH e (1-r.a) w.2 (u&& !w.1.d) l) n w.1.a).1,true⟩,⟨4,[],[],[]⟩,0)else(⟨(KL (oH e (1-r.a) w.2 (u&& !w.1.d) l) n w.1.a).1,false⟩,⟨if w.1.a=2 then 2 else 1,[],[],n.b⟩,0))):=aj (by
   unfold dH;rw[aL (by rw[K.o];decide),aL (by rw[S.o.1];decide),N];dsimp only;rw[x0.o];dsimp only;rw[A0.o,I];rfl)
  obtain⟨g0,K⟩:=exq ((e.p (1-r.a)).q.a.length);have C0:Y (w.2.length=g0∧g0≤1000):=aj ⟨by rw[←I,←K];exact Lr ..,by rw[←K];have:=(M.o.1.a (1-r.a)).q.d;have:=E.o.1;omega⟩;have D0:Y ((w.1.a=0∨w.1.a=1∨w.1.a=2)∧(w.1.a=1→Du e n)):=aj ⟨by
   rw[←I];rcases Dw (c:=e) (x:=n) (lc:=(u&&H)) (e.p (1-r.a)).q.a (j:=.e) (.inl rfl)with b|⟨_,_,_,b⟩
   ·exact .inl b
   ·exact .inr b,fun b=>zaj (by rw[I];exact b)⟩
  have m1:Y (∀a,JJ i (Z O 0 0) [] 0 .e a→aF au 30 #[aK (R ⟨d,0,O⟩)] a fun j B=>j=av (aN #[])∧∃Q T LB,eZ 4 1 (Z Q g0 T) g0 (w.2.map aO) LB∧JJ i (Z Q g0 T) LB 3000 w.1 B):=aj fun a b=>by have:=Gu z0.o (by rw[o.o];dsimp only;rw[e0.o.2];exact n0.o.1) b;rw[show i.c=e by rw[o.o],show i.x=n by rw[o.o],show i.d=u by rw[o.o],show i.e=H by rw[o.o],show i.a=d by rw[o.o],e0.o.2,I,K]at this;exact this
  clear N I K;have T:=aj fun a (b:St e q (R s) F W ((d,81,jz P.g r res A v C l u false)::h) a)=>And.intro b.b (p.o _ _ _ _ b.g);cases u;case' false=>
   obtain rfl:H=false:=by rw[←A0.o];rfl
   refine Om (A:=fun a=>St e q (R s) F W ((d,81,jz P.g r res A v C l false false)::h) a) (B:=fun a=>JJ i (Z O 0 0) [] 0 .e a) y0.o.e (fun c=>K0.o _ c.a) (fun c=>(T.o _ c.a).1.a 8) (fun c=>(T.o _ c.a).1.a 9) (fun c=>(T.o _ c.a).1.c) ?_
  case' true=>
   obtain rfl:(e.p (1-r.a)).a.h e.a.a l=H:=by rw[←A0.o];rfl
   refine Oo (g:=P.g) (kn:=(q.q (1-r.a)).a) (fr:=r.a) (id:=l) (x:=(e.p (1-r.a)).a.h e.a.a l) (can0:=false) (A:=fun a=>St e q (R s) F W ((d,81,jz P.g r res A v C l true false)::h) a) (B:=fun a=>JJ i (Z O 0 0) [] 0 .e a) y0.o.e n0.o.1 (fun c=>k1.o _ c.a) (fun c=>l1.o _ c.a) (fun c=>K0.o _ c.a) (fun c=>(T.o _ c.a).2.2.2.a 0) (fun c=>(T.o _ c.a).2.1.a 0) (fun c=>(T.o _ c.a).1.a 7) (fun c=>(T.o _ c.a).1.a 8) (fun c=>(T.o _ c.a).1.a 9) (fun c=>(T.o _ c.a).1.c) ?_
  all_goals
   intros;rename_i W6 n1;have p1:=aj (m1.o _ n1);clear n1 y0 K0 T k1 l1 m1 x0 A0;go_upto_region 12 with(go_at_call 30;refine p1.o.mono ?_;rintro j I ⟨rfl,A7,C7,LB,q1,h7⟩;have L0:=aj q1;have i0:=aj h7;clear q1 h7 p1);obtain⟨⟨H,pl,V,X⟩,bl⟩:=w;have E1:I.cell? ⟨d,10,O⟩=R (J U H):=by have:=i0.o.a.2.2.2.2.2.1;rw[show i.a=d by rw[o.o]]at this;exact this
   by_cases M0:H=0
   ·subst M0;have K:Y (dH m r=(⟨e,true⟩,⟨3,X,V,[]⟩,0)):=aj (by rw[B0.o,aP rfl]);obtain⟨mv,r1⟩:∃mv:aI,mv=Z A7 g0 C7:=⟨_,rfl⟩;rw[←r1]at i0;obtain⟨FA,FC,RA,RC,N⟩:=Ot i0.o (by rw[o.o];exact w0.o);rw[show i.w=W by rw[o.o],show i.a=d by rw[o.o],show i.F=F by rw[o.o]]at N;have N:=aj N;have E0:=HM.o I N.o.a;have N0:mb<W.heap.size:=z.o.c.e;have j0:=N.o.b;have o0:d≠mb∧W.heap.size+1≠mb:=⟨Y0,Y0⟩;have z1:=E0.H 1;have zf:=E0.c;have P0:Y (bH (I.setCell ⟨mb,1,O⟩ (aO true)) mb 77 #[aK (R ⟨P.g,0,O⟩),aO true]):=aj (bH.o [aO true] 1 I _ E0);have O8:bg [mb] I (I.setCell ⟨mb,1,O⟩ (aO true)):=bg.f (F:=[mb]) Y1 [aO true] 1 I;have Q0:Y (bg [mb,d,W.heap.size+1] I (I.setCell ⟨mb,1,O⟩ (aO true))):=aj (O8.g (fun x f=>.inl (by simp at f;simp[f])));have p0:=aj (N.o.d.g O8 (by simp[o0.1]));have S0:=aj (N.o.e.g O8 (by simp[o0.2]));clear E0 O8 i0 D0 C0 B0 e0 n0 z0 r1 L0 M S E p;go_upto_region 14 with fail;generalize I.setCell ⟨mb,1,O⟩ (aO true)=W8 at P0 Q0 p0 S0⊢;have F1:=p0.o.H 13;have G1:=p0.o.c;have O9:bg [d] W8 (W8.setCell ⟨d,13,O⟩ (J U 3)):=bg.f (F:=[d]) Y1 [J U 3] 13 W8;have h0:=aj (bH.o [J U 3] 13 W8 _ p0.o);have a0:=aj (P0.o.g O9 (by simp[Ne.symm o0.1]));have b0:=aj (S0.o.g O9 (by simp;exact Ne.symm N.o.c));have T0:Y (bg [mb,d,W.heap.size+1] I (W8.setCell ⟨d,13,O⟩ (J U 3))):=aj (Q0.o.a O9 (fun x f=>.inl (by simp at f;simp[f])));clear O9 Q0 p0 P0 S0 z1 zf;go_upto_region 15 with fail;generalize q0:W8.setCell ⟨d,13,O⟩ (J U 3)=u at a0 T0 b0⊢;have h0:Y (bH u d 81 _):=aj (by have:=h0.o;rw[show W8.setCells d 13 [J U 3]=u from q0]at this;exact this);clear q0 F1 G1;have M1:=h0.o.H 13;have N1:=h0.o.H 14;have P1:=h0.o.H 15;have Q1:=h0.o.H 16;have r0:Y (xI m r mb k L W (av (aN #[aS #[J U 3,Z FA X.length FC,Z RA V.length RC,Z O 0 0],J U 0])) (u.setRow (W.heap.size+1) #[J U 3,Z FA X.length FC,Z RA V.length RC,Z O 0 0])):=aj (by
     have o1:=T0.o.a (bg.h u (W.heap.size+1) #[J U 3,Z FA X.length FC,Z RA V.length RC,Z O 0 0] (F:=[W.heap.size+1]) Y1) (fun x f=>.inl (by simp at f;simp[f]));have hr:=N.o.f mb _ N0 o1;have s0:=a0.o.s (Ne.symm o0.2) #[J U 3,Z FA X.length FC,Z RA V.length RC,Z O 0 0];refine⟨_,_,_,[mb],by rw[K.o],⟨P.g,by rw[K.o];exact s0,Y1,fun x f=>by rw[aC.1 f];exact s0.e,fun x f=>by rw[aC.1 f];exact z.o.d _ z.o.a,(fun b=>by rw[K.o]at b;cases b)⟩,⟨?_,fun x f=>.inl (by rw[aC.1 f];exact z.o.a)⟩,fun _=>rfl,by rw[K.o];exact hr.1,by rw[K.o];exact hr.2,by rw[K.o];exact iO ..⟩;refine(N.o.a.g (fun x f=>.inl (y.o.a x f))).a o1 (fun x f=>?_);simp at f;rcases f with rfl|rfl|rfl
     ·exact .inl z.o.a
     ·exact .inr j0.1
     ·exact .inr j0.2)
    have f0:=aj (b0.o.p #[J U 3,Z FA X.length FC,Z RA V.length RC,Z O 0 0]);clear T0 a0 N K h0 j0 o0 N0 HM z y;go_wp2_with (refine wpList_store_row rfl 52 (.tmp 4) (.tmp 88) rfl (W.heap.size+1) #[J U 3,Z FA X.length FC,Z RA V.length RC,Z O 0 0] rfl rfl 52 _ b0.o Y3 rfl (by simp[Value.oneCell']) ?_);exact aG (v:=aN #[aS #[J U 3,Z FA X.length FC,Z RA V.length RC,Z O 0 0],J U 0]) (eH results13 (W.heap.size+1) rfl f0.o underlying52 rfl Y3) rfl r0.o
   ·have V0:=Ol z0.o (fun S1=>by
     rw[o.o];dsimp only;rw[d0.o];have:=y.o.f;have G:=this.a;have h2:=this.b;unfold Pt.q;split
     ·exact cZ G
     ·exact cZ h2) (by rw[o.o];dsimp only;rw[e0.o.2];exact n0.o.1) (by rw[o.o];exact n0.o.2) A7 g0 C7 bl C0.o.1 (by have:=C0.o.2;omega) L0.o i0.o
    rw[show i.a=d by rw[o.o]]at V0;have s1:=aj V0;obtain⟨c2,W0⟩:=exq (oH e (1-r.a) bl (i.d&& !pl) l);obtain⟨Q,hd⟩:=exq (KL c2 n H);have K:Y (dH m r=if Q.2=false then(⟨Q.1,true⟩,⟨4,[],[],[]⟩,0)else(⟨Q.1,false⟩,⟨if H=2 then 2 else 1,[],[],n.b⟩,0)):=aj (by rw[B0.o,aL M0,←hd,←W0];simp only[o.o]);clear V0 i0 L0 B0;have HD:=aj hd;have F0:=aj W0;clear hd W0;go_upto_region 17 with(go_at_call 31;refine s1.o.mono ?_;rintro j W8 ⟨rfl,D,X0,G0⟩);rw[show i.c=e by rw[o.o],show i.x=n by rw[o.o],show i.g=l by rw[o.o],e0.o.2]at G0;have eP:i.P=q:=by rw[o.o]
    have ek:i.k=k+1:=by rw[o.o]
    rw[eP,ek]at X0;have t0:=y.o.f;have u0:Y (D.g=P.g∧D.d=R ⟨s.b,0,O⟩∧D.e=false∧jh D (k+2)):=aj (by
     have G:jh q (k+2):=by rw[d0.o];exact(show jh {P with d:=R ⟨s.b,0,O⟩} k from⟨t0.a,t0.b,t0.c,t0.d⟩).e Y0
     rcases X0 with rfl|⟨T1,hT,rfl⟩
     ·exact⟨l0.o,by rw[d0.o],by rw[d0.o];exact y.o.e,G⟩
     ·rw[d0.o]at G⊢;unfold Pt.f;split
      ·exact⟨rfl,rfl,y.o.e,hT,G.b,G.c,G.d⟩
      ·exact⟨rfl,rfl,y.o.e,G.a,hT,G.c,G.d⟩)
    rw[F0.o]at G0;obtain⟨p',cs,v0,a1,m0,t1,u1,b1⟩:=Ou G0;rw[show i.x=n by rw[o.o]]at v0;rw[show i.b=s.b by rw[o.o]]at a1;rw[show i.a=d by rw[o.o],show i.F=F by rw[o.o],show i.L=h by rw[o.o],show i.w=W by rw[o.o]]at b1;have c1:H=1∨H=2:=D0.o.1.resolve_left M0;have d1:dU c2 (k+1):=by rw[←F0.o];exact XB M.o.1 _ _ _ _
    have e1:H=1→Du c2 n:=fun j=>(D0.o.2 j).b (by rw[←F0.o];exact zak e _ _ _ _ M.o.1);have f1:iZ n:=by rw[←e0.o.1];exact M.o.2
    have v1:Y (∀a,St c2 D (R p') F W ((d,81,cs)::h) a→aF au 32 #[aK (R ⟨P.g,0,O⟩),J U H] a fun j B=>∃c0:aI×Int,j=av (aN #[c0.1,J U c0.2])∧DoZ Q n.b D F W ((d,81,cs)::h) (k+2+2) (av (aN #[c0.1,J U c0.2])) B):=aj fun a b=>by
     have w1:=zbc b (by rw[a1];exact u0.o.2.1) u0.o.2.2.1 (d1.b Y0) u0.o.2.2.2 (by have:=E.o.1;omega) (by rw[v0];exact f1) c1 (fun j=>by rw[v0];exact(e1 j).a) (XI b m0 t1 c1);rw[u0.o.1,v0,HD.o]at w1;refine w1.mono ?_;rintro j B ⟨P2,z1,z2,z3,z4,z5⟩;cases hd2:Q.2 with
     |false=>have t:=z4 hd2;exact⟨(Z O 0 0,6),t,P2,z1,z2,z3,fun _=>rfl,fun b=>by rw[hd2]at b;cases b⟩
     |true=>obtain⟨g1,t,e2⟩:=z5 hd2;exact⟨(g1,0),t,P2,z1,z2,z3,(fun b=>by rw[hd2]at b;cases b),fun _=>⟨g1,rfl,e2⟩⟩
    have H1:Y (dU Q.1 (k+3)):=aj (by rw[←HD.o];exact zal d1 f1 (fun j=>e1 (c1.resolve_right j)));have x1:=aj b1;have h1:=aj fun a (b:St c2 D (R p') F W ((d,81,cs)::h) a)=>And.intro b.b (p.o _ _ _ _ b.g);have y1:=aj u1;clear G0 X0 t0 b1 m0 t1 v0 a1 d1 e1 f1 u1 F0 HD D0 C0 z0 e0 M S d0 l0 eP ek E1 s1;refine TT (g:=P.g) (ans:=H) (A:=fun a=>St c2 D (R p') F W ((d,81,cs)::h) a) (B:=fun c0 a=>DoZ Q n.b D F W ((d,81,cs)::h) (k+2+2) (av (aN #[c0.1,J U c0.2])) a) x1.o.e (fun c=>(h1.o _ c.a).2.2.2.a 0) (fun c=>((h1.o _ c.a).1.a 10).trans y1.o) v1.o ?_;intros;rename_i c0 u q0;have HZ:=aj q0;clear q0 x1 v1 h1;obtain⟨P2,z1,z2,z3,z4,z5⟩:=HZ.o;obtain⟨tv,te⟩:=c0;have H0:=aj z3;have A1:=z3.b;have I0:=p.o _ _ _ _ z3.g;have V1:u.cell? ⟨d,10,O⟩=R (J U H):=(A1.a 10).trans y1.o;have b0:=aj I0.2.1;have a0:=aj I0.2.2;have N0:mb<W.heap.size:=z.o.c.e;have k0:=aj (And.intro z1 z2);have j0:W.heap.size+1≠mb:=Y0;cases hd2:Q.2 with
    |false=>
     have t:=z4 hd2;injection t with t;injection t with t;simp at t;obtain⟨rfl,rfl⟩:=t;have v:Y (dH m r=(⟨Q.1,true⟩,⟨4,[],[],[]⟩,0)):=aj (by rw[K.o,aP hd2]);have W1:=a0.o.H 1;have zf:=a0.o.c;have B1:Y (bH (u.setCell ⟨mb,1,O⟩ (aO true)) mb 77 #[aK (R ⟨P.g,0,O⟩),aO true]):=aj (bH.o [aO true] 1 u _ a0.o);have i1:bg [mb] u (u.setCell ⟨mb,1,O⟩ (aO true)):=bg.f (F:=[mb]) Y1 [aO true] 1 u;have C1:=aj (b0.o.g i1 (by simp[j0]));have r0:Y (xI m r mb k L W (av (aN #[aS #[J U 4,Z O 0 0,Z O 0 0,Z O 0 0],J U 0])) ((u.setCell ⟨mb,1,O⟩ (aO true)).setRow (W.heap.size+1) #[J U 4,Z O 0 0,Z O 0 0,Z O 0 0])):=aj (by have o1:=((H0.o.q.g (fun x f=>.inl (y.o.a x f))).a i1 (fun x f=>.inl (by rw[aC.1 f];exact z.o.a))).a (bg.h _ (W.heap.size+1) #[J U 4,Z O 0 0,Z O 0 0,Z O 0 0] (F:=[W.heap.size+1]) Y1) (fun x f=>.inr (by rw[aC.1 f];omega));have s0:=B1.o.s (Ne.symm j0) #[J U 4,Z O 0 0,Z O 0 0,Z O 0 0];exact⟨Z O 0 0,Z O 0 0,Z O 0 0,[mb],by rw[v.o],⟨P.g,by rw[v.o];exact s0,Y1,fun x f=>by rw[aC.1 f];exact s0.e,fun x f=>by rw[aC.1 f];exact z.o.d _ z.o.a,(fun b=>by rw[v.o]at b;cases b)⟩,⟨o1,fun x f=>.inl (by rw[aC.1 f];exact z.o.a)⟩,fun _=>rfl,by rw[v.o];exact iO ..,by rw[v.o];exact iO ..,by rw[v.o];exact iO ..⟩)
     have f0:=aj (C1.o.p #[J U 4,Z O 0 0,Z O 0 0,Z O 0 0]);clear i1 H0 a0 b0 HZ k0 z1 z2 z3 z4 z5 A1 I0 K v y z HM B1 p E;go_wp2_with (refine wpList_store_row rfl 52 (.tmp 4) (.tmp 108) rfl (W.heap.size+1) #[J U 4,Z O 0 0,Z O 0 0,Z O 0 0] rfl rfl 52 _ C1.o Y3 rfl Y3 ?_);exact aG (v:=aN #[aS #[J U 4,Z O 0 0,Z O 0 0,Z O 0 0],J U 0]) (eH results13 (W.heap.size+1) rfl f0.o underlying52 rfl Y3) rfl r0.o
    |true=>
     obtain⟨g1,t,j1⟩:=z5 hd2;injection t with t;injection t with t;simp at t;obtain⟨rfl,rfl⟩:=t;have v:Y (dH m r=(⟨Q.1,false⟩,⟨if H=2 then 2 else 1,[],[],n.b⟩,0)):=aj (by rw[K.o,aL (by rw[hd2];decide)]);obtain⟨VA,VC,rfl⟩:=dB j1;obtain⟨kd,I1⟩:∃kd:Int,(if H=2 then 2 else 1)=kd:=⟨_,rfl⟩;have D1:=aj (TS H u);rw[I1]at D1 v;have r0:Y (xI m r mb k L W (av (aN #[aS #[J U kd,Z O 0 0,Z O 0 0,Z VA n.b.length VC],J U 0])) (u.setRow (W.heap.size+1) #[J U kd,Z O 0 0,Z O 0 0,Z VA n.b.length VC])):=aj (by have h3:=H0.o;rw[w0.o]at h3;have h4:=St.c (L1:=[(d,81,cs)]) h3 #[J U kd,Z O 0 0,Z O 0 0,Z VA n.b.length VC];have K1:P2.g=P.g:=k0.o.1.g.trans u0.o.1;have L1:P2.e=false:=k0.o.1.d.trans (by show(!Q.2)=false;rw[hd2];rfl);obtain⟨L',hM,hT⟩:=z.o.h y.o h4 (HM.o _ h4.q) K1 k0.o.1.c L1 (H1.o.b (show k+3≤k+5 by omega)) (k0.o.2.e Y0);exact⟨Z O 0 0,Z O 0 0,Z VA n.b.length VC,L',by rw[v.o],by rw[v.o];exact hM,hT,(fun b=>by rw[v.o]at b;cases b),by rw[v.o];exact iO ..,by rw[v.o];exact iO ..,by rw[v.o];exact zcj j1 b0.o Y2 _⟩)
     have f0:=aj (b0.o.p #[J U kd,Z O 0 0,Z O 0 0,Z VA n.b.length VC]);clear H0 a0 HZ k0 z1 z2 z3 z4 z5 j1 I0 K v y z HM p E;go_wp2_with (first|(go_at_call 33;refine D1.o.mono ?_;rintro j X1 ⟨rfl,rfl⟩)|refine wpList_store_row rfl 52 (.tmp 4) (.tmp 115) rfl (W.heap.size+1) #[J U kd,Z O 0 0,Z O 0 0,Z VA n.b.length VC] rfl rfl 52 _ b0.o Y3 rfl (by simp[Value.oneCell']) ?_);exact aG (v:=aN #[aS #[J U kd,Z O 0 0,Z O 0 0,Z VA n.b.length VC],J U 0]) (eH results13 (W.heap.size+1) rfl f0.o underlying52 rfl Y3) rfl r0.o
def Al (a:Ay W mb m k L) (c:k≤280) (d:r.b.length≤300) (e:gZ r.b) (f:A=O→r.b.length=0) (h:∀b,bg L W b→bU b A (dP r.b)):
  aF au 13 #[qp mb,fO r.a r.c r.e r.d res A r.b.length C] W (xI m r mb k L W):=by
 cases ho:m.a with
 |true=>exact Oq a ho
 |false=>obtain⟨g,a⟩:=a;exact Ov a ho c d e f h
end
def OC (a:Rw) (b:Int):List aI:=[J U a.a,J U a.c,J U a.e,J U a.d,J U a.b.length,J U b]
def XT (a:Rw) (e:Bool) (f:Option aX) (g:Nat) (c:Int) (h i j:aI) (b:aB):aF au 81 #[fO a.a a.c a.e a.d e f a.b.length g,aS #[c,h,i,j]] b fun d k=>d=av (aS (OC a c).toArray)∧aJ b b k:=by
 obtain⟨d,k⟩:=exq a.b.length;unfold fO OC;rw[k];clear k;have m:=aj (gU b 30 (qr a e f d g));have k:=aj (gU (b.alloc (.cells (qr a e f d g) 30)) 52 #[c,h,i,j]);have l:=aj (gU ((b.alloc (.cells (qr a e f d g) 30)).alloc (.cells #[c,h,i,j] 52)) 72 #[J U 0,J U 0,J U 0,J U 0,J U 0,J U 0]);have q:=aj ((m.o.2.b k.o.1).b l.o.1);have r:Y (bH (((b.alloc (.cells (qr a e f d g) 30)).alloc (.cells #[c,h,i,j] 52)).alloc (.cells #[J U 0,J U 0,J U 0,J U 0,J U 0,J U 0] 72)) (b.heap.size+1) 52 #[c,h,i,j]):=aj (by have:=k.o.2.b l.o.1;rwa[show(b.alloc (.cells (qr a e f d g) 30)).heap.size=b.heap.size+1 by simp]at this)
 have n:Y (bH (((b.alloc (.cells (qr a e f d g) 30)).alloc (.cells #[c,h,i,j] 52)).alloc (.cells #[J U 0,J U 0,J U 0,J U 0,J U 0,J U 0] 72)) (b.heap.size+1+1) 72 #[J U 0,J U 0,J U 0,J U 0,J U 0,J U 0]):=aj (by have:=l.o.2;rwa[show((b.alloc (.cells (qr a e f d g) 30)).alloc (.cells #[c,h,i,j] 52)).heap.size=b.heap.size+1+1 by simp]at this)
 have o:=m.o.1.trans ((k.o.1.trans (l.o.1.mono k.o.1.size)).mono m.o.1.size);have p:=aj o;obtain⟨s,t,u,v,w,x⟩:=bH.j q.o;obtain⟨q,s,t,u⟩:=bH.l r.o;clear m k l o;go_enter func81,ntmps81;go_upto_region 1 with fail;generalize((b.alloc (.cells (qr a e f d g) 30)).alloc (.cells #[c,h,i,j] 52)).alloc (.cells #[J U 0,J U 0,J U 0,J U 0,J U 0,J U 0] 72)=e at*;have f:=aj (n.o.p #[a.a,a.c,a.e,a.d,d,c]);have g:Y (aJ b b (e.setRow (b.heap.size+1+1) #[a.a,a.c,a.e,a.d,d,c])):=aj (p.o.trans ((bg.h e (b.heap.size+1+1) _ (F:=[b.heap.size+1+1]) Y1).c p.o.size (fun h e=>by rw[aC.1 e];omega)));go_wp2_with (refine wpList_store_row rfl 72 (.tmp 4) (.tmp 18) rfl (b.heap.size+1+1) #[a.a,a.c,a.e,a.d,d,c] rfl rfl 72 _ n.o Y3 rfl (by simp[Value.oneCell']) ?_);exact aG (v:=aS #[a.a,a.c,a.e,a.d,d,c]) (iC results81 (b.heap.size+1+1) rfl f.o underlying72 rfl Y3) rfl ⟨rfl,g.o⟩
abbrev JI (a:Int×aI):List aI:=[J U a.1,a.2]
def ckX (a:Int×aI):Bool:=a.1 !=0&&a.1 !=1
def zbP (b:Int×aI) (a:aB):aF au 41 #[aS (JI b).toArray] a fun c d=>c=av (aO (ckX b))∧aJ a a d:=by
 obtain⟨c,d⟩:=b;have b:=aj (gU a 63 #[c,d]);obtain⟨a,d⟩:=bH.m b.o.2;unfold ckX JI;dsimp only;obtain⟨a,d⟩:=exq ((c !=0));obtain⟨e,f⟩:=exq ((c !=1));rw[d,f];cases a<;>cases e;all_goals
  go_enter func41,ntmps41;go_wp2;try go_quiet (fail)
  go_wp2;go_ret;exact⟨rfl,b.o.1⟩
instance:Inhabited (Int×aI):=⟨(0,bq)⟩
def zck (f d j:Nat) (c:List (Int×aI)) (a:aB) (o:c.length=d) (b:d≤100000) (p:f<a.heap.size) (k:∀b∈c,ckX b=false)
  (l:∀e b,c[e]?=R b→∀g h,(JI b)[g]?=R h→a.cell? ⟨f,e*2+g,O⟩=R h):
  aF au 21 #[Z (R ⟨f,0,O⟩) d j] a fun i m=>i=av true∧aJ a a m:=by
 have n:=aj (AnyQ.slices_ContainsFunc Tryz.lf40 2 (fun a=>Tryz.isAgg63 a) (fun a=>Tryz.sizeOf63 a) JI (fun _=>rfl) ckX 41 #[] (fun q a=>Y3) f 0 d j c a (fun f b a=>(zbP b f).mono (fun i m f=>⟨f.1,a.trans (f.2.mono a.size)⟩)) Y0 Y0 p (fun e a g h f=>by rw[cK];refine l e c[e]! ?_ g h f;rw[List.getElem!_eq_getElem?_getD,aQ a];rfl))
 have a:(c.take d).any ckX=false:=by rw[List.any_eq_false];exact fun b c=>by rw[k b (List.mem_of_mem_take c)];decide
 rw[a]at n;clear a l k o;go_enter func21,ntmps21;go_wp2_with (go_at_call 40;refine n.o.mono ?_;rintro i c ⟨rfl,a⟩;have b:=aj a;clear a);go_ret;exact⟨rfl,b.o⟩
def OD (a:aB):aF au 21 #[Z O 0 0] a fun b c=>b=av true∧aJ a a c:=by
 have e:∀a,aF au 79 #[Z O 0 0,.func (.func 41) #[] #[]] a fun b c=>b=av (J U (-1))∧aJ a a c:=fun a=>by
  go_enter func79,ntmps79;go_wp2;go_loopw [8] (fun d wr=>d=J U 0∧Y (aJ a a wr)) (fun _ _=>0);case atStart=>exact⟨rfl,aj (ay _ _)⟩
  case round=>obtain⟨rfl,d⟩:=hrel;go_wp2;go_ret;exact⟨rfl,d.o⟩
 have f:∀a,aF au 40 #[Z O 0 0,.func (.func 41) #[] #[]] a fun b c=>b=av false∧aJ a a c:=fun a=>by have d:=aj (e a);go_enter func40,ntmps40;go_wp2_with (go_at_call 79;refine d.o.mono ?_;rintro b g ⟨rfl,c⟩;have e:=aj c;clear c);go_ret;exact⟨rfl,e.o⟩
 have d:=aj (f a);go_enter func21,ntmps21;go_wp2_with (go_at_call 40;refine d.o.mono ?_;rintro b g ⟨rfl,c⟩;have e:=aj c;clear c);go_ret;exact⟨rfl,e.o⟩
section
variable {I I':aB→List Nat→Prop} {w W W':aB} {L LA LB LC:List Ow}
variable {mb k:Nat} {m:Mo} {r:Rw} {res:Bool} {A:Option aX} {C:Nat}
abbrev vM (mb k:Nat) (m:Mo):aB→List Nat→Prop:=fun W a=>Ay W mb m k a
def StQ (mb k:Nat) (m:Mo) (r:Rw) (w:aB) (L:List Ow) (c d:aI) (W:aB):Prop:=
 Bs (vM mb (k+5) (dH m r).1) w L W∧((dH m r).1.a=true→∃a b,eZ 91 2 c (dH m r).2.1.a.length (bN (dH m r).2.1.a) a∧eZ 3 1 d (dH m r).2.1.b.length ((dH m r).2.1.b.map (J U)) b∧Bs (vM mb (k+5) (dH m r).1) w (a++(b++L)) W)
def XZ (f:Bs (vM mb k m) w (LA++(LB++LC)) W) (p:eZ 5 1 (Z A r.b.length C) r.b.length (dP r.b) LB) (s:k≤280) (t:r.b.length≤300) (j:gZ r.b):
  aF au 13 #[qp mb,fO r.a r.c r.e r.d res A r.b.length C] W fun c l=>∃d g h i n o,c=av (aN #[aS #[J U (dH m r).2.1.k,Z d (dH m r).2.1.a.length g,Z h (dH m r).2.1.b.length i,Z n (dH m r).2.1.c.length o],J U (dH m r).2.2])∧StQ mb k m r w (LA++(LB++LC)) (Z d (dH m r).2.1.a.length g) (Z h (dH m r).2.1.b.length i) l:=by
 obtain⟨q,hF⟩:=id f;have u:∀W',bg q W W'→bU W' A (dP r.b):=fun W' v=>by
  have:W'.ownsRow w 5 1 (Z A r.b.length C) r.b.length (dP r.b):=p.a fun b a=>by
   have e:b∈LA++(LB++LC):=by simp[a]
   exact⟨(hF.a b e).1.g v (hF.a b e).2.1,(hF.a b e).2.2⟩
  exact dD this
 have v:=f.g p;refine(Al hF.c s t j (fun c=>((fH v).1 c).1) u).mono ?_;rintro c l ⟨y,z,B,s,rfl,t,f,x,u,v,p⟩;obtain⟨d,g,rfl⟩:=dB u;obtain⟨h,i,rfl⟩:=dB v;obtain⟨n,o,rfl⟩:=dB p;have y:∀p∈q,p<W.heap.size:=fun p j=>hF.f.c hF.c p j;refine⟨d,g,h,i,n,o,rfl,⟨s,Cl.d _ _ _,t,hF.b.a f,fun b a=>⟨(hF.a b a).1.g f.1 (hF.a b a).2.1,fun e=>?_,(hF.a b a).2.2⟩,hF.e,hF.d⟩,fun g=>?_⟩
 ·rcases f.2 _ e with d|d
  ·exact(hF.a b a).2.1 d
  ·have:=(hF.a b a).1.e;omega
 ·have h:=x g;have g:mb<W.heap.size:=by obtain⟨g,i⟩:=hF.c;exact i.c.e
  obtain⟨o,i,j⟩:=eZ.f u;obtain⟨p,d,n⟩:=eZ.f v;refine⟨o,p,i,d,?_⟩;rw[←bD];refine⟨s,Cl.d _ _ _,t,hF.b.a f,fun b a=>?_,?_,hF.d⟩
  ·rcases bK.1 a with a|a
   ·have o:bH l b.1 b.2.1 b.2.2∧W.heap.size≤b.1:=by
     rcases bK.1 a with a|a
     ·exact j b a
     ·exact n b a
    exact⟨o.1,by rw[h];simp;omega,aR hF.b.1.b o.2⟩
   ·refine⟨(hF.a b a).1.g f.1 (hF.a b a).2.1,fun e=>?_,(hF.a b a).2.2⟩;rcases f.2 _ e with d|d
    ·exact(hF.a b a).2.1 d
    ·have:=(hF.a b a).1.e;omega
  ·rw[List.map_append,List.nodup_append];refine⟨?_,hF.e,fun b a e l c=>?_⟩
   ·rw[List.map_append,List.nodup_append];refine⟨?_,?_,fun b a e l c=>?_⟩
    ·rcases i.2 with⟨_,_,c⟩|⟨g,p,q,_,c,_⟩<;>rw[c]<;>simp
    ·rcases d.2 with⟨_,_,c⟩|⟨g,p,q,_,c,_⟩<;>rw[c]<;>simp
    ·obtain⟨f,b,rfl⟩:=dI.1 a;obtain⟨h,e,rfl⟩:=dI.1 l;have s:=(j f b).1;have u:=(n h e).1;rw[c]at s;have t:=s.symm.trans u;have s:f.2.1=91:=by
      rcases i.2 with⟨_,_,c⟩|⟨g,p,q,_,c,_⟩
      ·rw[c]at b;cases b
      ·rw[c]at b;rw[aC.1 b]
     have i:h.2.1=3:=by
      rcases d.2 with⟨_,_,c⟩|⟨g,p,q,_,c,_⟩
      ·rw[c]at e;cases e
      ·rw[c]at e;rw[aC.1 e]
     rw[s,i]at t;simp at t
   ·obtain⟨f,b,rfl⟩:=dI.1 a;obtain⟨h,e,rfl⟩:=dI.1 l;have o:W.heap.size≤f.1:=by
     rcases bK.1 b with a|a
     ·exact(j f a).2
     ·exact(n f a).2
    have a:=(hF.a h e).1.e;omega
end
def iE (a:List (Rw×Int)):List aI:=a.flatMap fun x=>OC x.1 x.2
def nW (b mb:Nat) (a:Cf) (x:Az) (vR vF vU:aI):Array aI:=#[qp b,qp mb,a.a,a.b,a.c,a.e,a.d,a.f,vR,x.e,x.b,vF,vU,J U 0,J U 0]
structure OE where
 c:Nat
 b:Nat
 d:Nat
 a:Cf
 w:aB
structure OrK (E:OE) (k:Nat) (x:Az) (G:List Ow) (vR vF vU:aI) (LR LF LU:List Ow) (W:aB):Prop where
 b:eZ 72 6 vR x.a.length (iE x.a) LR
 c:eZ 91 2 vF x.c.length (bN x.c) LF
 d:eZ 3 1 vU x.d.length (x.d.map (J U)) LU
 a:Bs (vM E.d k x.m) E.w (LR++(LF++(LU++((E.c,104,nW E.b E.d E.a x vR vF vU)::G)))) W
def BU (E:OE) (k:Nat) (x:Az) (G:List Ow) (W:aB):Prop:=∃vR vF vU LR LF LU,OrK E k x G vR vF vU LR LF LU W
section
variable {E:OE} {k:Nat} {x:Az} {G G1 G2 LB:List Ow} {vR vF vU:aI} {LR LF LU:List Ow} {W W':aB} {r:Rw} {res:Bool} {A:Option aX} {C:Nat}
def OrK.e (a:OrK E k x G vR vF vU LR LF LU W):bH W E.c 104 (nW E.b E.d E.a x vR vF vU):=a.a.a (x:=(E.c,104,nW E.b E.d E.a x vR vF vU)) (by simp)
def NtQ (mb k:Nat) (m:Mo) (r:Rw) (w:aB) (a:List Ow) (vF vR:aI) (b:Nat) (cs:Array aI) (W:aB):Prop:=
 Bs (vM mb (k+5) (dH m r).1) w ((b,52,cs)::a) W∧((dH m r).1.a=true→∃LF LU,eZ 91 2 vF (dH m r).2.1.a.length (bN (dH m r).2.1.a) LF∧eZ 3 1 vR (dH m r).2.1.b.length ((dH m r).2.1.b.map (J U)) LU∧Bs (vM mb (k+5) (dH m r).1) w ((b,52,cs)::(LF++(LU++a))) W)
def zbQ {mb:Nat} {m:Mo} {w:aB} {a:List Ow} {vF vR:aI} (b:StQ mb k m r w ([]++a) vF vR W) (cs:Array aI):NtQ mb k m r w a vF vR W.heap.size cs (W.alloc (.cells cs 52)):=by refine⟨b.1.d 52 cs,fun a=>?_⟩;obtain⟨LF,LU,c,d,e⟩:=b.2 a;exact⟨LF,LU,c,d,e.d 52 cs⟩
def zbR {mb e:Nat} {m:Mo} {w:aB} {g:List Ow} {vF vR a b c d:aI} {f:Array aI} (h:StQ mb k m r w ([(e,52,f)]++g) vF vR W) (j:f.size=4):NtQ mb k m r w g vF vR e #[a,b,c,d] (W.setCells e 0 [a,b,c,d]):=by
 have i:gV f 0 [a,b,c,d]=#[a,b,c,d]:=Ed (by simpa using j.symm);refine⟨?_,fun j=>?_⟩
 ·have:=h.1.m (L1:=[]) 0 [a,b,c,d];rw[i]at this;exact this
 ·obtain⟨LF,LU,l,n,o⟩:=h.2 j;refine⟨LF,LU,l,n,?_⟩;have h:Bs (vM mb (k+5) (dH m r).1) w ((LF++LU)++(e,52,f)::g) W:=by rw[bD];exact o
  have e:=h.m 0 [a,b,c,d];rw[i]at e;refine e.f ?_;rw[←bD];exact List.perm_middle.symm
def zao (c d:Ow) (e a f b:List Ow):(a++((c::(e++(d::f)))++b)).Perm (c::(e++(d::(a++(f++b))))):=by refine(bY a _ b).trans ?_;rw[List.cons_append,bD,List.cons_append];exact((List.Perm.append_left e ((bY f a b).cons d))).cons c
def zaq (b c:Ow) (d a e f g:List Ow):((g++(b::(d++[c])))++(a++(e++f))).Perm (a++(g++((b::(d++(c::e)))++f))):=by have h:(g++(b::(d++[c])))++(a++(e++f))=(g++(b::(d++[c])))++(a++(e++f)):=rfl;refine(bY _ a _).trans ?_;refine List.Perm.append_left a ?_;simp
def zar (b c:Ow) (d a e f g:List Ow):((g++(b::(c::e)))++(a++(d++f))).Perm (a++(g++((b::(d++(c::e)))++f))):=by refine(bY _ a _).trans ?_;refine List.Perm.append_left a ?_;rw[bD];refine List.Perm.append_left g ?_;rw[List.cons_append,List.cons_append,List.cons_append,bD,List.cons_append];refine List.Perm.cons b ?_;rw[←List.cons_append];exact bY (c::e) d f
def pX {c:aB→List Nat→Prop} {w:aB} {LA LB d:List Ow} {ob:Nat} {e:bB} {cs:Array aI} (f:Bs c w (LA++(LB++(d++(ob,e,cs)::G))) W) (a:Nat) (b:List aI):Bs c w (LA++(LB++(d++(ob,e,gV cs a b)::G))) (W.setCells ob a b):=by rw[←bD,←bD]at f⊢;exact f.m a b
def zbS (mb k:Nat) (m:Mo) (w:aB) (re:List (Rw×Int)) (r:Rw) (kd:Int) (vR:aI) (LR:List Ow) (L1:List Ow) (ob:Nat) (cs:Array aI) (L2:List Ow):Nat→List Kg→aB→Prop
 |0,[],W=>Bs (vM mb k m) w (LR++(L1++(ob,104,cs)::L2)) W
 |1,[],W=>Bs (vM mb k m) w (LR++(L1++(ob,104,cs)::L2)) W
 |2,[a],W=>∃b,a=(R ⟨b,0,O⟩,1,1)∧Bs (vM mb k m) w (LR++((b,72,(OC r kd).toArray)::(L1++(ob,104,cs)::L2))) W
 |3,[_,a],W=>∃b c,eZ 72 6 (kg a) (re.length+1) (iE (re++[(r,kd)])) b∧a.2.1=re.length+1∧Bs (vM mb k m) w (b++(c++(L1++(ob,104,cs)::L2))) W
 |4,[_,a],W=>∃b c,eZ 72 6 (kg a) (re.length+1) (iE (re++[(r,kd)])) b∧a.2.1=re.length+1∧Bs (vM mb k m) w (b++(c++(L1++(ob,104,cs.setIfInBounds 8 (kg a))::L2))) W
 |_,_,_=>False
def zcl:(Tryz.prog.info? 72).map (fun a=>(a.zero,a.size,a.bytes))=R (R (aS #[J U 0,J U 0,J U 0,J U 0,J U 0,J U 0]),6,48):=by kernel_rfl
section
variable {mb:Nat} {m:Mo} {w:aB} {re:List (Rw×Int)} {kd:Int} {L1 L2:List Ow} {ob:Nat} {cs:Array aI}
def zcq {a n C:Nat} {A:Option aX} (f:eZ 72 6 (Z A re.length C) re.length (iE re) LR) (b:re.length≤1000) (c:Bs (vM mb k m) w (LR++((a,72,(OC r kd).toArray)::(L1++(ob,104,cs)::L2))) W):
  ∃b W',(∀d,(Builtin.append_ #[35,35] d #[Z A re.length C,kg (R ⟨a,0,O⟩,1,1)]).run au W=.ok (kg b) W')∧∃e g,eZ 72 6 (kg b) (re.length+1) (iE (re++[(r,kd)])) e∧b.2.1=re.length+1∧Bs (vM mb k m) w (e++(g++(L1++(ob,104,cs)::L2))) W':=by
 have b:=c.a (x:=(a,72,(OC r kd).toArray)) Y1;obtain⟨e,g,h,W',i,j,l⟩:=Oy (Pr:=au) c f 35 35 zcl rfl Y2 underlying35 ⟨a,0,O⟩ 1 1 (OC r kd) rfl (bU.b b) (by unfold OC;simp[Value.oneCell']) (by unfold maxLen;omega) Y0;refine⟨(e,re.length+1,g),W',fun d=>i,h,[(a,72,(OC r kd).toArray)],?_,rfl,l⟩;have a:iE (re++[(r,kd)])=iE re++OC r kd:=by unfold iE;simp
 rw[a];exact j
end
def Us (i:BU E k x (LB++G) W) (z:eZ 5 1 (Z A r.b.length C) r.b.length (dP r.b) LB) (B:k≤280) (H:r.b.length≤300) (I:gZ r.b) (a:0≤x.b∧x.b≤1000) (m0:x.a.length≤1000):
  aF au 43 #[aK (R ⟨E.c,0,O⟩),fO r.a r.c r.e r.d res A r.b.length C] W fun s p=>s=av (aO (iD x r).2)∧BU E (k+5) (iD x r).1 (LB++G) p:=by
 obtain⟨vR,vF,vU,LR,LF,LU,q⟩:=i;obtain⟨ob,g,mb,h,w⟩:=E;have t:=q.a;dsimp only at t;obtain⟨b,v⟩:=exq W.heap.size;have L:=aj (t.d 30 #[J U r.a,J U r.c,J U r.e,J U r.d,aO res,Z A r.b.length C]);rw[v]at L;obtain⟨n,y⟩:=exq (W.alloc (.cells #[J U r.a,J U r.c,J U r.e,J U r.d,aO res,Z A r.b.length C] 30));rw[y]at L;obtain⟨a,D⟩:=exq (dH x.m r);have HC:Y (∀o u,Bs (vM mb k x.m) w (o++((b,30,#[J U r.a,J U r.c,J U r.e,J U r.d,aO res,Z A r.b.length C])::(LR++(LF++(LU++((ob,104,nW g mb h x vR vF vU)::(LB++G))))))) u→aF au 13 #[aK (R ⟨mb,0,O⟩),fO r.a r.c r.e r.d res A r.b.length C] u fun s p=>∃c d e f j l,s=av (aN #[aS #[J U a.2.1.k,Z c a.2.1.a.length d,Z e a.2.1.b.length f,Z j a.2.1.c.length l],J U a.2.2])∧(p.cell? ⟨ob,1,O⟩=R (aK (R ⟨mb,0,O⟩))∧p.cell? ⟨b,0,O⟩=R (J U r.a)∧p.cell? ⟨b,1,O⟩=R (J U r.c)∧p.cell? ⟨b,2,O⟩=R (J U r.e)∧p.cell? ⟨b,3,O⟩=R (J U r.d)∧p.cell? ⟨b,4,O⟩=R (aO res)∧p.cell? ⟨b,5,O⟩=R (Z A r.b.length C))∧Y (StQ mb k x.m r w (o++((b,30,#[J U r.a,J U r.c,J U r.e,J U r.d,aO res,Z A r.b.length C])::(LR++(LF++(LU++((ob,104,nW g mb h x vR vF vU)::(LB++G))))))) (Z c a.2.1.a.length d) (Z e a.2.1.b.length f) p)):=aj fun o u F=>by have s:o++((b,30,#[J U r.a,J U r.c,J U r.e,J U r.d,aO res,Z A r.b.length C])::(LR++(LF++(LU++((ob,104,nW g mb h x vR vF vU)::(LB++G))))))=(o++((b,30,#[J U r.a,J U r.c,J U r.e,J U r.d,aO res,Z A r.b.length C])::(LR++(LF++(LU++[(ob,104,nW g mb h x vR vF vU)])))))++(LB++G):=Y1;rw[s]at F⊢;refine(XZ F z B H I).mono ?_;rintro s p ⟨c,d,e,f,j,l,rfl,o⟩;rw[D]at o⊢;refine⟨c,d,e,f,j,l,rfl,?_,aj o⟩;have M:bH p ob 104 (nW g mb h x vR vF vU):=o.1.a (x:=(ob,104,nW g mb h x vR vF vU)) Y1;have N:bH p b 30 #[J U r.a,J U r.c,J U r.e,J U r.d,aO res,Z A r.b.length C]:=o.1.a (x:=(b,30,#[J U r.a,J U r.c,J U r.e,J U r.d,aO res,Z A r.b.length C])) Y1;exact⟨M.a 1,bH.j N⟩
 have M:bH n ob 104 (nW g mb h x vR vF vU):=L.o.a (x:=(ob,104,nW g mb h x vR vF vU)) Y1;have N:bH n b 30 #[J U r.a,J U r.c,J U r.e,J U r.d,aO res,Z A r.b.length C]:=L.o.a (x:=(b,30,#[J U r.a,J U r.c,J U r.e,J U r.d,aO res,Z A r.b.length C])) Y1;have y1:n.cell? ⟨ob,1,O⟩=R (aK (R ⟨mb,0,O⟩)):=M.a 1;obtain⟨z0,z1,z2,z3,z4,z5⟩:=bH.j N;have H:=aj q;have n1:n.heap.size≠ob:=Nat.ne_of_gt M.e;have n2:n.heap.size≠b:=Nat.ne_of_gt N.e;have h0:=aj (HC.o [] n.drew L.o.i);have i0:=aj (HC.o [(n.heap.size,52,#[J U 0,Z O 0 0,Z O 0 0,Z O 0 0])] (n.drew.alloc (.cells #[J U 0,Z O 0 0,Z O 0 0,Z O 0 0] 52)) (L.o.u 52 _));have mixed:Tryz.prog.follows .mixedOrders=true:=Y3;unfold fO at*;dsimp only;clear M N t q;go_enter func43,ntmps43;go_upto_region 1 with fail;try rw[v]
 try rw[y]
 go_region_held3 (fun W=>W.cell? ⟨ob,1,O⟩=R (aK (R ⟨mb,0,O⟩))∧W.cell? ⟨b,0,O⟩=R (J U r.a)∧W.cell? ⟨b,1,O⟩=R (J U r.c)∧W.cell? ⟨b,2,O⟩=R (J U r.e)∧W.cell? ⟨b,3,O⟩=R (J U r.d)∧W.cell? ⟨b,4,O⟩=R (aO res)∧W.cell? ⟨b,5,O⟩=R (Z A r.b.length C)) (go_keep) (first|(go_at_call 13;(first|refine h0.o.mono ?_ |refine i0.o.mono ?_);rintro s o ⟨c,d,e,f,j,l,rfl,⟨d1,t0,t1,t,t3,t4,t5⟩,T⟩;have m1:o.heap.size≠ob:=Nat.ne_of_gt (T.o.1.a (x:=(ob,104,nW g mb h x vR vF vU)) Y1).e;have m2:o.heap.size≠b:=Nat.ne_of_gt (T.o.1.a (x:=(b,30,#[J U r.a,J U r.c,J U r.e,J U r.d,aO res,Z A r.b.length C])) Y1).e;first|(have u:=aj (T.o.1.a (x:=(n.heap.size,52,#[J U 0,Z O 0 0,Z O 0 0,Z O 0 0])) (List.mem_append_left _ (bM ..)));have v:=u.o.c;obtain⟨q0,q1,q2,q3⟩:=bH.l u.o)|skip));all_goals first
  |(have I:Y (NtQ mb k x.m r w ((b,30,#[J U r.a,J U r.c,J U r.e,J U r.d,aO res,Z A r.b.length C])::(LR++(LF++(LU++((ob,104,nW g mb h x vR vF vU)::(LB++G)))))) (Z c a.2.1.a.length d) (Z e a.2.1.b.length f) o.heap.size #[J U a.2.1.k,Z c a.2.1.a.length d,Z e a.2.1.b.length f,Z j a.2.1.c.length l] (o.alloc (.cells #[J U a.2.1.k,Z c a.2.1.a.length d,Z e a.2.1.b.length f,Z j a.2.1.c.length l] 52))):=aj (zbQ T.o _)
    generalize o.alloc (.cells #[J U a.2.1.k,Z c a.2.1.a.length d,Z e a.2.1.b.length f,Z j a.2.1.c.length l] 52)=X at I⊢
    generalize o.heap.size=q at I⊢)
  |(have I:Y (NtQ mb k x.m r w ((b,30,#[J U r.a,J U r.c,J U r.e,J U r.d,aO res,Z A r.b.length C])::(LR++(LF++(LU++((ob,104,nW g mb h x vR vF vU)::(LB++G)))))) (Z c a.2.1.a.length d) (Z e a.2.1.b.length f) n.heap.size #[J U a.2.1.k,Z c a.2.1.a.length d,Z e a.2.1.b.length f,Z j a.2.1.c.length l] ((((o.setCell ⟨n.heap.size,0,O⟩ (J U a.2.1.k)).setCell ⟨n.heap.size,1,O⟩ (Z c a.2.1.a.length d)).setCell ⟨n.heap.size,2,O⟩ (Z e a.2.1.b.length f)).setCell ⟨n.heap.size,3,O⟩ (Z j a.2.1.c.length l))):=aj (zbR T.o rfl)
    generalize(((o.setCell ⟨n.heap.size,0,O⟩ (J U a.2.1.k)).setCell ⟨n.heap.size,1,O⟩ (Z c a.2.1.a.length d)).setCell ⟨n.heap.size,2,O⟩ (Z e a.2.1.b.length f)).setCell ⟨n.heap.size,3,O⟩ (Z j a.2.1.c.length l)=X at I⊢
    generalize n.heap.size=q at I⊢)
 all_goals clear T HC h0 i0 L d1 t0 t1 t t3 t4 t5 m1 m2 y1 z0 z1 z2 z3 z4 z5 n1 n2
 all_goals
  by_cases he:a.2.2=0
  ·have n0:(a.2.2 !=0)=false:=Y6 he;have o0:∃z P Q:List Ow,(a.1.a=true→eZ 91 2 (Z c a.2.1.a.length d) a.2.1.a.length (bN a.2.1.a) P∧eZ 3 1 (Z e a.2.1.b.length f) a.2.1.b.length (a.2.1.b.map (J U)) Q∧z=P++Q)∧Bs (vM mb (k+5) a.1) w ((q,52,#[J U a.2.1.k,Z c a.2.1.a.length d,Z e a.2.1.b.length f,Z j a.2.1.c.length l])::(z++((b,30,#[J U r.a,J U r.c,J U r.e,J U r.d,aO res,Z A r.b.length C])::(LR++(LF++(LU++((ob,104,nW g mb h x vR vF vU)::(LB++G)))))))) X:=by
    cases ho:a.1.a with
    |false=>refine⟨[],[],[],(fun i=>by cases i),?_⟩;have:=I.o.1;rw[D]at this;exact this
    |true=>obtain⟨P,Q,S,F,B⟩:=I.o.2 (by rw[D];exact ho);rw[D]at S F B;exact⟨P++Q,P,Q,fun _=>⟨S,F,rfl⟩,by rw[bD];exact B⟩
   obtain⟨z,P,Q,hX,d0⟩:=o0;obtain⟨n,o,r0⟩:∃n o,vR=Z n x.a.length o:=dB (H.o.b.a (W:=X) (base:=0) (fun e0 hy=>⟨d0.a (by simp[hy]),aZ _⟩));subst r0;have f0:Y (Bs (vM mb (k+5) a.1) w (LR++(((q,52,#[J U a.2.1.k,Z c a.2.1.a.length d,Z e a.2.1.b.length f,Z j a.2.1.c.length l])::(z++((b,30,#[J U r.a,J U r.c,J U r.e,J U r.d,aO res,Z A r.b.length C])::(LF++LU))))++((ob,104,nW g mb h x (Z n x.a.length o) vF vU)::(LB++G)))) X):=aj (d0.f (by have:=zao (q,52,#[J U a.2.1.k,Z c a.2.1.a.length d,Z e a.2.1.b.length f,Z j a.2.1.c.length l]) (b,30,#[J U r.a,J U r.c,J U r.e,J U r.d,aO res,Z A r.b.length C]) z LR (LF++LU) ((ob,104,nW g mb h x (Z n x.a.length o) vF vU)::(LB++G));rw[bD LF LU]at this;exact this));have HX:=aj hX;clear hX d0 I;go_upto_region 4 with fail;refine XV (Ph:=zbS mb (k+5) a.1 w x.a r a.2.1.k (Z n x.a.length o) LR ((q,52,#[J U a.2.1.k,Z c a.2.1.a.length d,Z e a.2.1.b.length f,Z j a.2.1.c.length l])::(z++((b,30,#[J U r.a,J U r.c,J U r.e,J U r.d,aO res,Z A r.b.length C])::(LF++LU)))) ob (nW g mb h x (Z n x.a.length o) vF vU) (LB++G)) (bn:=r.b.length) (BC:=C) (fn:=a.2.1.a.length) (FC:=d) (un:=a.2.1.b.length) (UC:=f) (xn:=a.2.1.c.length) (XC:=l) (n:=x.a.length) (C:=o) (A:=n) (BA:=A) (FA:=c) (UA:=e) (XA:=j) (fr:=r.a) (ty:=r.c) (fl:=r.e) (st:=r.d) (kd:=a.2.1.k) (res:=res) f0.o.i (fun W' i=>?_) (fun W' i=>?_) (fun W' i=>?_) (fun tt W' i=>?_) (fun tt t W' i=>?_) ?_
   ·have s0:bH W' ob 104 (nW g mb h x (Z n x.a.length o) vF vU)∧bH W' b 30 #[J U r.a,J U r.c,J U r.e,J U r.d,aO res,Z A r.b.length C]∧bH W' q 52 #[J U a.2.1.k,Z c a.2.1.a.length d,Z e a.2.1.b.length f,Z j a.2.1.c.length l]:=by
     obtain⟨u0,v0,_,hp,i⟩:=i;match u0,v0,hp,i with
     |0,[],_,i=>exact⟨Bs.a (x:=(ob,104,nW g mb h x (Z n x.a.length o) vF vU)) i Y1,Bs.a (x:=(b,30,#[J U r.a,J U r.c,J U r.e,J U r.d,aO res,Z A r.b.length C])) i Y1,Bs.a (x:=(q,52,#[J U a.2.1.k,Z c a.2.1.a.length d,Z e a.2.1.b.length f,Z j a.2.1.c.length l])) i Y1⟩
     |1,[],_,i=>exact⟨Bs.a (x:=(ob,104,nW g mb h x (Z n x.a.length o) vF vU)) i Y1,Bs.a (x:=(b,30,#[J U r.a,J U r.c,J U r.e,J U r.d,aO res,Z A r.b.length C])) i Y1,Bs.a (x:=(q,52,#[J U a.2.1.k,Z c a.2.1.a.length d,Z e a.2.1.b.length f,Z j a.2.1.c.length l])) i Y1⟩
     |2,[_],_,⟨g0,_,i⟩=>exact⟨Bs.a (x:=(ob,104,nW g mb h x (Z n x.a.length o) vF vU)) i Y1,Bs.a (x:=(b,30,#[J U r.a,J U r.c,J U r.e,J U r.d,aO res,Z A r.b.length C])) i Y1,Bs.a (x:=(q,52,#[J U a.2.1.k,Z c a.2.1.a.length d,Z e a.2.1.b.length f,Z j a.2.1.c.length l])) i Y1⟩
    obtain⟨M,N,k3⟩:=s0;obtain⟨q0,q1,q2,q3,q4,q5⟩:=bH.j N;obtain⟨p0,p1,p2,p3⟩:=bH.l k3;exact⟨M.a 8,q0,q1,q2,q3,q4,q5,p0,p1,p2,p3⟩
   ·refine mB (XT r res A C a.2.1.k _ _ _ W') fun p w0=>?_;exact⟨rfl,Bs.h i w0⟩
   ·refine⟨W'.heap.size,rfl,?_⟩;exact(Bs.d i 72 _).f List.perm_middle
   ·obtain⟨g0,rfl,hh⟩:=(show∃g0,tt=(R ⟨g0,0,O⟩,1,1)∧Bs (vM mb (k+5) a.1) w _ W' from i);exact zcq (n:=0) H.o.b m0 hh
   ·obtain⟨u,K,S,F,B⟩:=(show∃u K,eZ 72 6 (kg t) (x.a.length+1) (iE (x.a++[(r,a.2.1.k)])) u∧t.2.1=x.a.length+1∧Bs (vM mb (k+5) a.1) w (u++(K++(((q,52,#[J U a.2.1.k,Z c a.2.1.a.length d,Z e a.2.1.b.length f,Z j a.2.1.c.length l])::(z++((b,30,#[J U r.a,J U r.c,J U r.e,J U r.d,aO res,Z A r.b.length C])::(LF++LU))))++(ob,104,nW g mb h x (Z n x.a.length o) vF vU)::(LB++G)))) W' from i);have v:bH W' ob 104 (nW g mb h x (Z n x.a.length o) vF vU):=B.a (x:=(ob,104,nW g mb h x (Z n x.a.length o) vF vU)) Y1;refine⟨_,v.a 8,v.c _,u,K,S,F,?_⟩;exact pX B 8 [kg t]
   ·intros;rename_i t1 t y hW;obtain⟨u,K,S,F,B⟩:=(show∃u K,eZ 72 6 (kg t) (x.a.length+1) (iE (x.a++[(r,a.2.1.k)])) u∧t.2.1=x.a.length+1∧Bs (vM mb (k+5) a.1) w (u++(K++(((q,52,#[J U a.2.1.k,Z c a.2.1.a.length d,Z e a.2.1.b.length f,Z j a.2.1.c.length l])::(z++((b,30,#[J U r.a,J U r.c,J U r.e,J U r.d,aO res,Z A r.b.length C])::(LF++LU))))++(ob,104,(nW g mb h x (Z n x.a.length o) vF vU).setIfInBounds 8 (kg t))::(LB++G)))) y from hW);have b0:=aj S;have a0:=aj B;have v:bH y ob 104 ((nW g mb h x (Z n x.a.length o) vF vU).setIfInBounds 8 (kg t)):=B.a (x:=(ob,104,(nW g mb h x (Z n x.a.length o) vF vU).setIfInBounds 8 (kg t))) Y1;have y1:y.cell? ⟨ob,1,O⟩=R (aK (R ⟨mb,0,O⟩)):=v.a 1;have A0:y.cell? ⟨ob,10,O⟩=R (J U x.b):=v.a 10;have c0:Y (aF au 25 #[aK (R ⟨mb,0,O⟩)] y fun s p=>s=av (aO a.1.a)∧p=y):=aj (by obtain⟨F7,x0⟩:=B;exact TR x0.c)
    have y9:y.cell? ⟨ob,9,O⟩=R (J U x.e):=v.a 9;have B0:y.cell? ⟨ob,11,O⟩=R vF:=v.a 11;have C0:y.cell? ⟨ob,12,O⟩=R vU:=v.a 12;have D0:=v.c;obtain⟨E0,hS⟩:=exq (iD x r);have V:iD x r=(let e0:Az:={x with m:=a.1,a:=x.a++[(r,a.2.1.k)]};if a.1.a=false then({e0 with b:=x.b+1},true)else({e0 with e:=a.2.1.k,c:=a.2.1.a,d:=a.2.1.b},false)):=by unfold iD;rw[D];dsimp only;rw[aL (Y6 he)]
    clear hW S F B;cases ho:a.1.a with
    |false=>
     rw[ho]at c0;rw[aP ho]at V;have F0:U.wrap (x.b+1)=x.b+1:=bF _ Y0;have HF:Y ((iD x r).2=true∧BU ⟨ob,g,mb,h,w⟩ (k+5) (iD x r).1 (LB++G) (y.setCell ⟨ob,10,O⟩ (J U (x.b+1)))):=aj (by rw[V];have hc:=((a0.o.f (zaq _ _ z u (LF++LU) _ K)).k _);rw[bD]at hc;have hp:=pX hc 10 [J U (x.b+1)];refine⟨rfl,kg t,vF,vU,u,LF,LU,Y6 b0.o,H.o.c,H.o.d,hp⟩)
     clear v D V hS a0 H f0 HX b0;dsimp only[Exit.then];go_wp2_with (go_at_call 25;refine c0.o.mono ?_;rintro s w8 ⟨rfl,rfl⟩);go_ret;exact⟨by rw[HF.o.1];rfl,HF.o.2⟩
    |true=>
     rw[ho]at c0;rw[aL (by rw[ho];decide)]at V;obtain⟨j0,k0,l0⟩:=HX.o ho;have k5:bH y q 52 #[J U a.2.1.k,Z c a.2.1.a.length d,Z e a.2.1.b.length f,Z j a.2.1.c.length l]:=a0.o.a (x:=(q,52,#[J U a.2.1.k,Z c a.2.1.a.length d,Z e a.2.1.b.length f,Z j a.2.1.c.length l])) Y1;obtain⟨p0,p1,p2,p3⟩:=bH.l k5;have y0:ob≠q:=bH.z v k5 Y2;have G0:q≠ob:=Ne.symm y0;have HF:Y ((iD x r).2=false∧BU ⟨ob,g,mb,h,w⟩ (k+5) (iD x r).1 (LB++G) (((y.setCell ⟨ob,9,O⟩ (J U a.2.1.k)).setCell ⟨ob,11,O⟩ (Z c a.2.1.a.length d)).setCell ⟨ob,12,O⟩ (Z e a.2.1.b.length f))):=aj (by rw[V];have hc:=((a0.o.f (zar _ _ z u (LF++LU) _ K)).k _);rw[l0,bD]at hc;have hp:=pX (pX (pX hc 9 [J U a.2.1.k]) 11 [Z c a.2.1.a.length d]) 12 [Z e a.2.1.b.length f];refine⟨rfl,kg t,Z c a.2.1.a.length d,Z e a.2.1.b.length f,u,P,Q,Y6 b0.o,j0,k0,hp⟩)
     clear v D V hS a0 H f0 HX b0 j0 k0 l0 k5;dsimp only[Exit.then];go_wp2_with (go_at_call 25;refine c0.o.mono ?_;rintro s w8 ⟨rfl,rfl⟩);go_ret;exact⟨by rw[HF.o.1];rfl,HF.o.2⟩
  ·have n0:(a.2.2 !=0)=true:=Y6 he;have HR:Y ((iD x r).2=false∧BU ⟨ob,g,mb,h,w⟩ (k+5) (iD x r).1 (LB++G) X):=aj (by
    have s:iD x r=({x with m:=a.1},false):=by unfold iD;rw[D];exact aP he
    rw[s];refine⟨rfl,vR,vF,vU,LR,LF,LU,H.o.b,H.o.c,H.o.d,?_⟩;have:=I.o.1.j.j;rw[D]at this;exact this)
   go_wp2;go_ret;exact⟨by rw[HR.o.1];rfl,HR.o.2⟩
end
section
variable {E:OE} {k:Nat} {x:Az} {G G1 G2 LB:List Ow} {vR vF vU:aI} {LR LF LU:List Ow} {w W W':aB} {r:Rw} {res:Bool} {A:Option aX} {C:Nat}
def BU.a (a:BU E k x G W) (b:aJ W W W'):BU E k x G W':=by obtain⟨vR,vF,vU,LR,LF,LU,a⟩:=a;exact⟨vR,vF,vU,LR,LF,LU,a.b,a.c,a.d,a.a.h b⟩
def zbj (a:Cf) (w:aB) (d:Ending) (e:aB):Prop:=∃b c f,d=av (aN #[qp b,J U 0])∧BU ⟨b,c,f,a,w⟩ 0 (.f a) [(c,178,Z8)] e
def zbT (a:Cf) (w:aB) (d b:Nat):Nat→List Nat→aB→Prop
 |0,[],W=>Bs (vM b 0 ⟨.g a,false⟩) w [(d,23,jW a)] W
 |1,[c],W=>Bs (vM b 0 ⟨.g a,false⟩) w [(c,178,Z8),(d,23,jW a)] W
 |2,[c,e],W=>Bs (vM b 0 ⟨.g a,false⟩) w [(e,104,nW c b a (.f a) (Z O 0 0) (Z O 0 0) (Z O 0 0)),(c,178,Z8),(d,23,jW a)] W
 |_,_,_=>False
def Ut (a:Cf) (w:aB) (i:Fx a=true) (g:lg w):aF au 20 #[aS (jW a)] w (zbj a w):=by
 have j:Bs (fun _ l=>l=[]) w [] w:=⟨[],Cl.f,rfl,gG.e _ _,Y1,Y1,g.b⟩;have m:=j.d 23 (jW a);have h:=aj (Gv a (w.alloc (.cells (jW a) 23)) i (g.a ((ay _ _).alloc (aD _) _)));have n:=aj (gU w 23 (jW a));obtain⟨q,s,t,u,v,y⟩:=bH.j n.o.2;have o:=aj m;have p:Y (∀b c d,Ay d b ⟨.g a,false⟩ 0 c→gG [] c (w.alloc (.cells (jW a) 23)) d→Bs (vM b 0 ⟨.g a,false⟩) w [(w.heap.size,23,jW a)] d):=aj fun b c d e f=>o.o.A (Cl.d _ _ _) fun l hF=>⟨c,e,by rw[hF];exact f⟩;unfold jW at h q s t u v y⊢;clear j m i g;go_enter func20,ntmps20;go_upto_region 4 with(go_at_call 11;refine h.o.mono ?_;rintro i d ⟨b,c,rfl,e,f⟩;have g:=aj (p.o b c d e f);clear e f);refine XU (Ph:=zbT a w w.heap.size b) (c:=a) g.o.i (fun W' c=>?_) (fun W' c=>?_) (fun d W' c=>?_) ?_
 ·obtain⟨f,j,_,l,c⟩:=c;have e:bH W' w 23 (jW a):=by
   match f,j,l,c with
   |0,[],_,c=>exact Bs.a (x:=(w.heap.size,23,jW a)) c Y1
   |1,[_],_,c=>exact Bs.a (x:=(w.heap.size,23,jW a)) c Y1
  unfold jW at e;exact bH.j e
 ·refine mB (OA W') fun j ⟨e,f⟩=>?_;exact⟨_,rfl,Bs.p (show Bs (vM b 0 ⟨.g a,false⟩) w [(w.heap.size,23,jW a)] W' from c) f e (aD _)⟩
 ·exact Bs.d (show Bs (vM b 0 ⟨.g a,false⟩) w [(d,178,Z8),(w.heap.size,23,jW a)] W' from c) 104 _
 ·intros;rename_i d c e f;have i:Y (zbj a w (av (aN #[qp c,J U 0])) e):=aj (by have j:=f;refine⟨c,d,b,rfl,Z O 0 0,Z O 0 0,Z O 0 0,[],[],[],eZ.d ..,eZ.d ..,eZ.d ..,?_⟩;exact(j.f (L':=(w.heap.size,23,jW a)::[(c,104,nW d b a (.f a) (Z O 0 0) (Z O 0 0) (Z O 0 0)),(d,178,Z8)]) (by have:=List.perm_append_comm (l₁:=[(c,104,nW d b a (.f a) (Z O 0 0) (Z O 0 0) (Z O 0 0)),(d,178,Z8)]) (l₂:=[(w.heap.size,23,jW a)]);exact this.symm)).j)
  clear f g p h n o;dsimp only[Exit.then];go_wp2;go_ret2;exact i.o
def JL {a d e f g j:Nat} {i l:aI} {m n:List aI} {b c:List Ow} (h:eZ a e i g m b) (i:eZ d f l j n c) (j:∀x∈b++c,bH W x.1 x.2.1 x.2.2) (n:a≠d):((b++c).map (fun x=>x.1)).Nodup:=by
 rw[List.map_append,List.nodup_append];refine⟨?_,?_,fun x c b o p=>?_⟩
 ·rcases h.2 with⟨_,_,a⟩|⟨e,f,g,_,a,_⟩<;>rw[a]<;>simp
 ·rcases i.2 with⟨_,_,a⟩|⟨e,f,g,_,a,_⟩<;>rw[a]<;>simp
 ·obtain⟨l,b,rfl⟩:=dI.1 c;obtain⟨m,c,rfl⟩:=dI.1 o;have o:=j l (List.mem_append_left _ b);have q:=j m (List.mem_append_right _ c);have j:l.2.1=a:=by
   rcases h.2 with⟨_,_,a⟩|⟨e,f,g,_,a,_⟩
   ·rw[a]at b;cases b
   ·rw[a]at b;rw[aC.1 b]
  have b:m.2.1=d:=by
   rcases i.2 with⟨_,_,a⟩|⟨e,f,g,_,a,_⟩
   ·rw[a]at c;cases c
   ·rw[a]at c;rw[aC.1 c]
  exact bH.z o q (by rw[j,b];exact n) p
def OrB (E:OE) (k:Nat) (x:Az) (e f:Bool) (r:Rw) (res:Bool) (g h:Nat) (W:aB):Prop:=
 ∃a b LB c d,LJ a (e&&r.a !=0) (f&&r.a !=1)∧eZ 30 6 (Z (R ⟨g,0,O⟩) 1 h) 1 [J U r.a,J U r.c,J U r.e,J U r.d,aO (res&&r.c != -1),Z c r.b.length d] b∧eZ 5 1 (Z c r.b.length d) r.b.length (dP r.b) LB∧BU E k x (LB++(b++[(E.b,178,a)])) W
def zas {a j l:Nat} {m n:Bool} {o c:Array aI} {d:Ow} {h:aB→List Nat→Prop} {b:Nat} (e:Bs h w ((a,63,c)::(LR++(LF++(LU++[d,(b,178,o)])))) W) (i:CfQ b m n r res W.heap.size j l W W'):
  ∃c a LB f g,LJ c (m&&r.a !=0) (n&&r.a !=1)∧eZ 30 6 (Z (R ⟨j,0,O⟩) 1 l) 1 [J U r.a,J U r.c,J U r.e,J U r.d,aO (res&&r.c != -1),Z f r.b.length g] a∧eZ 5 1 (Z f r.b.length g) r.b.length (dP r.b) LB∧Bs h w (LR++(LF++(LU++(d::(LB++(a++[(b,178,c)])))))) W':=by
 obtain⟨c,p,q⟩:=i.a;obtain⟨f,g,m,s⟩:=i.d;obtain⟨a,j,l⟩:=eZ.f m;obtain⟨LB,m,n⟩:=eZ.f s;have s:Bs h w ((LR++(LF++(LU++[d])))++(b,178,o)::[]) W:=by have:=e.j;simpa using this
 have o:=s.y i.b p (LB++a) (fun x h=>(bK.1 h).elim (n x) (l x)) (JL m j (fun x h=>(bK.1 h).elim (fun e=>(n x e).1) (fun e=>(l x e).1)) Y2);refine⟨c,a,LB,f,g,q,j,m,o.f ?_⟩;have e:LR++(LF++(LU++(d::(LB++(a++[(b,178,c)])))))=(LR++(LF++(LU++[d])))++((LB++a)++[(b,178,c)]):=Y1;rw[e];exact bY _ _ _
def zbk (E:OE) (k:Nat) (x:Az) (b c:Bool) (r:Rw) (a:Ending) (d:aB):Prop:=a=av (J U 0)∧∃a,LJ a (b&&r.a !=0) (c&&r.a !=1)∧BU E (k+5) (iD x r).1 [(E.b,178,a)] d
def BU.c (a:BU E k x (G1++G2) W):BU E k x G2 W:=by obtain⟨vR,vF,vU,LR,LF,LU,a⟩:=a;refine⟨vR,vF,vU,LR,LF,LU,a.b,a.c,a.d,?_⟩;have c:(LR++(LF++(LU++((E.c,104,nW E.b E.d E.a x vR vF vU)::(G1++G2)))))=(LR++(LF++(LU++[(E.c,104,nW E.b E.d E.a x vR vF vU)])))++(G1++G2):=Y1;have b:=a.a;rw[c]at b;have a:=(b.f (L':=G1++((LR++(LF++(LU++[(E.c,104,nW E.b E.d E.a x vR vF vU)])))++G2)) (bY _ _ _)).k G1;simpa using a
def OG {j l:Bool} {q:Array aI} {g h:Nat} (a:BU E k x [(E.b,178,q)] W) (T:LJ q j l) (D:CkB j l r) (V:(eY r res).length≤C) (X:C≤maxLen) (K:bU E.w (R ⟨g,h,O⟩) (dP (eY r res))) (hk:k≤280) (a0:0≤x.b∧x.b≤1000) (b0:x.a.length≤1000):
  aF au 22 #[aK (R ⟨E.c,0,O⟩),aS #[J U r.a,Z (R ⟨g,h,O⟩) (eY r res).length C]] W (zbk E k x j l r):=by
 obtain⟨vR,vF,vU,LR,LF,LU,u⟩:=a;obtain⟨c,b,d,f,w⟩:=E;have L:=u.a;dsimp only at L K;have v:=aj (L.d 63 #[J U r.a,Z (R ⟨g,h,O⟩) (eY r res).length C]);have F:=aj (gU W 63 #[J U r.a,Z (R ⟨g,h,O⟩) (eY r res).length C]);have c0:=aj u;have H:Y (∀a,Bs (vM d k x.m) w ((W.heap.size,63,#[J U r.a,Z (R ⟨g,h,O⟩) (eY r res).length C])::(LR++(LF++(LU++[(c,104,nW b d f x vR vF vU),(b,178,q)])))) a→aF au 42 #[aK (R ⟨b,0,O⟩),aS #[J U r.a,Z (R ⟨g,h,O⟩) (eY r res).length C]] a fun s B=>∃t:Nat×Nat,s=av (aN #[Z (R ⟨t.1,0,O⟩) 1 t.2,J U 0])∧OrB ⟨c,b,d,f,w⟩ k x j l r res t.1 t.2 B):=aj fun a y=>by have i:bH a b 178 q:=y.a (x:=(b,178,q)) Y1;have m:w.heap.size≤b:=y.q (x:=(b,178,q)) Y1;have e:=y.c;refine(JH i T D V X (fun W' i=>K.a (e.trans (i.c e.size (fun n e=>by rw[aC.1 e];exact m))))).mono ?_;rintro s B ⟨e,n,rfl,Q⟩;obtain⟨m,z,LB,o,p,M,N,P,I⟩:=zas y Q;exact⟨(e,n),rfl,m,z,LB,o,p,M,N,P,vR,vF,vU,LR,LF,LU,u.b,u.c,u.d,I⟩
 have Q:Y (∀e n a,OrB ⟨c,b,d,f,w⟩ k x j l r res e n a→∃o p,(a.cell? ⟨e,0,O⟩=R (J U r.a)∧a.cell? ⟨e,1,O⟩=R (J U r.c)∧a.cell? ⟨e,2,O⟩=R (J U r.e)∧a.cell? ⟨e,3,O⟩=R (J U r.d)∧a.cell? ⟨e,4,O⟩=R (aO (res&&r.c != -1))∧a.cell? ⟨e,5,O⟩=R (Z o r.b.length p))∧∀S,aJ a.heap.size a S→aF au 43 #[aK (R ⟨c,0,O⟩),fO r.a r.c r.e r.d (res&&r.c != -1) o r.b.length p] S fun s B=>s=av (aO (iD x r).2)∧∃m,LJ m (j&&r.a !=0) (l&&r.a !=1)∧BU ⟨c,b,d,f,w⟩ (k+5) (iD x r).1 [(b,178,m)] B):=aj fun e n a d0=>by obtain⟨m,z,LB,o,p,M,N,P,I⟩:=d0;obtain⟨vR,vF,vU,LR,LF,LU,hh⟩:=id I;have z:a.ownsRow 0 30 6 (Z (R ⟨e,0,O⟩) 1 n) 1 _:=N.a (W:=a) (base:=0) (fun d0 N=>⟨hh.a.a (by simp[N]),aZ _⟩);refine⟨o,p,⟨dG z rfl,dG z rfl,dG z rfl,dG z rfl,dG z rfl,dG z rfl⟩,fun S z=>?_⟩;refine mB (Us (E:=⟨c,b,d,f,w⟩) (I.a z) P hk D.a D.c a0 b0) fun B i=>?_;rw[←bD]at i;exact⟨rfl,m,M,i.c⟩
 obtain⟨I,B⟩:=exq (W.alloc (.cells #[J U r.a,Z (R ⟨g,h,O⟩) (eY r res).length C] 63));rw[B]at v F;obtain⟨M,z⟩:=exq W.heap.size;rw[z]at v F H;have N:bH I c 104 (nW b d f x vR vF vU):=v.o.a (x:=(c,104,nW b d f x vR vF vU)) Y1;have S:I.cell? ⟨c,0,O⟩=R (aK (R ⟨b,0,O⟩)):=N.a 0;have y1:I.cell? ⟨c,1,O⟩=R (aK (R ⟨d,0,O⟩)):=N.a 1;obtain⟨I,P⟩:=exq ((eY r res).length);rw[P]at v F H B⊢;dsimp only;clear u L N P c0 K D V X T;go_enter func22,ntmps22;go_upto_region 5 with fail;try rw[B]
 try rw[z]
 refine XW (A:=fun a=>Bs (vM d k x.m) w ((M,63,#[J U r.a,Z (R ⟨g,h,O⟩) I C])::(LR++(LF++(LU++[(c,104,nW b d f x vR vF vU),(b,178,q)])))) a) (B:=fun t a=>OrB ⟨c,b,d,f,w⟩ k x j l r res t.1 t.2 a) (cb:=b) (fr:=r.a) (n:=I) (C:=C) (BA:=R ⟨g,h,O⟩) v.o.i (fun q=>?_) (fun q=>?_) (fun q=>?_) (fun a y=>H.o a y) ?_
 ·exact(Bs.a (x:=(c,104,nW b d f x vR vF vU)) q.a Y1).a 0
 ·exact(bH.m (Bs.a (x:=(M,63,#[J U r.a,Z (R ⟨g,h,O⟩) I C])) q.a Y1)).1
 ·exact(bH.m (Bs.a (x:=(M,63,#[J U r.a,Z (R ⟨g,h,O⟩) I C])) q.a Y1)).2
 ·intros;rename_i g a h;obtain⟨e,n⟩:=g;have g:=aj h;clear h v F H S y1 B z;dsimp only[Exit.then]at*;go_wp2;go_loopw [32] (fun a wr=>(a=J U 0∧Y (OrB ⟨c,b,d,f,w⟩ k x j l r res e n wr))∨(a=J U 1∧Y (∃m,LJ m (j&&r.a !=0) (l&&r.a !=1)∧BU ⟨c,b,d,f,w⟩ (k+5) (iD x r).1 [(b,178,m)] wr))) (fun a _=>(1-intOf a).toNat);case atStart=>exact .inl ⟨rfl,g⟩
  case round=>
   rcases hrel with⟨rfl,b⟩|⟨rfl,b⟩
   ·obtain⟨o,p,⟨a,d,h,j,f,l⟩,c⟩:=Q.o e n _ b.o;have a:=aj (c _ ((ay _ wr).alloc (aD _) (.cells #[J U r.a,J U r.c,J U r.e,J U r.d,aO (res&&r.c != -1),Z o r.b.length p] 30)));unfold fO at a;obtain⟨h,d⟩:=exq ((iD x r).2);rw[d]at a;obtain⟨j,e⟩:=exq ((res&&r.c != -1));rw[e]at a f;clear c b Q d e g;cases h with
    |true=>
     go_wp2_with (go_at_call 43;refine a.o.mono ?_;rintro s d ⟨rfl,i⟩;have c:=aj i;clear i);go_roundw;case rel=>exact .inr ⟨rfl,c⟩
     case measure=>simp[intOf]
    |false=>go_wp2_with (go_at_call 43;refine a.o.mono ?_;rintro s d ⟨rfl,i⟩;have c:=aj i;clear i);go_ret;exact⟨rfl,c.o⟩
   ·clear Q g;go_wp2;go_ret;exact⟨rfl,b.o⟩
end
def JM (d:Option aX) (a c:Nat) (e:List aI) (b:aB) (g:e.length=a*6) (h:a≤100000000) (i:d=O→a=0) (l:zA d) (m:bU b d e) (f:∀n∈e,n.oneCell'=true):aF au 44 #[Z d a c] b (jm 72 6 a e b):=
 oz zcl Y2 (fun a c b=>AnyE.slices_Clone_nil Tryz.lc44 a c b) (fun n o a c p b f q s t u=>by
  obtain⟨w,y,z,A,B⟩:=info_parts zcl
  exact AnyE.slices_Clone Tryz.lc44 w _ 6 48 y z A B rfl Y2 Tryz.sizeOf72 n o a c p b f q s t u) d a c e b g h Y0 i l m f
def OH (d:Option aX) (a c:Nat) (e:List aI) (b:aB) (g:e.length=a*2) (h:a≤100000000) (i:d=O→a=0) (l:zA d) (m:bU b d e) (f:∀n∈e,n.oneCell'=true):aF au 45 #[Z d a c] b (jm 91 2 a e b):=
 oz ug Y2 (fun a c b=>AnyE.slices_Clone_nil Tryz.lc45 a c b) (fun n o a c p b f q s t u=>by
  obtain⟨w,y,z,A,B⟩:=info_parts ug
  exact AnyE.slices_Clone Tryz.lc45 w _ 2 16 y z A B rfl Y2 Tryz.sizeOf91 n o a c p b f q s t u) d a c e b g h Y0 i l m f
def JN (d:Option aX) (a c:Nat) (e:List aI) (b:aB) (g:e.length=a*1) (h:a≤100000000) (i:d=O→a=0) (l:zA d) (m:bU b d e) (f:∀n∈e,n.oneCell'=true):aF au 46 #[Z d a c] b (jm 3 1 a e b):=
 oz Tryz.info3 Y2 (fun a c b=>AnyE.slices_Clone_nil Tryz.lc46 a c b) (fun n o a c p b f q s t u=>by
  obtain⟨w,y,z,A,B⟩:=info_parts Tryz.info3
  exact AnyE.slices_Clone Tryz.lc46 w _ 1 8 y z A B rfl Y2 Tryz.sizeOf3 n o a c p b f q s t u) d a c e b g h Y0 i l m f
section
variable {c:Co} {x:Lk} {v:Vl} {kept lc:Bool} {j:Jd} {k:Nat} {r:Rw}
def LK:(pK c x v kept j).1.b.length≤j.b.length+2∧(pK c x v kept j).1.c.length≤j.c.length+1:=by
 unfold pK;dsimp only;split
 ·constructor
  ·have a:=wM (j.b++iq (dV c x v kept).2 x.r);have b:=Ai (dV c x v kept).2 x.r;rw[bL]at a;dsimp only;omega
  ·have a:=Gt (j.c++[(dV c x v kept).2]);rw[bL]at a;exact a
 ·exact⟨Nat.le_add_right _ _,Nat.le_add_right _ _⟩
def Uu:(kR c x lc v j).1.b.length≤j.b.length+4∧(kR c x lc v j).1.c.length≤j.c.length+2:=by
 unfold kR;dsimp only;have a:=LK (c:=c) (x:=x) (v:=v) (kept:=false) (j:=j);split
 ·have a:=LK (c:=c) (x:=x) (v:=v) (kept:=true) (j:=(pK c x v false j).1);dsimp only;omega
 ·omega
def Gy:∀(a:List Vl) (j:Jd),(jZ c x lc a j).1.b.length≤j.b.length+4*a.length∧(jZ c x lc a j).1.c.length≤j.c.length+2*a.length
 |[],j=>⟨aD _,aD _⟩
 |v::a,j=>by
  have b:=Uu (c:=c) (x:=x) (v:=v) (lc:=lc) (j:=j)
  have b:=Gy a (kR c x lc v j).1
  unfold jZ
  dsimp only
  rw[List.length_cons]
  omega
def Uv {a:Mo} (d:a.a=false→dU a.c k) (e:k≤300) (f:r.b.length≤300) (g:gZ r.b):(dH a r).2.1.a.length≤2000∧(dH a r).2.1.b.length≤2000:=by
 unfold dH;split
 ·exact⟨aZ _,aZ _⟩
 ·rename_i h;split
  ·exact⟨aZ _,aZ _⟩
  ·rename_i i;have b:=((Lb (d (Y6 h)) e (Y6 i) f g).1.a (1-r.a)).q;have d:(((fU a.c r).1.p (1-r.a)).q).a.length≤302:=by have d:=b.b;have e:=b.c;unfold Qu.b at d;omega
   dsimp only;split
   ·have:=Gy (c:=(fU a.c r).1) (x:=(fU a.c r).2) (lc:=(kH (fU a.c r).1 r).2&&((kH (fU a.c r).1 r).2&&((fU a.c r).1.p (1-r.a)).a.h (fU a.c r).1.a.a (kH (fU a.c r).1 r).1)) (((fU a.c r).1.p (1-r.a)).q).a .e;have a:Jd.e.b.length=0:=rfl;have a:Jd.e.c.length=0:=rfl;dsimp only;omega
   ·generalize KL _ _ _=a;split
    ·exact⟨aZ _,aZ _⟩
    ·exact⟨aZ _,aZ _⟩
end
def BU.d {b:OE} {k:Nat} {x:Az} {d:List Ow} {e:aB} (a:BU b k x d e):x.m.a=false→dU x.m.c k:=fun b=>by
 obtain⟨d,e,f,g,h,i,a⟩:=a
 obtain⟨d,hF⟩:=a.a
 obtain⟨d,a⟩:=hF.c
 obtain⟨e,f,d⟩:=a.e b
 exact d.d
def Uw {a:OE} {k:Nat} {x:Az} {b:List Ow} {d:aB} {r:Rw} (e:BU a k x b d) (b:k≤300) (d:r.b.length≤300) (f:gZ r.b) (a:x.c.length≤2000∧x.d.length≤2000):(iD x r).1.c.length≤2000∧(iD x r).1.d.length≤2000:=by
 have g:=Uv (r:=r) e.d b d f;unfold iD;dsimp only;split
 ·exact a
 ·split
  ·exact a
  ·exact g
def jC (a:Cf) (x:Az) (b d e:aI):Array aI:=#[a.a,a.b,a.c,a.e,a.d,a.f,b,x.e,x.b,d,e,J U 0,J U 0]
def zat (l:Cf) (x:Az) (a:aB) (m:Ending) (b:aB):Prop:=∃d e f g h i,m=av (aS (jC l x (Z d x.a.length e) (Z f x.c.length g) (Z h x.d.length i)))∧aJ a a b∧b.ownsRow a 72 6 (Z d x.a.length e) x.a.length (iE x.a)∧b.ownsRow a 91 2 (Z f x.c.length g) x.c.length (bN x.c)∧b.ownsRow a 3 1 (Z h x.d.length i) x.d.length (x.d.map (J U))
def zbU (b:List (Rw×Int)):∀a∈iE b,a.oneCell'=true:=fun a b=>by
 unfold iE OC at b
 obtain⟨a,_,d⟩:=List.mem_flatMap.1 b
 simp at d
 rcases d with a|a|a|a|a|a<;>rw[a]<;>rfl
def zbV (b:List Int):∀a∈b.map (J U),a.oneCell'=true:=fun a b=>by obtain⟨a,_,rfl⟩:=dI.1 b;rfl
def JO {E:OE} {k:Nat} {x:Az} {a:aB} {F:Array aI} {N P:Bool} (q:BU E k x [(E.b,178,F)] a) (hc:LJ F N P) (b:x.a.length≤100000) (b:x.c.length≤100000) (b:x.d.length≤100000):aF au 23 #[aK (R ⟨E.c,0,O⟩)] a (zat E.a x a):=by
 obtain⟨h,i,l,b,e,f,d⟩:=q;obtain⟨z,C,A,b,g⟩:=E;have e:a.ownsRow g.heap.size 72 6 h x.a.length (iE x.a):=d.a.g (L1:=[]) d.b;have hF:a.ownsRow g.heap.size 91 2 i x.c.length (bN x.c):=d.a.g d.c;have f:a.ownsRow g.heap.size 3 1 l x.d.length (x.d.map (J U)):=by have:=d.a;rw[←bD]at this;exact this.g d.d
 have g:bH a z 104 (nW C A b x h i l):=d.e;have h:bH a C 178 F:=d.a.a (x:=(C,178,F)) Y1;obtain⟨i,l,rfl⟩:=dB e;obtain⟨m,n,rfl⟩:=dB hF;obtain⟨o,p,rfl⟩:=dB f;have B:=fun y (s:aJ a.heap.size a y)=>aj (JM i x.a.length l (iE x.a) y e.1 Y0 (fun t=>((fH e).1 t).1) (mO e) ((dD e).a s) (zbU _));have D:=fun y (s:aJ a.heap.size a y)=>aj (OH m x.c.length n (bN x.c) y hF.1 Y0 (fun t=>((fH hF).1 t).1) (mO hF) ((dD hF).a s) (ZL _));have H:=fun y (s:aJ a.heap.size a y)=>aj (JN o x.d.length p (x.d.map (J U)) y f.1 Y0 (fun t=>((fH f).1 t).1) (mO f) ((dD f).a s) (zbV _));have L:Y (2≤a.heap.size):=aj (by obtain⟨u,hF⟩:=d.a;exact aR hF.d hF.b.1.b);have I:=aj (gU a 40 #[J U 0,J U 0,J U 0,J U 0,J U 0,J U 0,Z O 0 0,J U 0,J U 0,Z O 0 0,Z O 0 0,J U 0,J U 0]);have K:=aj (g.b I.o.1);have a0:=aj (h.b I.o.1);have b0:=aj h;have f0:=aj g;clear e hF f g h d;obtain⟨d,g⟩:=exq x.a.length;obtain⟨e,h⟩:=exq x.c.length;obtain⟨f,w⟩:=exq x.d.length;have Q:=aj (And.intro g (And.intro h w));have M:Y (∀j v,(jC b x (Z i d l) (Z m e n) (Z o f p)).toList[j]?=R v→(a.alloc (.cells #[J U 0,J U 0,J U 0,J U 0,J U 0,J U 0,Z O 0 0,J U 0,J U 0,Z O 0 0,Z O 0 0,J U 0,J U 0] 40)).cell? ⟨z,2+j,O⟩=R v):=aj fun j v G=>by
  rw[K.o.a,←Array.getElem?_toList];rw[←g,←h,←w]at G;have t:(nW C A b x (Z i x.a.length l) (Z m x.c.length n) (Z o x.d.length p)).toList[2+j]?=(jC b x (Z i x.a.length l) (Z m x.c.length n) (Z o x.d.length p)).toList[j]?:=by rw[←List.getElem?_drop];rfl
  rw[t];exact G
 rw[g]at B;rw[h]at D;rw[w]at H;clear g h w;go_enter func23,ntmps23;go_upto_region 4 with(first|refine eT Y4 40 (.tmp 9) rfl z 2 rfl (jC b x (Z i d l) (Z m e n) (Z o f p)).toList M.o underlying40 rfl Y3 (jC b x (Z i d l) (Z m e n) (Z o f p)) rfl ?_ |refine dO rfl 40 (.tmp 3) (.tmp 10) rfl _ (jC b x (Z i d l) (Z m e n) (Z o f p)) (a.heap.size+1) Y1 rfl rfl Y3 rfl (by unfold jC;simp[Value.oneCell']) ?_);have g:Bs (fun _ u=>u=[]) a [(a.heap.size+1,40,(jC b x (Z i d l) (Z m e n) (Z o f p))),(a.heap.size,40,#[J U 0,J U 0,J U 0,J U 0,J U 0,J U 0,Z O 0 0,J U 0,J U 0,Z O 0 0,Z O 0 0,J U 0,J U 0])] ((a.alloc (.cells #[J U 0,J U 0,J U 0,J U 0,J U 0,J U 0,Z O 0 0,J U 0,J U 0,Z O 0 0,Z O 0 0,J U 0,J U 0] 40)).alloc (.cells (jC b x (Z i d l) (Z m e n) (Z o f p)) 40)):=by have h:Bs (fun _ u=>u=[]) a [] a:=⟨[],Cl.f,rfl,gG.e _ _,Y1,Y1,L.o⟩;have:=(h.d 40 #[J U 0,J U 0,J U 0,J U 0,J U 0,J U 0,Z O 0 0,J U 0,J U 0,Z O 0 0,Z O 0 0,J U 0,J U 0]).d 40 (jC b x (Z i d l) (Z m e n) (Z o f p));rwa[show(a.alloc (.cells #[J U 0,J U 0,J U 0,J U 0,J U 0,J U 0,Z O 0 0,J U 0,J U 0,Z O 0 0,Z O 0 0,J U 0,J U 0] 40)).heap.size=a.heap.size+1 by simp]at this
 have L:=aj g;have c0:=aj (K.o);have d0:((a.alloc (.cells #[J U 0,J U 0,J U 0,J U 0,J U 0,J U 0,Z O 0 0,J U 0,J U 0,Z O 0 0,Z O 0 0,J U 0,J U 0] 40)).alloc (.cells (jC b x (Z i d l) (Z m e n) (Z o f p)) 40)).cell? ⟨a.heap.size+1,6,O⟩=R (Z i d l):=(g.a (x:=(a.heap.size+1,40,(jC b x (Z i d l) (Z m e n) (Z o f p)))) Y1).a 6;generalize(a.alloc (.cells #[J U 0,J U 0,J U 0,J U 0,J U 0,J U 0,Z O 0 0,J U 0,J U 0,Z O 0 0,Z O 0 0,J U 0,J U 0] 40)).alloc (.cells (jC b x (Z i d l) (Z m e n) (Z o f p)) 40)=h at*;clear g;go_upto_region 5 with(go_at_call 44;refine(B _ L.o.c).o.mono ?_;rintro t V ⟨g,h,rfl,A,s⟩;obtain⟨z,W,w⟩:=L.o.o s A;have S:=aj W;have X:=aj w;have M:=w.a (x:=(a.heap.size+1,40,(jC b x (Z i d l) (Z m e n) (Z o f p)))) Y1;have z6:=M.a 6;have e0:=M.c;clear W w M A s);have T:Bs (fun _ u=>u=[]) a (z++(a.heap.size+1,40,(jC b x (Z g d h) (Z m e n) (Z o f p)))::[(a.heap.size,40,#[J U 0,J U 0,J U 0,J U 0,J U 0,J U 0,Z O 0 0,J U 0,J U 0,Z O 0 0,Z O 0 0,J U 0,J U 0])]) (V.setCell ⟨a.heap.size+1,6,O⟩ (Z g d h)):=pX (LA:=[]) (LB:=[]) X.o 6 [(Z g d h)];have M:=aj T;generalize V.setCell ⟨a.heap.size+1,6,O⟩ (Z g d h)=l at*;have i:=T.a (x:=(a.heap.size+1,40,(jC b x (Z g d h) (Z m e n) (Z o f p)))) Y1;have y9:l.cell? ⟨a.heap.size+1,9,O⟩=R (Z m e n):=i.a 9;clear T i z6 e0 X L d0 B;go_upto_region 6 with(go_at_call 45;refine(D _ M.o.c).o.mono ?_;rintro t X ⟨i,l,rfl,A,s⟩;obtain⟨B,W,w⟩:=M.o.o s A;have T:=aj W;have d0:=aj w;have L:=w.a (x:=(a.heap.size+1,40,(jC b x (Z g d h) (Z m e n) (Z o f p)))) Y1;have z9:=L.a 9;have e0:=L.c;clear W w L A s);have V:Bs (fun _ u=>u=[]) a (B++(z++(a.heap.size+1,40,(jC b x (Z g d h) (Z i e l) (Z o f p)))::[(a.heap.size,40,#[J U 0,J U 0,J U 0,J U 0,J U 0,J U 0,Z O 0 0,J U 0,J U 0,Z O 0 0,Z O 0 0,J U 0,J U 0])])) (X.setCell ⟨a.heap.size+1,9,O⟩ (Z i e l)):=pX (LA:=[]) d0.o 9 [(Z i e l)];have W:=aj V;generalize X.setCell ⟨a.heap.size+1,9,O⟩ (Z i e l)=n at*;have m:=V.a (x:=(a.heap.size+1,40,(jC b x (Z g d h) (Z i e l) (Z o f p)))) Y1;have g0:n.cell? ⟨a.heap.size+1,10,O⟩=R (Z o f p):=m.a 10;clear V m z9 e0 d0 M y9 D;go_upto_region 7 with(go_at_call 46;refine(H _ W.o.c).o.mono ?_;rintro t X ⟨m,n,rfl,A,s⟩;obtain⟨D,d0,w⟩:=W.o.o s A;have V:=aj d0;have e0:=aj w;have L:=w.a (x:=(a.heap.size+1,40,(jC b x (Z g d h) (Z i e l) (Z o f p)))) Y1;have h0:=L.a 10;have i0:=L.c;clear d0 w L A s);have M:Bs (fun _ u=>u=[]) a (D++(B++(z++(a.heap.size+1,40,(jC b x (Z g d h) (Z i e l) (Z m f n)))::[(a.heap.size,40,#[J U 0,J U 0,J U 0,J U 0,J U 0,J U 0,Z O 0 0,J U 0,J U 0,Z O 0 0,Z O 0 0,J U 0,J U 0])]))) (X.setCell ⟨a.heap.size+1,10,O⟩ (Z m f n)):=pX e0.o 10 [(Z m f n)];have L:=aj M;generalize X.setCell ⟨a.heap.size+1,10,O⟩ (Z m f n)=X at*;have o:=M.a (x:=(a.heap.size+1,40,(jC b x (Z g d h) (Z i e l) (Z m f n)))) Y1;have p:X.cell? ⟨a.heap.size+1,7,O⟩=R (J U x.e):=o.a 7;clear M o h0 i0 e0 W g0 H;have M:Y (∀o,Bs (fun _ u=>u=[]) a (D++(B++(z++(a.heap.size+1,40,(jC b x (Z g d h) (Z i e l) (Z m f n)))::[(a.heap.size,40,#[J U 0,J U 0,J U 0,J U 0,J U 0,J U 0,Z O 0 0,J U 0,J U 0,Z O 0 0,Z O 0 0,J U 0,J U 0])]))) o→bH o (a.heap.size+1) 40 (jC b x (Z g d h) (Z i e l) (Z m f n))∧bH o a.heap.size 40 #[J U 0,J U 0,J U 0,J U 0,J U 0,J U 0,Z O 0 0,J U 0,J U 0,Z O 0 0,Z O 0 0,J U 0,J U 0]∧bH (o.setRow a.heap.size (jC b x (Z g d h) (Z i e l) (Z m f n))) a.heap.size 40 (jC b x (Z g d h) (Z i e l) (Z m f n))∧zat b x a (av (aS (jC b x (Z g d h) (Z i e l) (Z m f n)))) (o.setRow a.heap.size (jC b x (Z g d h) (Z i e l) (Z m f n)))):=aj fun o A=>by have p:=A.a (x:=(a.heap.size+1,40,(jC b x (Z g d h) (Z i e l) (Z m f n)))) Y1;have s:=A.a (x:=(a.heap.size,40,#[J U 0,J U 0,J U 0,J U 0,J U 0,J U 0,Z O 0 0,J U 0,J U 0,Z O 0 0,Z O 0 0,J U 0,J U 0])) Y1;have t:D++(B++(z++(a.heap.size+1,40,(jC b x (Z g d h) (Z i e l) (Z m f n)))::[(a.heap.size,40,#[J U 0,J U 0,J U 0,J U 0,J U 0,J U 0,Z O 0 0,J U 0,J U 0,Z O 0 0,Z O 0 0,J U 0,J U 0])]))=(D++(B++(z++[(a.heap.size+1,40,(jC b x (Z g d h) (Z i e l) (Z m f n)))])))++(a.heap.size,40,#[J U 0,J U 0,J U 0,J U 0,J U 0,J U 0,Z O 0 0,J U 0,J U 0,Z O 0 0,Z O 0 0,J U 0,J U 0])::[]:=Y1;rw[t]at A;have w:=A.z (jC b x (Z g d h) (Z i e l) (Z m f n));have A:bH (o.setRow a.heap.size (jC b x (Z g d h) (Z i e l) (Z m f n))) a.heap.size 40 (jC b x (Z g d h) (Z i e l) (Z m f n)):=w.a (x:=(a.heap.size,40,(jC b x (Z g d h) (Z i e l) (Z m f n)))) Y1;have H:(D++(B++(z++[(a.heap.size+1,40,(jC b x (Z g d h) (Z i e l) (Z m f n)))])))++(a.heap.size,40,(jC b x (Z g d h) (Z i e l) (Z m f n)))::[]=D++(B++(z++(a.heap.size+1,40,(jC b x (Z g d h) (Z i e l) (Z m f n)))::[(a.heap.size,40,(jC b x (Z g d h) (Z i e l) (Z m f n)))])):=Y1;rw[H]at w;obtain⟨H,W,n3⟩:=Q.o;subst H W n3;refine⟨p,s,A,g,h,i,l,m,n,rfl,w.c,?_,w.g T.o,w.g (L1:=[]) V.o⟩;rw[←bD]at w;exact w.g S.o
 obtain⟨w,H⟩:=exq ((x.e==1));cases w with
 |false=>obtain⟨p,s,A,w⟩:=M.o X L.o;have W:=aj (show∀j v,(jC b x (Z g d h) (Z i e l) (Z m f n)).toList[j]?=R v→X.cell? ⟨a.heap.size+1,0+j,O⟩=R v from fun j v G=>by rw[cK,p.a,←Array.getElem?_toList];exact G);have X:=aj s;have H:=aj (And.intro A w);clear p s A w M L S T V Q a0 c0 K I;go_wp2_with (first|refine eT Y4 40 (.tmp 3) rfl (a.heap.size+1) 0 rfl (jC b x (Z g d h) (Z i e l) (Z m f n)).toList W.o underlying40 rfl Y3 (jC b x (Z g d h) (Z i e l) (Z m f n)) rfl ?_ |refine wpList_store_row rfl 40 (.tmp 2) (.tmp 38) rfl a.heap.size (jC b x (Z g d h) (Z i e l) (Z m f n)) rfl rfl 40 _ X.o Y3 rfl (by unfold jC;simp[Value.oneCell']) ?_);exact aG (v:=aS (jC b x (Z g d h) (Z i e l) (Z m f n))) (iC results23 a.heap.size rfl H.o.1 underlying40 rfl Y3) rfl H.o.2
 |true=>
  go_upto_region 8 with fail;refine XY (cb:=C) (Ph:=fun d0 _ o=>d0≤3∧Bs (fun _ u=>u=[]) a (D++(B++(z++(a.heap.size+1,40,(jC b x (Z g d h) (Z i e l) (Z m f n)))::[(a.heap.size,40,#[J U 0,J U 0,J U 0,J U 0,J U 0,J U 0,Z O 0 0,J U 0,J U 0,Z O 0 0,Z O 0 0,J U 0,J U 0])]))) o) ⟨aZ _,L.o.i⟩ (fun o q=>?_) (fun o q=>?_) (fun o q=>?_) (fun o q=>?_) ?_
  ·obtain⟨d0,u,_,_,q⟩:=q;exact(f0.o.b q.2.c).a 0
  ·refine mB (Ap C F N P 0 (.inl rfl) o (b0.o.b q.2.c) hc) ?_;rintro y rfl;exact⟨rfl,Y2,q.2⟩
  ·refine mB (Ap C F N P 1 (.inr rfl) o (b0.o.b q.2.c) hc) ?_;rintro y rfl;exact⟨rfl,Y2,q.2⟩
  ·exact⟨(q.2.a (x:=(a.heap.size+1,40,(jC b x (Z g d h) (Z i e l) (Z m f n)))) Y1).D 11 2 (aD 13),Y2,pX q.2 11 [J U 0,J U 0]⟩
  intros;rename_i o t;have q:=aj t.2;obtain⟨p,s,A,w⟩:=M.o o q.o;have W:=aj (show∀j v,(jC b x (Z g d h) (Z i e l) (Z m f n)).toList[j]?=R v→o.cell? ⟨a.heap.size+1,0+j,O⟩=R v from fun j v G=>by rw[cK,p.a,←Array.getElem?_toList];exact G);have X:=aj s;have H:=aj (And.intro A w);clear p s A w M L S T V Q a0 c0 K I q;dsimp only[Exit.then];go_wp2_with (first|refine eT Y4 40 (.tmp 3) rfl (a.heap.size+1) 0 rfl (jC b x (Z g d h) (Z i e l) (Z m f n)).toList W.o underlying40 rfl Y3 (jC b x (Z g d h) (Z i e l) (Z m f n)) rfl ?_ |refine wpList_store_row rfl 40 (.tmp 2) (.tmp 38) rfl a.heap.size (jC b x (Z g d h) (Z i e l) (Z m f n)) rfl rfl 40 _ X.o Y3 rfl (by unfold jC;simp[Value.oneCell']) ?_);exact aG (v:=aS (jC b x (Z g d h) (Z i e l) (Z m f n))) (iC results23 a.heap.size rfl H.o.1 underlying40 rfl Y3) rfl H.o.2
structure Ck where
 r:Rw
 b:Bool
 a:Nat
 q:Nat
 C:Nat
def Ck.v (a:Ck):Int×aI:=(a.r.a,Z (R ⟨a.a,a.q,O⟩) (eY a.r a.b).length a.C)
structure Ck.G (x:Ck) (w:aB):Prop where
 a:(eY x.r x.b).length≤x.C
 b:x.C≤maxLen
 c:bU w (R ⟨x.a,x.q,O⟩) (dP (eY x.r x.b))
def xJ:Bool→Bool→List Rw→Prop
 |_,_,[]=>True
 |b,c,a::d=>CkB b c a∧xJ (b&&a.a !=0) (c&&a.a !=1) d
def Ux (a:List Ck):List aI:=a.flatMap fun a=>JI a.v
def LM:∀{c:List Ck} {d:Nat} {a:Ck},c[d]?=R a→∀b e,(JI a.v)[b]?=R e→(Ux c)[d*2+b]?=R e:=fun{c} {d} {a} g b e f=>by
 have c:b<2:=(aU.1 f).1
 rw[←f]
 exact mZ (f:=fun a:Ck=>JI a.v) (s:=2) (fun _=>rfl) g b c
def Uy (j:Cf) (a:Az) (b:aB) (k:Ending) (c:aB):Prop:=∃d e f g h i,k=av (aN #[aS (jC j a (Z d a.a.length e) (Z f a.c.length g) (Z h a.d.length i)),J U 0])∧aJ b b c∧c.ownsRow b 72 6 (Z d a.a.length e) a.a.length (iE a.a)∧c.ownsRow b 91 2 (Z f a.c.length g) a.c.length (bN a.c)∧c.ownsRow b 3 1 (Z h a.d.length i) a.d.length (a.d.map (J U))
structure JQ (E:OE) (l:List Ck) (j:Nat) (W:aB):Prop where
 a:∃ct f0 f1,LJ ct f0 f1∧xJ f0 f1 ((l.drop j).map Ck.r)∧BU E (5*j) (nV E.a ((l.take j).map Ck.r)) [(E.b,178,ct)] W
 d:0≤(nV E.a ((l.take j).map Ck.r)).b∧(nV E.a ((l.take j).map Ck.r)).b≤j
 b:(nV E.a ((l.take j).map Ck.r)).a.length≤j
 c:(nV E.a ((l.take j).map Ck.r)).c.length≤2000∧(nV E.a ((l.take j).map Ck.r)).d.length≤2000
def BU.b {a:OE} {d:Nat} {e:Az} {f:List Ow} {c:aB} (b:BU a d e f c):aJ a.w.heap.size a.w c:=by obtain⟨a,c,d,e,f,g,b⟩:=b;exact b.a.c
def JQ.f {c:OE} {d:List Ck} {e:Nat} {b f:aB} (a:JQ c d e b) (g:aJ b b f):JQ c d e f:=by obtain⟨b,c,d,e,f,h⟩:=a.a;exact⟨⟨b,c,d,e,f,h.a g⟩,a.d,a.b,a.c⟩
def JQ.e {a:OE} {c:List Ck} {d:Nat} {b:aB} (e:JQ a c d b):aJ a.w.heap.size a.w b:=by obtain⟨b,c,d,f,g,a⟩:=e.a;exact a.b
def Ya (a:Az) (b:Rw):((iD a b).1.b=a.b∨(iD a b).1.b=a.b+1)∧(iD a b).1.a.length≤a.a.length+1:=by
 unfold iD;dsimp only;split
 ·exact⟨.inl rfl,Nat.le_succ _⟩
 ·split
  ·exact⟨.inr rfl,Y1⟩
  ·exact⟨.inl rfl,Y1⟩
def sH (c:Cf) {a:List Ck} {b:Nat} {d:Ck} (e:a[b]?=R d):nV c ((a.take (b+1)).map Ck.r)=(iD (nV c ((a.take b).map Ck.r)) d.r).1:=by unfold nV;rw[List.take_add_one,e,Option.toList_some,List.map_append,List.foldl_append];rfl
def Uz {d:OE} {b:List Ck} {a:Nat} {f:aB} {e:Ck} (h:JQ d b a f) (c:b[a]?=R e) (g:a≤50) (i:e.G d.w):
  aF au 22 #[qp d.c,aS (JI e.v).toArray] f fun f j=>f=av (J U 0)∧JQ d b (a+1) j:=by
 obtain⟨m,n,o,l,g,k⟩:=h.a;have m:(b.drop a).map Ck.r=e.r::(b.drop (a+1)).map Ck.r:=by have n:=(aU.1 c).1;rw[List.drop_eq_getElem_cons n,List.map_cons];rw[(aU.1 c).2]
 rw[m]at g;have m:=h.d;have n:=h.b;refine mB (OG k l g.1 i.a i.b i.c Y0 ⟨m.1,Y0⟩ Y0) fun j ⟨i,l,m⟩=>?_;have j:=Ya (nV d.a ((b.take a).map Ck.r)) e.r;have b:=Uw k Y0 g.1.a g.1.c h.c;refine⟨rfl,⟨i,_,_,l,g.2,?_⟩,?_,?_,?_⟩
 ·rw[sH _ c,show 5*(a+1)=5*a+5 by omega];exact m
 ·rw[sH _ c];rcases j.1 with f|f<;>rw[f]<;>omega
 ·rw[sH _ c];omega
 ·rw[sH _ c];exact b
def Yb (b:Cf) (e:List Ck) (n:Option aX) (h i:Nat) (c:aB) (a:Fx b=true) (D:lg c) (t:e.length=h) (d:h≤50) (u:bU c n (Ux e)) (q:(h=0∧n=O∧i=0)∨∃f,n=R ⟨f,0,O⟩∧f<c.heap.size) (v:xJ true true (e.map Ck.r)) (E:∀g∈e,g.G c):
  aF au 9 #[aS (jW b),Z n h i] c (Uy b (nV b (e.map Ck.r)) c):=by
 have p:=aj (gU c 23 (jW b));have s:=aj (gU (c.alloc (.cells (jW b) 23)) 40 qy);have w:=p.o.1.trans (s.o.1.mono p.o.1.size);have F:Y (bH ((c.alloc (.cells (jW b) 23)).alloc (.cells qy 40)) (c.heap.size+1) 40 qy):=aj (by have:=s.o.2;rwa[show(c.alloc (.cells (jW b) 23)).heap.size=c.heap.size+1 by simp]at this)
 obtain⟨K,L,M,N,P,Q⟩:=bH.j (p.o.2.b s.o.1);have G:=aj (Ut b ((c.alloc (.cells (jW b) 23)).alloc (.cells qy 40)) a (D.a w));have o:=aj w;have H:Y (∀a,aJ c c a→aF au 21 #[Z n h i] a fun d j=>d=av true∧aJ a a j):=aj fun a m=>by
  rcases q with⟨rfl,rfl,rfl⟩|⟨f,rfl,x⟩
  ·exact OD a
  ·refine zck f h i (e.map Ck.v) a (Y6 t) Y0 (aV x m.size) (fun g k=>?_) (fun a g k j r y=>?_)
   ·obtain⟨I,z,rfl⟩:=dI.1 k;have S:∀(e:List Rw) (A B:Bool),xJ A B e→∀l∈e,l.a=0∨l.a=1:=by
     intro e;induction e with
     |nil=>intro _ _ _ l i;cases i
     |cons C e T=>
      intro A B i l C;rcases bA.1 C with rfl|C
      ·exact i.1.b
      ·exact T _ _ i.2 l C
    have:=S _ _ _ v I.r (List.mem_map_of_mem z);unfold ckX Ck.v;rcases this with d|d<;>rw[d]<;>rfl
   ·rw[bS]at k;obtain⟨I,z,rfl⟩:=Option.map_eq_some_iff.1 k;obtain⟨I,S,d,i⟩:=(u.a m) _ _ (LM z j r y);injection d with d;injection d with z C;subst z C;rwa[cK]at i
 have l:=aj (And.intro u (And.intro q (And.intro v (And.intro E t))));clear u q v E t w p s D;unfold jW at*;go_enter func9,ntmps9;go_upto_region 6 with(first|(go_at_call 20;refine G.o.mono ?_;rintro d V ⟨s,u,v,rfl,t⟩;have p:=aj t;clear t)|(go_at_call 21;refine(H.o _ (o.o.trans (Below.mono (BU.b p.o) o.o.size))).mono ?_;rintro d T ⟨rfl,w⟩;have D:=aj w;clear w));have E:Y (JQ ⟨s,u,v,b,(c.alloc (.cells #[b.a,b.b,b.c,b.e,b.d,b.f] 23)).alloc (.cells qy 40)⟩ e 0 T):=aj ⟨⟨Z8,true,true,zbh,by rw[List.drop_zero];exact l.o.2.2.1,p.o.a D.o⟩,⟨Int.le_refl _,Int.le_refl _⟩,aD _,⟨aZ _,aZ _⟩⟩;clear D p H G K L M N P Q;generalize(c.alloc (.cells #[b.a,b.b,b.c,b.e,b.d,b.f] 23)).alloc (.cells qy 40)=w at*;go_wp2;go_loopw [25] (fun j wr=>∃a:Nat,a≤h∧j=J U (a:Int)∧Y (JQ ⟨s,u,v,b,w⟩ e a wr)) (fun j _=>((h:Int)-intOf j).toNat);case atStart=>exact⟨0,aZ _,rfl,E⟩
 case round=>
  obtain⟨a,t,rfl,p⟩:=hrel;by_cases x:a<h
  ·obtain⟨g,k⟩:∃g,e[a]?=R g:=⟨_,aQ (by have:=l.o.2.2.2.2;omega)⟩;have t:=bP k;obtain⟨f,q,D⟩:∃f,n=R ⟨f,0,O⟩∧f<c.heap.size:=by
    rcases l.o.2.1 with⟨i,_⟩|i
    ·omega
    ·exact i
   have D:=o.o.trans (Below.mono (JQ.e p.o) o.o.size);have G:g.G w:=⟨(l.o.2.2.2.1 g t).a,(l.o.2.2.2.1 g t).b,(l.o.2.2.2.1 g t).c.a o.o⟩;have n:∀j r,(JI g.v)[j]?=R r→wr.cell? ⟨f,a*2+j,O⟩=R r:=fun j r y=>by obtain⟨I,S,d,i⟩:=(l.o.1.a D) _ _ (LM k j r y);rw[q]at d;injection d with d;injection d with z C;subst z C;rwa[cK]at i
   have r:=n 0 _ rfl;have C:=n 1 _ rfl;have i:=aj (Uz (p.o.f ((ay _ wr).alloc (aD _) (.cells (JI g.v).toArray 63))) k Y0 G);subst q;rw[dQ]at r;have j:(a:Int)<(h:Int):=Y0;have H:U.wrap ((a:Int)+1)=(a+1:Nat):=by rw[bF _ Y0];omega
   have j:((a:Int).toNat*2:Nat)=a*2:=Y0;obtain⟨y,j,z,q⟩:∃y j,g.v.1=y∧g.v.2=j:=⟨_,_,rfl,rfl⟩;unfold JI at i;rw[z]at r i;rw[q]at C i;obtain⟨g,r,y,C⟩:∃g r y,j=Z g r y:=⟨_,_,_,q.symm⟩;subst C;clear n G D t k z q;go_wp2_with (go_at_call 22;refine i.o.mono ?_;rintro d k ⟨rfl,g⟩;have j:=aj g;clear g);go_roundw;case rel=>exact⟨a+1,Y0,by first|rfl|(rw[H]),j⟩
   case measure=>simp[intOf];omega
  ·obtain rfl:a=h:=Y0;have j:(e.take a).map Ck.r=e.map Ck.r:=by rw[bW (by have:=l.o.2.2.2.2;omega)]
   have g:=JQ.e p.o;have h:=p.o.b;have i:=p.o.c;have y:Y (aF au 23 #[qp s] wr (zat b (nV b (e.map Ck.r)) wr)):=aj (by obtain⟨a,A,B,q,r,n⟩:=p.o.a;dsimp only at n h i;rw[j]at n h i;exact JO (E:=⟨s,u,v,b,w⟩) n q Y0 Y0 Y0)
   have t:=aj (F.o.b g);have s:=aj (o.o.trans (Below.mono g o.o.size));obtain⟨a,u⟩:=exq (nV b (e.map Ck.r));rw[u]at y;clear j g h i p l E F o;have w:Y (∀e g h i j k l,aJ wr wr e→e.ownsRow wr 72 6 (Z g a.a.length h) a.a.length (iE a.a)→e.ownsRow wr 91 2 (Z i a.c.length j) a.c.length (bN a.c)→e.ownsRow wr 3 1 (Z k a.d.length l) a.d.length (a.d.map (J U))→bH e (c.heap.size+1) 40 qy∧bH (e.setRow (c.heap.size+1) (jC b a (Z g a.a.length h) (Z i a.c.length j) (Z k a.d.length l))) (c.heap.size+1) 40 (jC b a (Z g a.a.length h) (Z i a.c.length j) (Z k a.d.length l))∧Uy b a c (av (aN #[aS (jC b a (Z g a.a.length h) (Z i a.c.length j) (Z k a.d.length l)),J U 0])) (e.setRow (c.heap.size+1) (jC b a (Z g a.a.length h) (Z i a.c.length j) (Z k a.d.length l)))):=aj fun e g h i j k l m q r n=>by
    have v:=t.o.b m;have x:=t.o.e;have o:bg [c.heap.size+1] e (e.setRow (c.heap.size+1) (jC b a (Z g a.a.length h) (Z i a.c.length j) (Z k a.d.length l))):=bg.h e (c.heap.size+1) _ Y1;have p:=s.o.size;refine⟨v,v.p _,g,h,i,j,k,l,rfl,(s.o.trans (m.mono s.o.size)).trans (o.c (aR s.o.size m.size) (fun f m=>by rw[aC.1 m];omega)),dz (bO q o (fun f d=>?_)) p,dz (bO r o (fun f d=>?_)) p,dz (bO n o (fun f d=>?_)) p⟩
    ·have:=(q.lt f d).1;simp;omega
    ·have:=(r.lt f d).1;simp;omega
    ·have:=(n.lt f d).1;simp;omega
   clear t s;go_wp2_with (first|(go_at_call 23;refine y.o.mono ?_;rintro d e ⟨g,h,i,j,k,l,rfl,m,q,r,n⟩;have f:=aj (w.o e g h i j k l m q r n);clear m q r n)|refine wpList_store_row rfl 40 (.tmp 4) (.tmp 34) rfl (c.heap.size+1) (jC b a (Z g a.a.length h) (Z i a.c.length j) (Z k a.d.length l)) rfl rfl 40 _ f.o.1 Y3 rfl (by unfold jC;simp[Value.oneCell']) ?_);exact aG (v:=aN #[aS (jC b a (Z g a.a.length h) (Z i a.c.length j) (Z k a.d.length l)),J U 0]) (eH results9 (c.heap.size+1) rfl f.o.2.1 underlying40 rfl Y3) rfl (by rw[u];exact f.o.2.2)
def jI {f:aB} {c:Option aX} {e:List aI} (g:bU f c e) {k:Nat} {h:aI} (i:e[k]?=R h):∃a b,c=R ⟨a,b,O⟩∧∀c d,e[c]?=R d→f.cell? ⟨a,b+c,O⟩=R d:=by obtain⟨a,b,e,_⟩:=g k h i;refine⟨a,b,e,fun c d b=>?_⟩;obtain⟨h,i,a,f⟩:=g c d b;rw[e]at a;injection a with a;injection a with a b;subst a b;exact f
def Gz (b e:Option aX) (a f j:Nat) (d:List Ft) (c:aB) (g:d.length=a) (h:a≤9223372036854775807) (h:bU c b (bN d)) (i:bU c e (bN d)):aF au 14 #[Z b a f,Z e a j] c fun b f=>b=av true∧∃e,f=c.drewN e:=by
 have f:=aj (And.intro h (And.intro i g));clear h i g;go_enter func14,ntmps14;go_wp2;go_loopw [5] (fun g wr=>∃b:Nat,b≤a∧g=J U (b:Int)∧∃e,wr=c.drewN e) (fun g _=>((a:Int)-intOf g).toNat);case atStart=>exact⟨0,aZ _,rfl,0,rfl⟩
 case round=>
  obtain⟨b,c,rfl,e,rfl⟩:=hrel;by_cases c:b<a
  ·obtain⟨c,g⟩:∃c,d[b]?=R c:=⟨_,aQ (by have:=f.o.2.2;omega)⟩;have c:=mZ (f:=fun d:Ft=>[J U d.1,J U d.2]) (s:=2) (fun _=>rfl) g;obtain⟨e,h,rfl,d⟩:=jI f.o.1 (c 0 Y2);obtain⟨h,i,rfl,e⟩:=jI f.o.2.1 (c 0 Y2);have h:=d _ _ (c 0 Y2);have i:=e _ _ (c 0 Y2);have j:=d _ _ (c 1 Y2);have k:=e _ _ (c 1 Y2);have l:(b:Int)<(a:Int):=Y0;rw[dQ]at h i;rw[←Nat.add_assoc]at j k;clear c d e f g;go_wp2;go_quiet (fail);go_wp2_with fail;exact⟨⟨b+1,Y0,Y1,_,rfl⟩,by simp[intOf];omega⟩
  ·obtain rfl:b=a:=Y0;go_wp2;go_ret;exact⟨rfl,_,rfl⟩
def BX (b e:Option aX) (a f j:Nat) (c:List Int) (d:aB) (g:c.length=a) (h:a≤9223372036854775807) (h:bU d b (c.map (J U))) (i:bU d e (c.map (J U))):aF au 15 #[Z b a f,Z e a j] d fun b f=>b=av true∧∃e,f=d.drewN e:=by
 have f:=aj (And.intro h (And.intro i g));clear h i g;go_enter func15,ntmps15;go_wp2;go_loopw [5] (fun g wr=>∃b:Nat,b≤a∧g=J U (b:Int)∧∃e,wr=d.drewN e) (fun g _=>((a:Int)-intOf g).toNat);case atStart=>exact⟨0,aZ _,rfl,0,rfl⟩
 case round=>
  obtain⟨b,d,rfl,e,rfl⟩:=hrel;by_cases d:b<a
  ·obtain⟨e,g⟩:∃e,c[b]?=R e:=⟨_,aQ (by have:=f.o.2.2;omega)⟩;have d:=(show(c.map (J U))[b]?=R (J U e) by rw[bS,g];rfl);obtain⟨e,h,rfl,c⟩:=jI f.o.1 d;obtain⟨h,i,rfl,e⟩:=jI f.o.2.1 d;have h:=c _ _ d;have h:=e _ _ d;have h:(b:Int)<(a:Int):=Y0;clear d c e f g;go_wp2;go_quiet (fail);go_wp2_with fail;exact⟨⟨b+1,Y0,Y1,_,rfl⟩,by simp[intOf];omega⟩
  ·obtain rfl:b=a:=Y0;go_wp2;go_ret;exact⟨rfl,_,rfl⟩
def DC (a:aB):aF au 75 #[aS #[J U 2,J U 6]] a fun b c=>b=av true∧aJ a a c:=by have b:=aj (gU a 91 #[J U 2,J U 6]);obtain⟨a,c⟩:=bH.m b.o.2;go_enter func75,ntmps75;go_wp2;go_ret;exact⟨rfl,b.o.1⟩
def zau (a:aB):aF au 75 #[aS #[J U 0,J U 0]] a fun b c=>b=av false∧aJ a a c:=by have b:=aj (gU a 91 #[J U 0,J U 0]);obtain⟨a,c⟩:=bH.m b.o.2;go_enter func75,ntmps75;go_wp2;go_ret;exact⟨rfl,b.o.1⟩
def OJ (a:aB):aF au 76 #[Z O 0 0,aS #[J U 2,J U 6]] a fun b c=>b=av false∧aJ a a c:=by
 have b:=aj (gU a 91 #[J U 2,J U 6]);go_enter func76,ntmps76;go_wp2;go_loopw [5] (fun c wr=>c=J U 0∧Y (aJ a a wr)) (fun _ _=>0);case atStart=>exact⟨rfl,aj b.o.1⟩
 case round=>obtain⟨rfl,a⟩:=hrel;go_wp2;go_ret;exact⟨rfl,a.o⟩
def fse:ByteArray:={data:=#[70,82,65,77,69,95,83,73,90,69,95,69,82,82,79,82]}
def zav:ByteArray:={data:=#[99,111,110,110,101,99,116,105,111,110,58,70,82,65,77,69,95,83,73,90,69,95,69,82,82,79,82]}
def OL (a:aB):aF au 114 #[] a fun d b=>∃c,d=av (Z (R ⟨c,0,O⟩) 14 14)∧b.cell? ⟨c,6,O⟩=R (aA fse)∧aJ a a b:=by go_enter func114,ntmps114;go_wp2;go_ret;exact⟨a,rfl,(bH.d a 9 _).a 6,(ay _ _).alloc (aD _) _⟩
def JR (a:aB):aF au 78 #[J U 6] a fun b c=>b=av (aA fse)∧aJ a a c:=by have c:=aj (OL a);go_enter func78,ntmps78;go_wp2_with (go_at_call 114;refine c.o.mono ?_;rintro b e ⟨f,rfl,g,a⟩;have d:=aj a;clear a);go_ret;exact⟨rfl,d.o⟩
def Yd (a:aB):aF au 38 #[aS #[J U 2,J U 6]] a fun c b=>c=av (aA zav)∧aJ a a b:=by have b:=aj (gU a 91 #[J U 2,J U 6]);obtain⟨d,e⟩:=bH.m b.o.2;have f:=aj (DC (a.alloc (.cells #[J U 2,J U 6] 91)));have g:=fun a=>aj (JR a);go_enter func38,ntmps38;go_wp2_with (first|(go_at_call 75;refine f.o.mono ?_;rintro c i ⟨rfl,a⟩;have e:=aj (b.o.1.trans (a.mono b.o.1.size));have d:=b.o.2.b a;have j:=d.a 0;have k:=d.a 1;clear a d)|(go_at_call 78;refine(g _).o.mono ?_;rintro c l ⟨rfl,a⟩;have h:=aj (e.o.trans (a.mono e.o.size));clear a));go_ret;exact⟨rfl,h.o⟩
def UL (b:Option aX) (d:Nat) (a:aB) (c:bU a b (bN [(2,6)])):aF au 37 #[Z b 1 d] a fun f h=>∃i j,f=av (Z i 1 j)∧h.ownsRow a 91 2 (Z i 1 j) 1 (bN [(2,6)])∧aJ a a h:=by
 obtain⟨g,b,rfl,d⟩:=jI c (k:=0) rfl;have n:a.cell? ⟨g,b,O⟩=R (J U 2):=d 0 _ rfl;have o:a.cell? ⟨g,b+1,O⟩=R (J U 6):=d 1 _ rfl;have m:=c.k rfl Y2;have k:Y (∀e,aJ a a e→e.cell? ⟨g,b,O⟩=R (J U 2)∧e.cell? ⟨g,b+1,O⟩=R (J U 6)):=aj fun e l=>⟨by rw[l.cell (p:=⟨g,b,O⟩) m];exact n,by rw[l.cell (p:=⟨g,b+1,O⟩) m];exact o⟩;clear c d m n o;go_enter func37,ntmps37;go_wp2;go_loopw [3,4] (fun b c wr=>(b=Z O 0 0∧c=J U 0∧Y (aJ a a wr))∨(∃i j,b=Z i 1 j∧c=J U 1∧Y (wr.ownsRow a 91 2 (Z i 1 j) 1 (bN [(2,6)])∧aJ a a wr))) (fun _ c _=>(1-intOf c).toNat);case atStart=>exact .inl ⟨rfl,rfl,aj (ay _ _)⟩
 case round=>
  rcases hrel with⟨rfl,rfl,b⟩|⟨i,j,rfl,rfl,b⟩
  ·have n:=aj (gU wr 91 #[J U 0,J U 0]);have o:Y (bH (wr.alloc (.cells #[J U 0,J U 0] 91)) wr.heap.size 91 #[J U 0,J U 0]∧aJ a a (wr.alloc (.cells #[J U 0,J U 0] 91))):=aj ⟨n.o.2,b.o.trans (n.o.1.mono b.o.size)⟩;obtain⟨d,m⟩:=exq wr.heap.size;have p:Y (a.heap.size≤d):=aj (by rw[←m];exact b.o.size);rw[m]at o;clear n b;go_wp2;try rw[m]
   clear m;go_loopw [6] (fun c wr=>(c=J U 0∧Y (bH wr d 91 #[J U 0,J U 0]∧aJ a a wr))∨(c=J U 1∧Y (bH wr d 91 #[J U 2,J U 6]∧aJ a a wr))) (fun c _=>(1-intOf c).toNat);case atStart=>exact .inl ⟨rfl,o⟩
   case round=>
    rcases hrel with⟨rfl,b⟩|⟨rfl,b⟩
    ·go_wp2_with fail;refine Yc (A:=fun e=>aJ wr wr e) ((ay _ wr).drew) (fun c=>?_) (fun c=>?_) (fun c=>?_) (fun c=>?_) (fun c=>?_) (fun c=>?_) (fun c=>?_) ?_
     ·exact(DC c.W).mono fun f h e=>⟨e.1,c.a.trans (e.2.mono c.a.size)⟩
     ·exact(OJ c.W).mono fun f h e=>⟨e.1,c.a.trans (e.2.mono c.a.size)⟩
     ·exact(zau c.W).mono fun f h e=>⟨e.1,c.a.trans (e.2.mono c.a.size)⟩
     ·exact(k.o _ (b.o.2.trans (Below.mono c.a b.o.2.size))).1
     ·exact(k.o _ (b.o.2.trans (Below.mono c.a b.o.2.size))).2
     ·exact(b.o.1.b c.a).a 0
     ·exact(b.o.1.b c.a).a 1
     intros;rename_i m o;have n:=b.o.2.trans (o.mono b.o.2.size);have r:=(k.o _ n).1;have s:=(k.o _ n).2;have c:=b.o.1.b o;have q:=c.a 0;have t:=c.a 1;have k:=c.c;have u:Y (bH ((m.setCell ⟨d,0,O⟩ (J U 2)).setCell ⟨d,1,O⟩ (J U 6)) d 91 #[J U 2,J U 6]∧aJ a a ((m.setCell ⟨d,0,O⟩ (J U 2)).setCell ⟨d,1,O⟩ (J U 6))):=aj (by have k:=n;have v:bg [d] m ((m.setCell ⟨d,0,O⟩ (J U 2)).setCell ⟨d,1,O⟩ (J U 6)):=(bg.e (F:=[d]) (p:=⟨d,0,O⟩) _ Y1 _).a (bg.e (F:=[d]) (p:=⟨d,1,O⟩) _ Y1 _) (fun d e=>.inl e);exact⟨(c.f 0 _).f 1 _,k.trans (v.c k.size (fun g l=>by rw[aC.1 l];exact p.o))⟩)
     clear c b n o;dsimp only[Exit.then];go_wp2_with fail;exact⟨.inr ⟨rfl,u⟩,Y2⟩
    ·have c:=b.o.1;have q:=c.a 0;have t:=c.a 1;have k:=aj ((DC wr).mono fun f h e=>(show f=av true∧aJ wr wr h from e));clear c;go_wp2_with (first|(go_at_call 75;refine k.o.mono ?_;rintro f l ⟨rfl,d⟩;have c:=aj (b.o.2.trans (d.mono b.o.2.size));have h:=b.o.1.b d;have r:=h.a 0;have s:=h.a 1;clear d h)|(at_builtin;go_loud (refine fK rfl (.tmp 53) (.tmp 55) 36 rfl a.heap.size 91 2 ug rfl Y2 underlying36 (Z O 0 0) 0 [] rfl (aT _ _ _ _) (R ⟨l,0,O⟩) 1 1 [J U 2,J U 6] rfl rfl (fun e=>nomatch e) (bU.b (bH.d l 91 #[J U 2,J U 6])) (by simp[Value.oneCell']) (by unfold maxLen;omega) Y0 (by have:=c.o.size;simp;exact cZ this) ?_)));intro m n o p q;have d:Y (o.ownsRow a 91 2 (Z m 1 n) 1 (bN [(2,6)])∧aJ a a o):=aj ⟨p,dZ (v:=Z O 0 0) (c.o.alloc c.o.size _) (aD _) (fun g f=>by simp[Value.ownBlock]at f) q⟩;clear p q b c k;go_wp2_with fail;exact⟨.inr ⟨m,n,rfl,rfl,d⟩,Y2⟩
  ·go_wp2;go_ret;exact⟨i,j,rfl,b.o⟩
def UM (b:Option aX) (c:Nat) (a:aB) (e:bU a b (bN [(2,6)])):aF au 19 #[Z b 1 c] a fun d f=>d=av (aA zav)∧aJ a a f:=by
 have h:=aj (UL b c a e);have i:=fun b=>aj (Yd b);clear e;go_enter func19,ntmps19;go_wp2_with (first|(go_at_call 37;refine h.o.mono ?_;rintro d e ⟨n,o,rfl,c,b⟩;obtain⟨f,p,j⟩:=eu c Y2;injection j with k q l;subst k l;have g:=aj b;have r:e.cell? ⟨f,0,O⟩=R (J U 2):=dG c (j:=0) rfl;have s:e.cell? ⟨f,1,O⟩=R (J U 6):=dG c (j:=1) rfl;clear c b)|(go_at_call 38;refine(i _).o.mono ?_;rintro d t ⟨rfl,b⟩;have m:=aj (g.o.trans (b.mono g.o.size));clear b));go_loopw [4,5] (fun b c wr=>b=aA zav∧c=J U 1∧Y (aJ a a wr)) (fun _ _ _=>0);case atStart=>exact⟨rfl,rfl,m⟩
 case round=>obtain⟨rfl,rfl,a⟩:=hrel;go_wp2;go_ret;exact⟨rfl,a.o⟩
def GA (a:aB):aF au 12 #[] a fun b c=>b=av (aS (jW AX))∧aJ a a c:=by have b:=aj (gU a 23 (jW AX));unfold jW AX at*;go_enter func12,ntmps12;go_wp2_with fail;exact aG (v:=aS #[J U 2,J U 60,J U 20000,J U 9,J U 20,J U 8000]) (iC results12 a.heap.size rfl b.o.2 underlying23 rfl Y3) rfl ⟨rfl,b.o.1⟩
def GD (a:aB):aF au 7 #[] a fun c b=>c=av (Z (R ⟨a,0,O⟩) 24 24)∧b.ownsRow a 5 1 (Z (R ⟨a,0,O⟩) 24 24) 24 (dP yY)∧aJ a a b:=by have b:Y ((a.alloc (.cells (dP yY).toArray 5)).ownsRow a 5 1 (Z (R ⟨a,0,O⟩) 24 24) 24 (dP yY)∧aJ a a (a.alloc (.cells (dP yY).toArray 5))):=aj ⟨Vv a (dP yY).toArray 5 24 Y2 rfl _ (aD _),(ay _ _).alloc (aD _) _⟩;go_enter func7,ntmps7;go_wp2;go_ret;exact⟨rfl,b.o⟩
def OI (a:aB):aF au 17 #[] a fun c b=>∃d e f,c=av (Z (R ⟨d,0,O⟩) 3 3)∧b.ownsRow a 5 1 (Z e 24 f) 24 (dP yY)∧b.ownsRow a 30 6 (Z (R ⟨d,0,O⟩) 3 3) 3 [J U 0,J U (-1),J U 0,J U 0,aO false,Z e 24 f,J U 0,J U 4,J U 0,J U 0,aO false,Z O 0 0,J U 1,J U 4,J U 0,J U 0,aO false,Z O 0 0]∧aJ a a b:=by have g:=aj (GD a);go_enter func17,ntmps17;go_wp2_with (go_at_call 7;refine g.o.mono ?_;rintro c d ⟨rfl,e,f⟩;have b:=aj (And.intro e f);clear e f);go_ret;exact⟨d,R ⟨a,0,O⟩,24,rfl,dF b.o.1 ((ay _ _).alloc (aD _) _),World.ownsRow_lit d _ 3 b.o.2.size Y2 rfl,b.o.2.trans ((ay _ _).alloc b.o.2.size _)⟩
def UG:(Tryz.prog.info? 63).map (fun a=>(a.zero,a.size,a.bytes))=R (R (aS #[J U 0,Z O 0 0]),2,32):=by kernel_rfl
section
variable {W W':aB} {base:Nat}
def Aq {a c d i e j:Nat} {f b:aI} {g k:List aI} (h:W.ownsRow base a d f e g) (l:W.ownsRow base c i b j k) (i:a≠c) (c:W.grownBy W' b.ownBlock):W'.ownsRow base a d f e g:=
 bO h (bg.k (F:=b.ownBlock.toList) c (fun b a=>.inl (by rw[a];simp))) (fun b a c=>pQ h l i a (Y6 c))
structure Vb (base:Nat) (x:Ck) (W:aB):Prop where
 q:x.q=0
 a:W.ownsRow base 5 1 (Z (R ⟨x.a,0,O⟩) (eY x.r x.b).length x.C) (eY x.r x.b).length (dP (eY x.r x.b))
def Vb.g {b:Ck} (a:Vb base b W):b.G W:=by have b:=fH a.a;obtain⟨e,f,g,c,_,_,_,d,_⟩:=a.a.2.resolve_left (fun e=>by cases e.1);injection c with _ _ c;subst c;refine⟨b.2,d,?_⟩;have:=dD a.a;rw[a.q];exact this
def Vb.b {a:Ck} (b:Vb base a W) (c:aJ W W W'):Vb base a W':=⟨b.q,dF b.a c⟩
structure LP (base:Nat) (cs:List Ck) (L:Option aX) (C:Nat) (W:aB):Prop where
 a:W.ownsRow base 63 2 (Z L cs.length C) cs.length (Ux cs)
 c:∀x∈cs,Vb base x W
def LP.b {a:List Ck} {b:Option aX} {c:Nat} (d:LP base a b c W) (e:aJ W W W'):LP base a b c W':=⟨dF d.a e,fun a b=>(d.c a b).b e⟩
def LP.d (W:aB) (base:Nat):LP base [] O 0 W:=⟨aT ..,fun b a=>by cases a⟩
def UH (a:List Ck) (b:Ck):Ux (a++[b])=Ux a++JI b.v:=by unfold Ux;simp
def LP.e {a:List Ck} {b c:Option aX} {d e:Nat} {x:Ck} (f:LP base a b d W) (g:Vb base x W) (h:W'.ownsRow base 63 2 (Z c (a.length+1) e) (a.length+1) (Ux a++JI x.v)) (i:W.grownBy W' (Z b a.length d).ownBlock):LP base (a++[x]) c e W':=by
 have c:∀b,Vb base b W→Vb base b W':=fun b a=>⟨a.q,Aq a.a f.a Y2 i⟩;refine⟨by rw[UH];simpa using h,fun b a=>?_⟩;rcases bK.1 a with a|a
 ·exact c b (f.c b a)
 ·rw[aC.1 a];exact c x g
end
structure Rd where
 r:Rw
 a:Bool
 A:Option aX
 C:Nat
def kS (a:Rd):List aI:=[J U a.r.a,J U a.r.c,J U a.r.e,J U a.r.d,aO a.a,Z a.A a.r.b.length a.C]
structure Rd.G (x:Rd) (w:aB):Prop where
 b:x.A=O→x.r.b.length=0∧x.C=0
 c:bU w x.A (dP x.r.b)
 a:x.r.b.length≤300
def yA (a:Rw):Rw:=if a.c= -1 then⟨a.a, -1,0,0,a.b⟩else a
def rE (a:Rw) (b:Bool):eY (yA a) b=eY a b∧(yA a).a=a.a:=by
 unfold yA eY;split
 ·exact⟨Y1,rfl⟩
 ·rename_i a;exact⟨by simp[a],rfl⟩
def UJ {a:Rw} {b:Bool} (c:a.c= -1→0<a.b.length):0<(eY a b).length:=by
 unfold eY;split
 ·rename_i a;exact c a
 ·rw[bL,(eD _ _ _ _ _).1];omega
def GH {base:Nat} {x:Rd} {W:aB} (b:x.G W) (e:base≤W.heap.size) (f:x.r.c= -1→0<x.r.b.length):
  aF au 18 #[aS (kS x).toArray] W fun c d=>aJ W W d∧((iY x.r=false∧c=av (aN #[Z O 0 0,J U 5]))∨(iY x.r=true∧∃a:Ck,c=av (aN #[a.v.2,J U 0])∧a.r=yA x.r∧a.b=x.a∧Vb base a d)):=by
 refine(JF x.r x.a x.A x.C W (by have:=b.a;omega) b.b b.c).mono ?_;rintro c d ⟨a,g⟩;refine⟨a,?_⟩;rcases g with⟨a,b⟩|⟨a,h,d,b,c⟩
 ·exact .inl ⟨a,b⟩
 ·obtain⟨g,i,h⟩:=eu c (UJ f);injection h with f h h;subst f h;refine .inr ⟨a,⟨yA x.r,x.a,g,0,d⟩,?_,rfl,rfl,rfl,?_⟩
  ·rw[b];unfold Ck.v;dsimp only;rw[(rE _ _).1]
  ·dsimp only;rw[(rE _ _).1];exact dz c e
def gX {a:aB} {b c d:Nat} {e:bB} {f:aI} {g:List aI} (h:a.ownsRow b e d f c g) (i:Obj):(a.alloc i).ownsRow b e d f c g:=dF h ((ay _ _).alloc (aD _) _)
def DF {a:aB} {b:Nat} {c:bB} {d:Array aI} (e:bH a b c d) (f:Obj):bH (a.alloc f) b c d:=e.b ((ay _ _).alloc (aD _) _)
def b18 (a:Option aX) (b:Nat):List aI:=[J U 0,J U (-1),J U 0,J U 0,aO false,Z a 24 b,J U 0,J U 4,J U 0,J U 0,aO false,Z O 0 0,J U 1,J U 4,J U 0,J U 0,aO false,Z O 0 0]
def r6 (a:Nat):List aI:=[J U 0,J U 6,J U 0,J U 0,aO false,Z (R ⟨a,0,O⟩) 7 7]
def z7:Array aI:=#[J .u8 0,J .u8 0,J .u8 0,J .u8 0,J .u8 0,J .u8 0,J .u8 0]
structure AlK (w:aB) (g m b:Nat) (X:Option aX) (D:Nat) (W:aB):Prop where
 a:W.ownsRow w 30 6 (Z (R ⟨g,0,O⟩) 3 3) 3 (b18 X D)
 e:W.ownsRow w 5 1 (Z X 24 D) 24 (dP yY)
 f:bH W m 5 z7
 d:bH W b 30 (r6 m).toArray
 c:aJ w w W
 h:w.heap.size≤m
structure AlQ (w:aB) (m:Nat) (X:Option aX) (D:Nat) (B:Option aX) (C:Nat) (W:aB):Prop where
 a:W.ownsRow w 30 6 (Z B 4 C) 4 (b18 X D++r6 m)
 b:W.ownsRow w 5 1 (Z X 24 D) 24 (dP yY)
 c:bH W m 5 z7
 d:aJ w w W
 e:w.heap.size≤m
def alq {a j c:aB} {d e f:Nat} {g k:Option aX} {h l:Nat} (b:AlK a d e f g h j) (m:c.ownsRow a 30 6 (Z k 4 l) 4 (b18 g h++r6 e)) (i:j.grownBy c (R d)):AlQ a e g h k l c:=by have a:=b.a.lt d rfl;obtain⟨a,h,j,c,_,g,_⟩:=b.a.2.resolve_left (fun a=>by cases a.1);injection c with c;injection c with c;injection c with c;subst c;have c:=bH.z g b.f Y2;have e:=fJ b.e g Y2;refine⟨m,bO b.e (bg.k (F:=[d]) i (fun f a=>.inl (by injection a with a;simp[a]))) (fun f g=>?_),bH.u b.f i (by simpa using Ne.symm c),dZ (v:=Z (R ⟨d,0,O⟩) 3 3) b.c (aD _) (fun f a=>by simp[Value.ownBlock]at a;omega) i,b.h⟩;simp;exact fun a=>e (by rw[g,a])
def BgQ (a:aB) (e:Nat) (c:Option aX) (d:Nat) (b:aB):Prop:=b.ownsRow a 5 1 (Z c 24 d) 24 (dP yY)∧b.ownsRow a 30 6 (Z (R ⟨e,0,O⟩) 3 3) 3 (b18 c d)∧aJ a a b
def ak1 {b a:aB} {c:Nat} {d:Option aX} {e:Nat} (f:BgQ b.drew c d e a):AlK b c a.heap.size (a.heap.size+1) d e ((a.alloc (.cells z7 5)).alloc (.cells (r6 a.heap.size).toArray 30)):=by obtain⟨d,e,g⟩:=f;have c:aJ b b a:=(ay _ b).drew.trans g;refine⟨gX (gX e _) _,gX (gX d _) _,DF (bH.d _ _ _) _,?_,(c.alloc c.size _).alloc (by simp;exact cZ c.size) _,c.size⟩;have:=bH.d (a.alloc (.cells z7 5)) 30 (r6 a.heap.size).toArray;rwa[show(a.alloc (.cells z7 5)).heap.size=a.heap.size+1 by simp]at this
def ak2 {a b:aB} {c:Nat} {d:Option aX} {e:Nat} (f:BgQ (a.drew.alloc (.cells z7 5)) c d e b):AlK a c a.heap.size b.heap.size d e (b.alloc (.cells (r6 a.heap.size).toArray 30)):=by obtain⟨g,h,d⟩:=f;have c:aJ a a (a.drew.alloc (.cells z7 5)):=(ay _ a).drew.alloc (aD _) _;have e:=c.trans (d.mono c.size);exact⟨gX (dz h c.size) _,gX (dz g c.size) _,DF ((bH.d a.drew 5 z7).b d) _,bH.d _ _ _,e.alloc e.size _,aD _⟩
def ak3 {a c:aB} {b:Nat} {d:Option aX} {e:Nat} (f:BgQ ((a.drew.alloc (.cells z7 5)).alloc (.cells (r6 a.heap.size).toArray 30)) b d e c):AlK a b a.heap.size (a.heap.size+1) d e c:=by obtain⟨g,h,d⟩:=f;have e:aJ a a (a.drew.alloc (.cells z7 5)):=(ay _ a).drew.alloc (aD _) _;have b:=e.alloc (o:=.cells (r6 a.heap.size).toArray 30) e.size;have e:=b.trans (d.mono b.size);refine⟨dz h b.size,dz g b.size,(DF (bH.d a.drew 5 z7) _).b d,?_,e,aD _⟩;have:=(bH.d (a.drew.alloc (.cells z7 5)) 30 (r6 a.heap.size).toArray).b d;rwa[show(a.drew.alloc (.cells z7 5)).heap.size=a.heap.size+1 by simp]at this
def UN {d:aB} {e:Nat} {f:List aI} (c:bU d (R ⟨e,0,O⟩) f):∀a b,f[a]?=R b→d.cell? ⟨e,a,O⟩=R b:=fun a b e=>by
 obtain⟨f,g,d,c⟩:=c a b e
 injection d with d
 injection d with a b
 subst a b
 rwa[cK]at c
def LQ {i:Nat} (a:Cf) (b:List Ck) (e:List Rw) (f:Option aX) (g h:Nat) (c:aB) (j:Fx a=true) (k:lg c) (l:b.length=g) (m:g≤50) (d:LP i b f h c) (i:b.map Ck.r=e) (n:xJ true true e):aF au 9 #[aS (jW a),Z f g h] c (Uy a (nV a e) c):=by
 subst i l;refine Yb a b f b.length h c j k rfl m (dD d.a) ?_ n (fun a b=>(d.c a b).g);have e:=fH d.a;rcases d.a.2 with⟨b,a⟩|⟨c,f,g,b,_⟩
 ·injection b with a f g;exact .inl ⟨Y0,a,(e.1 a).2⟩
 ·injection b with a f g;subst a;exact .inr ⟨c,rfl,(d.a.lt c rfl).2⟩
def OW (a:Option aX) (b c:Nat):List Rd:=[⟨Va,false,a,b⟩,⟨OU,false,O,0⟩,⟨Uf,false,O,0⟩,⟨OV,false,R ⟨c,0,O⟩,7⟩]
def zbl {g a b:aB} {c:Nat} {d h:Option aX} {e i:Nat} (f:AlQ g c d e h i a) (g:aJ a a b):∀h∈OW d e c,h.G b:=by
 intro h a;have b:=dF f.b g;have c:=f.c.b g;unfold OW at a;simp only[bA,List.not_mem_nil,or_false]at a;rcases a with rfl|rfl|rfl|rfl
 ·exact⟨fun a=>absurd ((fH b).1 a).1 Y2,dD b,(show yY.length≤300 by decide)⟩
 ·exact⟨fun _=>Y5,(fun d e b=>by cases b),(show([]:List Int).length≤300 by decide)⟩
 ·exact⟨fun _=>Y5,(fun d e b=>by cases b),(show([]:List Int).length≤300 by decide)⟩
 ·exact⟨(fun a=>nomatch a),bU.b c,(show OV.b.length≤300 by decide)⟩
def zbm (b:Option aX) (c d:Nat):∀a∈OW b c d,a.r.c= -1→0<a.r.b.length:=by
 intro a b;unfold OW at b;simp only[bA,List.not_mem_nil,or_false]at b;rcases b with rfl|rfl|rfl|rfl
 ·exact fun _=>(show 0<yY.length by decide)
 ·exact fun a=>absurd a (show¬OU.c= -1 by decide)
 ·exact fun a=>absurd a (show¬Uf.c= -1 by decide)
 ·exact fun a=>absurd a (show¬OV.c= -1 by decide)
def zbn (a:Option aX) (c d:Nat):∀b∈OW a c d,iY b.r=true:=by
 intro b a;unfold OW at a;simp only[bA,List.not_mem_nil,or_false]at a;rcases a with rfl|rfl|rfl|rfl
 ·exact(show iY Va=true by decide)
 ·exact(show iY OU=true by decide)
 ·exact(show iY Uf=true by decide)
 ·exact(show iY OV=true by decide)
def OM:xJ true true [Va,OU,Uf,OV]:=by have b:∀a,a=false→CkB a true OU:=fun a b=>⟨.inl rfl,fun a=>absurd a Y2,fun _=>⟨Y2,fun _=>b⟩,Y2,by unfold gZ;decide⟩;refine⟨⟨.inl rfl,fun _=>⟨rfl,rfl,Y2,rfl,rfl⟩,fun a=>absurd rfl a,Y2,by unfold gZ;decide⟩,⟨.inl rfl,fun a=>absurd a Y2,fun _=>⟨Y2,fun _=>Y2⟩,Y2,by unfold gZ;decide⟩,⟨.inr rfl,fun a=>absurd a Y2,fun _=>⟨Y2,fun a=>absurd a Y2⟩,Y2,by unfold gZ;decide⟩,⟨.inl rfl,fun a=>absurd a Y2,fun _=>⟨Y2,fun _=>Y2⟩,Y2,by unfold gZ;decide⟩,trivial⟩
def BZ (j:aB) (hg:lg j):aF au 6 #[] j fun d k=>d=av true∧aJ j j k:=by
 have HT:Y (∀a,aF au 17 #[] a fun d k=>∃h f i,d=av (Z (R ⟨h,0,O⟩) 3 3)∧BgQ a h f i k):=aj fun a=>(OI a).mono fun d k ⟨h,f,i,W,u,I,K⟩=>⟨h,f,i,W,u,I,K⟩;have mixed:Tryz.prog.follows .mixedOrders=true:=Y3;obtain⟨c,e,g,b,l⟩:=info_parts qL;have m:=fun a=>run_makeSlice (P:=au) (w:=a) 28 5 c (J .u8 0) underlying28 e g U U 7 7 Y0 Y0 (by rw[b];decide) (by rw[l];decide) Y0;rw[b]at m;have n:madeCells (J .u8 0).cells ((7:Int).toNat*1)=#[J .u8 0,J .u8 0,J .u8 0,J .u8 0,J .u8 0,J .u8 0,J .u8 0]:=Y3;simp only[n]at m;clear n e g b l c;go_enter func6,ntmps6;go_upto_region 2 with fail;go_region_law (first|(go_simp;refine(HT.o _).mono ?_;rintro d X ⟨h,f,i,rfl,ho⟩;have l:=aj ho;clear ho)|(refine jR rfl (.tmp 8) (.tmp 11) 24 rfl j.heap.size 30 6 zbZ rfl Y2 underlying24 (Z (R ⟨h,0,O⟩) 3 3) 3 (b18 f i) rfl (ak1 l.o).a (R ⟨X.heap.size+1,0,O⟩) 1 1 (r6 X.heap.size) rfl rfl (fun m=>nomatch m) (bU.b (ak1 l.o).d) (by unfold r6;simp[Value.oneCell']) (by unfold maxLen;omega) Y0 (ak1 l.o).c.size ?_;intro B3 C3 g v w F;have s:=aj (alq (ak1 l.o) v w);clear v w F l)|(refine jR rfl (.tmp 8) (.tmp 11) 24 rfl j.heap.size 30 6 zbZ rfl Y2 underlying24 (Z (R ⟨h,0,O⟩) 3 3) 3 (b18 f i) rfl (ak2 l.o).a (R ⟨X,0,O⟩) 1 1 (r6 j.heap.size) rfl rfl (fun m=>nomatch m) (bU.b (ak2 l.o).d) (by unfold r6;simp[Value.oneCell']) (by unfold maxLen;omega) Y0 (ak2 l.o).c.size ?_;intro B3 C3 g v w F;have s:=aj (alq (ak2 l.o) v w);clear v w F l)|(refine jR rfl (.tmp 8) (.tmp 11) 24 rfl j.heap.size 30 6 zbZ rfl Y2 underlying24 (Z (R ⟨h,0,O⟩) 3 3) 3 (b18 f i) rfl (ak3 l.o).a (R ⟨j.heap.size+1,0,O⟩) 1 1 (r6 j.heap.size) rfl rfl (fun m=>nomatch m) (bU.b (ak3 l.o).d) (by unfold r6;simp[Value.oneCell']) (by unfold maxLen;omega) Y0 (ak3 l.o).c.size ?_;intro B3 C3 g v w F;have s:=aj (alq (ak3 l.o) v w);clear v w F l));all_goals
  obtain⟨p,s⟩:∃p,Y (AlQ j p f i B3 C3 g):=⟨_,s⟩;clear HT;have L:=aj s.o.d;obtain⟨a0,C4,r0⟩:=eu s.o.a Y2;injection r0 with e1 e2 e3;subst e1 e3;have HA:Y (∀a,aJ g g a→bU a (R ⟨a0,0,O⟩) ((OW f i p).flatMap kS)):=aj fun a q=>(dD s.o.a).a q;have g0:Y (∀a,aJ g g a→∀b∈OW f i p,b.G a):=aj fun a q=>zbl s.o q;have HN:Y ((OW f i p).length=4):=aj rfl;have HP:Y (∀b∈OW f i p,(b.r.c= -1→0<b.r.b.length)∧iY b.r=true):=aj fun b z=>⟨zbm f i p b z,zbn f i p b z⟩;have HM:Y ((OW f i p).map (fun b=>yA b.r)=[Va,OU,Uf,OV]):=aj rfl;clear s;generalize OW f i p=B at*;go_wp2;go_loopw [1,14] (fun s0 b0 wr=>∃(e:Nat) (r:List Ck) (t:Option aX) (C:Nat),e≤4∧b0=J U (e:Int)∧s0=Z t e C∧Y (r.length=e∧r.map Ck.r=(B.take e).map (fun b=>yA b.r)∧aJ g g wr∧LP g.heap.size r t C wr)) (fun _ b0 _=>((4:Int)-intOf b0).toNat);case atStart=>exact⟨0,[],O,0,aZ _,rfl,rfl,aj ⟨rfl,rfl,ay _ _,LP.d _ _⟩⟩
  case round=>
   obtain⟨e,r,t,D,hj,rfl,rfl,n⟩:=hrel;by_cases C0:e<4
   ·have t0:(e:Int)<4:=Y0;obtain⟨b,z⟩:∃b,B[e]?=R b:=⟨_,aQ (by have:=HN.o;omega)⟩;have M:=bP z;have h:=mZ (f:=kS) (s:=6) (fun _=>rfl) z;have h0:=HA.o _ n.o.2.2.1;have A:=UN h0;have u0:=A _ _ (h 0 Y2);have a1:=A _ _ (h 1 Y2);have a2:=A _ _ (h 2 Y2);have a3:=A _ _ (h 3 Y2);have a4:=A _ _ (h 4 Y2);have a5:=A _ _ (h 5 Y2);rw[dQ]at u0;have x:=aj (gU wr 30 (kS b).toArray);have i0:=aj (g0.o _ (n.o.2.2.1.trans (x.o.1.mono n.o.2.2.1.size)) b M);have y:=aj (L.o.trans (n.o.2.2.1.mono L.o.size));have N:=aj ((GH (base:=g.heap.size) (x:=b) (W:=wr.alloc (.cells (kS b).toArray 30)) i0.o (aR n.o.2.2.1.size x.o.1.size) (HP.o b M).1).mono fun d k m=>(show∃c:Ck,d=av (aN #[Z (R ⟨c.a,c.q,O⟩) (eY c.r c.b).length c.C,J U 0])∧c.r=yA b.r∧Vb g.heap.size c k∧aJ _ _ k from by
     rcases m.2 with u|⟨_,c,u,I,K,h5⟩
     ·rw[(HP.o b M).2]at u;cases u.1
     ·exact⟨c,u,I,h5,m.1⟩))
    unfold kS at x N;obtain⟨nb,j0⟩:=exq b.r.b.length;rw[j0]at a5 x N;have HX:=aj z;clear h A h0 M z j0 i0;have c0:Y (∀a,aJ wr wr a→a.ownsRow g 63 2 (Z t e D) e (Ux r)):=aj fun a q=>by have:=dF n.o.2.2.2.a q;rw[n.o.1]at this;exact this
    go_wp2_with (first|(go_at_call 18;refine N.o.mono ?_;rintro d w4 ⟨c,rfl,hr,k0,d0⟩;have o:=aj (And.intro hr (And.intro k0 (x.o.1.trans (d0.mono x.o.1.size))));obtain⟨P,l0⟩:=exq ((eY c.r c.b).length);have k4:=x.o.2.b d0;have D0:=k4.a 0;have z5:=k4.a 5;clear hr k0 d0 k4)|(at_builtin;go_loud (refine fK rfl (.tmp 25) (.tmp 30) 32 rfl g.heap.size 63 2 UG rfl Y2 underlying32 (Z t e D) e (Ux r) rfl (c0.o _ (o.o.2.2.alloc o.o.2.2.size _)) (R ⟨w4,0,O⟩) 1 1 [J U b.r.a,Z (R ⟨c.a,c.q,O⟩) P c.C] rfl rfl (fun m=>nomatch m) (bU.b (bH.d w4 63 #[b.r.a,Z (R ⟨c.a,c.q,O⟩) P c.C])) (by simp[Value.oneCell']) (by unfold maxLen;omega) Y0 (aR (aR n.o.2.2.1.size o.o.2.2.size) Y1) ?_)));intro B5 c5 w5 m0 e0;have Q:aJ wr wr (w4.alloc (.cells #[b.r.a,Z (R ⟨c.a,c.q,O⟩) P c.C] 63)):=o.o.2.2.alloc o.o.2.2.size _;have v0:Y ((r++[c]).length=e+1∧(r++[c]).map Ck.r=(B.take (e+1)).map (fun b=>yA b.r)∧aJ g g w5∧LP g.heap.size (r++[c]) B5 c5 w5):=aj (by
     obtain⟨G,S,j5,j6⟩:=n.o;have w0:B.take (e+1)=B.take e++[b]:=by rw[List.take_add_one,HX.o,Option.toList_some]
     have x0:=c0.o _ Q;refine⟨by rw[bL,G];rfl,by rw[w0,List.map_append,List.map_append,S,List.map_singleton,List.map_singleton,o.o.1],?_,?_⟩
     ·exact dZ (v:=Z t e D) (j5.trans (Q.mono j5.size)) (aD _) (fun a0 d=>(x0.lt a0 d).1) e0
     refine LP.e (x:=c) (j6.b Q) (o.o.2.1.b ((ay _ _).alloc (aD _) _)) ?_ (by rw[G];exact e0);rw[G];have d:JI c.v=[J U b.r.a,Z (R ⟨c.a,c.q,O⟩) P c.C]:=by
      unfold Ck.v;rw[←l0];show [J U c.r.a,_]=_
      rw[show c.r.a=b.r.a from by rw[o.o.1,(rE b.r true).2]]
     rw[d];exact m0)
    clear m0 e0 Q c0 o x N y l0;go_wp2_with fail;exact⟨⟨e+1,_,_,_,Y0,Y1,rfl,v0⟩,by simp[intOf];omega⟩
   ·obtain rfl:e=4:=Y0;have t0:¬(((4:Nat):Int)<4):=Y0;have y:=aj (L.o.trans (n.o.2.2.1.mono L.o.size));have o:Y (∀a,aJ wr wr a→aF au 12 #[] a fun d k=>d=av (aS (jW AX))∧aJ a a k):=aj fun a _=>GA a;have HR:Y (∀a,aJ wr wr a→aF au 9 #[aS (jW AX),Z t (4:Nat) D] a (Uy AX (nV AX [Va,OU,Uf,OV]) a)):=aj fun a q=>by obtain⟨G,S,j5,j6⟩:=n.o;rw[bW (by rw[HN.o];decide),HM.o]at S;exact LQ AX r _ t 4 D a Y2 (hg.a (y.o.trans (q.mono y.o.size))) G Y2 (j6.b q) S OM
    have HV:=Ug;generalize nV AX [Va,OU,Uf,OV]=f at HR HV;obtain⟨xm,E0,F0,y0,G0,z0⟩:=f;obtain⟨v1,v2,v3⟩:=HV;dsimp only at v1 v2 v3;subst v1 v2 v3;have A0:Y (∀a,aJ wr wr a→aF au 9 #[aS (jW AX),Z t (4:Nat) D] a fun d k=>∃sR E H sU,d=av (aN #[aS #[J U 2,J U 60,J U 20000,J U 9,J U 20,J U 8000,kg sR,J U 3,J U 3,Z E 1 H,kg sU,J U 0,J U 0],J U 0])∧aJ a a k∧bU k E (bN [(2,6)])):=aj fun a q=>(HR.o a q).mono fun d k ⟨RA,RC,E,H,UA,UC,W,u,I,K,h5⟩=>⟨(RA,y0.length,RC),E,H,(UA,z0.length,UC),W,u,dD K⟩;have HS:Y (∀a T C,bU a T (bN [(2,6)])→aF au 19 #[Z T 1 C] a fun d k=>d=av (aA {data:=#[99,111,110,110,101,99,116,105,111,110,58,70,82,65,77,69,95,83,73,90,69,95,69,82,82,79,82]})∧aJ a a k):=aj fun a T C m=>UM T C a m;clear n HN HM HP g0 HA HR;unfold jW AX at*;go_wp2_with (first|(go_at_call 12;refine(o.o _ (ay _ _)).mono ?_;rintro d w6 ⟨rfl,n0⟩;have f0:=aj n0;clear n0)|(go_at_call 9;refine(A0.o _ f0.o).mono ?_;rintro d w7 ⟨sR,E,H,sU,rfl,o0,p0⟩;have V:=aj (And.intro (f0.o.trans (o0.mono f0.o.size)) p0);clear o0 p0)|(go_at_call 19;refine(HS.o _ E H (V.o.2.a ((ay _ _).alloc (aD _) _))).mono ?_;rintro d w8 ⟨rfl,q0⟩;have B0:=aj (show aJ j j w8 from((y.o.trans (V.o.1.mono y.o.size)).alloc (aR y.o.size V.o.1.size) _).trans (q0.mono (by have:=y.o.size;have:=V.o.1.size;simp;omega)));clear q0));go_ret;exact⟨rfl,B0.o⟩
section
variable {s mb1 k1 mb2 k2 j:Nat} {m1 m2:Mo} {w W:aB} {L:List Ow} {r:Rw} {res:Bool} {A:Option aX} {C:Nat}
structure AY (m:Mo) (r:Rw) (sF sR sX:Option aX×Nat) (s:Nat) (w:aB):Prop where
 a:w.ownsRow s 91 2 (Z sF.1 (dH m r).2.1.a.length sF.2) (dH m r).2.1.a.length (bN (dH m r).2.1.a)
 b:w.ownsRow s 3 1 (Z sR.1 (dH m r).2.1.b.length sR.2) (dH m r).2.1.b.length ((dH m r).2.1.b.map (J U))
 c:w.ownsRow s 93 3 (Z sX.1 (dH m r).2.1.c.length sX.2) (dH m r).2.1.c.length (dx (dH m r).2.1.c)
def AY.d {c d e:Option aX×Nat} {f:aB} (a:AY m1 r c d e s W) (b:aJ W W f):AY m1 r c d e s f:=⟨dF a.a b,dF a.b b,dF a.c b⟩
end
structure Rd.b (x:Rd) (w:aB):Prop where
 b:x.A=O→x.r.b.length=0∧x.C=0
 c:bU w x.A (dP x.r.b)
 a:gZ x.r.b
def gM {d:aB} {e f:Nat} {g:List aI} (a:bU d (R ⟨e,f,O⟩) g) {b:Nat} {c:aI} (h:g[b]?=R c):d.cell? ⟨e,f+b,O⟩=R c:=by obtain⟨e,f,d,a⟩:=a b c h;injection d with d;injection d with b c;subst b c;exact a
def sI {b:aB} {c a d e:Nat} {f:bB} {g:Option aX} {h:List aI} (i:b.ownsRow c f e (Z g a d) a h):a≤9223372036854775807:=by
 rcases i.2 with⟨a,b⟩|⟨c,d,e,a,_,_,f,g,_⟩
 ·rw[b];exact aZ _
 ·have:maxLen=9223372036854775807:=rfl;omega
structure JU (f0:Bool) (r:Rw):Prop where
 c:r.a=0∨r.a=1
 a:r.b.length≤300
 d:gZ r.b
 e:r.c= -1↔(r.a=0∧f0=true)
 b:r.c= -1→r.b=yY
def JV:Bool→List Rw→Prop
 |_,[]=>True
 |a,b::c=>JU a b∧JV (a&&b.a !=0) c
structure LV (w:aB) (x:Rd) (W:aB):Prop where
 c:x.A=O→x.r.b.length=0∧x.C=0
 d:bU w x.A (dP x.r.b)∨W.ownsRow w 5 1 (Z x.A x.r.b.length x.C) x.r.b.length (dP x.r.b)
section
variable {w W W':aB} {x:Rd}
def LV.a (a:LV w x W) (b:aJ W W W'):LV w x W':=⟨a.c,a.d.imp id (fun a=>dF a b)⟩
end
structure Vd (w:aB) (j:Nat) (ks ms:List Rd) (KA:Option aX) (KC:Nat) (MA:Option aX) (MC:Nat) (f:Bool) (W:aB):Prop where
 a:aJ w w W
 c:W.ownsRow w 30 6 (Z KA j KC) j (ks.flatMap kS)
 e:W.ownsRow w 30 6 (Z MA j MC) j (ms.flatMap kS)
 m:∀b,(Z KA j KC).ownBlock=R b→(Z MA j MC).ownBlock≠R b
 i:ks.length=j
 k:ms.length=j
 g:ms.map Rd.r=ks.map Rd.r
 n:∀x∈ks,LV w x W
 o:∀x∈ms,LV w x W
 h:JV true (ks.map Rd.r)
 p:f= !(ks.map Rd.r).all (fun r=>r.a !=0)
section
variable {w W W':aB} {j KC MC:Nat} {ks ms:List Rd} {KA MA:Option aX} {f:Bool}
def Vd.d (a:Vd w j ks ms KA KC MA MC f W) (b:aJ W W W'):Vd w j ks ms KA KC MA MC f W':=
 ⟨a.a.trans (b.mono a.a.size),dF a.c b,dF a.e b,a.m,a.i,a.k,a.g,fun x c=>(a.n x c).a b,fun x c=>(a.o x c).a b,a.h,a.p⟩
structure YF (w:aB) (j:Nat) (ks ms:List Rd) (KA:Option aX) (KC:Nat) (MA:Option aX) (MC:Nat) (f:Bool) (y:Rd) (g:Nat) (W:aB):Prop where
 a:aJ w w W
 d:W.ownsRow w 30 6 (Z KA (j+1) KC) (j+1) ((ks++[y]).flatMap kS)
 c:W.ownsRow w 30 6 (Z MA j MC) j (ms.flatMap kS)
 e:∀b,(Z KA (j+1) KC).ownBlock=R b→(Z MA j MC).ownBlock≠R b
 i:ks.length=j
 k:ms.length=j
 l:ms.map Rd.r=ks.map Rd.r
 h:∀x∈ks++[y],LV w x W
 m:∀x∈ms,LV w x W
 n:JV true ((ks++[y]).map Rd.r)
 o:f= !((ks++[y]).map Rd.r).all (fun r=>r.a !=0)
 p:(Z KA (j+1) KC).ownBlock≠R g
 q:(Z MA j MC).ownBlock≠R g
 z:∃cs,bH W g 30 cs
 s:w.heap.size≤g
def YF.t {c:Rd} {d:Nat} (a:YF w j ks ms KA KC MA MC f c d W) (b:aJ W W W'):YF w j ks ms KA KC MA MC f c d W':=
 ⟨a.a.trans (b.mono a.a.size),dF a.d b,dF a.c b,a.e,a.i,a.k,a.l,fun x c=>(a.h x c).a b,fun x c=>(a.m x c).a b,a.n,a.o,a.p,a.q,a.z.imp fun _ a=>a.b b,a.s⟩
end
section
open Go.ChangeAt Go.ChangeShapes Go.Deep Go.WideShapes
def DJ:Tryz.prog.cellsOf 30=6:=by kernel_rfl
def wO:Tryz.prog.cellsOf 3=1∧Tryz.prog.cellsOf 4=1∧Tryz.prog.cellsOf 5=1∧Tryz.prog.cellsOf 28=1:=⟨by kernel_rfl,by kernel_rfl,by kernel_rfl,by kernel_rfl⟩
def YH {a:List aI} (h:a.length=6):∃b c d e f g,a=[b,c,d,e,f,g]:=by
 match a,h with
 |[b,c,d,e,f,g],_=>exact⟨b,c,d,e,f,g,rfl⟩
section
variable {H:Type} {enc:bB×aI→H} {w:aB} {base:Nat} {spare:Nat→Bool} {held:Bool} {fuel:Nat} {x:DataW H×List MemPlace}
def UQ {l:aI} (h:DataW.trod enc au w base spare held fuel 28 [l]=R x):
  ∃(i:Option aX) (e:Nat) (a:List Int),l=Z i a.length e∧(i=O→a.length=0∧e=0)∧bU w i (dP a)∧gZ a:=by
 rcases open_ints underlying28 underlying5 wO.2.2.1 h with⟨b,_⟩|⟨x,c,e,f,b,_,t,u,d,_,m,p⟩
 ·simp at b;subst b;exact⟨O,0,[],rfl,fun _=>⟨rfl,rfl⟩,bU.f _ _,fun n d=>by cases d⟩
 ·simp at b;subst b;have v:c≤f.length:=by rw[d];split<;>omega
  have q:(f.take c).length=c:=by simp;omega
  refine⟨R x,e,f.take c,by rw[q],(fun h=>by cases h),fun j y k=>?_,fun n d=>zaA (p n (List.mem_of_mem_take d))⟩;have g:j<c∧j<f.length:=by have:=(aU.1 k).1;simp[dP]at this;omega
  have o:=m j g.2;obtain⟨a,r,s⟩:=x;obtain rfl:s=O:=by have:=m 0 (by omega);simpa[Addr.add]using World.cell?_spot this
  refine⟨a,r,rfl,?_⟩;rw[Addr.add_lit]at o;rw[o];simp[dP,List.getElem?_take,g.1,g.2]at k;simp[←k,g.2]
def UR {b:List aI} (o:b.length=6) (p:DataW.trod enc au w base spare held fuel 30 b=R x):∃i:Rd,b=kS i∧i.b w:=by obtain⟨q,G,I,K,L,r,a⟩:=DataW.trod_struct underlying30 p;obtain⟨M,N,P,Q,S,T,rfl⟩:=YH o;have c:=a 0 _ rfl;have d:=a 1 _ rfl;have e:=a 2 _ rfl;have f:=a 3 _ rfl;have g:=a 4 _ rfl;have h:=a 5 _ rfl;simp[wO]at c d e f g h;have V:q.length=6:=r;rw[aQ (by omega)]at c d e f g h;obtain⟨s,j,_⟩:=DataW.trod_int underlying3 c;obtain⟨t,k,_⟩:=DataW.trod_int underlying3 d;obtain⟨u,l,_⟩:=DataW.trod_int underlying3 e;obtain⟨v,m,_⟩:=DataW.trod_int underlying3 f;obtain⟨y,n,_⟩:=DataW.trod_bool underlying4 g;obtain⟨z,A,B,C,D,E,F⟩:=UQ h;simp at j k l m n;subst j k l m n C;exact⟨⟨⟨s,t,u,v,B⟩,y,z,A⟩,rfl,D,E,F⟩
def open_raws {r:Option aX} {c F:Nat} {G:DataW H} {I:List MemPlace} (e:DataW.Trod enc au w base spare held 24 (Z r c F) G I):
  ∃n:List Rd,n.length=c∧bU w r (n.flatMap kS)∧∀h∈n,h.b w:=by
 obtain⟨fuel,K⟩:=e;rcases open_slice underlying24 K with s|⟨t,b0,c0,L,d0,e0,Pl,u,hb,hl,hm,M,g,i⟩
 ·simp[Value.cells]at s;obtain⟨⟨rfl,rfl,rfl⟩,_⟩:=s;exact⟨[],rfl,bU.f _ _,fun x g=>by cases g⟩
 ·simp[Value.cells]at u;obtain⟨rfl,rfl,rfl⟩:=u;have f0:c≤L:=by rw[M];split<;>omega
  have N:∀b,∃v:Rd,b<c→v.b w∧∃f d,R t=R (⟨f,d,O⟩:aX)∧∀a o,(kS v)[a]?=R o→w.cell? ⟨f,d+b*6+a,O⟩=R o:=by
   intro b;by_cases j:b<c
   ·obtain⟨g0,k,P⟩:=i b Y0;rw[DJ]at k;obtain⟨_,Q,l⟩:=World.cells?_some k;obtain⟨h,rfl,S⟩:=UR Q P;obtain⟨f,d,T⟩:=t;obtain rfl:T=O:=by obtain⟨h0,y,_⟩:=i 0 (by omega);rw[DJ]at y;obtain⟨_,i0,V⟩:=World.cells?_some y;have z:=V 0 (by decide);rw[aQ (by omega)]at z;simpa[Addr.add]using World.cell?_spot z
    refine⟨h,fun _=>⟨S,f,d,rfl,fun a o A=>?_⟩⟩;have p:a<6:=(aU.1 A).1;have B:=l a p;rw[A]at B;simpa only[Addr.add_lit]using B
   ·exact⟨⟨⟨0,0,0,0,[]⟩,false,O,0⟩,fun e=>absurd e j⟩
  obtain⟨m,C⟩:=Classical.axiomOfChoice N;have l:∀b x,((List.range c).map m)[b]?=R x→b<c∧m b=x:=fun b x e=>by
   have j:b<c:=by simpa using(aU.1 e).1
   simp[j]at e;exact⟨j,e⟩
  refine⟨(List.range c).map m,Y1,fun a j0 D=>?_,fun h W=>?_⟩
  ·have p:=(aU.1 D).1;rw[vX (s:=6) (fun _=>rfl)]at p;obtain⟨x,g⟩:∃x,((List.range c).map m)[a/6]?=R x:=⟨_,aQ Y0⟩;obtain⟨q,X⟩:=l _ _ g;obtain⟨_,f,d,a0,k⟩:=C _ q;refine⟨f,d,a0,?_⟩;have E:=mZ (f:=kS) (s:=6) (fun _=>rfl) g (a%6) Y0;rw[show a/6*6+a%6=a by omega,D,←X]at E;have:=k _ _ E.symm;rwa[show d+a/6*6+a%6=d+a by omega]at this
  ·obtain⟨b,i⟩:=List.getElem?_of_mem W;obtain⟨q,rfl⟩:=l _ _ i;exact(C b q).1
end
end
section
open Go.ChangeAt Go.ChangeShapes Go.WideShapes
def UU:Tryz.prog.globalNamed "stickler/repr.forms" =R 0:=by kernel_rfl
def zaz:(Tryz.prog.globals[0]?).map (·.type)=R 289:=by kernel_rfl
def GJ:Tryz.prog.cellsOf 288=2∧Tryz.prog.cellsOf 289=12:=⟨by kernel_rfl,by kernel_rfl⟩
def of_laid {a:aB} {b:List (String×DataW Unit)} (d:b=[("unicode/utf8.acceptRanges",Rows.laid_unicode_utf8_acceptRanges),("stickler/repr.forms",Rows.laid_stickler_repr_forms),("unicode/utf8.first",Rows.laid_unicode_utf8_first)]) (c:laidMetH au b a) (g:a.ShapedOpen au):lg a:=by
 subst d;rw[MakeChecks.laidMetH_plain _ _ _ Y3]at c;obtain⟨l,⟨h,m,q,n,r,e,_,_,_,_,⟨i,s,b,o,t,f,d,j,p,k,_⟩,_⟩,_,_⟩:=c;obtain rfl:=Option.some.inj (UU.symm.trans d);obtain rfl:=Option.some.inj (zaz.symm.trans j);obtain⟨d,c⟩:=cell_of_shapedOpen_int (g:=1) (k:=U) (t:=3) (zero:=#[J U 0]) g (by decide+kernel) Y3 Y3 Y3 Y3 Y3;refine⟨?_,⟨d,c⟩,bf a _ c⟩;obtain⟨j,a,_,g,q,c,r⟩:=DataW.trod_array underlying289 k;have c:∀(a:Nat) (k l:Int),a<6→(j.map (·.1))[a]?=R (.agg [.lit (.int U k),.lit (.int U l)])→b.toList[a*2]?=R (J U k)∧b.toList[a*2+1]?=R (J U l):=by
  intro a k l s d;rw[bS]at d;obtain⟨l,k,d⟩:=Option.map_eq_some_iff.1 d;have m:=r a s;rw[GJ.1,k]at m;obtain⟨k,t,_,r,u,s,l⟩:=DataW.trod_struct underlying288 m;have t:=q.trans GJ.2;obtain⟨e,f,m⟩:∃e f,(b.toList.drop (a*2)).take 2=[e,f]:=by
   have:((b.toList.drop (a*2)).take 2).length=2:=by simp at t⊢;omega
   match(b.toList.drop (a*2)).take 2,this with
   |[e,f],_=>exact⟨e,f,rfl⟩
  have q:b.toList[a*2]?=R e:=by have:=bE (·[0]?) m;simpa[List.getElem?_take,List.getElem?_drop]using this
  have e:b.toList[a*2+1]?=R f:=by have:=bE (·[1]?) m;simpa[List.getElem?_take,List.getElem?_drop]using this
  rw[m]at l;have h:=l 0 _ rfl;have i:=l 1 _ rfl;simp[wO]at h i;have f:=s;obtain⟨a,b,rfl⟩:∃a b,k=[a,b]:=by
   match k,f with
   |[a,b],_=>exact⟨a,b,rfl⟩
  obtain⟨b,a,n,_⟩:=DataW.trod_int underlying3 h;obtain⟨f,b,o,_⟩:=DataW.trod_int underlying3 i;subst n o;rw[r]at d;simp at d a b;rw[q,e,a,b,d.1,d.2];exact Y5
 have g:=bE Prod.fst g;have g:[.agg [.lit (.int U 0),.lit (.int U 0)],.agg [.lit (.int U 128),.lit (.int U 7)],.agg [.lit (.int U 64),.lit (.int U 6)],.agg [.lit (.int U 0),.lit (.int U 4)],.agg [.lit (.int U 16),.lit (.int U 4)],.agg [.lit (.int U 32),.lit (.int U 5)]]=j.map (·.1):=by injection g
 rw[←g]at c;have d:=c 0 _ _ Y2 rfl;have e:=c 1 _ _ Y2 rfl;have f:=c 2 _ _ Y2 rfl;have g:=c 3 _ _ Y2 rfl;have h:=c 4 _ _ Y2 rfl;have i:=c 5 _ _ Y2 rfl;intro b c a;have c:b<12:=by simpa[Rh]using(aU.1 a).1
 refine⟨0,0,rfl,?_⟩;rw[cK,World.var?_cell UU p b,←Array.getElem?_toList];match b,c with
 |0,_=>exact d.1.trans a
 |1,_=>exact d.2.trans a
 |2,_=>exact e.1.trans a
 |3,_=>exact e.2.trans a
 |4,_=>exact f.1.trans a
 |5,_=>exact f.2.trans a
 |6,_=>exact g.1.trans a
 |7,_=>exact g.2.trans a
 |8,_=>exact h.1.trans a
 |9,_=>exact h.2.trans a
 |10,_=>exact i.1.trans a
 |11,_=>exact i.2.trans a
def returns_row {l:Type} {h:bB×aI→l} {p:Assume} {a:Checked} {q:Os} {i:FuncId} {d:Func} {e:ChangeSpec} {r:List PathCond} {j u v w:Bool} {s:List (String×DataW Unit)}
  (y:ownKnob a.prog.godebug=O) (z:q.Started) (A:a.prog.inits.idxOf? i=O) (B:a.prog.funcs[i]?=R d)
  (C:∃(b:aB) (f:Tape) (c:Input),b.os=q∧(b.forCall f c).Shaped a.prog∧c.vars=[]∧Input.okWide a.prog (b.forCall f c) .any b.heap.size i c∧
   ((e.pre h a.prog d r j (b.forCall f c).memory c.args∧laidMetH a.prog s (b.forCall f c).memory)∧sizedMet h a.prog d (OpenSpec.ofChange e) j (b.forCall f c).memory c.args)∧p.holds a.prog (lone (Frame.enter a.prog i c.args .normal) [] (b.forCall f c)))
  (D:∀(k:aB) (E:Nat) (g:Array aI) (m n:List (DataW l)) (t:List MemPlace),
   (∀(o:Nat) x l,d.params[o]?=R x→g[o]?=R l→Value.okWide a.prog k .any E x l)→
   DataW.Whole h a.prog d.params.toList e.vars j k g.toList m n t→
   r.all (PathCond.test a.prog ⟨d.params.toList,m,e.plain.varTypes a.prog,n⟩)=true→
   (DataW.weightsEach a.prog (d.params.toList++e.plain.varTypes a.prog) (m++n)).all (·≤reachBytes)=true→laidMetH a.prog s k→k.ShapedOpen a.prog→
   p.holds a.prog (lone (Frame.enter a.prog i g .normal) [] k)→
   aF a.prog i g k fun o x=>∃l,o=av l∧e.post h a.prog d j u v w k g l x):
  ReturnsInHanded p a q i .any (fun b g=>(e.pre h a.prog d r j b g∧laidMetH a.prog s b)∧sizedMet h a.prog d (OpenSpec.ofChange e) j b g) (e.post h a.prog d j u v w):=by refine returnsInHanded_of_calls y z A C ?_;intro b f c _ e _ a g h;obtain⟨_,_,_,i,j,_,_,_,_,k⟩:=a;have o:=Option.some.inj (j.symm.trans B);subst o;obtain⟨⟨⟨m,n,t,a,d⟩,i⟩,j⟩:=g;have g:=DataW.Whole.of_heap (w':=b.forCall f c) Y4 a;refine(D (b.forCall f c) b.heap.size c.args m n t k g d (j.weights a) (i.of_heap Y4) e h).mono fun o x ⟨l,a,b⟩=>?_;subst a;exact ChangeSpec.post_blind b
end
end Go.Proofs.YtdcacpeaimjdlaaGreatDoor
