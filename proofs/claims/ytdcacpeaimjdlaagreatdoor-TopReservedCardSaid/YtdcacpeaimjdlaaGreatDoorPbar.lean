/- Part of the proof. -/
import Derived.Test.YtdcacpeaimjdlaaGreatDoorPay
namespace Go.Proofs.YtdcacpeaimjdlaaGreatDoor
open Go.RowKit Go.Maps Go.Proofs.Tryz Mq MFr MRw
open Go.Value renaming int→J,slice→Z,bool→aO,tuple→aN,agg→aS
open Go.IntKind renaming i64→U
open Option renaming none→O,some→R
open Go.Ending renaming returned→av
open Go renaming World→aB,Value→aI,Calls→aF,Addr→aX,TypeId→bB
open Go.RowKit renaming Below→aJ
open Go.Proofs.Tryz renaming prog→au
set_option maxRecDepth 20000
set_option maxHeartbeats 0
set_option linter.all false
def UE (a:Cf) (b:Az) (n k l u o p:Option aX) (v q r y w x d h i:Nat) (c:aB) (P:b.a.length=d) (Q:b.c.length=h) (S:b.d.length=i) (C:d≤9223372036854775807∧h≤9223372036854775807∧i≤9223372036854775807) (I:bU c n (iE b.a)∧bU c u (iE b.a)) (hF:bU c k (bN b.c)∧bU c o (bN b.c)) (K:bU c l (b.d.map (J U))∧bU c p (b.d.map (J U))):
  aF au 10 #[aS (jC a b (Z n d v) (Z k h q) (Z l i r)),aS (jC a b (Z u d y) (Z o h w) (Z p i x))] c fun L X=>L=av true∧aJ c c X:=by
 unfold jC;have D:=aj (gU c 40 #[a.a,a.b,a.c,a.e,a.d,a.f,Z n d v,b.e,b.b,Z k h q,Z l i r,J U 0,J U 0]);have E:=aj (gU (c.alloc (.cells #[a.a,a.b,a.c,a.e,a.d,a.f,Z n d v,b.e,b.b,Z k h q,Z l i r,J U 0,J U 0] 40)) 40 #[a.a,a.b,a.c,a.e,a.d,a.f,Z u d y,b.e,b.b,Z o h w,Z p i x,J U 0,J U 0]);have F:=D.o.1.trans (E.o.1.mono D.o.1.size);have e:=D.o.2.b E.o.1;have f:bH ((c.alloc (.cells #[a.a,a.b,a.c,a.e,a.d,a.f,Z n d v,b.e,b.b,Z k h q,Z l i r,J U 0,J U 0] 40)).alloc (.cells #[a.a,a.b,a.c,a.e,a.d,a.f,Z u d y,b.e,b.b,Z o h w,Z p i x,J U 0,J U 0] 40)) (c.heap.size+1) 40 #[a.a,a.b,a.c,a.e,a.d,a.f,Z u d y,b.e,b.b,Z o h w,Z p i x,J U 0,J U 0]:=by have:=E.o.2;rwa[show(c.alloc (.cells #[a.a,a.b,a.c,a.e,a.d,a.f,Z n d v,b.e,b.b,Z k h q,Z l i r,J U 0,J U 0] 40)).heap.size=c.heap.size+1 by simp]at this
 have z:=aj (And.intro (I.1.a F) (And.intro (I.2.a F) P));have G:=aj F;have T:=fun j (A:aJ c c j)=>aj (Gz k o h q w b.c j Q C.2.1 (hF.1.a A) (hF.2.a A));have M:=fun j (A:aJ c c j)=>aj (BX l p i r x b.d j S C.2.2 (K.1.a A) (K.2.a A));have j0:=C.1;clear I hF K F P Q S C D E;obtain⟨W2,a0⟩:=exq ((c.alloc (.cells #[a.a,a.b,a.c,a.e,a.d,a.f,Z n d v,b.e,b.b,Z k h q,Z l i r,J U 0,J U 0] 40)).alloc (.cells #[a.a,a.b,a.c,a.e,a.d,a.f,Z u d y,b.e,b.b,Z o h w,Z p i x,J U 0,J U 0] 40));rw[a0]at e f z G;have y0:=e.a 0;have z0:=f.a 0;have y1:=e.a 1;have z1:=f.a 1;have y2:=e.a 2;have z2:=f.a 2;have y3:=e.a 3;have z3:=f.a 3;have y4:=e.a 4;have z4:=f.a 4;have y5:=e.a 5;have z5:=f.a 5;have y6:=e.a 6;have z6:=f.a 6;have y7:=e.a 7;have z7:=f.a 7;have y8:=e.a 8;have z8:=f.a 8;have y9:=e.a 9;have z9:=f.a 9;have k0:=e.a 10;have l0:=f.a 10;have m0:=e.a 11;have n0:=f.a 11;have o0:=e.a 12;have p0:=f.a 12;clear e f;have q0:∀j,(Op.equalIn 10000 38 (aS #[J U 0,J U 0]) (aS #[J U 0,J U 0])).run au j=.ok true j:=fun j=>by kernel_rfl
 go_enter func10,ntmps10;go_wp2_with fail;go_loopw [5] (fun N wr=>∃m:Nat,m≤d∧N=J U (m:Int)∧∃H,wr=W2.drewN H) (fun N _=>((d:Int)-intOf N).toNat);case atStart=>exact⟨0,aZ _,rfl,0,rfl⟩
 case round=>
  obtain⟨m,hj,rfl,H,rfl⟩:=hrel;by_cases r0:m<d
  ·obtain⟨B,V⟩:∃B,b.a[m]?=R B:=⟨_,aQ (by have:=z.o.2.2;omega)⟩;have g:=mZ (f:=fun B:Rw×Int=>OC B.1 B.2) (s:=6) (fun _=>rfl) V;obtain⟨s0,t0,rfl,s⟩:=jI z.o.1 (g 0 (by decide));obtain⟨b2,o2,rfl,t⟩:=jI z.o.2.1 (g 0 (by decide));have b0:=s _ _ (g 0 (by decide));have d0:=t _ _ (g 0 Y2);have a1:=s _ _ (g 1 Y2);have d1:=t _ _ (g 1 Y2);have a2:=s _ _ (g 2 Y2);have d2:=t _ _ (g 2 Y2);have a3:=s _ _ (g 3 Y2);have d3:=t _ _ (g 3 Y2);have a4:=s _ _ (g 4 Y2);have d4:=t _ _ (g 4 Y2);have a5:=s _ _ (g 5 Y2);have d5:=t _ _ (g 5 Y2);have u0:(m:Int)<(d:Int):=Y0;rw[dQ]at b0 d0;rw[←Nat.add_assoc]at a1 d1 a2 d2 a3 d3 a4 d4 a5 d5;clear g s t z V T M;go_wp2;go_quiet (fail);go_wp2_with fail;exact⟨⟨m+1,Y0,Y1,_,rfl⟩,by simp[intOf];omega⟩
  ·obtain rfl:m=d:=Y0;go_wp2_with (go_at_call 14;refine(T _ (bI G.o _)).o.mono ?_;rintro L w5 ⟨rfl,c0⟩;obtain⟨W,e0⟩:=c0;subst e0);have f0:=M _ (bI G.o (H+W));clear M;go_wp2_with (go_at_call 15;refine f0.o.mono ?_;rintro L w6 ⟨rfl,g0⟩;obtain⟨q6,h0⟩:=g0;subst h0);have i0:=aj (bI G.o (H+W+q6));go_ret;exact⟨rfl,i0.o⟩
def UF (a:Cf) (c:aB):aF au 5 #[aS (jW a)] c fun b d=>b=av (aO (Fx a))∧aJ c c d:=by
 have b:=aj (gU c 23 (jW a));obtain⟨c,d,e,f,g,h⟩:=bH.j b.o.2;unfold jW at*;unfold Fx bV;obtain⟨c,d⟩:=exq (decide (0≤a.a));obtain⟨e,f⟩:=exq (decide (a.a≤64));obtain⟨g,h⟩:=exq (decide (1≤a.b));obtain⟨i,j⟩:=exq (decide (a.b≤1024));obtain⟨k,l⟩:=exq (decide (0≤a.c));obtain⟨m,n⟩:=exq (decide (a.c≤1048576));obtain⟨o,p⟩:=exq (decide (1≤a.e));obtain⟨q,r⟩:=exq (decide (a.e≤32));obtain⟨s,t⟩:=exq (decide (0≤a.d));obtain⟨u,v⟩:=exq (decide (a.d≤64));obtain⟨w,x⟩:=exq (decide (4096≤a.f));obtain⟨y,z⟩:=exq (decide (a.f≤1048576));rw[d,f,h,j,l,n,p,r,t,v,x,z];go_enter func5,ntmps5;go_upto_region 1 with fail;cases c with
 |false=>go_wp2;go_ret;exact⟨Y1,b.o.1⟩
 |true=>
  cases e with
  |false=>go_wp2;go_ret;exact⟨Y1,b.o.1⟩
  |true=>
   cases g with
   |false=>go_wp2;go_ret;exact⟨Y1,b.o.1⟩
   |true=>
    cases i with
    |false=>go_wp2;go_ret;exact⟨Y1,b.o.1⟩
    |true=>
     cases k with
     |false=>go_wp2;go_ret;exact⟨Y1,b.o.1⟩
     |true=>
      cases m with
      |false=>go_wp2;go_ret;exact⟨Y1,b.o.1⟩
      |true=>
       cases o with
       |false=>go_wp2;go_ret;exact⟨Y1,b.o.1⟩
       |true=>
        cases q with
        |false=>go_wp2;go_ret;exact⟨Y1,b.o.1⟩
        |true=>
         cases s with
         |false=>go_wp2;go_ret;exact⟨Y1,b.o.1⟩
         |true=>
          cases u with
          |false=>go_wp2;go_ret;exact⟨Y1,b.o.1⟩
          |true=>
           cases w with
           |false=>go_wp2;go_ret;exact⟨Y1,b.o.1⟩
           |true=>
            cases y with
            |false=>go_wp2;go_ret;exact⟨Y1,b.o.1⟩
            |true=>go_wp2;go_ret;exact⟨Y1,b.o.1⟩
def ChP (b:List Rd) (d:aB) (e:Ending) (f:aB):Prop:=aJ d d f∧((b.all (fun a=>iY a.r)=false∧e=av (aN #[Z O 0 0,false]))∨(b.all (fun a=>iY a.r)=true∧∃c g h,e=av (aN #[Z g c.length h,true])∧c.map Ck.r=b.map (fun a=>yA a.r)∧c.map Ck.b=b.map Rd.a∧LP d.heap.size c g h f))
def UK {c:Type} {d:c→Bool}:∀{a:List c} {b:Nat} {e:c},a[b]?=R e→(a.take b).all d=true→d e=true→(a.take (b+1)).all d=true:=fun{a} {b} {e} c d f=>by
 rw[List.take_add_one,c,Option.toList_some,List.all_append,d]
 simp[f]
def Ar (d:List Rd) (V:Option aX) (m w:Nat) (e:aB) (W:d.length=m) (hm:m≤1000) (X:bU e V (d.flatMap kS)) (hG:∀a∈d,a.G e) (hp:∀a∈d,a.r.c= -1→0<a.r.b.length):aF au 8 #[Z V m w] e (ChP d e):=by
 have j:=aj (And.intro X (And.intro hG (And.intro hp W)));clear X hG hp W;go_enter func8,ntmps8;go_wp2_with fail;go_loopw [4,11] (fun h0 I wr=>∃(c:Nat) (g:List Ck) (n:Option aX) (w:Nat),c≤m∧I=J U (c:Int)∧h0=Z n c w∧Y (g.length=c∧(d.take c).all (fun a=>iY a.r)=true∧g.map Ck.r=(d.take c).map (fun a=>yA a.r)∧g.map Ck.b=(d.take c).map Rd.a∧aJ e e wr∧LP e.heap.size g n w wr)) (fun _ I _=>((m:Int)-intOf I).toNat);case atStart=>exact⟨0,[],O,0,aZ _,rfl,rfl,aj ⟨rfl,rfl,rfl,rfl,ay _ _,LP.d _ _⟩⟩
 case round=>
  obtain⟨c,g,n,u,hj,rfl,rfl,f⟩:=hrel;by_cases o0:c<m
  ·obtain⟨a,x⟩:∃a,d[c]?=R a:=⟨_,aQ (by have:=j.o.2.2.2;omega)⟩;have s:a∈d:=bP x;have o:=mZ (f:=kS) (s:=6) (fun _=>rfl) x;have a0:=j.o.1.a f.o.2.2.2.2.1;obtain⟨b0,p0,rfl,q⟩:=jI a0 (o 0 Y2);have i0:=q _ _ (o 0 Y2);have a1:=q _ _ (o 1 Y2);have a2:=q _ _ (o 2 Y2);have a3:=q _ _ (o 3 Y2);have a4:=q _ _ (o 4 Y2);have a5:=q _ _ (o 5 Y2);rw[dQ]at i0;rw[←Nat.add_assoc]at a1 a2 a3 a4 a5;have j0:(c:Int)<(m:Int):=by omega
   have k0:=(j.o.2.1 a s).a;have h:=aj (gU wr 30 (kS a).toArray);have p:=aj (GH (base:=e.heap.size) (x:=a) (W:=wr.alloc (.cells (kS a).toArray 30)) ⟨(j.o.2.1 a s).b,((j.o.2.1 a s).c.a f.o.2.2.2.2.1).a h.o.1,(j.o.2.1 a s).a⟩ (aR f.o.2.2.2.2.1.size h.o.1.size) (j.o.2.2.1 a s));unfold kS at h p;obtain⟨nb,K⟩:=exq a.r.b.length;rw[K]at a5 h p k0;have y:=aj (And.intro x K);have q0:¬(20000:Int)<(nb:Int):=by omega
   clear o q a0 s x K;cases hq:iY a.r with
   |false=>
    rw[hq]at p;have z:=aj (p.o.mono fun l A i=>(show l=av (aN #[Z O 0 0,J U 5])∧aJ _ _ A from⟨(by rcases i.2 with i|i;exact i.2;cases i.1),i.1⟩));have L:Y (d.all (fun a=>iY a.r)=false):=aj (by rw[List.all_eq_false];exact⟨a,bP y.o.1,by rw[hq];decide⟩)
    have r:=aj (And.intro f.o.2.2.2.2.1 h.o.1);clear p f y j h;go_wp2_with (go_at_call 18;refine z.o.mono ?_;rintro l B ⟨rfl,t⟩;have l0:=aj t;clear t);go_ret2;exact⟨(r.o.1.trans (r.o.2.mono r.o.1.size)).trans (l0.o.mono (aR r.o.1.size r.o.2.size)),.inl ⟨L.o,rfl⟩⟩
   |true=>
    rw[hq]at p;have z:=aj (p.o.mono fun l A i=>(show∃b:Ck,l=av (aN #[Z (R ⟨b.a,b.q,O⟩) (eY b.r b.b).length b.C,J U 0])∧b.r=yA a.r∧b.b=a.a∧Vb e.heap.size b A∧aJ _ _ A from by rcases i.2 with M|⟨_,b,M,h3,h4,h5⟩;cases M.1;exact⟨b,M,h3,h4,h5,i.1⟩));clear p;have m0:=aj (aR f.o.2.2.2.2.1.size h.o.1.size);have r:=aj (f.o.2.2.2.2.1.trans (h.o.1.mono f.o.2.2.2.2.1.size));have N:Y (∀P,aJ wr wr P→P.ownsRow e 63 2 (Z n c u) c (Ux g)):=aj fun P hb=>by have:=dF f.o.2.2.2.2.2.a hb;rw[f.o.1]at this;exact this
    go_wp2_with (first|(go_at_call 18;refine z.o.mono ?_;rintro l B ⟨b,rfl,hr,c0,d0,t⟩;have k:=aj (And.intro hr (And.intro c0 (And.intro d0 (h.o.1.trans (t.mono h.o.1.size)))));obtain⟨C,e0⟩:=exq ((eY b.r b.b).length);have Q:=h.o.2.b t;have z0:=Q.a 0;have z5:=Q.a 5;clear hr c0 d0 t Q)|(at_builtin;go_loud (refine fK rfl (.tmp 28) (.tmp 33) 32 rfl e.heap.size 63 2 UG rfl (by decide) underlying32 (Z n c u) c (Ux g) rfl (N.o _ (k.o.2.2.2.alloc k.o.2.2.2.size _)) (R ⟨B,0,O⟩) 1 1 [J U a.r.a,Z (R ⟨b.a,b.q,O⟩) C b.C] rfl rfl (fun i=>nomatch i) (bU.b (bH.d B 63 #[a.r.a,Z (R ⟨b.a,b.q,O⟩) C b.C])) (by simp[Value.oneCell']) (by unfold maxLen;omega) (by omega) (aR (aR f.o.2.2.2.2.1.size k.o.2.2.2.size) (by simp)) ?_)));intro B5 c5 w5 f0 S;have D:aJ wr wr (B.alloc (.cells #[a.r.a,Z (R ⟨b.a,b.q,O⟩) C b.C] 63)):=k.o.2.2.2.alloc k.o.2.2.2.size _;have HN:Y ((g++[b]).length=c+1∧(d.take (c+1)).all (fun a=>iY a.r)=true∧(g++[b]).map Ck.r=(d.take (c+1)).map (fun a=>yA a.r)∧(g++[b]).map Ck.b=(d.take (c+1)).map Rd.a∧aJ e e w5∧LP e.heap.size (g++[b]) B5 c5 w5):=aj (by
     obtain⟨v,E,F,G,H,T⟩:=f.o;have g0:d.take (c+1)=d.take c++[a]:=by rw[List.take_add_one,y.o.1,Option.toList_some]
     have n0:=N.o _ D;refine⟨by rw[bL,v];rfl,UK y.o.1 E hq,by rw[g0,List.map_append,List.map_append,F,List.map_singleton,List.map_singleton,k.o.1],by rw[g0,List.map_append,List.map_append,G,List.map_singleton,List.map_singleton,k.o.2.1],dZ (v:=Z n c u) (H.trans (D.mono H.size)) (aD _) (fun b0 l=>(n0.lt b0 l).1) S,?_⟩;refine LP.e (x:=b) (T.b D) (k.o.2.2.1.b ((ay _ _).alloc (aD _) _)) ?_ (by rw[v];exact S);rw[v];have l:JI b.v=[J U a.r.a,Z (R ⟨b.a,b.q,O⟩) C b.C]:=by
      unfold Ck.v;rw[←e0];show [J U b.r.a,_]=_
      rw[show b.r.a=a.r.a from by rw[k.o.1,(rE a.r true).2]]
     rw[l];exact f0)
    clear f0 S D N k h z r m0 e0;go_wp2_with fail;exact⟨⟨c+1,_,_,_,Y0,Y1,rfl,HN⟩,by simp[intOf];omega⟩
  ·obtain rfl:c=m:=Y0;have j0:¬((c:Int)<(c:Int)):=Y0;have L:Y (ChP d e (av (aN #[Z n c u,true])) wr):=aj (by obtain⟨v,E,F,G,H,T⟩:=f.o;rw[bW (by have:=j.o.2.2.2;omega)]at E F G;exact⟨H,.inr ⟨E,g,n,u,by rw[v],F,G,T⟩⟩)
   clear f j;go_wp2;go_ret2;exact L.o
def jq {d:Program} {w:aB} {e:Array Oper} {s:List Oper} {g:Oper} {h:Act} {m:Exit→Act→aB→Prop} (z:g.guard=O) (t x:Operand) (n:bB)
  (A:g.op=.call {callee:=.builtin .append,args:=#[t,x],argTypes:=#[n,n]})
  (o:Nat) (i:bB) (c:Nat) {b:aI} {q:Nat} (B:(d.info? i).map (fun a=>(a.zero,a.size,a.bytes))=R (R b,c,q)) (C:b.cells.size=c) (D:0<c) (E:d.underlying n=R (.slice i))
  (k:aI) (b:Nat) (u:List aI) (F:h.eval t=k) (G:w.ownsRow o i c k b u)
  (p:Option aX) (a v:Nat) (l:List aI) (H:h.eval x=Z p a v) (I:l.length=a*c) (K:p=O→a=0∧v=0) (L:bU w p l) (M:∀r∈l,r.oneCell'=true)
  (N:b+a≤maxLen) (P:(b+a)*q≤140737488355328) (Q:o≤w.heap.size)
  (S:∀q r y,y.ownsRow o i c (Z q (b+a) r) (b+a) (u++l)→w.grownBy y k.ownBlock→((Z q (b+a) r).ownBlock=k.ownBlock∨(Z q (b+a) r).ownBlock=R w.heap.size)→wpList d e m s (h.put g.dst (Z q (b+a) r)) y):wpList d e m (g::s) h w:=by
 have q:Region.wanted g (yielded e h.tmps)=true:=by simp[Region.wanted,z]
 rw[wpList,aP q];refine .inl ?_;have:=jR (ops:=e) (Q:=m) (K:=wpList d e m s) (E:=True) z t x n A o i c B C D E k b u F G p a v l H I K L M N P Q S;rwa[aP q]at this
def GI:∀{c:List Rw} {b:Bool} {a:Rw},JV b c→JU (b&&c.all (fun a=>a.a !=0)) a→JV b (c++[a])
 |[],b,a,_,d=>⟨by simpa using d,trivial⟩
 |g::c,b,a,d,e=>⟨d.1,GI d.2 (by rw[List.all_cons,←Bool.and_assoc]at e;exact e)⟩
def DI:∀{c:List Rw} {d:Bool},JV d c→∀b∈c,∃f,JU f b
 |[],_,_,b,a=>by cases a
 |g::c,d,e,b,a=>by
  rcases bA.1 a with rfl|a
  ·exact⟨_,e.1⟩
  ·exact DI e.2 b a
def zax (a:Rw):(yA a).a=a.a:=(rE a false).2
def zay {d c:Bool} {a:Rw} (b:JU d a) (h:iY a=true):CkB d c (yA a):=by
 by_cases c:a.c= -1
 ·have e:yA a=⟨a.a, -1,0,0,a.b⟩:=by unfold yA;rw[aP c]
  rw[e];have:=b.e.1 c;exact⟨b.c,fun _=>⟨this.1,this.2,by rw[b.b c];rfl,rfl,rfl⟩,fun g=>absurd rfl g,b.a,b.d⟩
 ·have e:yA a=a:=by unfold yA;rw[aL c]
  rw[e];refine⟨b.c,fun g=>absurd g c,fun _=>⟨?_,fun a=>?_⟩,b.a,b.d⟩
  ·unfold iY at h;simpa[c]using h
  ·cases hf0:d
   ·rfl
   ·exact absurd (b.e.2 ⟨a,hf0⟩) c
def Ca:∀{a:List Rw} {b d:Bool},JV b a→(∀c∈a,iY c=true)→xJ b d (a.map yA)
 |[],_,_,_,_=>trivial
 |h::a,b,d,e,g=>⟨zay e.1 (g h (bM ..)),by
  rw[zax]
  exact Ca e.2 (fun c i=>g c (bJ _ i))⟩
section
variable {w W W':aB} {x:Rd}
def LV.b {b d e:Nat} {c:aI} {g:List aI} (a:LV w x W) (h:W.ownsRow w b d c e g) (d:5≠b) (b:W.grownBy W' c.ownBlock):LV w x W':=
 ⟨a.c,a.d.imp id (fun a=>Aq a h d b)⟩
def LV.g (a:LV w x W) (b:aJ w w W) (c:x.r.b.length≤300):x.G W:=
 ⟨a.c,a.d.elim (fun a=>a.a b) (fun a=>dD a),c⟩
def Au {d b e g:Nat} {c v':aI} {h:List aI} (i:W.ownsRow d b e c g h) (k:W.grownBy W' v'.ownBlock) (l:∀a,c.ownBlock=R a→v'.ownBlock≠R a):W'.ownsRow d b e c g h:=
 bO i (bg.k (F:=v'.ownBlock.toList) k (fun a b=>.inl (by rw[b];simp))) (fun a b c=>l a b (Y6 c))
end
section
variable {w W W':aB} {j KC MC:Nat} {ks ms:List Rd} {KA MA:Option aX} {f:Bool}
def Cb (a:List Rd) (b:Rd):(a++[b]).flatMap kS=a.flatMap kS++kS b:=by simp
def Vd.q {c:Option aX} {d b:Nat} {e:Array aI} {y:Rd} {g:Bool} (a:Vd w j ks ms KA KC MA MC f W) (n:LV w y W) (i:JU (!f) y.r) (o:g=(f||y.r.a==0)) (k:bH W b 30 e) (l:(Z KA j KC).ownBlock≠R b) (p:(Z MA j MC).ownBlock≠R b) (q:w.heap.size≤b)
  (r:W'.ownsRow w 30 6 (Z c (j+1) d) (j+1) (ks.flatMap kS++kS y)) (e:W.grownBy W' (Z KA j KC).ownBlock) (m:(Z c (j+1) d).ownBlock=(Z KA j KC).ownBlock∨(Z c (j+1) d).ownBlock=R W.heap.size):
  YF w j ks ms c d MA MC g y b W':=by
 have c:=dZ (v:=Z KA j KC) a.a (aD _) (fun g b=>(a.c.lt g b).1) e;have d:=Au (v':=Z KA j KC) a.e e (fun g b h=>a.m g h b);refine⟨c,by rw[Cb];exact r,d,fun g b h=>?_,a.i,a.k,a.g,fun x c=>?_,fun x c=>(a.o x c).b a.c Y2 e,?_,?_,?_,p,⟨_,bH.u k e l.symm⟩,q⟩
 ·rcases m with d|d
  ·exact a.m g (by rw[←d];exact b) h
  ·rw[d]at b;injection b with b;have:=(a.e.lt g h).2;omega
 ·rcases bK.1 c with c|c
  ·exact(a.n x c).b a.c Y2 e
  ·rw[aC.1 c];exact n.b a.c Y2 e
 ·rw[List.map_append,List.map_singleton];refine GI a.h ?_;rw[Bool.true_and];have:=a.p;rw[this,Bool.not_not]at i;exact i
 ·rw[o,a.p];simp[List.all_append,Bool.not_and,bne]
 ·rcases m with d|d
  ·rw[d];exact l
  ·rw[d];have:=k.e;intro b;injection b with b;omega
def YF.u {d:Rd} {b c:Nat} {g:aI} (a:YF w j ks ms KA KC MA MC f d b W):YF w j ks ms KA KC MA MC f d b (W.setCell ⟨b,c,O⟩ g):=by obtain⟨d,h⟩:=a.z;have i:bg [b] W (W.setCell ⟨b,c,O⟩ g):=bg.e (F:=[b]) (p:=⟨b,c,O⟩) _ Y1 _;have l:∀x,LV w x W→LV w x (W.setCell ⟨b,c,O⟩ g):=fun x b=>⟨b.c,b.d.imp id (fun a=>bO a i (fun k d e=>fJ a h Y2 (by rw[d,aC.1 e])))⟩;exact⟨a.a.trans (i.c a.a.size (fun k h=>by rw[aC.1 h];exact a.s)),bO a.d i (fun k d e=>a.p (by rw[d,aC.1 e])),bO a.c i (fun k d e=>a.q (by rw[d,aC.1 e])),a.e,a.i,a.k,a.l,fun x b=>l x (a.h x b),fun x b=>l x (a.m x b),a.n,a.o,a.p,a.q,⟨_,h.f c g⟩,a.s⟩
def YF.v {d:Option aX} {e b:Nat} {c z:Rd} (a:YF w j ks ms KA KC MA MC f c b W) (b:z.r=c.r∧z.A=c.A∧z.C=c.C)
  (i:W'.ownsRow w 30 6 (Z d (j+1) e) (j+1) (ms.flatMap kS++kS z)) (h:W.grownBy W' (Z MA j MC).ownBlock) (l:(Z d (j+1) e).ownBlock=(Z MA j MC).ownBlock∨(Z d (j+1) e).ownBlock=R W.heap.size):
  Vd w (j+1) (ks++[c]) (ms++[z]) KA KC d e f W':=by
 have g:=dZ (v:=Z MA j MC) a.a (aD _) (fun d e=>(a.c.lt d e).1) h;have k:=(a.h c Y1).b a.c Y2 h;refine⟨g,Au (v':=Z MA j MC) a.d h (fun d e g=>a.e d e g),by rw[Cb];exact i,fun d e g=>?_,by simp[a.i],by simp[a.k],by simp[a.l,b.1],fun x c=>(a.h x c).b a.c Y2 h,fun x c=>?_,a.n,a.o⟩
 ·rcases l with i|i
  ·exact a.e d e (by rw[←i];exact g)
  ·rw[i]at g;injection g with g;have:=(a.d.lt d e).2;omega
 ·rcases bK.1 c with c|c
  ·exact(a.m x c).b a.c Y2 h
  ·rw[aC.1 c];exact⟨by rw[b.2.1,b.1,b.2.2];exact k.c,by rw[b.2.1,b.1,b.2.2];exact k.d⟩
end
structure TrB (w:aB) (j:Nat) (ks ms:List Rd) (KA:Option aX) (KC:Nat) (MA:Option aX) (MC:Nat) (f f':Bool) (y:Rd) (g:Nat) (W:aB):Prop where
 a:Vd w j ks ms KA KC MA MC f W
 d:LV w y W
 b:bH W g 30 (kS y).toArray
 e:JU (!f) y.r
 h:f'=(f||y.r.a==0)
 c:(Z KA j KC).ownBlock≠R g
 i:(Z MA j MC).ownBlock≠R g
 k:w.heap.size≤g
section
variable {w W wr:aB} {j KC MC:Nat} {ks ms:List Rd} {KA MA:Option aX} {f:Bool}
def Vd.l (b:Vd w j ks ms KA KC MA MC f wr):(Z KA j KC).ownBlock≠R wr.heap.size∧(Z MA j MC).ownBlock≠R wr.heap.size:=
 ⟨fun a=>by have:=(b.c.lt _ a).2;omega,fun a=>by have:=(b.e.lt _ a).2;omega⟩
def YG (b:Vd w j ks ms KA KC MA MC f wr) (a:Rd) (d:LV w a wr) (e:JU (!f) a.r):TrB w j ks ms KA KC MA MC f (f||a.r.a==0) a wr.heap.size (wr.alloc (.cells (kS a).toArray 30)):=by have c:aJ wr wr (wr.alloc (.cells (kS a).toArray 30)):=(ay _ _).alloc (aD _) _;exact⟨b.d c,d.a c,bH.d _ _ _,e,rfl,b.l.1,b.l.2,b.a.size⟩
def zbp {a:aB} {b k l:Nat} {d e:Int} {g:Bool} {m:Option aX} {h:Array aI} (c:Vd w j ks ms KA KC MA MC false wr) (o:h=#[J U 0,J U (-1),d,e,g,Z m k l]) (i:aJ (wr.alloc (.cells h 30)).heap.size (wr.alloc (.cells h 30)) a) (n:a.ownsRow (wr.alloc (.cells h 30)).heap.size 5 1 (Z (R ⟨b,0,O⟩) 24 24) 24 (dP yY)):
  TrB w j ks ms KA KC MA MC false true ⟨⟨0, -1,d,e,yY⟩,g,R ⟨b,0,O⟩,24⟩ wr.heap.size (a.setCell ⟨wr,5,O⟩ (Z (R ⟨b,0,O⟩) 24 24)):=by subst o;have h:aJ wr wr (wr.alloc (.cells #[J U 0,J U (-1),d,e,g,Z m k l] 30)):=(ay _ _).alloc (aD _) _;have o:=(bH.d wr 30 #[J U 0,J U (-1),d,e,g,Z m k l]).b i;have d:bg [wr.heap.size] a (a.setCell ⟨wr,5,O⟩ (Z (R ⟨b,0,O⟩) 24 24)):=bg.e (F:=[wr.heap.size]) (p:=⟨wr,5,O⟩) _ Y1 _;have e:=h.trans (i.mono h.size);have g:=e.trans (d.c e.size (fun e i=>by rw[aC.1 i];exact aD _));have i:=aR c.a.size h.size;have h:=dz (bO n d (fun e a b=>fJ n o Y2 (by rw[a,aC.1 b]))) i;refine⟨c.d g,⟨(fun a=>by cases a),.inr h⟩,o.f 5 _,?_,rfl,c.l.1,c.l.2,c.a.size⟩;exact⟨.inl rfl,(show yY.length≤300 by decide),(by unfold gZ;show∀a∈yY,_;decide),⟨fun _=>Y5,fun _=>rfl⟩,fun _=>rfl⟩
def JW {b:Nat} {c:Bool} {a:Rd} (e:TrB w j ks ms KA KC MA MC f c a b W) (d:a.r.c= -1∨a.r.c≠ -1):∃(d:Rd) (g:Nat),Y (TrB w j ks ms KA KC MA MC f c d b W∧d.r.b.length=g):=⟨a,_,aj ⟨e,rfl⟩⟩
def lZ {b d:Nat} {e:Bool} {a:Rd} (g:YF w j ks ms KA KC MA MC e a b W) (c:Bool) (h:bH W b 30 (qr a.r c a.A d a.C)):∃c,Y (YF w j ks ms KA KC MA MC e a b W∧bH W b 30 (qr a.r c a.A d a.C)):=⟨c,aj ⟨g,h⟩⟩
def gY (W:aB) (a:Obj):aJ W W (W.alloc a):=(ay _ _).alloc (aD _) _
end
def topres_any (b:Cf) (d0:List Rd) (u1:Option aX) (P S1:Nat) (ws:List Bool) (WA:Option aX) (Q WC:Nat) (w:aB) (hg:lg w) (hn:d0.length=P) (hs:bU w u1 (d0.flatMap kS)) (hG:∀l0∈d0,l0.b w) (v1:ws.length=Q) (w1:bU w WA (ws.map aO)):
  aF au 3 #[aS (jW b),Z u1 P S1,Z WA Q WC] w fun e o=>e=av true∧aJ w w o:=by
 have HS:=aj (And.intro hs (And.intro hG hn));have e0:=aj (And.intro w1 v1);have HG:=aj hg;clear hs hG hn w1 v1 hg;have HB:=aj (gU w 23 (jW b));have w0:Y (∀W,aJ w w W→aF au 6 #[] W fun e o=>e=av true∧aJ W W o):=aj fun W c=>BZ W (HG.o.a c);have Q0:Y (∀W,aF au 5 #[aS (jW b)] W fun e o=>e=av (aO (Fx b))∧aJ W W o):=aj fun W=>UF b W;obtain⟨T1,V1,x2,x3,x4,x5⟩:=bH.j HB.o.2;unfold jW at*;obtain⟨cb,S0⟩:=exq (Fx b);have T0:=aj S0;rw[S0]at Q0;clear S0;obtain⟨z0,m0⟩:∃W1:Bool,W1=decide (40<P∨60<Q∨cb=false):=⟨_,rfl⟩;go_enter func3,ntmps3;go_upto_region 1 with fail;go_cut [32] (fun x wx=>x=aO z0∧Y (aJ w w wx∧bH wx w 23 #[b.a,b.b,b.c,b.e,b.d,b.f]));case first=>
  have d:((40:Int)<(P:Int)∧z0=true)∨(¬(40:Int)<(P:Int)∧(60:Int)<(Q:Int)∧z0=true)∨(¬(40:Int)<(P:Int)∧¬(60:Int)<(Q:Int)∧z0= !cb):=by
   by_cases u:40<P
   ·exact .inl ⟨Y0,by rw[m0];simp[u]⟩
   by_cases q:60<Q
   ·exact .inr (.inl ⟨Y0,Y0,by rw[m0];simp[q]⟩)
   ·exact .inr (.inr ⟨Y0,Y0,by rw[m0];cases cb<;>simp[u,q]⟩)
  clear m0 HS e0 w0 T0 HG;rcases d with⟨u,rfl⟩|⟨u,q,rfl⟩|⟨u,q,rfl⟩
  ·go_wp2;go_meet;exact⟨rfl,aj HB.o⟩
  ·go_wp2;go_meet;exact⟨rfl,aj HB.o⟩
  ·go_wp2_with (go_at_call 5;refine(Q0.o _).mono ?_;rintro e i2 ⟨rfl,c⟩;have X1:=aj (And.intro (HB.o.1.trans (c.mono HB.o.1.size)) (HB.o.2.b c));clear c);go_meet;exact⟨rfl,aj X1.o⟩
 case rest=>
  obtain⟨rfl,V0⟩:=hcut;have X:=aj V0.o.1;clear HB Q0 T1 V1 x2 x3 x4 x5;cases z0 with
  |true=>clear m0;go_wp2_with (go_at_call 6;refine(w0.o _ X.o).mono ?_;rintro e w6 ⟨rfl,c⟩;have HF:=aj (X.o.trans (c.mono X.o.size));clear c);go_ret;exact⟨rfl,HF.o⟩
  |false=>
   have HL:Y (P≤40∧Q≤60∧Fx b=true):=aj (by
    have:=of_decide_eq_false m0.symm;simp only[not_or]at this;refine⟨Y0,Y0,?_⟩;rw[T0.o];cases cb
    ·exact absurd rfl this.2.2
    ·rfl)
   clear m0 T0;have W0:Y (Vd wc 0 [] [] O 0 O 0 false wc∧aJ w w wc):=aj ⟨⟨ay _ _,aT ..,aT ..,(fun G0 e=>by cases e),rfl,rfl,rfl,(fun h s=>by cases s),(fun h s=>by cases s),trivial,rfl⟩,X.o⟩;have A0:Y (∀W,aJ wc wc W→bH W w 23 #[b.a,b.b,b.c,b.e,b.d,b.f]):=aj fun W c=>V0.o.2.b c;clear V0 X;go_wp2;have f0:=aj (show aJ w w wc from W0.o.2);have x1:=aj W0.o.1;clear W0;go_loopw [7,8,9,36] (fun vk vm vf vi wr=>∃(j:Nat) (ks ms:List Rd) (KA:Option aX) (KC:Nat) (MA:Option aX) (MC:Nat) (f:Bool),vk=Z KA j KC∧vm=Z MA j MC∧vf=aO f∧vi=J U (j:Int)∧j≤P∧Y (Vd wc j ks ms KA KC MA MC f wr)) (fun _ _ _ b2 _=>((P:Int)-intOf b2).toNat);case atStart=>exact⟨0,[],[],O,0,O,0,false,rfl,rfl,rfl,rfl,aZ _,x1⟩
   case round=>
    clear x1;obtain⟨j,ks,ms,KA,KC,MA,MC,f,rfl,rfl,rfl,rfl,hj,l⟩:=hrel;by_cases c2:j<P
    ·have d2:(j:Int)<(P:Int):=Y0;obtain⟨l0,hy⟩:∃l0,d0[j]?=R l0:=⟨_,aQ (by have:=HS.o.2.2;omega)⟩;have z1:=bP hy;have h0:=mZ (f:=kS) (s:=6) (fun _=>rfl) hy;have HY:=aj (HS.o.2.1 l0 z1);have g0:=aj (f0.o.trans (l.o.a.mono f0.o.size));obtain⟨bb,oo,rfl,hA⟩:=jI (HS.o.1.a g0.o) (h0 0 Y2);have d:=HS.o.1.a g0.o;have X0:=gM d (h0 0 Y2);have a1:=gM d (h0 1 Y2);have a2:=gM d (h0 2 Y2);have a3:=gM d (h0 3 Y2);have a4:=gM d (h0 4 Y2);have a5:=gM d (h0 5 Y2);rw[dQ]at X0;rw[←Nat.add_assoc]at a1 a2 a3 a4 a5;obtain⟨⟨E,A,fl,st,G0⟩,x0,XA,XC⟩:=l0;obtain⟨nb,b1⟩:=exq G0.length;replace X0:wr.cell? ⟨bb,oo+j*6,O⟩=R (J U E):=X0;replace a1:wr.cell? ⟨bb,oo+j*6+1,O⟩=R (J U A):=a1;replace a2:wr.cell? ⟨bb,oo+j*6+2,O⟩=R (J U fl):=a2;replace a3:wr.cell? ⟨bb,oo+j*6+3,O⟩=R (J U st):=a3;replace a4:wr.cell? ⟨bb,oo+j*6+4,O⟩=R (aO x0):=a4;replace a5:wr.cell? ⟨bb,oo+j*6+5,O⟩=R (Z XA nb XC):=by rw[←b1];exact a5
     have X:Y (aJ w w (wr.alloc (.cells (qs E A fl st x0 XA nb XC) 30))):=aj (g0.o.alloc g0.o.size _);have i0:=aj (gU wr 30 (qs E A fl st x0 XA nb XC));have A1:=aj b1;clear h0 hA d z1 hy c2 b1;by_cases j2:(300:Int)<(nb:Int)
     ·clear l HS e0 HY A0 HG i0;go_wp2_with (go_at_call 6;refine(w0.o _ X.o).mono ?_;rintro e w6 ⟨rfl,c⟩;have HF:=aj (X.o.trans (c.mono X.o.size));clear c);go_ret;exact⟨rfl,HF.o⟩
     have c1:((E !=0)=true∧(E !=1)=true)∨(E=0∧A= -1∧f=true)∨(E=1∧A= -1)∨(E=0∧(A== -1)=false∧f=false)∨(E=0∧A= -1∧f=false)∨(E=0∧(A== -1)=false∧f=true)∨(E=1∧(A== -1)=false∧f=true)∨(E=1∧(A== -1)=false∧f=false):=by
      by_cases B1:E=0
      ·by_cases u:A= -1<;>cases f<;>simp[B1,u]
      ·by_cases q:E=1
       ·by_cases u:A= -1<;>cases f<;>simp[q,u]
       ·exact .inl (by simp[B1,q])
     rcases c1 with⟨u,q⟩|⟨rfl,rfl,rfl⟩|⟨rfl,rfl⟩|⟨rfl,u,rfl⟩|c1
     iterate 4
      ·clear l HS e0 HY A0 HG i0
       go_wp2_with (go_at_call 6;refine(w0.o _ X.o).mono ?_;rintro e w6 ⟨rfl,c⟩;have HF:=aj (X.o.trans (c.mono X.o.size));clear c);go_ret;exact⟨rfl,HF.o⟩
     have e2:Y (nb≤300):=aj Y0;rcases c1 with⟨rfl,rfl,rfl⟩|⟨rfl,u,rfl⟩|⟨rfl,u,rfl⟩|⟨rfl,u,rfl⟩
     rotate_left;iterate 3
      ·have C1:A≠ -1:=Y6 u
       have g:=aj (YG l.o ⟨⟨_,A,fl,st,G0⟩,x0,XA,XC⟩ ⟨HY.o.b,.inl (HY.o.c.a f0.o)⟩ ⟨Y1,(show G0.length≤300 by rw[A1.o];exact e2.o),HY.o.a,by simp[C1],fun e=>absurd e C1⟩);unfold kS at g;dsimp only at g;rw[A1.o]at g;go_upto_region 16 with fail;have gL:=fun z9:Int=>exq (wr.alloc (.cells (qs z9 A fl st x0 XA nb XC) 30));first|(obtain⟨W3,e9⟩:=gL 0;rw[e9]at g⊢;clear e9 gL)|(obtain⟨W3,e9⟩:=gL 1;rw[e9]at g⊢;clear e9 gL)
       obtain⟨a,n,g⟩:=JW g.o (Classical.em _);have a0:=aj (aR g.o.1.a.a.size (gY W3 (.cells (qr a.r a.a a.A n a.C) 30)).size);have v:=g.o.1.b;have i:kS a=[J U a.r.a,J U a.r.c,J U a.r.e,J U a.r.d,aO a.a,Z a.A n a.C]:=by unfold kS;rw[g.o.2]
       rw[i]at v;obtain⟨F,G,H,I,K,L⟩:=bH.j v;have b0:=aj (gX g.o.1.a.c (.cells (qr a.r a.a a.A n a.C) 30));have f2:j≤40:=by have:=HL.o.1;omega
       clear v;go_wp2_with (at_builtin;go_loud (refine jq rfl (.tmp 79) (.tmp 81) 24 rfl wc.heap.size 30 6 zbZ rfl Y2 underlying24 (Z KA j KC) j (ks.flatMap kS) rfl b0.o (R ⟨W3,0,O⟩) 1 1 [J U a.r.a,J U a.r.c,J U a.r.e,J U a.r.d,aO a.a,Z a.A n a.C] rfl rfl (fun d=>nomatch d) (bU.b (bH.d _ 30 _)) (by simp[Value.oneCell']) (by unfold maxLen;omega) Y0 a0.o ?_));intro B5 c5 r n0 o0 B0;rw[←i]at n0;have S:=aj (Vd.q (y:=a) (g.o.1.a.d (gY W3 (.cells (qr a.r a.a a.A n a.C) 30))) (g.o.1.d.a (gY _ _)) g.o.1.e g.o.1.h (g.o.1.b.b (gY _ _)) g.o.1.c g.o.1.i g.o.1.k n0 o0 (B0.imp id fun d=>d.trans Y1));have v:=bH.u (g.o.1.b.b (gY W3 (.cells (qr a.r a.a a.A n a.C) 30))) o0 g.o.1.c.symm;rw[i]at v;have T:=aj v;have gf:=v.c;clear n0 o0 B0 F G H I K L b0 a0 v g;obtain⟨F,G,H,I,K,L⟩:=bH.j T.o;have d1:(¬(j:Int)<(Q:Int))∨(∃p0 q0 V,WA=R ⟨p0,q0,O⟩∧(j:Int)<(Q:Int)∧r.cell? ⟨p0,q0+j,O⟩=R (aO V)):=by
        by_cases q:j<Q
        ·obtain⟨V,C0⟩:∃h,ws[j]?=R h:=⟨_,aQ (by have:=e0.o.2;omega)⟩;obtain⟨b',o',e,hA⟩:=e0.o.1 j (aO V) (by rw[bS,C0];rfl);exact .inr ⟨b',o',V,e,Y0,by rw[(f0.o.trans (S.o.a.mono f0.o.size)).cell (p:=⟨b',o'+j,O⟩) (bf w _ hA)];exact hA⟩
        ·exact .inl Y0
       have r0:(a.r.c != -1)=true∨(a.r.c != -1)=false:=by cases(a.r.c != -1)<;>simp
       rcases d1 with e1|⟨p0,q0,V,rfl,e1,C0⟩
       case' inr=>cases V
       case' inr.true=>rcases r0 with r0|r0
       case' inr.true.inl=>go_upto_region 19 with fail;obtain⟨p,m⟩:=lZ S.o.u (!a.a) (T.o.f 4 (aO (!a.a)));generalize r.setCell ⟨wr,4,O⟩ (aO (!a.a))=M at m⊢
       case' inl=>go_upto_region 19 with fail;obtain⟨p,m⟩:=lZ S.o a.a T.o;generalize r=M at m⊢
       case' inr.false=>go_upto_region 19 with fail;obtain⟨p,m⟩:=lZ S.o a.a T.o;generalize r=M at m⊢
       case' inr.true.inr=>go_upto_region 19 with fail;obtain⟨p,m⟩:=lZ S.o a.a T.o;generalize r=M at m⊢
       all_goals
        clear F G H I K L gf T S;obtain⟨F,G,H,I,K,L⟩:=bH.j m.o.2;have a0:=aj (aR m.o.1.a.size (gY M (.cells (qr a.r p a.A n a.C) 30)).size);have b0:=aj (gX m.o.1.c (.cells (qr a.r p a.A n a.C) 30));go_wp2_with (at_builtin;go_loud (refine jq rfl (.tmp 102) (.tmp 104) 24 rfl wc.heap.size 30 6 zbZ rfl Y2 underlying24 (Z MA j MC) j (ms.flatMap kS) rfl b0.o (R ⟨M,0,O⟩) 1 1 [J U a.r.a,J U a.r.c,J U a.r.e,J U a.r.d,aO p,Z a.A n a.C] rfl rfl (fun d=>nomatch d) (bU.b (bH.d _ 30 _)) (by simp[Value.oneCell']) (by unfold maxLen;omega) Y0 a0.o ?_));intro B6 c6 w9 s0 D0 E0;have hz:kS ⟨a.r,p,a.A,a.C⟩=[J U a.r.a,J U a.r.c,J U a.r.e,J U a.r.d,aO p,Z a.A n a.C]:=by unfold kS at i⊢;injection i with _ i;injection i with _ i;injection i with _ i;injection i with _ i;injection i with _ i;dsimp only;rw[List.singleton_inj.1 i]
        rw[←hz]at s0;have HI:=aj (YF.v (z:=⟨a.r,p,a.A,a.C⟩) (m.o.1.t (gY M (.cells (qr a.r p a.A n a.C) 30))) ⟨rfl,rfl,rfl⟩ s0 D0 (E0.imp id fun d=>d.trans Y1));have f1:U.wrap ((j:Int)+1)=(j+1:Nat):=by rw[bF _ Y0];omega
        clear s0 D0 E0 F G H I K L m a0 b0;go_wp2;go_roundw;case rel=>exact⟨j+1,_,_,B5,c5,B6,c6,_,rfl,rfl,rfl,by first|rfl|(rw[f1]),Y0,HI⟩
        case measure=>simp[intOf];omega
     ·go_upto_region 16 with(go_at_call 7;refine(GD _).mono ?_;rintro e w5 ⟨rfl,ho,c⟩;have g:=aj (zbp l.o rfl c ho);have k5:=i0.o.2.b c;have F:=k5.a 0;have G:=k5.a 1;have H:=k5.a 2;have I:=k5.a 3;have K:=k5.a 4;have L:=k5.a 5;have gf:=k5.c;clear ho c k5);rw[show(wr.alloc (.cells #[J U 0,J U (-1),fl,st,x0,Z XA nb XC] 30)).heap.size=wr.heap.size+1 by simp]at g;generalize w5.setCell ⟨wr,5,O⟩ (Z (R ⟨wr.heap.size+1,0,O⟩) 24 24)=W3 at g⊢;obtain⟨a,n,g⟩:=JW g.o (Classical.em _);clear F G H I K L gf;have a0:=aj (aR g.o.1.a.a.size (gY W3 (.cells (qr a.r a.a a.A n a.C) 30)).size);have v:=g.o.1.b;have i:kS a=[J U a.r.a,J U a.r.c,J U a.r.e,J U a.r.d,aO a.a,Z a.A n a.C]:=by unfold kS;rw[g.o.2]
      rw[i]at v;obtain⟨F,G,H,I,K,L⟩:=bH.j v;have b0:=aj (gX g.o.1.a.c (.cells (qr a.r a.a a.A n a.C) 30));have f2:j≤40:=by have:=HL.o.1;omega
      clear v;go_wp2_with (at_builtin;go_loud (refine jq rfl (.tmp 79) (.tmp 81) 24 rfl wc.heap.size 30 6 zbZ rfl Y2 underlying24 (Z KA j KC) j (ks.flatMap kS) rfl b0.o (R ⟨W3,0,O⟩) 1 1 [J U a.r.a,J U a.r.c,J U a.r.e,J U a.r.d,aO a.a,Z a.A n a.C] rfl rfl (fun d=>nomatch d) (bU.b (bH.d _ 30 _)) (by simp[Value.oneCell']) (by unfold maxLen;omega) Y0 a0.o ?_));intro B5 c5 r n0 o0 B0;rw[←i]at n0;have S:=aj (Vd.q (y:=a) (g.o.1.a.d (gY W3 (.cells (qr a.r a.a a.A n a.C) 30))) (g.o.1.d.a (gY _ _)) g.o.1.e g.o.1.h (g.o.1.b.b (gY _ _)) g.o.1.c g.o.1.i g.o.1.k n0 o0 (B0.imp id fun d=>d.trans Y1));have v:=bH.u (g.o.1.b.b (gY W3 (.cells (qr a.r a.a a.A n a.C) 30))) o0 g.o.1.c.symm;rw[i]at v;have T:=aj v;have gf:=v.c;clear n0 o0 B0 F G H I K L b0 a0 v g;obtain⟨F,G,H,I,K,L⟩:=bH.j T.o;have d1:(¬(j:Int)<(Q:Int))∨(∃p0 q0 V,WA=R ⟨p0,q0,O⟩∧(j:Int)<(Q:Int)∧r.cell? ⟨p0,q0+j,O⟩=R (aO V)):=by
       by_cases q:j<Q
       ·obtain⟨V,C0⟩:∃h,ws[j]?=R h:=⟨_,aQ (by have:=e0.o.2;omega)⟩;obtain⟨b',o',e,hA⟩:=e0.o.1 j (aO V) (by rw[bS,C0];rfl);exact .inr ⟨b',o',V,e,Y0,by rw[(f0.o.trans (S.o.a.mono f0.o.size)).cell (p:=⟨b',o'+j,O⟩) (bf w _ hA)];exact hA⟩
       ·exact .inl Y0
      have r0:(a.r.c != -1)=true∨(a.r.c != -1)=false:=by cases(a.r.c != -1)<;>simp
      rcases d1 with e1|⟨p0,q0,V,rfl,e1,C0⟩
      case' inr=>cases V
      case' inr.true=>rcases r0 with r0|r0
      case' inr.true.inl=>go_upto_region 19 with fail;obtain⟨p,m⟩:=lZ S.o.u (!a.a) (T.o.f 4 (aO (!a.a)));generalize r.setCell ⟨wr,4,O⟩ (aO (!a.a))=M at m⊢
      case' inl=>go_upto_region 19 with fail;obtain⟨p,m⟩:=lZ S.o a.a T.o;generalize r=M at m⊢
      case' inr.false=>go_upto_region 19 with fail;obtain⟨p,m⟩:=lZ S.o a.a T.o;generalize r=M at m⊢
      case' inr.true.inr=>go_upto_region 19 with fail;obtain⟨p,m⟩:=lZ S.o a.a T.o;generalize r=M at m⊢
      all_goals
       clear F G H I K L gf T S;obtain⟨F,G,H,I,K,L⟩:=bH.j m.o.2;have a0:=aj (aR m.o.1.a.size (gY M (.cells (qr a.r p a.A n a.C) 30)).size);have b0:=aj (gX m.o.1.c (.cells (qr a.r p a.A n a.C) 30));go_wp2_with (at_builtin;go_loud (refine jq rfl (.tmp 102) (.tmp 104) 24 rfl wc.heap.size 30 6 zbZ rfl Y2 underlying24 (Z MA j MC) j (ms.flatMap kS) rfl b0.o (R ⟨M,0,O⟩) 1 1 [J U a.r.a,J U a.r.c,J U a.r.e,J U a.r.d,aO p,Z a.A n a.C] rfl rfl (fun d=>nomatch d) (bU.b (bH.d _ 30 _)) (by simp[Value.oneCell']) (by unfold maxLen;omega) Y0 a0.o ?_));intro B6 c6 w9 s0 D0 E0;have hz:kS ⟨a.r,p,a.A,a.C⟩=[J U a.r.a,J U a.r.c,J U a.r.e,J U a.r.d,aO p,Z a.A n a.C]:=by unfold kS at i⊢;injection i with _ i;injection i with _ i;injection i with _ i;injection i with _ i;injection i with _ i;dsimp only;rw[List.singleton_inj.1 i]
       rw[←hz]at s0;have HI:=aj (YF.v (z:=⟨a.r,p,a.A,a.C⟩) (m.o.1.t (gY M (.cells (qr a.r p a.A n a.C) 30))) ⟨rfl,rfl,rfl⟩ s0 D0 (E0.imp id fun d=>d.trans Y1));have f1:U.wrap ((j:Int)+1)=(j+1:Nat):=by rw[bF _ Y0];omega
       clear s0 D0 E0 F G H I K L m a0 b0;go_wp2;go_roundw;case rel=>exact⟨j+1,_,_,B5,c5,B6,c6,_,rfl,rfl,rfl,by first|rfl|(rw[f1]),Y0,HI⟩
       case measure=>simp[intOf];omega
    ·obtain rfl:j=P:=Y0;have d2:¬((j:Int)<(j:Int)):=Y0;have g0:=aj (f0.o.trans (l.o.a.mono f0.o.size));have g1:∀h∈ks,(h.r.c= -1→0<h.r.b.length)∧h.r.b.length≤300:=fun h s=>by obtain⟨f',d⟩:=DI l.o.h h.r (List.mem_map_of_mem s);exact⟨fun e=>by rw[d.b e];decide,d.a⟩
     have h1:∀h∈ms,(h.r.c= -1→0<h.r.b.length)∧h.r.b.length≤300:=fun h s=>by obtain⟨f',d⟩:=DI l.o.h h.r (by rw[←l.o.g];exact List.mem_map_of_mem s);exact⟨fun e=>by rw[d.b e];decide,d.a⟩
     have t0:=Ar ks KA j KC wr l.o.i (by have:=HL.o.1;omega) (dD l.o.c) (fun h s=>(l.o.n h s).g l.o.a (g1 h s).2) (fun h s=>(g1 h s).1);have u0:∀W,aJ wr wr W→aF au 8 #[Z MA j MC] W (ChP ms W):=fun W c=>Ar ms MA j MC W l.o.k (by have:=HL.o.1;omega) ((dD l.o.e).a c) (fun h s=>((l.o.o h s).a c).g (l.o.d c).a (h1 h s).2) (fun h s=>(h1 h s).1);have H0:ms.all (fun h=>iY h.r)=ks.all (fun h=>iY h.r):=by
      have:∀d0:List Rd,d0.all (fun h=>iY h.r)=(d0.map Rd.r).all iY:=fun d0=>by rw[List.all_map];rfl
      rw[this,this,l.o.g]
     clear g1 h1;unfold ChP at t0 u0;cases hq:ks.all (fun h=>iY h.r)with
     |false=>rw[hq]at t0;rw[H0,hq]at u0;have y0:=aj (t0.mono fun e o d=>(show e=av (aN #[Z O 0 0,false])∧aJ wr wr o from⟨(by rcases d.2 with d|d;exact d.2;cases d.1),d.1⟩));have F0:Y (∀W,aJ wr wr W→aF au 8 #[Z MA j MC] W fun e o=>e=av (aN #[Z O 0 0,false])∧aJ W W o):=aj fun W c=>(u0 W c).mono fun e o d=>⟨(by rcases d.2 with d|d;exact d.2;cases d.1),d.1⟩;clear t0 u0 H0 hq l HS e0 A0 HG;go_wp2_with (first|(go_at_call 8;refine y0.o.mono ?_;rintro e w6 ⟨rfl,c⟩;have j0:=aj c;clear c y0)|(go_at_call 8;refine(F0.o _ j0.o).mono ?_;rintro e r ⟨rfl,c⟩;have c0:=aj (g0.o.trans ((j0.o.trans (c.mono j0.o.size)).mono g0.o.size));clear c)|(go_at_call 6;refine(w0.o _ c0.o).mono ?_;rintro e w8 ⟨rfl,c⟩;have HF:=aj (c0.o.trans (c.mono c0.o.size));clear c));go_ret;exact⟨rfl,HF.o⟩
     |true=>
      have i1:Y (xJ true true ((ks.map Rd.r).map yA)):=aj (Ca l.o.h (fun k2 hr=>by obtain⟨h,s,rfl⟩:=dI.1 hr;exact List.all_eq_true.1 hq h s))
      have D1:=aj l.o.g;have I0:=aj l.o.a;rw[hq]at t0;rw[H0,hq]at u0;have y0:=aj (t0.mono fun e o d=>(show∃(t:List Ck) (y:Option aX) (z:Nat),e=av (aN #[Z y j z,true])∧t.length=j∧t.map Ck.r=(ks.map Rd.r).map yA∧LP wr.heap.size t y z o∧aJ wr wr o from by
       rcases d.2 with q|⟨_,t,y,z,q,h3,h4,h5⟩
       ·cases q.1
       ·have hl:t.length=j:=by rw[←List.length_map (f:=Ck.r),h3,List.length_map,l.o.i]
        exact⟨t,y,z,by rw[q,hl],hl,by rw[h3,List.map_map];rfl,h5,d.1⟩))
      have F0:Y (∀W,aJ wr wr W→aF au 8 #[Z MA j MC] W fun e o=>∃(t:List Ck) (y:Option aX) (z:Nat),e=av (aN #[Z y j z,true])∧t.length=j∧t.map Ck.r=(ks.map Rd.r).map yA∧LP W.heap.size t y z o∧aJ W W o):=aj fun W c=>(u0 W c).mono fun e o d=>by
       rcases d.2 with q|⟨_,t,y,z,q,h3,h4,h5⟩
       ·cases q.1
       ·have hl:t.length=j:=by rw[←List.length_map (f:=Ck.r),h3,List.length_map,l.o.k]
        exact⟨t,y,z,by rw[q,hl],hl,by rw[h3,←D1.o,List.map_map];rfl,h5,d.1⟩
      clear t0 u0 H0 hq l HS e0;generalize(ks.map Rd.r).map yA=rl at i1 y0 F0;go_upto_region 25 with(first|(go_at_call 8;refine y0.o.mono ?_;rintro e w6 ⟨g2,y,z,rfl,E1,F1,G1,c⟩;have K0:=aj (And.intro E1 (And.intro F1 G1));have j0:=aj c;clear c E1 F1 G1 y0)|(go_at_call 8;refine(F0.o _ j0.o).mono ?_;rintro e r ⟨h2,LB,LD,rfl,H1,I1,K1,c⟩;have L0:=aj (And.intro H1 (And.intro I1 K1));have M0:=aj (j0.o.trans (c.mono j0.o.size));have L1:=aj (K0.o.2.2.b c);clear c H1 I1 K1));have c0:=aj (g0.o.trans (M0.o.mono g0.o.size));have j1:=aj (fun W (c:aJ r r W)=>A0.o W ((I0.o.trans (M0.o.mono I0.o.size)).trans (c.mono (aR I0.o.size M0.o.size))));obtain⟨k,hX⟩:=exq (nV b rl);obtain⟨B,k1⟩:=exq k.a.length;obtain⟨C,l1⟩:=exq k.c.length;obtain⟨D,m1⟩:=exq k.d.length;have n1:∀W y z t,aJ r r W→t.length=j→t.map Ck.r=rl→(∃M1,LP M1 t y z r)→aF au 9 #[aS #[b.a,b.b,b.c,b.e,b.d,b.f],Z y j z] W fun e o=>∃RA RC FA FC UA UC,e=av (aN #[aS #[b.a,b.b,b.c,b.e,b.d,b.f,Z RA B RC,k.e,k.b,Z FA C FC,Z UA D UC,J U 0,J U 0],J U 0])∧aJ W W o∧o.ownsRow W 72 6 (Z RA B RC) B (iE k.a)∧o.ownsRow W 91 2 (Z FA C FC) C (bN k.c)∧o.ownsRow W 3 1 (Z UA D UC) D (k.d.map (J U)):=by rintro W y z t c u q ⟨M1,h3⟩;have:=LQ b t rl y j z W HL.o.2.2 (HG.o.a (c0.o.trans (c.mono c0.o.size))) u (by have:=HL.o.1;omega) (h3.b c) q i1.o;rw[hX]at this;unfold Uy jC at this;rw[k1,l1,m1]at this;exact this
      have N1:=aj (fun W c=>n1 W y z g2 c K0.o.1 K0.o.2.1 ⟨_,L1.o⟩);have P1:=aj (fun W c=>n1 W LB LD h2 c L0.o.1 L0.o.2.1 ⟨_,L0.o.2.2⟩);have N0:=aj (And.intro k1 (And.intro l1 m1));clear n1 hX k1 l1 m1 i1 D1 F0 K0 L0 L1 M0 j0 HL HG A0 I0;obtain⟨o1,y1,a,y3,y4,y5⟩:=bH.j (j1.o _ (ay _ _));go_upto_region 26 with(go_at_call 9;refine(N1.o _ (ay _ _)).mono ?_;rintro e w8 ⟨RA,RC,FA,FC,UA,UC,rfl,c,hr,hf,hu⟩;have H8:=aj (And.intro c (And.intro hr (And.intro hf hu)));clear c hr hf hu);have Q1:aJ r r (w8.alloc (.cells #[b.a,b.b,b.c,b.e,b.d,b.f,Z RA B RC,k.e,k.b,Z FA C FC,Z UA D UC,J U 0,J U 0] 40)):=H8.o.1.alloc H8.o.1.size _;have v0:=aj Q1;have i0:=aj (bH.d w8 40 #[b.a,b.b,b.c,b.e,b.d,b.f,Z RA B RC,k.e,k.b,Z FA C FC,Z UA D UC,J U 0,J U 0]);have k0:=aj (And.intro (gX H8.o.2.1 (.cells #[b.a,b.b,b.c,b.e,b.d,b.f,Z RA B RC,k.e,k.b,Z FA C FC,Z UA D UC,J U 0,J U 0] 40)) (And.intro (gX H8.o.2.2.1 (.cells #[b.a,b.b,b.c,b.e,b.d,b.f,Z RA B RC,k.e,k.b,Z FA C FC,Z UA D UC,J U 0,J U 0] 40)) (gX H8.o.2.2.2 (.cells #[b.a,b.b,b.c,b.e,b.d,b.f,Z RA B RC,k.e,k.b,Z FA C FC,Z UA D UC,J U 0,J U 0] 40))));clear o1 y1 a y3 y4 y5 Q1;generalize w8.alloc (.cells #[b.a,b.b,b.c,b.e,b.d,b.f,Z RA B RC,k.e,k.b,Z FA C FC,Z UA D UC,J U 0,J U 0] 40)=M at v0 i0 k0⊢;generalize w8.heap.size=b8 at i0⊢;obtain⟨o1,y1,a,y3,y4,y5⟩:=bH.j (j1.o _ v0.o);go_upto_region 27 with(go_at_call 9;refine(P1.o _ v0.o).mono ?_;rintro e w9 ⟨RB,RD,FB,FD,UB,UD,rfl,c,hr,hf,hu⟩;have H9:=aj (And.intro c (And.intro hr (And.intro hf hu)));clear c hr hf hu);have p1:=aj (show aJ w w (w9.alloc (.cells #[b.a,b.b,b.c,b.e,b.d,b.f,Z RB B RD,k.e,k.b,Z FB C FD,Z UB D UD,J U 0,J U 0] 40))from((c0.o.trans (v0.o.mono c0.o.size)).trans (H9.o.1.mono (aR c0.o.size v0.o.size))).alloc (aR (aR c0.o.size v0.o.size) H9.o.1.size) _);have q1:=aj (UE b k RA FA UA RB FB UB RC FC UC RD FD UD B C D (w9.alloc (.cells #[b.a,b.b,b.c,b.e,b.d,b.f,Z RB B RD,k.e,k.b,Z FB C FD,Z UB D UD,J U 0,J U 0] 40)) N0.o.1 N0.o.2.1 N0.o.2.2 ⟨sI k0.o.1,sI k0.o.2.1,sI k0.o.2.2⟩ ⟨dD (gX (dF k0.o.1 H9.o.1) _),dD (gX H9.o.2.1 _)⟩ ⟨dD (gX (dF k0.o.2.1 H9.o.1) _),dD (gX H9.o.2.2.1 _)⟩ ⟨dD (gX (dF k0.o.2.2 H9.o.1) _),dD (gX H9.o.2.2.2 _)⟩);unfold jC at q1;have r1:=aj (DF (i0.o.b H9.o.1) (.cells #[b.a,b.b,b.c,b.e,b.d,b.f,Z RB B RD,k.e,k.b,Z FB C FD,Z UB D UD,J U 0,J U 0] 40));have P0:=aj (bH.d w9 40 #[b.a,b.b,b.c,b.e,b.d,b.f,Z RB B RD,k.e,k.b,Z FB C FD,Z UB D UD,J U 0,J U 0]);clear o1 y1 a y3 y4 y5 k0 i0 H9 H8 v0 N1 P1 j1 N0 c0;generalize w9.alloc (.cells #[b.a,b.b,b.c,b.e,b.d,b.f,Z RB B RD,k.e,k.b,Z FB C FD,Z UB D UD,J U 0,J U 0] 40)=W9 at p1 q1 r1 P0⊢;generalize w9.heap.size=b9 at P0⊢;have N:=fun s1=>r1.o.a s1;have x:=fun s1=>P0.o.a s1;have F:=N 0;have G:=N 1;have H:=N 2;have I:=N 3;have K:=N 4;have L:=N 5;have z6:=N 6;have z7:=N 7;have z8:=N 8;have z9:=N 9;have l2:=N 10;have m2:=N 11;have n2:=N 12;have o2:=x 0;have p2:=x 1;have v2:=x 2;have v3:=x 3;have v4:=x 4;have v5:=x 5;have v6:=x 6;have v7:=x 7;have v8:=x 8;have v9:=x 9;have q2:=x 10;have r2:=x 11;have s2:=x 12;clear N x r1 P0;go_wp2_with (first|(go_at_call 10;refine q1.o.mono ?_;rintro e t2 ⟨rfl,c⟩;have t1:=aj (p1.o.trans (c.mono p1.o.size));clear c)|(go_at_call 6;refine(w0.o _ t1.o).mono ?_;rintro e u2 ⟨rfl,c⟩;have HF:=aj (t1.o.trans (c.mono t1.o.size));clear c));go_ret;exact⟨rfl,HF.o⟩
section
open Go.ChangeAt Go.ChangeShapes Go.Deep Go.WideShapes
def Ye:Tryz.prog.cellsOf 23=6:=by kernel_rfl
section
variable {H:Type} {enc:bB×aI→H} {w:aB} {base:Nat} {spare:Nat→Bool} {held:Bool} {fuel:Nat} {x:DataW H×List MemPlace}
def open_conf {r:Reach} {s:Nat} {b:aI} {x:DataW H} {k:List MemPlace} (t:Value.okWide au w r s 23 b) (u:DataW.Trod enc au w base spare held 23 b x k):∃c:Cf,b=aS (jW c):=by
 obtain⟨v,rfl,y⟩:=okWide_struct underlying23 t;obtain⟨z⟩:=v;obtain⟨fuel,d⟩:=u;have d:DataW.trod enc au w base spare held fuel 23 z=R (x,k):=by simpa[Value.cells]using d
 obtain⟨A,I,K,L,M,B,a⟩:=DataW.trod_struct underlying23 d;obtain⟨N,P,Q,S,T,V,rfl⟩:=YH (y.trans Ye);have e:=a 0 _ rfl;have f:=a 1 _ rfl;have g:=a 2 _ rfl;have h:=a 3 _ rfl;have i:=a 4 _ rfl;have j:=a 5 _ rfl;simp[wO]at e f g h i j;have W:A.length=6:=B;rw[aQ (by omega)]at e f g h i j;obtain⟨C,l,_⟩:=DataW.trod_int underlying3 e;obtain⟨D,m,_⟩:=DataW.trod_int underlying3 f;obtain⟨c,n,_⟩:=DataW.trod_int underlying3 g;obtain⟨E,o,_⟩:=DataW.trod_int underlying3 h;obtain⟨F,p,_⟩:=DataW.trod_int underlying3 i;obtain⟨G,q,_⟩:=DataW.trod_int underlying3 j;simp at l m n o p q;subst l m n o p q;exact⟨⟨C,D,c,E,F,G⟩,rfl⟩
def open_flags {k:Option aX} {a v:Nat} {y:DataW H} {z:List MemPlace} (h:DataW.Trod enc au w base spare held 25 (Z k a v) y z):
  ∃l:List Bool,l.length=a∧bU w k (l.map aO):=by
 obtain⟨fuel,A⟩:=h;rcases open_slice underlying25 A with m|⟨n,Q,S,B,T,V,W,o,X,hl,hm,C,hx,p⟩
 ·simp[Value.cells]at m;obtain⟨⟨rfl,rfl,rfl⟩,_⟩:=m;exact⟨[],rfl,bU.f _ _⟩
 ·simp[Value.cells]at o;obtain⟨rfl,rfl,rfl⟩:=o;have a0:a≤B:=by rw[C];split<;>omega
  have D:∀d,∃i:Bool,d<a→∃b c,R n=R (⟨b,c,O⟩:aX)∧w.cell? ⟨b,c+d,O⟩=R (aO i):=by
   intro d;by_cases E:d<a
   ·obtain⟨q,e,F⟩:=p d Y0;rw[wO.2.1]at e;obtain⟨_,G,I⟩:=World.cells?_some e;obtain⟨f,rfl⟩:∃f,q=[f]:=by
     match q,G with
     |[f],_=>exact⟨f,rfl⟩
    obtain⟨i,g,_⟩:=DataW.trod_bool underlying4 F;simp at g;subst g;have r:=I 0 Y2;obtain⟨b,c,K⟩:=n;obtain rfl:K=O:=by obtain⟨b0,s,_⟩:=p 0 (by omega);rw[wO.2.1]at s;obtain⟨_,c0,L⟩:=World.cells?_some s;have t:=L 0 (by decide);rw[aQ (by omega)]at t;simpa[Addr.add]using World.cell?_spot t
    simp only[Addr.add_lit,dQ,Nat.mul_one,List.getElem?_cons_zero]at r;exact⟨i,fun _=>⟨b,c,rfl,r⟩⟩
   ·exact⟨false,fun h=>absurd h E⟩
  obtain⟨M,N⟩:=Classical.axiomOfChoice D;refine⟨(List.range a).map M,Y1,fun P d0 j=>?_⟩;have u:P<a:=by simpa using(aU.1 j).1
  obtain⟨b,c,g,e⟩:=N _ u;simp[u]at j;exact⟨b,c,g,by rw[e,j]⟩
end
end
end Go.Proofs.YtdcacpeaimjdlaaGreatDoor
