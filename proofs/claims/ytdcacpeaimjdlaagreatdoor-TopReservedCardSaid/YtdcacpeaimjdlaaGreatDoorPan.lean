/- Part of the proof. -/
import Derived.Test.YtdcacpeaimjdlaaGreatDoorPaj
import Derived.Test.YtdcacpeaimjdlaaGreatDoorPam
import Derived.Test.YtdcacpeaimjdlaaGreatDoorPah
import Derived.Deep.RegionLaw
import Derived.Lib.SliceRun
namespace Go.Proofs.YtdcacpeaimjdlaaGreatDoor
open Go.RowKit Go.Maps Go.Proofs.Tryz Mq MFr
open Go.Value renaming int→J,slice→Z,string→aA,pointer→aK,bool→aO,tuple→aN,agg→aS
open Go.IntKind renaming i64→U
open Option renaming none→O,some→R
open Go.Ending renaming returned→av
open Go renaming World→aB,Value→aI,Calls→aF,Addr→aX,TypeId→bB,undef→bq
open Go.RowKit renaming Below→aJ
open Go.Proofs.Tryz renaming prog→au
set_option maxRecDepth 20000
set_option maxHeartbeats 0
set_option linter.all false
def zF {e:aB} {f:Nat} {g:bB} {a b c d:Nat} {h:List aI} (i:e.ownsRow f g a (Z (R ⟨d,0,O⟩) b c) b h) {m:Nat} (j:m≤b):e.ownsRow f g a (Z (R ⟨d,0,O⟩) m c) m (h.take (m*a)):=by
 have e:m*a≤b*a:=Nat.mul_le_mul_right _ j;refine⟨by rw[dw,i.1];omega,.inr ?_⟩;rcases i.2 with⟨a,_⟩|⟨l,n,b,a,f,g,o,h,j,k⟩
 ·cases a
 ·injection a with a i i;injection a with a;injection a with a;subst a i;refine⟨d,c,b,rfl,f,g,Y0,h,j,?_⟩;rw[←k,List.take_take,Nat.min_eq_left e]
def zG {g:Program} (a:aB) (h i m:bB) (j:aI) (n:g.underlying h=R (.slice i)) (o:∀a,(zeroValue i).run g a=.ok j a) (b:List aI) (c d e p:Nat) (q:(Builtin.zeroCells j.cells e).toList=b) (r:∀s∈b,s.oneCell'=true) (v:0<e)
  (t:∀f,f<b.length→(a.cell? ⟨c,d+f,O⟩).isSome=true) (u:∀f,f<b.length→a.frozen? ⟨c,d+f,O⟩=false):
  (Builtin.clear_ #[h] m #[Z (R ⟨c,d,O⟩) e p]).run g a=.ok (aN #[]) (a.setCells c d b):=by
 have k:=run_storeCells_cells (P:=g) c d b 0 a (by simpa using t) (by simpa using u) r
 simp only[dQ]at k
 obtain⟨l,rfl⟩:∃l,e=l+1:=⟨e-1,by omega⟩
 simp[Builtin.clear_,run_underlying n,o,q,k]
def tX (a:Nat):List aI:=(Builtin.zeroCells (aS #[aA {data:=#[]},aA {data:=#[]},false]).cells a).toList
def zH (a:Nat):(tX a).length=a*3:=by simp[tX,Builtin.zeroCells,Value.cells]
def IX (a:Nat):∀b∈tX a,b.oneCell'=true:=by
 intro b a;unfold tX Builtin.zeroCells at a;rw[Array.toList_map,dI]at a;obtain⟨b,_,rfl⟩:=a;have c:b%3<3:=Nat.mod_lt _ Y2;show(#[aA {data:=#[]},aA {data:=#[]},aO false][b%3]!).oneCell'=true
 generalize b%3=a at c;obtain rfl|rfl|rfl:a=0∨a=1∨a=2:=Y0
 all_goals rfl
def Fp (a:List Fd) (b:Nat):(dx a).drop (b*3)=dx (a.drop b):=by
 induction b generalizing a with
 |zero=>simp
 |succ e c=>
  cases a with
  |nil=>simp[dx]
  |cons f d=>rw[Nat.succ_mul,List.drop_succ_cons,←c d];simp[dx]
def zI (b a c:List aI) (d:a.length+c.length≤b.length):(jS (jS b 0 a) a.length c).take a.length=a:=by
 apply List.ext_getElem?;intro a;rw[List.getElem?_take];split
 ·rename_i b;rw[mM _ _ _ a (by rw[kZ];omega),aL Y0,mM _ _ _ a Y0,aP Y0,Nat.sub_zero]
 ·rename_i b;rw[bQ Y0]
def Fq (a:Option aX) (b c:Nat) (d:aB) (e:b≤c) (e:a=O→b=0∧c=0):aF au 239 #[Z a b c,J U 0,J U 0] d fun f g=>f=av (Z a b c)∧g=d:=by
 cases a with
 |none=>obtain⟨rfl,rfl⟩:=e rfl;go_enter func239,ntmps239;go_wp2;go_ret;exact Y5
 |some a=>clear e;go_enter func239,ntmps239;go_wp2;all_goals(go_ret;exact Y5)
def Fu (o d b g a:Nat) (i:List Fd) (h:aB) (C:0<a) (hj:a≤b) (s:i.length=b) (m:h.ownsRow o 93 3 (Z (R ⟨d,0,O⟩) b g) b (dx i)):
  aF au 239 #[Z (R ⟨d,0,O⟩) b g,J U 0,a] h fun y D=>y=av (Z (R ⟨d,0,O⟩) (b-a) g)∧D.ownsRow o 93 3 (Z (R ⟨d,0,O⟩) (b-a) g) (b-a) (dx (i.drop a))∧bg [d] h D:=by
 have g0:=(fH m).2;have a0:g≤maxLen:=by
  rcases m.2 with⟨k,_⟩|⟨E,F,G,k,H,t,I,K,L,M⟩
  ·cases k
  ·injection k with j p q;omega
 unfold maxLen at a0;obtain⟨i0,b0,h0,c0,j0⟩:=info_parts zD;obtain⟨e,r⟩:∃e,e=dx (i.drop a):=⟨_,rfl⟩;have u:e.length=(b-a)*3:=by rw[r,lD,bT,s]
 have d0:(dx i).length=b*3:=by rw[lD,s]
 have z:∀c f,(dx i)[c]?=R f→h.cell? ⟨d,c,O⟩=R f:=fun c f l=>dG m l;have N:∀c,c<b*3→(h.cell? ⟨d,c,O⟩).isSome=true:=fun c v=>by obtain⟨f,l⟩:∃f,(dx i)[c]?=R f:=⟨_,aQ (by omega)⟩;rw[z c f l];rfl
 have P:∀c,h.frozen? ⟨d,c,O⟩=false:=fun c=>by
  rcases m.2 with⟨k,_⟩|⟨E,F,G,k,H,t,I,K,L,M⟩
  ·cases k
  ·injection k with j p q;injection j with j;injection j with j;subst j;exact bH.c t c
 obtain⟨w,hA,e0⟩:∃w:aX,(if g=a then R (⟨d,0,O⟩:aX)else R ⟨d,a*3,O⟩)=R w∧Y (∀c f,e[c]?=R f→h.drew.cell? (w.add c)=R f):=by
  by_cases Q:g=a
  ·refine⟨⟨d,0,O⟩,by simp[Q],fun c f l=>?_⟩;have C:e.length=0:=by rw[u];omega
   rw[List.length_eq_zero_iff.1 C]at l;simp at l
  ·refine⟨⟨d,a*3,O⟩,by simp[Q],fun c f l=>?_⟩;rw[Addr.add_lit];refine z _ f ?_;rw[r,←Fp,List.getElem?_drop]at l;exact l
 have S:Y (e.length=(b-a)*3):=u;have s2:Y (∀f∈e,f.oneCell'=true):=by rw[r];exact zaO _
 have s3:Y (∀c,c<e.length→(h.drew.cell? ⟨d,0+0*3+c,O⟩).isSome=true∧h.drew.frozen? ⟨d,0+0*3+c,O⟩=false):=by intro c v;rw[u]at v;rw[show 0+0*3+c=c by omega];exact⟨N c (by omega),P c⟩
 obtain⟨n,A⟩:∃n,n=h.drew.setCells d (0+0*3) e:=⟨_,rfl⟩;have T:h.drew.ownsRow o 93 3 (Z (R ⟨d,0,O⟩) b g) b (dx i):=m;have x:n.ownsRow o 93 3 (Z (R ⟨d,0,O⟩) b g) b (jS (dx i) 0 e):=by rw[A];exact gT e (0+0*3) _ _ T
 have V:=zH a;have k0:∀B,(Builtin.clear_ #[50] B #[Z (R ⟨d,(b-a)*3,O⟩) (b- (b-a)) (g- (b-a))]).run au n=.ok (aN #[]) (n.setCells d ((b-a)*3) (tX a)):=fun B=>by
  refine zG n 50 93 B _ underlying50 Tryz.zeroValue93 _ d _ _ _ (by rw[show b- (b-a)=a by omega];rfl) (IX a) (by omega) (fun c v=>?_) (fun c _=>?_)
  ·rw[V]at v;obtain⟨f,l⟩:∃f,(jS (dx i) 0 e)[(b-a)*3+c]?=R f:=⟨_,aQ (by rw[kZ];omega)⟩;rw[dG x l];rfl
  ·rcases x.2 with⟨k,_⟩|⟨E,F,G,k,H,t,I,K,L,M⟩
   ·cases k
   ·injection k with j p q;injection j with j;injection j with j;subst j;exact bH.c t _
 have W:Y (n=h.drew.setCells d (0+0*3) e):=A;have f0:Y (n.ownsRow o 93 3 (Z (R ⟨d,0,O⟩) b g) b (jS (dx i) 0 e)∧e=dx (i.drop a)):=aj ⟨x,r⟩;have HL:=aj s;have l0:a≤g:=by omega
 have mixed:Tryz.prog.follows .mixedOrders=true:=by kernel_rfl
 clear A x T r u d0 z N P s m V;go_enter func239,ntmps239;go_wp2_with fail;go_region_law_o (refine step_append_room rfl (.tmp 22) (.tmp 25) 50 rfl 93 i0 3 underlying50 b0 c0 d 0 0 g (by simp[Act.eval,Act.put]) w (b-a) (g-a) e (by simp[Act.eval,Act.put]) S.o e0.o s2.o (by omega) s3.o ?_;rw[←W.o]);go_wp2;go_ret;obtain⟨hO,hn⟩:=f0.o;have X:e.length=(b-a)*3:=S.o;refine⟨rfl,?_,?_⟩
 ·have p:=zF (gT (tX a) ((b-a)*3) _ _ hO) (m:=b-a) (by omega);have q:=zI (dx i) e (tX a) (by rw[zH,X,lD,HL.o];omega);rw[X]at q;rw[q]at p;rw[←hn];have y:0+(b-a)=b-a:=by omega
  simpa[y]using p
 ·refine((bg.j h 1).a (bg.f (F:=[d]) (aC.2 rfl) e (0+0*3) _) (fun _ m=>.inl m)).a ?_ (fun _ m=>.inl m) (F1:=[d]);rw[show(h.drewN 1).setCells d (0+0*3) e=n from W.o.symm];exact bg.f (F:=[d]) (aC.2 rfl) _ _ _
def IY (h b:Nat) (e:aI) (a:List Fd) (c:aB) (l:b≤a.length) (d:c.ownsRow h 93 3 e a.length (dx a)):
  aF au 239 #[e,J U 0,b] c fun i f=>∃g,i=av g∧f.ownsRow h 93 3 g (a.length-b) (dx (a.drop b))∧g.ownBlock=e.ownBlock∧∀g,(∀j,e.ownBlock=R j→j∈g)→bg g c f:=by
 obtain⟨m,e,rfl⟩:=dB d;by_cases k:b=0
 ·subst k;have k:=fH d;refine mB (Fq m a.length e c k.2 k.1) ?_;rintro f rfl;exact⟨_,rfl,Y6 d,rfl,fun g _=>bg.o _ _⟩
 ·obtain⟨k,n,m⟩:=eu d Y0;injection m with m n n;subst m;refine mB (Fu h k a.length e b a c Y0 l rfl d) fun f ⟨a,b⟩=>?_;exact⟨_,rfl,a,rfl,fun g hF=>b.g fun j a=>.inl (by rw[aC.1 a];exact hF k rfl)⟩
def nT:List Fd→Int
 |[]=>0
 |a::b=>nS a+nT b
def fE (b:Int):List Fd→Int→Nat×Int
 |[],a=>(0,a)
 |c::d,a=>if a>b then((fE b d (a-nS c)).1+1,(fE b d (a-nS c)).2)else(0,a)
def qB.b (a:qB) (b:Int):qB:=⟨a.l.drop (fE b a.l a.d).1,(fE b a.l a.d).2,a.a⟩
def jM (b:List Fd):Prop:=∀a∈b,a.n.size≤1000000∧a.v.size≤1000000
def uX (a:Fd):32≤nS a:=by unfold nS;omega
def rV:∀a:List Fd,32*(a.length:Int)≤nT a
 |[]=>by simp[nT]
 |b::a=>by have:=rV a;have:=uX b;simp[nT];omega
def zJ (c:Int):∀(a:List Fd) (b:Int),(fE c a b).1≤a.length
 |[],b=>aD _
 |d::a,b=>by
  unfold fE
  split
  ·simpa using zJ c a _
  ·simp
def qY (c:Int) (e:0≤c):∀(a:List Fd) (b:Int),b=nT a→nT (a.drop (fE c a b).1)=(fE c a b).2∧(fE c a b).2≤c
 |[],b,d=>by simp[fE,nT]at d⊢;omega
 |f::a,b,d=>by
  unfold fE
  split
  ·have:=qY c e a (b-nS f) (by rw[d];simp[nT];omega)
   simpa using this
  ·rename_i a
   simp;omega
def Fv {a:List Fd} {b:Nat} {c:Fd} (d:a[b]?=R c):a.drop b=c::a.drop (b+1):=rR d
def zK (w d:Nat) (a0:aI) (B:qB) (m:Int) (M:aB) (b:jX M w d a0 B) (hs:jM B.l) (hw:B.d=nT B.l) (hx:B.d≤4294967296) (r0:0≤m) (o:m≤4294967296):
  aF au 207 #[qp d,m] M fun p j=>p=av (aN #[])∧(∃v',jX j w d v' (B.b m)∧v'.ownBlock=a0.ownBlock)∧∀q,d∈q→(∀h,a0.ownBlock=R h→h∈q)→bg q M j:=by
 obtain⟨e,x,T⟩:=B
 obtain⟨n,i,t⟩:=dB b.c
 subst t
 dsimp only at hs hw hx
 obtain⟨c,z⟩:=exq e.length
 obtain⟨C,H,V⟩:∃k0 h,fE m e x=(k0,h):=⟨_,_,rfl⟩
 have k:Y (jX M w d (Z n c i) ⟨e,x,T⟩∧fE m e x=(C,H)∧C≤c):=by
  refine aj ⟨by rw[←z];exact b,V,?_⟩
  have:=zJ m e x
  rw[V,z]at this
  exact this
 have s0:c≤134217728:=by have:=rV e;omega
 have HB:=aj (k.o.1.a)
 have I:=aj (k.o.1.c)
 dsimp only at HB I
 rw[z]at I
 have HF:=aj hs
 have y:=aj z
 have l0:Y (nT e=x∧x≤4294967296):=aj ⟨hw.symm,hx⟩
 have m0:Y ((fE m e x).1=C∧(fE m e x).2=H):=aj (by rw[V];exact⟨rfl,rfl⟩)
 have HD:Y (∀(a:Nat) (N:aB),a≤c→N.ownsRow w 93 3 (Z n c i) c (dx e)→aF au 239 #[Z n c i,J U 0,a] N fun p j=>∃P K,p=av (Z P (c-a) K)∧Y (j.ownsRow w 93 3 (Z P (c-a) K) (c-a) (dx (e.drop a))∧(Z P (c-a) K).ownBlock=(Z n c i).ownBlock∧∀q,(∀d,(Z n c i).ownBlock=R d→d∈q)→bg q N j)):=aj fun a N W hW=>by
  refine(IY w a (Z n c i) e N (by rw[z];exact W) (by rw[z];exact hW)).mono ?_
  rintro p j ⟨v',rfl,ho,t,hF⟩
  rw[z]at ho
  obtain⟨P,K,rfl⟩:=dB ho
  exact⟨P,K,rfl,aj ⟨ho,t,hF⟩⟩
 clear b hs hw hx z V
 go_enter func207,ntmps207
 go_wp2_with fail
 go_loopw [4] (fun b0 wr=>∃(a:Nat) (f:Int),a≤c∧b0=J U a∧Y ((fE m (e.drop a) f).1+a=C∧(fE m (e.drop a) f).2=H)∧Y (nT (e.drop a)=f∧f≤4294967296)∧Y (bH wr d 238 #[Z n c i,f,T]∧bg [d] M wr)) (fun b0 _=>c- (intOf b0).toNat)
 case atStart=>exact⟨0,x,aZ _,rfl,m0,l0,aj ⟨HB.o,bg.o _ _⟩⟩
 case round=>
  obtain⟨a,f,W,rfl,HA,HS,s⟩:=hrel
  obtain⟨g0,c1,c2⟩:=bH.n s.o.1
  by_cases h0:a<c
  ·by_cases c0:f>m
   ·obtain⟨r,L⟩:=pE y h0
    obtain⟨u,K,n0⟩:=eu I.o (by omega)
    injection n0 with e1 e2 e3
    subst e1
    have o0:u≠d:=fun p=>k.o.1.d (by rw[←p];rfl)
    have t0:d≠u:=fun p=>o0 p.symm
    have A:Y (wr.ownsRow w 93 3 (Z (R ⟨u,0,O⟩) c i) c (dx e)):=aj (bO I.o s.o.2 (fun h g b=>k.o.1.d (by rw[g,aC.1 b])))
    have D:=pq L
    have u0:wr.cell? ⟨u,a*3,O⟩=R (aA r.n):=dG A.o D.1
    have f1:wr.cell? ⟨u,a*3+1,O⟩=R (aA r.v):=dG A.o D.2.1
    have f2:wr.cell? ⟨u,a*3+2,O⟩=R (aO r.a):=dG A.o D.2.2
    have d0:=HF.o r (bP L)
    have e0:=Fv L
    obtain⟨v,Q⟩:=exq (nS r)
    have p0:=uX r
    rw[Q]at p0
    have q0:Y ((fE m (e.drop (a+1)) (f-v)).1+(a+1)=C∧(fE m (e.drop (a+1)) (f-v)).2=H):=aj (by
     have:=HA.o
     rw[e0]at this
     unfold fE at this
     rw[aP c0,Q]at this
     exact⟨by rw[←this.1];omega,this.2⟩)
    have i0:Y (nT (e.drop (a+1))=f-v∧f-v≤4294967296):=aj (by
     have:=HS.o
     rw[e0]at this
     simp only[nT,Q]at this
     omega)
    have v0:=HS.o.2
    have w0:0≤f-v:=by have:=rV (e.drop (a+1));have:=i0.o.1;omega
    have HC:Y (aF au 210 #[aS #[aA r.n,aA r.v,r.a]] wr.drew fun p j=>p=av v∧(j.cell? ⟨d,0,O⟩=R (Z (R ⟨u,0,O⟩) c i)∧j.cell? ⟨d,1,O⟩=R (J U f)∧j.cell? ⟨u,a*3,O⟩=R (aA r.n)∧j.cell? ⟨u,a*3+1,O⟩=R (aA r.v)∧j.cell? ⟨u,a*3+2,O⟩=R (aO r.a)∧j.frozen? ⟨d,1,O⟩=false)∧Y (aJ wr wr j)):=aj (by
     refine(zC r wr.drew d0.1 d0.2).mono ?_
     rintro p j ⟨rfl,hb⟩
     have X:aJ wr wr j:=bG (bI (ay _ wr) 1) hb
     obtain⟨x0,x1,x2⟩:=bH.n (s.o.1.b X)
     have f0:=dF A.o X
     exact⟨by rw[Q],⟨x0,x1,dG f0 D.1,dG f0 D.2.1,dG f0 D.2.2,(s.o.1.b X).c 1⟩,aj X⟩)
    have gf:=s.o.1.c 1
    clear L D e0 d0 Q
    have y0:U.wrap (f-v)=f-v:=bF _ (by omega)
    have mixed:Tryz.prog.follows .mixedOrders=true:=by kernel_rfl
    go_wp2_with fail
    go_region_law (go_simp;refine HC.o.mono ?_;rintro p w1 ⟨rfl,⟨j0,d1,d2,d3,d4,d5⟩,l⟩;dsimp only)
    all_goals
     go_wp2_with fail
     go_roundw
     case rel=>exact⟨a+1,f-v,by omega,by go_num,q0,i0,aj ⟨(s.o.1.b l.o).f 1 (J U (f-v)),(s.o.2.a (bg.d l.o) (fun _ b=>.inl b) (F1:=[d])).a (bg.e (F:=[d]) _ (aC.2 rfl) _) (fun _ b=>.inl b)⟩⟩
     case measure=>simp[intOf];omega
   ·have HZ:Y (a=C∧f=H):=aj (by
     obtain⟨r,L⟩:=pE y h0
     have:=HA.o
     rw[Fv L]at this
     unfold fE at this
     rw[aL c0]at this
     simpa using this)
    have z0:f≤m:=by omega
    clear c0
    obtain⟨rfl,rfl⟩:=HZ.o
    have A:=aj (show wr.ownsRow w 93 3 (Z n c i) c (dx e)from bO I.o s.o.2 (fun h g b=>k.o.1.d (by rw[g,aC.1 b])))
    go_wp2_with fail
    refine(HD.o a _ W A.o).mono ?_
    rintro p S ⟨E,F,rfl,l⟩
    have G:Y (bH S d 238 #[Z n c i,f,T]):=aj (s.o.1.g (l.o.2.2 ((Z n c i).ownBlock.toList) (fun h g=>by rw[g];simp)) (fun b=>by
     cases t:(Z n c i).ownBlock with
     |none=>rw[t]at b;simp at b
     |some h=>rw[t]at b;simp at b;exact k.o.1.d (by rw[t,b])))
    obtain⟨j0,d1,d2⟩:=bH.n G.o
    have gf:=G.o.c
    clear g0 c1 c2
    go_wp2_with fail
    go_end0
    refine⟨rfl,⟨Z E (c-a) F,⟨?_,?_,?_⟩,by rw[y.o];exact l.o.2.1⟩,fun q o h2=>?_⟩
    ·have o:=G.o.f 0 (Z E (c-a) F)
     simp only[qB.b,k.o.2.1]
     exact o
    ·have o:=bO l.o.1 (bg.e (F:=[d]) S (p:=⟨d,0,O⟩) (aC.2 rfl) (Z E (c-a) F)) (fun h g b=>k.o.1.d (by rw[←l.o.2.1,g,aC.1 b]))
     simp only[qB.b,k.o.2.1]
     rw[bT,y.o]
     exact o
    ·rw[l.o.2.1];exact k.o.1.d
    ·refine((s.o.2.g (F1:=q) fun h g=>.inl (by rw[aC.1 g];exact o)).a (l.o.2.2 q (fun h g=>h2 h (by rw[y.o];exact g))) (fun _ b=>.inl b)).a (bg.e (F:=q) _ o _) (fun _ b=>.inl b)
  ·have HZ:Y (a=C∧f=H):=aj (by
    have:=HA.o
    rw[List.drop_of_length_le (by rw[y.o];omega)]at this
    unfold fE at this
    simpa using this)
   obtain⟨rfl,rfl⟩:=HZ.o
   have A:=aj (show wr.ownsRow w 93 3 (Z n c i) c (dx e)from bO I.o s.o.2 (fun h g b=>k.o.1.d (by rw[g,aC.1 b])))
   go_wp2_with fail
   refine(HD.o a _ W A.o).mono ?_
   rintro p S ⟨E,F,rfl,l⟩
   have G:Y (bH S d 238 #[Z n c i,f,T]):=aj (s.o.1.g (l.o.2.2 ((Z n c i).ownBlock.toList) (fun h g=>by rw[g];simp)) (fun b=>by
    cases t:(Z n c i).ownBlock with
    |none=>rw[t]at b;simp at b
    |some h=>rw[t]at b;simp at b;exact k.o.1.d (by rw[t,b])))
   obtain⟨j0,d1,d2⟩:=bH.n G.o
   have gf:=G.o.c
   clear g0 c1 c2
   go_wp2_with fail
   go_end0
   refine⟨rfl,⟨Z E (c-a) F,⟨?_,?_,?_⟩,by rw[y.o];exact l.o.2.1⟩,fun q o h2=>?_⟩
   ·have o:=G.o.f 0 (Z E (c-a) F)
    simp only[qB.b,k.o.2.1]
    exact o
   ·have o:=bO l.o.1 (bg.e (F:=[d]) S (p:=⟨d,0,O⟩) (aC.2 rfl) (Z E (c-a) F)) (fun h g b=>k.o.1.d (by rw[←l.o.2.1,g,aC.1 b]))
    simp only[qB.b,k.o.2.1]
    rw[bT,y.o]
    exact o
   ·rw[l.o.2.1];exact k.o.1.d
   ·refine((s.o.2.g (F1:=q) fun h g=>.inl (by rw[aC.1 g];exact o)).a (l.o.2.2 q (fun h g=>h2 h (by rw[y.o];exact g))) (fun _ b=>.inl b)).a (bg.e (F:=q) _ o _) (fun _ b=>.inl b)
def Rf {a:List Int}:∀(d e f:Nat) {b c:Int},Bq a d e f=(b,c,0)→0≤b∧b≤2147483647∧1≤c∧c≤a.length
 |0,e,f,b,c,a=>by unfold Bq at a;simp at a
 |d+1,e,f,b,c,a=>by
  unfold Bq at a
  split at a
  ·simp at a
  ·split at a
   ·exact Rf d _ _ a
   ·split at a
    ·simp at a
    ·simp only[Prod.mk.injEq]at a
     omega
def pF {b:List Int} {bits:Nat} (a:1≤bits) (e:bits≤8) {c d:Int} (a:om b bits=(c,d,0)):0≤c∧c≤2147483647∧1≤d∧d≤b.length:=by
 unfold om at a;rw[aL Y0]at a;split at a
 ·simp at a
 ·rename_i c;have d:1≤b.length:=by cases b with
   |nil=>exact absurd rfl c
   |cons c d=>simp
  split at a
  ·simp only[Prod.mk.injEq]at a;have:=Nat.mod_lt (b.getD 0 0).toNat (Nat.two_pow_pos bits);have b:2^bits≤2^8:=Nat.pow_le_pow_right (by omega) e;rw[bZ]at a;omega
  ·exact Rf _ _ _ a
def qA (b:List Int) (c:Int):(ByteArray×Bool)×Int×Int:=
 let a:=om b 7
 if a.2.2≠0 then((E0,false),0,a.2.2)
 else if a.1>c then((E0,false),0,9)
 else if a.1>(b.length:Int)-a.2.1 then((E0,false),0,3)
 else
  let c:=(b.drop a.2.1.toNat).take a.1.toNat
  if b.headD 0≥128 then(if(qd c).2≠0 then((E0,false),0,(qd c).2)else((strOfNums (qd c).1,true),a.2.1+a.1,0))
  else((strOfNums c,false),a.2.1+a.1,0)
def VY (a:(ByteArray×Bool)×Int×Int) (b:aB) (c:Ending) (d:aB):Prop:=c=av (aN #[aS #[aA a.1.1,a.1.2],a.2.1,a.2.2])∧aJ b b d
def ZG:∀a:Fin 256,(bits .and .u8 (a.1:Int) 128 !=0)=decide (128≤a.1):=by decide+kernel
def KJ (a:Int) (c:0≤a) (e:a≤255):(bits .and .u8 a 128 !=0)=decide (128≤a):=by obtain⟨d,rfl⟩:=bR c;have b:=ZG ⟨d,by omega⟩;dsimp only at b;rw[b];simp;omega
def iK {a:Nat} {c d:aB} (f:aJ a c d) {b:Nat} (e:a≤b) (g h:aI):aJ a c ((d.setCell ⟨b,0,O⟩ g).setCell ⟨b,1,O⟩ h):=dM (dM f e _) e _
set_option maxRecDepth 100000 in
def VZ (X:Option aX) (q f:Nat) (d:List Int) (r:Int) (D:aB) (hl:d.length=q) (hn:q≤100000) (n0:q≤f) (o0:0≤r) (s:bU D X (dP d)) (hb:gZ d):
  aF au 174 #[Z X q f,r] D (VY (qA d r) D):=by
 obtain⟨i,gk,t,P⟩:∃p0 n f,om d 7=(p0,n,f):=⟨_,_,_,rfl⟩;have HG:=aj (zaF X q f 7 d (D.alloc (.cells #[aA {data:=#[]},false] 259)) hl (s.h _) (by omega) (aj hb) i gk t (aj P));have a0:Y (qA d r=if t≠0 then((E0,false),0,t)else if i>r then((E0,false),0,9)else if i>(d.length:Int)-gk then((E0,false),0,3)else if d.headD 0≥128 then(if(qd ((d.drop gk.toNat).take i.toNat)).2≠0 then((E0,false),0,(qd ((d.drop gk.toNat).take i.toNat)).2)else((strOfNums (qd ((d.drop gk.toNat).take i.toNat)).1,true),gk+i,0))else((strOfNums ((d.drop gk.toNat).take i.toNat),false),gk+i,0)):=aj (by unfold qA;rw[P]);have g0:Y (t=0→0≤i∧i≤2147483647∧1≤gk∧gk≤d.length):=aj (fun y=>pF (bits:=7) (by omega) (by omega) (by rw[←y];exact P));have HS:=aj s;have Q:=aj hl;have h0:=aj hb;have u0:max r 0=r:=Int.max_eq_left o0;clear P s hl hb;go_enter func174,ntmps174;go_wp2_with fail;refine HG.o.mono ?_;rintro i0 o ⟨rfl,b0⟩;have u:=aj (gN (ay _ _) b0);have S:Y (bH o D 259 #[aA {data:=#[]},false]):=aj (bH.b (bH.d D _ _) b0);clear b0 HG;obtain⟨j,k⟩:=bH.m S.o;have T:=S.o.c;by_cases y:t=0
 ·obtain⟨k1,k2,k3,k4⟩:=g0.o y;have h:=a0;rw[aL (by omega)]at h;rw[Q.o]at h k4;have q0:(t !=0)=false:=by rw[y];rfl
  clear a0 g0;by_cases h1:i>r
  ·have a:=h;rw[aP h1]at a;go_wp2_with fail;exact aG (v:=aN #[aS #[aA E0,false],J U 0,J U 9]) (by simp[results,results174,go_sem,j,k]) rfl ⟨by rw[a.o],iK u.o (aD _) _ _⟩
  ·rw[aL h1]at h;have v0:(q:Int)-gk≤9223372036854775807:=by omega
   have w0: -9223372036854775808≤(q:Int)-gk:=by omega
   by_cases h2:i>(q:Int)-gk
   ·have a:=h;rw[aP h2]at a;go_wp2_with fail;exact aG (v:=aN #[aS #[aA E0,false],J U 0,J U 3]) (by simp[results,results174,go_sem,j,k]) rfl ⟨by rw[a.o],iK u.o (aD _) _ _⟩
   ·rw[aL h2]at h;obtain⟨c,rfl⟩:=bR (show 0≤gk by omega);obtain⟨l,rfl⟩:=bR k1;rw[bZ,bZ]at h;obtain⟨g,s⟩:=exq ((d.drop c).take l);rw[s]at h;obtain⟨b,E⟩:∃b,d[0]?=R b:=⟨_,aQ (by rw[Q.o];omega)⟩;have x:=h0.o b (bP E);have V:Y (d.headD 0=b):=aj (by cases d with
     |nil=>cases E
     |cons x0 y0=>injection E)
    obtain⟨n,p,rfl,c0⟩:=(HS.o.a u.o) 0 (J .u8 b) (by unfold dP;simp[E]);rw[dQ]at c0;have j0:Y (gZ g):=aj (by rw[←s];exact(h0.o.b c).a l);have k0:g.length=l:=by rw[←s,dw,bT,Q.o];omega
    have W:=aj k0;have l0:Y (bU o (if f=c then R ⟨n,p,O⟩else(R ⟨n,p,O⟩:Option aX).map (·.add c)) (dP g)):=aj (by have:=(bU.d (HS.o.a u.o) (k:=c) (n:=q) (c:=f) (by rw[gW];exact Q.o) n0).j l;unfold dP at this⊢;rw[←s,List.map_take,List.map_drop];exact this)
    clear E s k0;have z0:(c:Int)+l≤9223372036854775807:=by omega
    have A0:(c:Int)≤(c:Int)+l:=by omega
    have B0:(c:Int)+l≤(f:Int):=by omega
    have C0:c+l≤f:=by omega
    by_cases m0:f=c
    ·subst m0;have F:Y (bU o (R ⟨n,p,O⟩) (dP g)):=aj (by have:=l0.o;rwa[aP rfl]at this);have r0:l=0:=by omega
     subst r0;have d0:∀e,(convert 28 9 (Z (R ⟨n,p,O⟩) 0 0)).run au (o.drewN e)=.ok (aA (strOfNums g)) (o.drewN e):=fun e=>by have:=nY (P:=au) (w:=o.drewN e) (A:=(R ⟨n,p,O⟩)) (xs:=g) 0 28 5 9 underlying28 underlying5 underlying9 (F.o.c e);rw[W.o]at this;exact this
     by_cases m:128≤b
     ·have z:(bits .and .u8 b 128 !=0)=true:=by rw[KJ b x.1 x.2];exact cO m
      have e0:(bits .and .u8 b 128==0)=false:=by simpa using z
      have v:=h;rw[V.o,aP m]at v;have G:=fun e=>aj (xq (R ⟨n,p,O⟩) 0 0 g (o.drewN e) W.o (by omega) (by intro f0;cases f0) (F.o.c e) j0.o);obtain⟨⟨A,B⟩,H⟩:∃b,qd g=b:=⟨_,rfl⟩;rw[H]at G v;clear H m d0 h;go_wp2_with fail;go_quiet (fail);go_wp2_with fail;refine(G _).o.mono ?_;clear j k T c0;rintro i0 I ⟨A2,K,rfl,L,C⟩;have M:=aj (bG (bI u.o _) C);have N:=aj ((S.o.q _).b C);have s0:(convert 28 9 (Z A2 A.length K)).run au I=.ok (aA (strOfNums A)) I:=nY K 28 5 9 underlying28 underlying5 underlying9 (bU.e L);clear C L;obtain⟨j,k⟩:=bH.m N.o;have T:=N.o.c;dsimp only at*;by_cases w:B=0
      ·subst w;have a:=v;rw[aL (by decide)]at a;go_wp2_with fail;exact aG (v:=aN #[aS #[aA (strOfNums A),true],J U ((f:Int)+(0:Nat)),J U 0]) (by simp[results,results174,go_sem,j,k]) rfl ⟨by rw[a.o],iK M.o (aD _) _ _⟩
      ·have a:=v;rw[aP w]at a;have t0:(B !=0)=true:=by rw[bne_iff_ne];exact w
       clear w;go_wp2_with fail;exact aG (v:=aN #[aS #[aA E0,false],J U 0,B]) (by simp[results,results174,go_sem,j,k]) rfl ⟨by rw[a.o],iK M.o (aD _) _ _⟩
     ·have z:(bits .and .u8 b 128 !=0)=false:=by rw[KJ b x.1 x.2];exact dK m
      have e0:(bits .and .u8 b 128==0)=true:=by simpa using z
      have a:=h;rw[V.o,aL m]at a;clear m;go_wp2_with fail;go_quiet (fail);go_wp2_with fail;exact aG (v:=aN #[aS #[aA (strOfNums g),false],J U ((f:Int)+(0:Nat)),J U 0]) (by simp[results,results174,go_sem,j,k]) rfl ⟨by rw[a.o],iK (bI u.o _) (aD _) _ _⟩
    ·have F:Y (bU o (R ⟨n,p+c,O⟩) (dP g)):=aj (by have:=l0.o;rw[aL m0]at this;simpa[Addr.add_lit]using this);have d0:∀e,(convert 28 9 (Z (R ⟨n,p+c,O⟩) l (f-c))).run au (o.drewN e)=.ok (aA (strOfNums g)) (o.drewN e):=fun e=>by have:=nY (P:=au) (w:=o.drewN e) (A:=(R ⟨n,p+c,O⟩)) (xs:=g) (f-c) 28 5 9 underlying28 underlying5 underlying9 (F.o.c e);rw[W.o]at this;exact this
     by_cases m:128≤b
     ·have z:(bits .and .u8 b 128 !=0)=true:=by rw[KJ b x.1 x.2];exact cO m
      have e0:(bits .and .u8 b 128==0)=false:=by simpa using z
      have v:=h;rw[V.o,aP m]at v;have G:=fun e=>aj (xq (R ⟨n,p+c,O⟩) l (f-c) g (o.drewN e) W.o (by omega) (by intro f0;cases f0) (F.o.c e) j0.o);obtain⟨⟨A,B⟩,H⟩:∃b,qd g=b:=⟨_,rfl⟩;rw[H]at G v;clear H m d0 h;go_wp2_with fail;go_quiet (fail);go_wp2_with fail;refine(G _).o.mono ?_;clear j k T c0;rintro i0 I ⟨A2,K,rfl,L,C⟩;have M:=aj (bG (bI u.o _) C);have N:=aj ((S.o.q _).b C);have s0:(convert 28 9 (Z A2 A.length K)).run au I=.ok (aA (strOfNums A)) I:=nY K 28 5 9 underlying28 underlying5 underlying9 (bU.e L);clear C L;obtain⟨j,k⟩:=bH.m N.o;have T:=N.o.c;dsimp only at*;by_cases w:B=0
      ·subst w;have a:=v;rw[aL (by decide)]at a;go_wp2_with fail;exact aG (v:=aN #[aS #[aA (strOfNums A),true],J U ((c:Int)+l),J U 0]) (by simp[results,results174,go_sem,j,k]) rfl ⟨by rw[a.o],iK M.o (aD _) _ _⟩
      ·have a:=v;rw[aP w]at a;have t0:(B !=0)=true:=by rw[bne_iff_ne];exact w
       clear w;go_wp2_with fail;exact aG (v:=aN #[aS #[aA E0,false],J U 0,B]) (by simp[results,results174,go_sem,j,k]) rfl ⟨by rw[a.o],iK M.o (aD _) _ _⟩
     ·have z:(bits .and .u8 b 128 !=0)=false:=by rw[KJ b x.1 x.2];exact dK m
      have e0:(bits .and .u8 b 128==0)=true:=by simpa using z
      have a:=h;rw[V.o,aL m]at a;clear m;go_wp2_with fail;go_quiet (fail);go_wp2_with fail;exact aG (v:=aN #[aS #[aA (strOfNums g),false],J U ((c:Int)+l),J U 0]) (by simp[results,results174,go_sem,j,k]) rfl ⟨by rw[a.o],iK (bI u.o _) (aD _) _ _⟩
 ·have a:Y (qA d r=((E0,false),0,t)):=aj (by rw[a0.o,aP y]);have q0:(t !=0)=true:=by rw[bne_iff_ne];exact y
  clear y;go_wp2_with fail;exact aG (v:=aN #[aS #[aA E0,false],J U 0,t]) (by simp[results,results174,go_sem,j,k]) rfl ⟨by rw[a.o],iK u.o (aD _) _ _⟩
structure qB.c (t:qB):Prop where
 a:jM t.l
 b:t.d=nT t.l
 d:t.d≤t.a
 c:0≤t.a∧t.a≤2147483647
def qB.e (a:qB) (b:Fd):qB:=
 if nS b>a.a then a.b (Max.max (a.a-nS b) 0)
 else⟨(a.b (Max.max (a.a-nS b) 0)).l++[⟨b.n,b.v,false⟩],(a.b (Max.max (a.a-nS b) 0)).d+nS b,a.a⟩
def qB.g (a:qB) (b:Int):qB:=(⟨a.l,a.d,b⟩:qB).b b
def Fw (a b:List Fd):nT (a++b)=nT a+nT b:=by
 induction a with
 |nil=>simp[nT]
 |cons b c a=>simp[nT,a];omega
def qB.c.e {a:qB} (b:a.c) {m:Int} (d:0≤m):jM (a.b m).l∧(a.b m).d=nT (a.b m).l∧(a.b m).d≤m∧(a.b m).a=a.a:=by have c:=qY m d a.l a.d b.b;exact⟨fun a d=>b.a a (List.mem_of_mem_drop d),c.1.symm,c.2,rfl⟩
def qB.c.g {a:qB} (c:a.c) {b:Int} (d:0≤b) (f:b≤2147483647):(a.g b).c:=by have e:=qY b d a.l a.d c.b;exact⟨fun a b=>c.a a (List.mem_of_mem_drop b),e.1.symm,e.2,d,f⟩
def qB.c.h {b:qB} (c:b.c) {a:Fd} (h:a.n.size≤1000000) (i:a.v.size≤1000000):(b.e a).c:=by
 have d:=c.c;have e:=uX a;obtain⟨e,f,j,g⟩:=c.e (m:=Max.max (b.a-nS a) 0) Y0;unfold qB.e;split
 ·exact⟨e,f,by rw[g];omega,by rw[g];exact d⟩
 ·refine⟨fun c b=>?_,?_,?_,d⟩
  ·rcases bK.1 b with b|b
   ·exact e c b
   ·rw[aC.1 b];exact⟨h,i⟩
  ·dsimp only;rw[Fw,f];have:nS ⟨a.n,a.v,false⟩=nS a:=rfl;simp[nT,this]
  ·dsimp only;omega
def jX.f {e f:aB} {g a:Nat} {b:aI} {h:qB} {c:List Nat} (d:jX e g a b h) (i:bg c e f) (j:a∉c) (k:∀e,b.ownBlock=R e→e∉c):jX f g a b h:=⟨d.a.g i j,bO d.c i k,d.d⟩
def jX.e {a w':aB} {c d:Nat} {e:aI} {f:qB} (b:jX a c d e f) (g:aJ a a w'):jX w' c d e f:=⟨b.a.b g,dF b.c g,b.d⟩
def IZ (l c:Nat) (g:aI) (e:qB) (b:Int) (i:aB) (o:Bool) (m:bV b 0 2147483647=o) (a:jX i l c g e) (j:e.c):
  aF au 175 #[qp c,b] i fun f h=>if o=true then f=av (J U 0)∧(∃n,jX h l c n (e.g b)∧n.ownBlock=g.ownBlock)∧∀d,c∈d→(∀k,g.ownBlock=R k→k∈d)→bg d i h else f=av (J U 1)∧h=i:=by
 have p:=fun i=>qb m (Qj b i);cases o
 ·clear m j a;go_enter func175,ntmps175;go_wp2_with fail;refine mB ((p _).o) ?_;rintro q rfl;go_wp2;go_ret;exact Y5
 ·have o:0≤b∧b≤2147483647:=by unfold bV at m;simpa using m
  have r:Y (∀i,jX i l c g ⟨e.l,e.d,b⟩→aF au 207 #[qp c,b] i fun f h=>f=av (aN #[])∧Y ((∃n,jX h l c n (e.g b)∧n.ownBlock=g.ownBlock)∧∀d,c∈d→(∀k,g.ownBlock=R k→k∈d)→bg d i h)):=aj fun i n=>(zK l c g ⟨e.l,e.d,b⟩ b i n j.a j.b (by have:=j.d;have:=j.c;dsimp only;omega) o.1 Y0).mono fun f h a=>⟨a.1,aj a.2⟩
  have g:=aj a.a;have e:=aj a;have h:=a.a.c;obtain⟨h,i,l⟩:=bH.n a.a;clear m j a o;go_enter func175,ntmps175;go_wp2_with fail;refine mB ((p _).o) ?_;rintro q rfl;go_wp2_with fail;refine mB (r.o _ ⟨g.o.f 2 (J U b),bO e.o.c (bg.e (F:=[c]) _ (aC.2 rfl) _) (fun k b a=>e.o.d (by rw[b,aC.1 a])),e.o.d⟩) fun c b=>?_;go_wp2;go_ret;exact⟨rfl,b.o.1,fun d c e=>(bg.e (F:=d) _ c _).a (b.o.2 d c e) (fun _ a=>.inl a)⟩
def zcG {k w h l:aB} {u a b g i:Nat} {c:aI} {e:qB} {q j:Option aX} {r m n:Int} {o p:ByteArray} {v:Bool} {s:Obj} (d:jX k u a c e) (t:e.c∧nS ⟨o,p,v⟩=m∧max (e.a-m) 0=n) (x:aJ k k w)
  (y:(e.b n).l.length=b∧(e.b n).d=r∧(Z q b g).ownBlock=c.ownBlock∧(∀d,a∈d→(∀f,c.ownBlock=R f→f∈d)→bg d w h)∧(Z q b g).ownBlock≠R a) (w:m≤e.a) (w:a<k.heap.size)
  (z:bH l a 238 #[Z q b g,r,e.a])
  (A:l.ownsRow u 93 3 (Z j (b+1) i) (b+1) (dx (e.b n).l++[aA o,aA p,aO false])∧(h.drew.alloc s).grownBy l (Z q b g).ownBlock∧((Z j (b+1) i).ownBlock=(Z q b g).ownBlock∨(Z j (b+1) i).ownBlock=R (h.drew.alloc s).heap.size)):
  av (aN #[])=av (aN #[])∧(∃g,jX ((l.setCell ⟨a,0,O⟩ (Z j (b+1) i)).setCell ⟨a,1,O⟩ (J U (r+m))) u a g (e.e ⟨o,p,v⟩)∧(g.ownBlock=c.ownBlock∨∃f,g.ownBlock=R f∧k.heap.size≤f))∧∀d,a∈d→(∀f,c.ownBlock=R f→f∈d)→bg d k ((l.setCell ⟨a,0,O⟩ (Z j (b+1) i)).setCell ⟨a,1,O⟩ (J U (r+m))):=by
 obtain⟨B,C,u,w,D⟩:=y;obtain⟨E,F,g⟩:=A;have q:=x.size;have q:=(w (a::c.ownBlock.toList) Y1 (fun f q=>by rw[q];simp)).b;have A:k.heap.size≤(h.drew.alloc s).heap.size:=by simp;omega
 have y:(Z j (b+1) i).ownBlock≠R a:=by
  rcases g with g|g
  ·rw[g];exact D
  ·rw[g];intro c;injection c with c;omega
 have D:=(z.f 0 (Z j (b+1) i)).f 1 (J U (r+m));have z:bg [a] l ((l.setCell ⟨a,0,O⟩ (Z j (b+1) i)).setCell ⟨a,1,O⟩ (J U (r+m))):=(bg.e (F:=[a]) _ (aC.2 rfl) _).a (bg.e (F:=[a]) _ (aC.2 rfl) _) (fun _ c=>.inl c);refine⟨rfl,⟨Z j (b+1) i,⟨?_,?_,y⟩,?_⟩,fun d b a=>?_⟩
 ·unfold qB.e;rw[t.2.1,aL Y0,t.2.2,C];exact D
 ·have i:(e.e ⟨o,p,v⟩).l=(e.b n).l++[⟨o,p,false⟩]:=by unfold qB.e;rw[t.2.1,aL Y0,t.2.2]
  have a:=bO E z (fun f q c=>y (by rw[q,aC.1 c]));rw[i,bL,B];have i:dx ((e.b n).l++[⟨o,p,false⟩])=dx (e.b n).l++[aA o,aA p,aO false]:=by simp[dx]
  rw[i];exact a
 ·rcases g with g|g
  ·exact .inl (by rw[g];exact u)
  ·exact .inr ⟨_,g,A⟩
 ·have e:bg d k h:=(bg.d x).a (w d b a) (fun _ c=>.inl c);have g:bg d h (h.drew.alloc s):=(bg.l h).a (bg.n (F:=d) _ s) (fun _ c=>.inl c);have i:=bg.k F (fun f q=>.inl (a f (by rw[←u];exact q)));exact((e.a g (fun _ c=>.inl c)).a i (fun _ c=>.inl c)).a (z.g (F1:=d) fun f q=>.inl (by rw[aC.1 q];exact b)) (fun _ c=>.inl c)
set_option maxRecDepth 100000 in
def Wh (k d:Nat) (e:aI) (a:qB) (f:Fd) (i:aB) (b:jX i k d e a) (p:a.c) (t:f.n.size≤1000000) (r:f.v.size≤1000000) (c:k≤i.heap.size):
  aF au 177 #[qp d,aS #[aA f.n,aA f.v,f.a]] i fun g m=>g=av (aN #[])∧(∃n,jX m k d n (a.e f)∧(n.ownBlock=e.ownBlock∨∃c,n.ownBlock=R c∧i.heap.size≤c))∧∀j,d∈j→(∀c,e.ownBlock=R c→c∈j)→bg j i m:=by
 obtain⟨o,q⟩:=exq (nS f);obtain⟨h,u⟩:=exq (max (a.a-o) 0);have l:=uX f;have s:nS f≤2000032:=by unfold nS;omega
 rw[q]at l s;have l:=p.c;have B:0≤h∧h≤2147483647:=Y0;have v:Y (∀l,aF au 210 #[aS #[aA f.n,aA f.v,f.a]] l fun g m=>g=av o∧Y (aJ l l m)):=aj fun l=>(zC f l t r).mono fun g m b=>⟨by rw[b.1,q],aj b.2⟩;have w:Y (∀l,jX l k d e a→aF au 207 #[qp d,h] l fun g m=>g=av (aN #[])∧Y ((∃n,jX m k d n (a.b h)∧n.ownBlock=e.ownBlock)∧∀j,d∈j→(∀c,e.ownBlock=R c→c∈j)→bg j l m)):=aj fun l n=>(zK k d e a h l n p.a p.b (by have:=p.d;omega) B.1 Y0).mono fun g m b=>⟨b.1,aj b.2⟩
 have s:=aj b;have x:=aj (And.intro p (And.intro q u));have l:U.wrap (a.a-o)=a.a-o:=bF _ Y0;obtain⟨m,n,E⟩:=f;dsimp only at*;clear b p q t r;go_enter func177,ntmps177;go_wp2_with fail;refine mB (v.o _) fun y f=>?_;have z:Y (aJ i i y):=aj (gN (ay _ i) f.o);have l:=aj (s.o.e z.o);obtain⟨I,K,L⟩:=bH.n l.o.a;have M:Y (bH y i 93 #[aA m,aA n,E]):=aj (bH.b (bH.d i _ _) f.o);clear f;go_wp2_with fail;refine mB (w.o _ l.o) fun l F=>?_;obtain⟨⟨f,u,G⟩,C⟩:=F.o;obtain⟨p,q,rfl⟩:=dB u.c;obtain⟨f,t⟩:=exq ((a.b h).l.length);obtain⟨A,D⟩:=exq ((a.b h).d);have v:Y (bH l d 238 #[Z p f q,A,a.a]):=aj (by rw[←t,←D];exact u.a);obtain⟨w,H,N⟩:=bH.n v.o;have N:i.heap.size≠d:=fun g=>absurd s.o.a.e (by rw[←g];omega);have H:∀c,e.ownBlock=R c→i.heap.size≠c:=fun c w g=>by obtain⟨Q,S,P⟩:=dB s.o.c;subst P;exact absurd (s.o.c.lt c w).2 Y0
 have P:Y (bH l i 93 #[aA m,aA n,E]):=aj (M.o.g (C (d::e.ownBlock.toList) Y1 (fun c w=>by rw[w];simp)) (by
  intro b;rcases bA.1 b with b|b
  ·exact N b
  ·cases r:e.ownBlock with
   |none=>rw[r]at b;simp at b
   |some c=>rw[r]at b;simp at b;exact H c r b))
 obtain⟨i,r,E⟩:=bH.n P.o;have E:Y (l.ownsRow k 93 3 (Z p f q) f (dx (a.b h).l)):=aj (by have:=u.c;rw[t]at this;exact this);have i:Y ((a.b h).l.length=f∧(a.b h).d=A∧(Z p f q).ownBlock=e.ownBlock∧(∀j,d∈j→(∀c,e.ownBlock=R c→c∈j)→bg j y l)∧(Z p f q).ownBlock≠R d):=aj ⟨t,D,by rw[←G,t],C,by rw[←t];exact u.d⟩;have r:f≤134217728:=by have r:=(x.o.1.e B.1);have y:=rV (a.b h).l;omega
 clear F u G C I K L H t D;by_cases t:o>a.a
 ·go_wp2_with fail;refine aG (results_none rfl _ _ _) rfl ?_;refine⟨rfl,⟨Z p f q,?_,.inl i.o.2.2.1⟩,fun j r y=>(bg.d z.o).a (i.o.2.2.2.1 j r y) (fun _ b=>.inl b)⟩;obtain⟨_,j,u⟩:=x.o;unfold qB.e;rw[j,aP t,u];refine⟨by rw[i.o.2.1];exact v.o,by rw[i.o.1];exact E.o,i.o.2.2.2.2⟩
 ·have u:o≤a.a:=Y0;clear t;have j:=v.o.c;have j:U.wrap (A+o)=A+o:=by have r:=(x.o.1.e B.1);have y:=rV (a.b h).l;have j:=i.o.2.1;exact bF _ Y0
  have j:=(bH.n (v.o.h (.cells #[aA m,aA n,false] 93))).1;have mixed:Tryz.prog.follows .mixedOrders=true:=Y3;have o:Y ((l.drew.alloc (.cells #[aA m,aA n,false] 93)).ownsRow k 93 3 (Z p f q) f (dx (a.b h).l)):=aj (dF (nX E.o 1) ((ay _ _).alloc (aD _) _));have r:Y (bU (l.drew.alloc (.cells #[aA m,aA n,false] 93)) (R ⟨l,0,O⟩) [aA m,aA n,aO false]):=aj (fun j y t=>⟨_,_,rfl,by have:=(bH.d l.drew 93 #[aA m,aA n,false]).a j;rw[cK];refine Eq.trans this ?_;rw[←t];exact List.getElem?_toArray⟩)
  have t:k≤(l.drew.alloc (.cells #[aA m,aA n,false] 93)).heap.size:=by have:=z.o.size;have:=(i.o.2.2.2.1 (d::e.ownBlock.toList) Y1 (fun c w=>by rw[w];simp)).b;simp;omega
  go_wp2;go_region_law (refine jR rfl (.tmp 28) (.tmp 34) 50 rfl k 93 3 zD rfl Y2 underlying50 (Z p f q) f (dx (a.b h).l) (by simp[Act.eval,Act.put]) o.o (R ⟨l,0,O⟩) 1 1 [aA m,aA n,aO false] (by simp[Act.eval,Act.put]) rfl (fun b=>nomatch b) r.o (by simp[Value.oneCell']) (by unfold maxLen;omega) Y0 t ?_;intro y A B e c j;have d:=aj (bH.u ((bH.x v.o).h _) c (fun g=>i.o.2.2.2.2 g.symm));obtain⟨C,D,E⟩:=bH.n d.o;have F:=d.o.c;have w:=aj (And.intro e (And.intro c j));clear e c j);all_goals
   go_wp2;go_end0;exact zcG s.o x.o z.o i.o u s.o.a.e d.o w.o
def Rh:List Int:=[0,0,128,7,64,6,0,4,16,4,32,5]
structure lg (w:aB):Prop where
 e:bU w (R ⟨0,0,O⟩) (Rh.map (J U))
 f:∃m,w.cell? ⟨1,0,O⟩=R (J U m)
 b:2≤w.heap.size
def lg.a {a d:aB} (b:lg a) (c:aJ a a d):lg d:=by obtain⟨e,d⟩:=b.f;exact⟨b.e.a c,⟨e,(c.cell (p:=⟨1,0,O⟩) (bf a _ d)).trans d⟩,aR b.b c.size⟩
def lg.c {a:aB} (f:lg a):a.cell? ⟨0,0,O⟩=R (J U 0)∧a.cell? ⟨0,1,O⟩=R (J U 0)∧a.cell? ⟨0,2,O⟩=R (J U 128)∧a.cell? ⟨0,3,O⟩=R (J U 7)∧a.cell? ⟨0,4,O⟩=R (J U 64)∧a.cell? ⟨0,5,O⟩=R (J U 6)∧a.cell? ⟨0,6,O⟩=R (J U 0)∧a.cell? ⟨0,7,O⟩=R (J U 4)∧a.cell? ⟨0,8,O⟩=R (J U 16)∧a.cell? ⟨0,9,O⟩=R (J U 4)∧a.cell? ⟨0,10,O⟩=R (J U 32)∧a.cell? ⟨0,11,O⟩=R (J U 5):=by
 have b:∀(c:Nat) (d:Int),Rh[c]?=R d→a.cell? ⟨0,c,O⟩=R (J U d):=fun c d g=>by obtain⟨h,i,a,e⟩:=f.e c (J U d) (by rw[bS,g];rfl);injection a with a;injection a with a c;subst a c;rw[cK]at e;exact e
 exact⟨b 0 _ rfl,b 1 _ rfl,b 2 _ rfl,b 3 _ rfl,b 4 _ rfl,b 5 _ rfl,b 6 _ rfl,b 7 _ rfl,b 8 _ rfl,b 9 _ rfl,b 10 _ rfl,b 11 _ rfl⟩
def jr (a:Int):Int:=if 128≤a then 1 else if 64≤a then 2 else if 32≤a then 5 else if 16≤a then 4 else 3
def xu (a:Int):jr a=1∨jr a=2∨jr a=3∨jr a=4∨jr a=5:=by
 unfold jr;split
 ·exact .inl rfl
 ·split
  ·exact .inr (.inl rfl)
  ·split
   ·exact .inr (.inr (.inr (.inr rfl)))
   ·split
    ·exact .inr (.inr (.inr (.inl rfl)))
    ·exact .inr (.inr (.inl rfl))
def zcP (a:Int):∃b:Int→Int,jr a=b 6∧(128≤a∧64≤a∧32≤a∧16≤a∧b 1=3∧b 2=1∧b 3=1∧b 4=1∧b 5=1∧b 6=1∨(a<128∧decide (128≤a)=false)∧64≤a∧32≤a∧16≤a∧b 1=3∧b 2=3∧b 3=2∧b 4=2∧b 5=2∧b 6=2∨(a<128∧decide (128≤a)=false)∧(a<64∧decide (64≤a)=false)∧32≤a∧16≤a∧b 1=3∧b 2=3∧b 3=3∧b 4=3∧b 5=4∧b 6=5∨(a<128∧decide (128≤a)=false)∧(a<64∧decide (64≤a)=false)∧(a<32∧decide (32≤a)=false)∧16≤a∧b 1=3∧b 2=3∧b 3=3∧b 4=3∧b 5=4∧b 6=4∨(a<128∧decide (128≤a)=false)∧(a<64∧decide (64≤a)=false)∧(a<32∧decide (32≤a)=false)∧(a<16∧decide (16≤a)=false)∧b 1=3∧b 2=3∧b 3=3∧b 4=3∧b 5=3∧b 6=3):=by
 unfold jr;simp only[decide_eq_false_iff_not];by_cases c:128≤a
 ·exact⟨fun b=>[3,3,1,1,1,1,1].getD b.toNat 0,by simp only[aP c];rfl,.inl ⟨Y0,Y0,Y0,Y0,rfl,rfl,rfl,rfl,rfl,rfl⟩⟩
 by_cases d:64≤a
 ·exact⟨fun b=>[3,3,3,2,2,2,2].getD b.toNat 0,by simp only[aL c,aP d];rfl,.inr (.inl ⟨Y0,Y0,Y0,Y0,rfl,rfl,rfl,rfl,rfl,rfl⟩)⟩
 by_cases e:32≤a
 ·exact⟨fun b=>[3,3,3,3,3,4,5].getD b.toNat 0,by simp only[aL c,aL d,aP e];rfl,.inr (.inr (.inl ⟨Y0,Y0,Y0,Y0,rfl,rfl,rfl,rfl,rfl,rfl⟩))⟩
 by_cases f:16≤a
 ·exact⟨fun b=>[3,3,3,3,3,4,4].getD b.toNat 0,by simp only[aL c,aL d,aL e,aP f];rfl,.inr (.inr (.inr (.inl ⟨Y0,Y0,Y0,Y0,rfl,rfl,rfl,rfl,rfl,rfl⟩)))⟩
 exact⟨fun b=>[3,3,3,3,3,3,3].getD b.toNat 0,by simp only[aL c,aL d,aL e,aL f];rfl,.inr (.inr (.inr (.inr (⟨Y0,Y0,Y0,Y0,rfl,rfl,rfl,rfl,rfl,rfl⟩))))⟩
def Ri (a:Int) (h:aB) (b:0≤a) (b:a≤255) (o:Y (lg h)):aF au 171 #[J .u8 a] h fun b c=>b=av (J U (jr a))∧∃b,c=h.drewN b:=by
 obtain⟨p,l,q⟩:=zcP a;replace l:=aj l;rcases q with⟨a,i,j,k,c,d,e,f,g,b⟩|⟨⟨a,m⟩,i,j,k,c,d,e,f,g,b⟩|⟨⟨a,m⟩,⟨i,n⟩,j,k,c,d,e,f,g,b⟩|⟨⟨a,m⟩,⟨i,n⟩,⟨j,r⟩,k,c,d,e,f,g,b⟩|⟨⟨a,m⟩,⟨i,n⟩,⟨j,r⟩,⟨k,s⟩,c,d,e,f,g,b⟩
 all_goals
  replace c:=aj c;replace d:=aj d;replace e:=aj e;replace f:=aj f;replace g:=aj g;replace b:=aj b;go_enter func171,ntmps171;go_wp2;go_loopw [3,4] (fun k i wr=>∃a:Int,1≤a∧a≤6∧i=J U a∧k=J U (p a)∧∃j,wr=h.drewN j) (fun _ i _=>6- (intOf i).toNat);case atStart=>exact⟨1,Y0,Y0,rfl,by rw[c.o],0,rfl⟩
  case round=>
   obtain⟨a,m,n,rfl,rfl,j,rfl⟩:=hrel;obtain⟨q,r,s,t,u,v,w,x,y,z,A,B⟩:=o.o.c;obtain rfl|rfl|rfl|rfl|rfl|rfl:a=1∨a=2∨a=3∨a=4∨a=5∨a=6:=Y0
   rotate_right
   ·rw[b.o];go_wp2;go_ret;exact⟨by rw[l.o,b.o];rfl,j,rfl⟩
   all_goals
    first|rw[c.o]|rw[d.o]|rw[e.o]|rw[f.o]|rw[g.o]|rw[b.out]
    go_wp2;go_quiet (fail);go_wp2;go_roundw;case rel=>
     refine⟨_,?_,?_,rfl,?_,_,rfl⟩
     ·omega
     ·omega
     ·first|rw[c.o]|rw[d.o]|rw[e.o]|rw[f.o]|rw[g.o]|rw[b.o]
    case measure=>simp[intOf]
def agF (a:Fd):aI:=aS #[aA a.n,aA a.v,a.a]
def Fd.b:Fd:=⟨E0,E0,false⟩
def qB.f (a:qB) (b:Int):Fd×Bool:=if b<1∨b>a.l.length then(Fd.b,false)else(a.l.getD (a.l.length-b.toNat) Fd.b,true)
def CS (a:Fd×Bool) (b:aB) (c:Ending) (d:aB):Prop:=c=av (aN #[agF a.1,a.2])∧aJ b b d
def Wi (z d:Nat) (M:aI) (g:qB) (h:Int) (a:aB) (c:jX a z d M g) (N:g.l.length≤134217728):
  aF au 209 #[qp d,h] a (CS (g.f h) a):=by
 obtain⟨c0,w,P⟩:=dB c.c;subst P;obtain⟨b,i⟩:=exq g.l.length;have A:Y (∀m,aJ a a m→aF au 242 #[qp d] m fun e l=>e=av b∧l=m):=aj fun m Q=>Rj z d _ g m (aj (c.e Q)) b i;have HT:=aj c;rw[i]at N;by_cases n:h<1∨h>b
 ·have x:Y (g.f h=(Fd.b,false)):=aj (by unfold qB.f;rw[i,aP n]);clear c i;rw[x.o];by_cases h1:h<1
  ·clear n;go_enter func209,ntmps209;go_wp2_with fail;obtain⟨B,C,D⟩:=bH.n (bH.d a 93 #[aA {data:=#[]},aA {data:=#[]},false]);exact aG (v:=aN #[agF Fd.b,false]) (by simp[results,results209,go_sem,B,C,D];rfl) rfl ⟨rfl,(ay _ a).alloc (aD _) _⟩
  ·have h2:h>b:=by omega
   clear n;go_enter func209,ntmps209;go_wp2_with fail;refine(A.o _ ((ay _ a).alloc (aD _) _)).mono ?_;rintro e S ⟨rfl,rfl⟩;go_wp2_with fail;exact aG (v:=aN #[agF Fd.b,false]) (by simp[results,results209,go_sem];rfl) rfl ⟨rfl,(ay _ a).alloc (aD _) _⟩
 ·obtain⟨j,rfl⟩:=bR (show 0≤h by omega);have d0:1≤j:=by omega
  have e0:j≤b:=by omega
  obtain⟨s,y⟩:∃s,g.l[b-j]?=R s:=⟨_,aQ (by omega)⟩;have x:Y (g.f j=(s,true)):=aj (by unfold qB.f;rw[i,aL n,aY,bZ,y];rfl);obtain⟨o,p,q⟩:=s;obtain⟨f,C',T⟩:=eu c.c (by omega);injection T with V e2 e3;subst V;have t:=c.c;have k:=pq y;have u:=dF t ((ay _ a).alloc (aD _) (.cells #[aA {data:=#[]},aA {data:=#[]},false] 93));have f0:(a.alloc (.cells #[aA {data:=#[]},aA {data:=#[]},false] 93)).cell? ⟨d,0,O⟩=R (Z (R ⟨f,0,O⟩) b w):=by rw[←i];exact(c.a.h _).a 0
  have E:=dG u k.1;have F:=dG u k.2.1;have G:=dG u k.2.2;have v:=dF t ((ay _ a).alloc (aD _) (.cells #[aA o,aA p,q] 93));have g0:(a.alloc (.cells #[aA o,aA p,q] 93)).cell? ⟨d,0,O⟩=R (Z (R ⟨f,0,O⟩) b w):=by rw[←i];exact(c.a.h _).a 0
  have H:=dG v k.1;have I:=dG v k.2.1;have K:=dG v k.2.2;dsimp only at E F G H I K;obtain⟨B,C,D⟩:=bH.n (bH.d a 93 #[aA {data:=#[]},aA {data:=#[]},false]);have gf:=(bH.d a 93 #[aA {data:=#[]},aA {data:=#[]},false]).c;have W:¬f=a.heap.size:=fun e=>by have:=(t.lt f rfl).2;omega
  have X:¬d=a.heap.size:=fun e=>by have:=c.a.e;omega
  have h0:¬a.heap.size=f:=fun e=>W e.symm;have i0:¬a.heap.size=d:=fun e=>X e.symm;have a0:((b:Int)-j)=((b-j:Nat):Int):=by omega
  have b0:b-j<b:=by omega
  rw[x.o];obtain⟨r,L⟩:=exq (b-j);rw[L]at a0 E F G b0 H I K;have j0:U.wrap (r:Int)=r:=bF _ (by omega);clear c i n y k t u v L;go_enter func209,ntmps209;go_wp2_with fail;refine(A.o _ ((ay _ a).alloc (aD _) _)).mono ?_;rintro e S ⟨rfl,rfl⟩;go_wp2_with fail;go_region_held3 (fun l=>l.cell? ⟨d,0,O⟩=R (Z (R ⟨f,0,O⟩) b w)∧l.cell? ⟨f,r*3,O⟩=R (aA o)∧l.cell? ⟨f,r*3+1,O⟩=R (aA p)∧l.cell? ⟨f,r*3+2,O⟩=R (aO q)) (go_keep) (first|fail);go_wp2_with fail;exact aG (v:=aN #[aS #[aA o,aA p,q],true]) (by obtain⟨s0,s1,s2⟩:=bH.n (bH.d a 93 #[aA o,aA p,q]);simp[results,results209,go_sem,s0,s1,s2]) rfl ⟨rfl,bI ((ay _ a).alloc (aD _) _) 1⟩
structure Rp where
 k:Int
 i:Int
 c:ByteArray
 f:Bool
 d:ByteArray
 g:Bool
 e:Int
def Rp.a:Rp:=⟨0,0,E0,false,E0,false,0⟩
def xw (a:Int):Int:=if a=1 then 7 else if a=2 then 6 else if a=5 then 5 else 4
def zL (f e d:Int) (c:List Int):Rp×Int×Int:=
 let a:=if e>0 then((E0,false),(0:Int),(0:Int))else qA (c.drop d.toNat) c.length
 if a.2.2≠0 then(.a,0,a.2.2)else
 let b:=qA (c.drop (d+a.2.1).toNat) c.length
 if b.2.2≠0 then(.a,0,b.2.2)else(⟨f,e,a.1.1,a.1.2,b.1.1,b.1.2,0⟩,d+a.2.1+b.2.1,0)
def qZ (c:List Int):Rp×Int×Int:=
 if c=[]then(.a,0,3)else
 let b:=jr (c.headD 0)
 let a:=om c (xw b)
 if a.2.2≠0 then(.a,0,a.2.2)
 else if b=5 then({Rp.a with k:=b,e:=a.1},a.2.1,0)
 else if b=1 then(if a.1=0 then(.a,0,12)else({Rp.a with k:=b,i:=a.1},a.2.1,0))
 else zL b a.1 a.2.1 c
def iL:List ByteArray:=[{data:=#[58,97,117,116,104,111,114,105,116,121]},E0,{data:=#[58,109,101,116,104,111,100]},{data:=#[71,69,84]},{data:=#[58,109,101,116,104,111,100]},{data:=#[80,79,83,84]},{data:=#[58,112,97,116,104]},{data:=#[47]},{data:=#[58,112,97,116,104]},{data:=#[47,105,110,100,101,120,46,104,116,109,108]},{data:=#[58,115,99,104,101,109,101]},{data:=#[104,116,116,112]},{data:=#[58,115,99,104,101,109,101]},{data:=#[104,116,116,112,115]},{data:=#[58,115,116,97,116,117,115]},{data:=#[50,48,48]},{data:=#[58,115,116,97,116,117,115]},{data:=#[50,48,52]},{data:=#[58,115,116,97,116,117,115]},{data:=#[50,48,54]},{data:=#[58,115,116,97,116,117,115]},{data:=#[51,48,52]},{data:=#[58,115,116,97,116,117,115]},{data:=#[52,48,48]},{data:=#[58,115,116,97,116,117,115]},{data:=#[52,48,52]},{data:=#[58,115,116,97,116,117,115]},{data:=#[53,48,48]}]
def lW:List ByteArray:=[{data:=#[97,99,99,101,112,116,45,99,104,97,114,115,101,116]},{data:=#[97,99,99,101,112,116,45,101,110,99,111,100,105,110,103]},{data:=#[97,99,99,101,112,116,45,108,97,110,103,117,97,103,101]},{data:=#[97,99,99,101,112,116,45,114,97,110,103,101,115]},{data:=#[97,99,99,101,112,116]},{data:=#[97,99,99,101,115,115,45,99,111,110,116,114,111,108,45,97,108,108,111,119,45,111,114,105,103,105,110]},{data:=#[97,103,101]},{data:=#[97,108,108,111,119]},{data:=#[97,117,116,104,111,114,105,122,97,116,105,111,110]},{data:=#[99,97,99,104,101,45,99,111,110,116,114,111,108]},{data:=#[99,111,110,116,101,110,116,45,100,105,115,112,111,115,105,116,105,111,110]},{data:=#[99,111,110,116,101,110,116,45,101,110,99,111,100,105,110,103]},{data:=#[99,111,110,116,101,110,116,45,108,97,110,103,117,97,103,101]},{data:=#[99,111,110,116,101,110,116,45,108,101,110,103,116,104]},{data:=#[99,111,110,116,101,110,116,45,108,111,99,97,116,105,111,110]},{data:=#[99,111,110,116,101,110,116,45,114,97,110,103,101]},{data:=#[99,111,110,116,101,110,116,45,116,121,112,101]},{data:=#[99,111,111,107,105,101]},{data:=#[100,97,116,101]},{data:=#[101,116,97,103]},{data:=#[101,120,112,101,99,116]},{data:=#[101,120,112,105,114,101,115]},{data:=#[102,114,111,109]},{data:=#[104,111,115,116]},{data:=#[105,102,45,109,97,116,99,104]},{data:=#[105,102,45,109,111,100,105,102,105,101,100,45,115,105,110,99,101]},{data:=#[105,102,45,110,111,110,101,45,109,97,116,99,104]},{data:=#[105,102,45,114,97,110,103,101]},{data:=#[105,102,45,117,110,109,111,100,105,102,105,101,100,45,115,105,110,99,101]},{data:=#[108,97,115,116,45,109,111,100,105,102,105,101,100]},{data:=#[108,105,110,107]},{data:=#[108,111,99,97,116,105,111,110]},{data:=#[109,97,120,45,102,111,114,119,97,114,100,115]},{data:=#[112,114,111,120,121,45,97,117,116,104,101,110,116,105,99,97,116,101]},{data:=#[112,114,111,120,121,45,97,117,116,104,111,114,105,122,97,116,105,111,110]},{data:=#[114,97,110,103,101]},{data:=#[114,101,102,101,114,101,114]},{data:=#[114,101,102,114,101,115,104]},{data:=#[114,101,116,114,121,45,97,102,116,101,114]},{data:=#[115,101,114,118,101,114]},{data:=#[115,101,116,45,99,111,111,107,105,101]},{data:=#[115,116,114,105,99,116,45,116,114,97,110,115,112,111,114,116,45,115,101,99,117,114,105,116,121]},{data:=#[116,114,97,110,115,102,101,114,45,101,110,99,111,100,105,110,103]},{data:=#[117,115,101,114,45,97,103,101,110,116]},{data:=#[118,97,114,121]},{data:=#[118,105,97]},{data:=#[119,119,119,45,97,117,116,104,101,110,116,105,99,97,116,101]}]
def ENC:ByteArray:={data:=#[97,99,99,101,112,116,45,101,110,99,111,100,105,110,103]}
def GZ:ByteArray:={data:=#[103,122,105,112,44,32,100,101,102,108,97,116,101]}
def qj (a:Int):Fd×Bool:=
 if a<1∨a>61 then(Fd.b,false)
 else if a≤14 then(⟨iL.getD (2*(a.toNat-1)) E0,iL.getD (2*(a.toNat-1)+1) E0,false⟩,true)
 else(⟨lW.getD (a.toNat-15) E0,if(lW.getD (a.toNat-15) E0).toList==ENC.toList then GZ else E0,false⟩,true)
structure AO where
 a:List Fd
 b:List Int
 t:qB
def OP (c:qB) (a:Int):Fd×Int:=let b:=if a>61 then c.f (a-61)else qj a;if b.2 then(b.1,0)else(Fd.b,12)
def AO.c (a:AO) (b:Int):AO×Int:=if a.a.isEmpty then({a with b:=a.b++[b],t:=a.t.g b},0)else(a,13)
def AO.d (b:AO) (a:Rp):AO×Int:=
 let c:=if a.i>0 then OP b.t a.i else(⟨a.c,E0,false⟩,0)
 if c.2≠0 then(b,c.2)else
 let d:Fd:=if a.k=1 then c.1 else⟨c.1.n,a.d,a.k==4⟩
 ({a:=b.a++[d],b:=b.b,t:=if a.k=2 then b.t.e d else b.t},0)
def AO.e (b:AO) (a:Rp×Int×Int):AO×Int:=if a.2.2≠0 then(b,a.2.2)else if a.1.k=5 then b.c a.1.e else b.d a.1
def zM:Nat→List Int→AO→AO×Int
 |0,_,a=>(a,0)
 |d+1,b,a=>if b.isEmpty then(a,0)else
  let c:=a.e (qZ b)
  if c.2≠0 then c else zM d (b.drop (qZ b).2.1.toNat) c.1
def pG (b:qB) (c:List Int):AO×Int:=let a:=zM c.length c ⟨[],[],b⟩;if a.2≠0 then(⟨[],[],b⟩,a.2)else a
def iU (a b:Int):Bool:=a==4&& !zbX a b 1
structure As where
 b:Bool
 a:Fr
 c:List Int
def As.d:As:=⟨false,Fr.o,[]⟩
def jY (c:Int) (a:As) (b:Fr):As×Fr×Bool×Int:=
 if kE a.b a.a.b b.a b.b=false then(a,Fr.o,false,4)
 else if mg b.a=false then(a,Fr.o,false,0)
 else if c<(a.c.length:Int)+b.c.length then(a,Fr.o,false,9)
 else
  let c:=if a.b then a.a else b
  let d:=if a.b then a.c++b.c else b.c
  if zbX b.a b.d 4 then(.d,{c with c:=d},true,0)else(⟨true,c,d⟩,Fr.o,false,0)
structure Cf where
 a:Int
 b:Int
 c:Int
 e:Int
 d:Int
 f:Int
def Fx (a:Cf):Bool:=bV a.a 0 64&&bV a.b 1 1024&&bV a.c 0 1048576&&bV a.e 1 32&&bV a.d 0 64&&bV a.f 4096 1048576
structure yg where
 h:Bool
 d:Bool
 x:As
 t:qB
 i:Int
 e:Bool
 q:Qu
 c:List Int
 a:nG
 b:Pg
 f:Bool
 g:Int
def yg.j:yg:=⟨false,false,.d,⟨[],0,4096⟩,0,false,.j,[],.k,.g,false,0⟩
structure Co where
 a:Cf
 e:yg
 f:yg
 c:Int
 d:Int
 l:List Sm
def Co.g (a:Cf):Co:=⟨a,.j,.j,0,0,[]⟩
def Co.p (a:Co) (b:Int):yg:=if b=0 then a.e else a.f
def Co.b (a:Co) (c:Int) (b:yg):Co:=if c=0 then{a with e:=b}else{a with f:=b}
structure Rw where
 a:Int
 c:Int
 e:Int
 d:Int
 b:List Int
inductive MRw
|qr(r:Rw)(b:Bool)(A:Option Addr)(n:Nat)(c:Nat)
open MRw
instance {r:Rw}{b:Bool}{A:Option Addr}{n:Nat}{c:Nat}:CoeDep MRw (qr r b A n c) (Array Value):=⟨#[r.a,r.c,r.e,r.d,b,.slice A n c]⟩
structure Lk where
 r:Rw
 f:Fr
 w:Int×Int
 e:Bool
 g:Bool
 c:Bool
 a:Fr
 b:List Fd
 d:List Int
 h:Bool
def iN (b:Co) (a:Rw):Bool:=ko a.a&&(if a.c= -1 then a.a==0&& !b.e.h else !(a.a==0&& !b.e.h)&&gK a.b.length a.c a.e a.d)
def BD (a:Rw):Lk:=⟨a,Fr.o,(0,0),false,false,false,Fr.o,[],[],false⟩
def kM (b:yg) (a:Rw):Lk:={BD a with f:=(jK a.c a.e a.d a.b).1,w:=(jK a.c a.e a.d a.b).2,e:=kE b.x.b b.x.a.b a.c a.d}
def kN (d:Int) (c:yg) (b:Lk):yg×Lk:=
 if b.e=false∨b.w≠(0,0)∨c.d=false∧iU b.r.c b.r.e=false then(c,b)else
 let a:=jY d c.x b.f
 if a.2.2.2≠0 then({c with x:=a.1},{b with a:=a.2.1,c:=a.2.2.1,g:=true})
 else if a.2.2.1 then
  let d:=pG c.t a.2.1.c
  ({c with x:=a.1,t:=d.1.t},{b with a:=a.2.1,c:=true,b:=d.1.a,d:=d.1.b,h:=d.2 !=0})
 else({c with x:=a.1},{b with a:=a.2.1})
def fU (b:Co) (a:Rw):Co×Lk:=if a.c= -1 then(b,BD a)else(b.b a.a (kN b.a.c (b.p a.a) (kM (b.p a.a) a)).1,(kN b.a.c (b.p a.a) (kM (b.p a.a) a)).2)
def zN (c:Co) (a b:Int):Bool:=oL b&&(iw b==a&&Zj (c.p (1-a)).f (c.p (1-a)).g b)
def kH (b:Co) (a:Rw):Int×Bool:=if a.c= -1∨zN b a.a a.d=true∨(gu b.l a.d).k≠4 then(0,false)else(a.d,true)
def nC (a:Int):Int×Int:=if a≠0 then(3,a)else(1,0)
def jv (a:Bool) (b:Int):Int×Int:=if a then(1,0)else(3,b)
def Fy (a:Co) (b c d:Int) (e:Bool):Int×Int:=GX (gu a.l b).k (gu a.l b).o (gu a.l b).a (gu a.l b).b (gu a.l b).y c d e
def zbY (b:Co) (a:Rw) (c:Int) (d:Bool):Int×Int:=if zN b a.a c then(2,0)else Fy b c a.a (if a.c=9 then 1 else a.c) d
noncomputable def fM (b:Nat):Int:=open Classical in if c:∃a,Am a∧fw a=b then c.choose else 0
def lF {a:Nat} (b:∃c,Am c∧fw c=a):Am (fM a)∧fw (fM a)=a:=by unfold fM;rw[dif_pos b];exact b.choose_spec
def fG (a:List Sm) (b:Int):Sm×Bool:=match dY (lu a) b with
 |some b=>(a.getD b Sm.s,true)
 |none=>(Sm.s,false)
noncomputable def jV (b:Co) (a:Lk):Int×Int:=
 if iU a.r.c a.r.e=false then jv (decide ((b.p (1-a.r.a)).q.c<(b.p (1-a.r.a)).q.b)) 7
 else if(jw a.f.i a.r.a).2=false then(3,6)
 else if b.l.any (fun c=>(c.k==2||c.k==3)&&decide (lK (fM c.d) (fM c.e) (1-a.r.a) (oN (b.p a.r.a).q.e a.f.i).a>2147483647))then(3,8)else(1,0)
def zcb (a:Rw):Bool:=zbX a.c a.e 1
noncomputable def uY (b:Co) (a:Lk):Int×Int:=if zcb a.r&& !((b.p (1-a.r.a)).b.b a.f.c)then(2,0)else(1,0)
noncomputable def sM (b:Co) (a:Lk) (d:Bool):Int×Int:=
 let c:=if a.r.d=0 then(1,0)else zbY b a.r a.r.d d
 if c.1≠1 then c else
 if a.f.g=0 then(3,17)else
 jv (if a.r.d=0 then(iG b.c b.d (1-a.r.a) a.f.g 65535).2.2 else(iG (fM (fG b.l a.r.d).1.d) (fM (fG b.l a.r.d).1.e) (1-a.r.a) a.f.g (b.p a.r.a).q.e.a).2.2) 18
def tY (a:Rw):Bool:=zbX a.c a.e 1&&a.c==0
def Sm.u (a:Sm) (b:Int):Ta:=if b=0 then⟨a.f,a.g,a.h,a.i,a.j⟩else⟨a.l,a.m,a.n,a.p,a.q⟩
def Sm.t (b:Sm) (c:Int) (a:Ta):Sm:=if c=0 then{b with f:=a.a,g:=a.m,h:=a.p,i:=a.d,j:=a.l}else{b with l:=a.a,m:=a.m,n:=a.p,p:=a.d,q:=a.l}
noncomputable def kP (b:Co) (a:Lk) (d:Vl) (e:Bool):Int×Int:=
 let c:=zbY b a.r a.r.d e
 if c.1=3 then c else
 if(mh b.c b.d a.r.a a.r.b.length 65535).2.2=false then(3,19)else
 if c.1=2 then(2,0)else
 if(mh (fM (fG b.l a.r.d).1.d) (fM (fG b.l a.r.d).1.e) a.r.a a.r.b.length d.a).2.2=false then(3,20)else
 nC (((fG b.l a.r.d).1.u a.r.a).f a.f.c.length (tY a.r)).2
def mI (a:Lk):Bool:=zbX a.a.a a.a.d 1
def sZ (b:Co) (a:Lk):Ta:=if(fG b.l a.a.b).2 then(fG b.l a.a.b).1.u a.r.a else .b
def lN (b:Co) (a:Lk) (d:Vl) (e:Bool):Int×Int:=
 if zN b a.r.a a.a.b then(2,0)else
 let c:=Fy b a.a.b a.r.a 1 e
 if c.1≠1 then c else
 if(gu b.l a.a.b).k≠3∧(ji b.l a.r.a:Int)≥d.c then(3,24)else
 nC ((sZ b a).h a.b (mI a)).2.2
def je (b:Co) (a:Lk) (d:Vl) (e:Bool):Int×Int:=
 let c:=Fy b a.a.b a.r.a 5 e
 if c.1=3 then c else
 if d.e=0 then(3,21)else
 if oL a.a.e=false∨iw a.a.e≠1∨(gu b.l a.a.e).k≠0 then(3,23)else
 if zN b a.r.a a.a.e then(2,0)else nC (gD 3 a.b).2
def uZ:List Int→Int
 |[]=>0
 |a::b=>b.foldl max a
def iB (b:Co) (a:Lk) (c:Vl) (d:Bool):Int×Int:=
 if a.r.c=5∧a.r.a=0 then(3,35)else
 if a.c=false then(1,0)else
 if a.h then(3,25)else
 if(b.p a.r.a).e=true∧(a.d=[]∨a.d.headD 0>(b.p a.r.a).i)then(3,27)else
 if a.d≠[]∧uZ a.d>c.d then(3,26)else
 if a.a.a=5 then je b a c d else lN b a c d
noncomputable def iW (b:Co) (a:Lk) (d:Vl) (c:Bool):Int×Int:=
 if a.r.c=0 then kP b a d c else if a.r.c=2 then(2,0)else if a.r.c=3 then zbY b a.r a.r.d c
 else if a.r.c=4 then jV b a else if a.r.c=6 then uY b a else if a.r.c=7 then jv (Qi (b.p a.r.a).f (b.p a.r.a).g a.f.h) 9
 else if a.r.c=8 then sM b a c else iB b a d c
noncomputable def dV (b:Co) (a:Lk) (c:Vl) (d:Bool):Int×Int:=
 if a.r.c= -1 then jv (a.r.b==yY) 2
 else if(b.p a.r.a).d=false∧iU a.r.c a.r.e=false then(3,1)
 else if(a.r.b.length:Int)>c.b then(3,3)
 else if a.e=false then(3,4)
 else if tJ a.r.c=false then(2,0)
 else if a.w≠(0,0)then(3,5)else iW b a c d
def mR.c (a:Stt):mR:=⟨a.k,a.o,a.a,a.b,a.y⟩
def Sm.v (b:Sm) (a:mR):Sm:={b with k:=a.k,o:=a.o,a:=a.a,b:=a.b,y:=a.y}
def qC (c:Co) (b:Sm) (d:mR):Co:=
 let a:={c with l:=oM c.l (b.v d)}
 if b.k≠4∧d.k=4 then{a with e:={a.e with a:=a.e.a.j b.c},f:={a.f with a:=a.f.a.j b.c}}else a
noncomputable def pI (c:Co) (b:Lk):Co:=
 let a:=(fG c.l b.r.d).1
 let d:=mh (fM a.d) (fM a.e) b.r.a b.r.b.length 2147483647
 let e:=({a with d:=fw d.1,e:=fw d.2.1}:Sm).t b.r.a ((a.u b.r.a).f b.f.c.length (tY b.r)).1
 qC c e (if tY b.r then .c (gI a.k a.o a.a a.b a.y b.r.a)else a.r)
def jf (b:Co) (a:Lk):Co×Bool:=
 let c:=b.p a.r.a
 if iU a.r.c a.r.e then
  (if c.q.b-c.q.c≥b.a.e then(b,false)else(b.b a.r.a {c with q:=c.q.f a.f.i,c:=c.c++[(c.q.f a.f.i).e.d]},true))
 else
  let c:=b.p (1-a.r.a)
  let d:=c.c.headD 0
  let e:=b.b (1-a.r.a) {c with q:=c.q.h,c:=c.c.drop 1}
  let b:=e.p a.r.a
  (if d<b.t.a∧(b.e=false∨d<b.i)then e.b a.r.a {b with i:=d,e:=true}else e,true)
noncomputable def nU (b:Co) (a:Lk):Co×Bool:=
 if zcb a.r then(let c:=b.p (1-a.r.a);if c.b.b a.f.c then(b.b (1-a.r.a) {c with b:=c.b.f a.f.c},true)else(b,false))
 else let c:=b.p a.r.a;if c.b.n≥b.a.d then(b,false)else(b.b a.r.a {c with b:=c.b.e a.f.c},true)
noncomputable def mo (a:Co) (b:Lk):Co:=
 if b.r.d=0 then(let c:=iG a.c a.d (1-b.r.a) b.f.g 65535;{a with c:=c.1,d:=c.2.1})
 else
  let d:=(fG a.l b.r.d).1
  let c:=iG (fM d.d) (fM d.e) (1-b.r.a) b.f.g (a.p b.r.a).q.e.a
  {a with l:=oM a.l {d with d:=fw c.1,e:=fw c.2.1}}
def pJ (a:Co) (b:Lk):Co×Bool:=
 let c:Sm:=({Sm.s with c:=b.a.e,k:=2,o:=1}:Sm).t 1 (.i (gD 3 b.b).1.m)
 ({a with l:=nP a.l c a.a.b},Cj a.l c a.a.b==0)
def tq (d:Co) (b:Lk) (c:Sm) (a:Ta):Co:=
 let e:=c.t b.r.a a
 let a:mR:=if c.k=2 then⟨3,1,true,false,0⟩else c.r
 qC d e (if mI b then .c (gI a.k a.o a.a a.b a.y b.r.a)else a)
def kI (a:Co) (b:Lk):Co×Bool:=
 let d:=(sZ a b).h b.b (mI b)
 if(fG a.l b.a.b).2 then(tq a b (fG a.l b.a.b).1 d.1,true)else
 let c:Sm:=({Sm.s with c:=b.a.b,k:=3}:Sm).t 1 (.i d.2.1.m)
 if Cj a.l c a.a.b≠0 then({a with l:=nP a.l c a.a.b},false)else(tq {a with l:=nP a.l c a.a.b} b c d.1,true)
def lG (b:Co) (a:Lk):Co×Bool:=if a.c=false then(b,true)else if a.a.a=5 then pJ b a else kI b a
noncomputable def kQ (b:Co) (a:Lk):Co×Bool:=
 if a.r.c=0 then(pI b a,true)
 else if a.r.c=3 then(let c:=(fG b.l a.r.d).1;(qC b c (.c (mD c.k c.o c.a c.b c.y a.r.a)),true))
 else if a.r.c=4 then jf b a else if a.r.c=6 then nU b a
 else if a.r.c=7 then(let c:=b.p a.r.a;(b.b a.r.a (if Qi c.f c.g a.f.h then{c with f:=true,g:=a.f.h}else{c with f:=false,g:=0}),true))
 else if a.r.c=8 then(mo b a,true)
 else if a.r.c=1∨a.r.c=5∨a.r.c=9 then lG b a else(b,true)
noncomputable def nK (c:Co) (a:Lk) (d:Int):Co×Bool:=
 if a.g then(c,false)else
 let b:=if a.c then c.b a.r.a {c.p a.r.a with e:=false}else c
 if a.c=true∧a.d≠[]∧uZ a.d>c.a.f then(b,false)else
 let c:Co:=if a.r.c=0 then{b with c:=(mh b.c b.d a.r.a a.r.b.length 65535).1,d:=(mh b.c b.d a.r.a a.r.b.length 65535).2.1}else b
 if d=2 then(c,true)else kQ c a
noncomputable def KL (b:Co) (a:Lk) (d:Int):Co×Bool:=
 let c:=b.p a.r.a
 nK (b.b a.r.a {c with h:=true,d:=c.d||a.r.c != -1}) a d
def vg (a:List Int):List Int:=Lib.compact ((a.filter fun a=>bV a 1 35).mergeSort fun a b=>decide (a≤b))
abbrev Ft:=Int×Int
def ni (a:Ft):Bool:=(a.1==1||a.1==2)&&(decide (0≤a.2)&&decide (a.2≤4294967295))
def xS (a b:Ft):Bool:=decide (a.1<b.1)||(a.1==b.1&&decide (a.2≤b.2))
def eG (a:List Ft):List Ft:=Lib.compact ((a.filter ni).mergeSort xS)
def gB (a:Bool) (b:Int):List Ft:=[(if a then 2 else 1,b)]
def CU (a:Int):List Ft:=
 if a=14 then eG (gB true 5++gB false 5)else if a=16 then eG (gB true 5++gB true 1)
 else if a=20 then eG (gB true 3++gB false 3)else if a=24 then eG (gB false 1++gB false 7)else []
def wm (a:Rw):Bool:=a.c==1||(a.c==4||(a.c==5||(a.c==9||a.d==0)))
def CV (a:Rw):Bool:=gK a.b.length a.c a.e a.d
def BF (a:Rw):Ft:=if CV a then(jK a.c a.e a.d a.b).2 else(0,0)
def wo (a:Rw):Ft:=if CV a then(jw (jK a.c a.e a.d a.b).1.i a.a).1 else(0,0)
def iq (a:Int) (b:Rw):List Ft:=
 if a=3 then gB (wm b) 6 else if a=5 then eG [BF b]else if a=6 then eG [wo b]
 else if a=8∨a=19 then gB true 3 else if a=13∨a=15 then gB false 5
 else if a=14∨a=16∨a=20∨a=24 then CU a
 else if a=17 then gB (b.d==0) 1 else if a=18 then gB (b.d==0) 3
 else if a=25∨a=26∨a=27 then gB true 9
 else if 28≤a∧a≤34 then gB false 1
 else if bV a 1 35=false then []else gB true 1
structure Mo where
 c:Co
 a:Bool
structure Oc where
 k:Int
 a:List Ft
 b:List Int
 c:List Fd
def Oc.d:Oc:=⟨0,[],[],[]⟩
structure Jd where
 a:Int
 d:Bool
 c:List Int
 b:List Ft
def Jd.e:Jd:=⟨0,false,[],[]⟩
noncomputable def pK (e:Co) (c:Lk) (f:Vl) (d:Bool) (a:Jd):Jd×Bool:=
 let b:=dV e c f d
 if b.1=3 then({a with c:=vg (a.c++[b.2]),b:=eG (a.b++iq b.2 c.r)},false)else({a with a:=b.1,d:=a.d|| !d},true)
noncomputable def kR (b:Co) (c:Lk) (e:Bool) (d:Vl) (f:Jd):Jd×Bool:=
 let a:=pK b c d false f
 if e then(let e:=pK b c d true a.1;(e.1,a.2||e.2))else a
noncomputable def jZ (b:Co) (c:Lk) (d:Bool):List Vl→Jd→Jd×List Bool
 |[],a=>(a,[])
 |f::g,a=>let e:=kR b c d f a;let a:=jZ b c d g e.1;(a.1,e.2::a.2)
noncomputable def dH (b:Mo) (d:Rw):Mo×Oc×Int:=
 if b.a then(b,.d,8)else
 if iN b.c d=false then(b,.d,1)else
 let a:=fU b.c d
 let c:=kH a.1 d
 let e:=1-d.a
 let d:=c.2&&(a.1.p e).a.h a.1.a.a c.1
 let b:=jZ a.1 a.2 (c.2&&d) (a.1.p e).q.a .e
 if b.1.a=0 then(⟨a.1,true⟩,⟨3,b.1.b,b.1.c,[]⟩,0)else
 let d:=a.1.p e
 let f:={d with q:=d.q.g b.2,a:=if c.2&& !b.1.d then d.a.f a.1.a.a c.1 else d.a}
 let c:=KL (a.1.b e f) a.2 b.1.a
 if c.2=false then(⟨c.1,true⟩,⟨4,[],[],[]⟩,0)else(⟨c.1,false⟩,⟨if b.1.a=2 then 2 else 1,[],[],a.2.b⟩,0)
def Rs (a:Rp):Array aI:=#[a.k,a.i,aA a.c,a.f,aA a.d,a.g,a.e]
def rpV (a:Rp):aI:=aS #[a.k,a.i,aA a.c,a.f,aA a.d,a.g,a.e]
def Wn (a:Rp×Int×Int) (b:aB) (c:Ending) (d:aB):Prop:=c=av (aN #[rpV a.1,a.2.1,a.2.2])∧aJ b b d
def bH.r {a:aB} {b:Nat} {k:bB} {d e f g h i j:aI} (c:bH a b k #[d,e,f,g,h,i,j]):a.cell? ⟨b,0,O⟩=R d∧a.cell? ⟨b,1,O⟩=R e∧a.cell? ⟨b,2,O⟩=R f∧a.cell? ⟨b,3,O⟩=R g∧a.cell? ⟨b,4,O⟩=R h∧a.cell? ⟨b,5,O⟩=R i∧a.cell? ⟨b,6,O⟩=R j:=⟨c.a 0,c.a 1,c.a 2,c.a 3,c.a 4,c.a 5,c.a 6⟩
def Nr:∀(h:Array aI),h.size=7→∀a b c d e f g:aI,((((((h.setIfInBounds 0 a).setIfInBounds 1 b).setIfInBounds 2 c).setIfInBounds 3 d).setIfInBounds 4 e).setIfInBounds 5 f).setIfInBounds 6 g=#[a,b,c,d,e,f,g]:=by
 rintro⟨h⟩ i a b c d e f g;match h,i with
 |[_,_,_,_,_,_,_],_=>rfl
def Wo {c:aB} {a:Nat} {f:Array aI} (g:bH c a 261 f) (i:f.size=7) (b:Rp):∀d,d=(((((((c.setCell ⟨a,0,O⟩ (J U b.k)).setCell ⟨a,1,O⟩ (J U b.i)).setCell ⟨a,2,O⟩ (aA b.c)).setCell ⟨a,3,O⟩ (aO b.f)).setCell ⟨a,4,O⟩ (aA b.d)).setCell ⟨a,5,O⟩ (aO b.g)).setCell ⟨a,6,O⟩ (J U b.e))→bH d a 261 (Rs b)∧bg [a] c d:=by rintro d rfl;have d:∀(c:aB) (e:Nat) (h:aI),bg [a] c (c.setCell ⟨a,e,O⟩ h):=fun c e h=>bg.e (F:=[a]) (p:=⟨a,e,O⟩) c Y1 h;have e:∀h∈[a],h∈[a]∨c.heap.size≤h:=fun _ g=>.inl g;refine⟨?_,((((((d _ _ _).a (d _ _ _) e).a (d _ _ _) e).a (d _ _ _) e).a (d _ _ _) e).a (d _ _ _) e).a (d _ _ _) e⟩;have a:=((((((g.f 0 (J U b.k)).f 1 (J U b.i)).f 2 (aA b.c)).f 3 (aO b.f)).f 4 (aA b.d)).f 5 (aO b.g)).f 6 (J U b.e);rw[Nr f i]at a;exact a
def iC {c:Program} {h:Func} {i:Tmp} {d:bB} (k:h.results=#[.cell i d]) {e:Array aI} {a:aB} (f:Nat) {j:bB} {b:Array aI} {g:TypeDesc}
  (l:e.getD i bq=aK (R ⟨f,0,O⟩)) (i:bH a f j b) (m:c.underlying d=R g) (n:(match g with|.struct _|.array _ _=>true|_=>false)=true) (o:(c.info? d).map (·.size)=R b.size):
  (results h e).run c a=.ok (aS b) a:=results_cell_row k e a f j b (0,0) g l i m n o
def eH {f:Program} {i:Func} {g j:Tmp} {a:bB} (l:i.results=#[.cell g a,.tmp j]) {b:Array aI} {c:aB} (d:Nat) {k:bB} {e:Array aI} {h:TypeDesc}
  (m:b.getD g bq=aK (R ⟨d,0,O⟩)) (n:bH c d k e) (o:f.underlying a=R h) (p:(match h with|.struct _|.array _ _=>true|_=>false)=true) (q:(f.info? a).map (·.size)=R e.size):
  (results i b).run f c=.ok (aN #[aS e,b.getD j bq]) c:=by have f:b[g]?.getD bq=aK (R ⟨d,0,O⟩):=Y6 m;simp[results,l,f,asAddr,run_loadVar_row c d k a e (0,0) h n o p q]
def jo {e:Program} {h:Func} {f i j:Tmp} {a:bB} (l:h.results=#[.cell f a,.tmp i,.tmp j]) {tmps:Array aI} {b:aB} (c:Nat) {k:bB} {d:Array aI} {g:TypeDesc}
  (m:tmps.getD f bq=aK (R ⟨c,0,O⟩)) (n:bH b c k d) (o:e.underlying a=R g) (p:(match g with|.struct _|.array _ _=>true|_=>false)=true) (q:(e.info? a).map (·.size)=R d.size):
  (results h tmps).run e b=.ok (aN #[aS d,tmps.getD i bq,tmps.getD j bq]) b:=by have e:tmps[f]?.getD bq=aK (R ⟨c,0,O⟩):=Y6 m;simp[results,l,e,asAddr,run_loadVar_row b c k a d (0,0) g n o p q]
def yj {l:List Int} {most:Int} (a:(qA l most).2.2=0):0≤(qA l most).2.1∧(qA l most).2.1≤l.length:=by
 obtain⟨c,d,b,e⟩:∃c d b,om l 7=(c,d,b):=⟨_,_,_,rfl⟩;unfold qA at a⊢;simp only[e]at a⊢;by_cases c:b=0
 ·subst c;have b:=pF (bits:=7) Y2 Y2 e;split<;>simp_all;split<;>simp_all;split<;>simp_all;split<;>simp_all;split<;>simp_all;all_goals omega
 ·simp[c]at a
def FJ {e:List Int} {a c d:Int} (f:a=1∨a=2∨a=3∨a=4∨a=5) (b:om e (xw a)=(c,d,0)):0≤c∧c≤2147483647∧1≤d∧d≤e.length:=by
 rcases f with rfl|rfl|rfl|rfl|rfl
 ·exact pF (bits:=7) Y2 Y2 b
 ·exact pF (bits:=6) Y2 Y2 b
 ·exact pF (bits:=4) Y2 Y2 b
 ·exact pF (bits:=4) Y2 Y2 b
 ·exact pF (bits:=5) Y2 Y2 b
def Rp.b (b:Rp) (c:Bool) (a:ByteArray×Bool):Rp:=if c then{b with d:=a.1,g:=a.2}else{b with c:=a.1,f:=a.2}
def GN (c:List Int):List Bool→Int→Rp→Rp×Int×Int
 |[],a,d=>(d,a,0)
 |e::f,a,d=>let b:=qA (c.drop a.toNat) c.length;if b.2.2≠0 then(.a,0,b.2.2)else GN c f (a+b.2.1) (d.b e b.1)
def ZH (a:Int):List Bool:=if a>0 then [true]else [false,true]
def ZI (b a c:Int) (d:List Int):zL b a c d=GN d (ZH a) c {Rp.a with k:=b,i:=a}:=by
 unfold zL ZH;by_cases b:a>0
 ·simp only[b,if_true,GN,Rp.b];simp[Rp.a]
 ·simp only[b,if_false,GN,Rp.b];simp[Rp.a]
def Rt {c:aB} {g h b e a:Nat} {f:Option aX} {d:List Int} {i:ByteArray×Bool} {j k:Int} (m:(if e=a then(R ⟨g,h,O⟩:Option aX)else R ⟨g,h+a,O⟩)=f) (n:qA (d.drop a) b=(i,j,k)) (l:d.length=b) (o:b≤100000) (o:b≤e) (p:a≤b) (p:bU c (R ⟨g,h,O⟩) (dP d)) (g:gZ d):
  aF au 174 #[Z f (b-a) (e-a),J U (b:Nat)] c fun h q=>h=av (aN #[aS #[aA i.1,i.2],j,k])∧aJ c c q:=by
 have h:bU c f (dP (d.drop a)):=by have:=p.d (k:=a) (n:=b) (c:=e) (by rw[gW,l]) o;rw[←m];unfold dP at this⊢;rw[List.map_drop];simpa[Addr.add_lit]using this
 have:=VZ f (b-a) (e-a) (d.drop a) b c (by rw[bT,l]) Y0 Y0 Y0 h (g.b a);rw[n]at this;exact this
def wz {b:Nat} {c d:aB} {a e f:Nat} {g h:aI} {i:Obj} (j:aJ b c d) (k:b≤a) (l:b≤c.heap.size:=by exact Nat.le_refl _):aJ b c (((d.setCell ⟨a,e,O⟩ g).setCell ⟨a,f,O⟩ h).alloc i):=
 ((j.setCell (p:=⟨a,e,O⟩) k g).setCell (p:=⟨a,f,O⟩) k h).alloc (by have:=j.size;simp;omega) i
abbrev Z7:Array aI:=#[J U 0,J U 0,aA {data:=#[]},false,aA {data:=#[]},false,J U 0]
def Ns {b:aB} {a:Int} (c:lg b) (d:a=1∨a=2∨a=3∨a=4∨a=5):b.cell? ⟨0,a.toNat*2+1,O⟩=R (J U (xw a)):=by obtain⟨a,b,e,f,g,h,i,j,k,l,m,n⟩:=c.c;rcases d with rfl|rfl|rfl|rfl|rfl<;>assumption
def Ru (C0:Option aX) (g F:Nat) (g0:List Int) (a:aB) (hl:g0.length=g) (hn:g≤100000) (D0:g≤F) (h0:0<g) (hs:bU a C0 (dP g0)) (hb:gZ g0) (HG:Y (lg a)):
  aF au 134 #[Z C0 g F] a (Wn (qZ g0) a):=by
 obtain⟨f,m,rfl⟩:=List.exists_cons_of_length_pos (show 0<g0.length by omega);obtain⟨w0,E0⟩:=gU a 261 Z7;obtain⟨bb,oo,rfl,F0⟩:=(hs.h (.cells Z7 261)) 0 (J .u8 f) rfl;rw[dQ]at F0;have G0:=hb f (by simp);obtain⟨h,hk⟩:=exq (jr f);have HK:=aj (Ri f (a.alloc (.cells Z7 261)) G0.1 G0.2 (aj (HG.o.a w0)));rw[hk]at HK;have l1:((g:Int)==0)=false:=by simp;omega
 have P:(0:Int)<(g:Int):=by omega
 have H0:=aj w0;have I0:=aj E0;obtain⟨e,gk,ge,hg⟩:∃i0 W0 X0,om (f::m) (xw h)=(i0,W0,X0):=⟨_,_,_,rfl⟩;have a1:Y (∀f0,aJ a a f0→aF au 172 #[Z (R ⟨bb,oo,O⟩) g F,J U (xw h)] f0 fun y w'=>y=av (aN #[e,gk,ge])∧aJ f0 f0 w'):=aj fun f0 hW=>by have:=Ko (R ⟨bb,oo,O⟩) F (xw h) (f::m) f0 (hs.a hW) (by omega) hb;rw[hl,hg]at this;exact this
 have o:Y (qZ (f::m)=if ge≠0 then(.a,0,ge)else if h=5 then({Rp.a with k:=h,e:=e},gk,0)else if h=1 then(if e=0 then(.a,0,12)else({Rp.a with k:=h,i:=e},gk,0))else zL h e gk (f::m)):=aj (by unfold qZ;rw[aL (by simp)];simp only[List.headD_cons,hk,hg]);have b1:Y (ge=0→om (f::m) (xw h)=(e,gk,0)):=aj (fun a0=>by rw[hg,a0]);have Q:=aj hl;have HS:=aj hs;have HY:=aj hb;have j0:=aj (hk▸xu f);clear w0 E0 hs hb hl hk hg h0;go_enter func134,ntmps134;go_wp2_with fail;refine HK.o.mono ?_;rintro y w1 ⟨rfl,r0,rfl⟩;have K0:=aj (bI H0.o r0);have c1:=Ns (HG.o.a H0.o) j0.o;have m1:0≤h:=by have:=j0.o;omega
 have n1:h<6:=by have:=j0.o;omega
 have s0:=aj (gU ((a.alloc (.cells Z7 261)).drewN r0) 261 #[h,J U 0,aA {data:=#[]},false,aA {data:=#[]},false,J U 0]);obtain⟨W1,k0⟩:=exq ((((a.alloc (.cells Z7 261)).drewN r0).alloc (.cells #[h,J U 0,aA {data:=#[]},false,aA {data:=#[]},false,J U 0] 261)));have x0:Y (aJ a a W1):=aj (by rw[←k0];exact K0.o.trans (s0.o.1.mono K0.o.size));have y0:Y (bH W1 (a.heap.size+1) 261 #[h,J U 0,aA {data:=#[]},false,aA {data:=#[]},false,J U 0]):=aj (by rw[←k0];have:=s0.o.2;simpa using this);have L0:Y (bH W1 a 261 Z7):=aj (by rw[←k0];exact((I0.o.q r0).b s0.o.1));obtain⟨G,H,I,K,L,M,N⟩:=bH.r y0.o;have A0:=aj k0;clear F0 HK s0 k0 I0;go_wp2_with fail;refine(a1.o _ (by rw[A0.o];exact x0.o)).mono ?_;rintro y w ⟨rfl,l0⟩;rw[A0.o]at l0;have A:=aj (x0.o.trans (l0.mono x0.o.size));have b0:=aj (y0.o.b l0);have c0:=aj (L0.o.b l0);clear l0 c1 G H I K L M N y0 L0 A0 HG;obtain⟨G,H,I,K,L,M,N⟩:=bH.r b0.o;obtain⟨z0,z1,z2,z3,z4,z5,z6⟩:=bH.r c0.o;have gf:=c0.o.c;have gr:=b0.o.c;by_cases n:ge=0
 ·subst n;rw[aL (by decide)]at o;by_cases h5:h=5
  ·subst h5;rw[aP rfl]at o;go_wp2_with fail;have hr:=b0.o.f 6 (J U e);have hO:=bg.e (F:=[a.heap.size+1]) (p:=⟨a.heap.size+1,6,O⟩) w (by simp) (J U e);obtain⟨q,r⟩:=Wo (c0.o.i (p:=⟨a.heap.size+1,6,O⟩) (by simp) (J U e)) rfl {Rp.a with k:=5,e:=e} _ rfl;exact aG (jo results134 _ rfl q underlying261 rfl (by kernel_rfl)) rfl ⟨by rw[o.o];rfl,(A.o.trans (hO.c A.o.size (by simp))).trans (r.c (aR A.o.size hO.b) (by simp))⟩
  ·have n5:(h==5)=false:=aM.2 h5;rw[aL h5]at o;clear h5;by_cases h1:h=1
   ·subst h1;rw[aP rfl]at o;by_cases P:e=0
    ·subst P;rw[aP rfl]at o;go_wp2_with fail;obtain⟨q,r⟩:=Wo c0.o rfl .a _ rfl;exact aG (jo results134 _ rfl q underlying261 rfl (by kernel_rfl)) rfl ⟨by rw[o.o];rfl,A.o.trans (r.c A.o.size (by simp))⟩
    ·rw[aL P]at o;have bz:(e==0)=false:=aM.2 P;have HT:=fun a=>aj (EA 1 a);clear P;go_wp2_with fail;refine(HT _).o.mono ?_;rintro y w4 ⟨rfl,rfl⟩;have hr:=b0.o.f 1 (J U e);obtain⟨G,H,I,K,L,M,N⟩:=bH.r (show bH _ _ _ #[J U 1,e,aA {data:=#[]},false,aA {data:=#[]},false,J U 0]from hr);go_wp2_with fail;have hO:=bg.e (F:=[a.heap.size+1]) (p:=⟨a.heap.size+1,1,O⟩) w (by simp) (J U e);obtain⟨q,r⟩:=Wo (c0.o.i (p:=⟨a.heap.size+1,1,O⟩) (by simp) (J U e)) rfl {Rp.a with k:=1,i:=e} _ rfl;exact aG (jo results134 _ rfl q underlying261 rfl (by kernel_rfl)) rfl ⟨by rw[o.o];rfl,(A.o.trans (hO.c A.o.size (by simp))).trans (r.c (aR A.o.size hO.b) (by simp))⟩
   ·have o1:(h==1)=false:=aM.2 h1;rw[aL h1]at o;clear h1;rw[ZI]at o;have M0:zcf h=true:=by unfold zcf;rcases j0.o with a0|a0|a0|a0|a0<;>subst a0<;>simp_all
    have HT:=fun a=>aj (EA h a);rw[M0]at HT;have d1:=FJ j0.o (b1.o rfl);rw[Q.o]at d1;obtain⟨b,rfl⟩:=bR (show 0≤gk by omega);obtain⟨z,hR⟩:=exq (GN (f::m) (ZH e) b {Rp.a with k:=h,i:=e});rw[hR]at o;have t0:=aj hR;clear hR M0;have hr:=b0.o.f 1 (J U e);have N0:Y (bH (w.setCell ⟨a.heap.size+1,1,O⟩ (J U e)) (a.heap.size+1) 261 (Rs {Rp.a with k:=h,i:=e})):=aj hr;have P0:=aj (c0.o.i (p:=⟨a.heap.size+1,1,O⟩) (by simp) (J U e));have u0:Y (aJ a a (w.setCell ⟨a.heap.size+1,1,O⟩ (J U e))):=aj (A.o.setCell (by simp) _);obtain⟨Q0,y1,y2,y3,y4,y5,y6⟩:=bH.r (show bH _ _ _ #[h,e,aA {data:=#[]},false,aA {data:=#[]},false,J U 0]from hr);clear hr;by_cases P:e>0
    ·have m0:ZH e=[true]:=by unfold ZH;rw[aP P]
     rw[m0]at t0;clear m0;go_wp2_with fail;refine(HT _).o.mono ?_;rintro y w4 ⟨rfl,rfl⟩;go_wp2_with fail;have n0:=aj (gU (w.setCell ⟨a.heap.size+1,1,O⟩ (J U e)) 290 #[aK (R ⟨a.heap.size+1,2,O⟩),aK (R ⟨a.heap.size+1,4,O⟩)]);go_loopw [7,74] (fun B0 d0 wr=>∃(x b:Nat) (j:Rp),x≤1∧B0=J U (b:Nat)∧d0=J U (x:Nat)∧Y (GN (f::m) ([true].drop x) b j=z)∧Y (b≤g∧aJ a a wr∧bH wr (a.heap.size+1) 261 (Rs j)∧bH wr a 261 Z7∧bH wr w 290 #[aK (R ⟨a.heap.size+1,2,O⟩),aK (R ⟨a.heap.size+1,4,O⟩)])) (fun _ d0 _=>1- (intOf d0).toNat);case atStart=>exact⟨0,b,_,aZ _,rfl,rfl,t0,aj ⟨by omega,u0.o.trans (n0.o.1.mono u0.o.size),N0.o.h _,P0.o.h _,by simpa using n0.o.2⟩⟩
     case round=>
      obtain⟨x,b,j,hj,rfl,rfl,B,c⟩:=hrel;clear G H I K L M N Q0 y1 y2 y3 y4 y5 y6 z0 z1 z2 z3 z4 z5 z6 gf gr;have e1:a.heap.size+1<w.heap.size:=b0.o.e;obtain⟨p0,p1⟩:wr.cell? ⟨w,0,O⟩=R (aK (R ⟨a.heap.size+1,2,O⟩))∧wr.cell? ⟨w,1,O⟩=R (aK (R ⟨a.heap.size+1,4,O⟩)):=⟨c.o.2.2.2.2.a 0,c.o.2.2.2.2.a 1⟩;have f1:(0:Int)≤(b:Int):=by omega
      have g1:(b:Int)≤(g:Int):=by have:=c.o.1;omega
      have i1:(b:Int)≤(F:Int):=by omega
      have j1:(g:Int)≤(F:Int):=by omega
      obtain⟨d,S,p,u⟩:∃i0 i y,qA ((f::m).drop b) g=(i0,i,y):=⟨_,_,_,rfl⟩;obtain⟨o0,T⟩:∃o0:Option aX,(if F=b then R ⟨bb,oo,O⟩else R ⟨bb,oo+b,O⟩)=o0:=⟨_,rfl⟩;have v0:=aj (Rt T u Q.o hn D0 c.o.1 (HS.o.a c.o.2.1) HY.o);have e0:Y (p=0→0≤S∧S≤g-b):=aj (fun h0=>by have:=yj (l:=(f::m).drop b) (most:=g) (by rw[u];exact h0);rw[u,bT,Q.o]at this;have:=c.o.1;dsimp only at*;omega)
      obtain rfl|rfl:x=0∨x=1:=by omega
      ·have v:Y ((if p≠0 then((.a,0,p):Rp×Int×Int)else GN (f::m) [] (b+S) (j.b true d))=z):=aj (by rw[←B.o];simp only[List.drop,GN,bZ,Q.o,u]);clear B u;go_wp2_with fail;refine v0.o.mono ?_;rintro y k ⟨rfl,l⟩;have S0:a.heap.size+1<k.heap.size:=aV c.o.2.2.1.e l.size;have C:=aj (c.o.2.1.trans (l.mono c.o.2.1.size));have s:=aj (gU k 259 #[aA d.1,d.2]);have t:=aj (c.o.2.2.1.b l);have V:=aj (c.o.2.2.2.1.b l);have q0:=aj (c.o.2.2.2.2.b l);have W:=aj (t.o.b s.o.1);have D:=aj (V.o.b s.o.1);have X:=aj (C.o.trans (s.o.1.mono C.o.size));clear l T p0 p1;obtain⟨T0,v1⟩:(k.alloc (.cells #[aA d.1,d.2] 259)).cell? ⟨k,0,O⟩=R (aA d.1)∧(k.alloc (.cells #[aA d.1,d.2] 259)).cell? ⟨k,1,O⟩=R (aO d.2):=⟨s.o.2.a 0,s.o.2.a 1⟩;obtain⟨G,H,I,K,L,M,N⟩:=bH.r W.o;obtain⟨z0,z1,z2,z3,z4,z5,z6⟩:=bH.r D.o;have gf:=D.o.c;have gr:=W.o.c;have gq:=t.o.c;have q4:=t.o.a 4;have q5:=t.o.a 5;by_cases n:p=0
       ·subst n;rw[aL (by decide)]at v;obtain⟨i,rfl⟩:=bR (e0.o rfl).1;have hm:i≤g-b:=by have:=(e0.o rfl).2;have:=c.o.1;omega
        have V0:U.wrap ((b:Int)+(i:Int))=((b+i:Nat):Int):=by rw[bF _ (by omega)];omega
        have E:Y (GN (f::m) [] ((b+i:Nat):Int) (j.b true d)=z):=aj (by rw[←v.o];congr 1);go_wp2_with fail;go_roundw;case rel=>exact⟨1,b+i,j.b true d,by omega,by go_num,by go_num,E,aj ⟨by omega,wz C.o (by simp),((t.o.f 4 _).f 5 _).h _,((V.o.i (by simp) _).i (by simp) _).h _,((q0.o.i (by simp;omega) _).i (by simp;omega) _).h _⟩⟩
        case measure=>simp[intOf]
       ·have ne:(p !=0)=true:=by simpa using n
        have E:Y (z=(.a,0,p)):=aj (v.o.symm.trans (aP n));clear n;go_wp2_with fail;obtain⟨q,r⟩:=Wo D.o rfl .a _ rfl;exact aG (jo results134 _ rfl q underlying261 rfl (by kernel_rfl)) rfl ⟨by rw[o.o,E.o];rfl,X.o.trans (r.c X.o.size (by simp))⟩
      ·have v:Y (z=(j,(b:Int),0)):=aj B.o.symm;obtain⟨G,H,I,K,L,M,N⟩:=bH.r c.o.2.2.1;obtain⟨z0,z1,z2,z3,z4,z5,z6⟩:=bH.r c.o.2.2.2.1;have gf:=c.o.2.2.2.1.c;clear B u T p0 p1;go_wp2_with fail;obtain⟨q,r⟩:=Wo c.o.2.2.2.1 rfl j _ rfl;exact aG (jo results134 _ rfl q underlying261 rfl (by kernel_rfl)) rfl ⟨by rw[o.o,v.o];rfl,c.o.2.1.trans (r.c c.o.2.1.size (by simp))⟩
    ·have m0:ZH e=[false,true]:=by unfold ZH;rw[aL P]
     rw[m0]at t0;clear m0;go_wp2_with fail;refine(HT _).o.mono ?_;rintro y w4 ⟨rfl,rfl⟩;go_wp2_with fail;have n0:=aj (gU (w.setCell ⟨a.heap.size+1,1,O⟩ (J U e)) 290 #[aK (R ⟨a.heap.size+1,2,O⟩),aK (R ⟨a.heap.size+1,4,O⟩)]);go_loopw [7,74] (fun B0 d0 wr=>∃(x b:Nat) (j:Rp),x≤2∧B0=J U (b:Nat)∧d0=J U (x:Nat)∧Y (GN (f::m) ([false,true].drop x) b j=z)∧Y (b≤g∧aJ a a wr∧bH wr (a.heap.size+1) 261 (Rs j)∧bH wr a 261 Z7∧bH wr w 290 #[aK (R ⟨a.heap.size+1,2,O⟩),aK (R ⟨a.heap.size+1,4,O⟩)])) (fun _ d0 _=>2- (intOf d0).toNat);case atStart=>exact⟨0,b,_,aZ _,rfl,rfl,t0,aj ⟨by omega,u0.o.trans (n0.o.1.mono u0.o.size),N0.o.h _,P0.o.h _,by simpa using n0.o.2⟩⟩
     case round=>
      obtain⟨x,b,j,hj,rfl,rfl,B,c⟩:=hrel;clear G H I K L M N Q0 y1 y2 y3 y4 y5 y6 z0 z1 z2 z3 z4 z5 z6 gf gr;have e1:a.heap.size+1<w.heap.size:=b0.o.e;obtain⟨p0,p1⟩:wr.cell? ⟨w,0,O⟩=R (aK (R ⟨a.heap.size+1,2,O⟩))∧wr.cell? ⟨w,1,O⟩=R (aK (R ⟨a.heap.size+1,4,O⟩)):=⟨c.o.2.2.2.2.a 0,c.o.2.2.2.2.a 1⟩;have f1:(0:Int)≤(b:Int):=by omega
      have g1:(b:Int)≤(g:Int):=by have:=c.o.1;omega
      have i1:(b:Int)≤(F:Int):=by omega
      have j1:(g:Int)≤(F:Int):=by omega
      obtain⟨d,S,p,u⟩:∃i0 i y,qA ((f::m).drop b) g=(i0,i,y):=⟨_,_,_,rfl⟩;obtain⟨o0,T⟩:∃o0:Option aX,(if F=b then R ⟨bb,oo,O⟩else R ⟨bb,oo+b,O⟩)=o0:=⟨_,rfl⟩;have v0:=aj (Rt T u Q.o hn D0 c.o.1 (HS.o.a c.o.2.1) HY.o);have e0:Y (p=0→0≤S∧S≤g-b):=aj (fun h0=>by have:=yj (l:=(f::m).drop b) (most:=g) (by rw[u];exact h0);rw[u,bT,Q.o]at this;have:=c.o.1;dsimp only at*;omega)
      obtain rfl|rfl|rfl:x=0∨x=1∨x=2:=by omega
      ·have v:Y ((if p≠0 then((.a,0,p):Rp×Int×Int)else GN (f::m) [true] (b+S) (j.b false d))=z):=aj (by rw[←B.o];simp only[List.drop,GN,bZ,Q.o,u]);clear B u;go_wp2_with fail;refine v0.o.mono ?_;rintro y k ⟨rfl,l⟩;have S0:a.heap.size+1<k.heap.size:=aV c.o.2.2.1.e l.size;have C:=aj (c.o.2.1.trans (l.mono c.o.2.1.size));have s:=aj (gU k 259 #[aA d.1,d.2]);have t:=aj (c.o.2.2.1.b l);have V:=aj (c.o.2.2.2.1.b l);have q0:=aj (c.o.2.2.2.2.b l);have W:=aj (t.o.b s.o.1);have D:=aj (V.o.b s.o.1);have X:=aj (C.o.trans (s.o.1.mono C.o.size));clear l T p0 p1;obtain⟨T0,v1⟩:(k.alloc (.cells #[aA d.1,d.2] 259)).cell? ⟨k,0,O⟩=R (aA d.1)∧(k.alloc (.cells #[aA d.1,d.2] 259)).cell? ⟨k,1,O⟩=R (aO d.2):=⟨s.o.2.a 0,s.o.2.a 1⟩;obtain⟨G,H,I,K,L,M,N⟩:=bH.r W.o;obtain⟨z0,z1,z2,z3,z4,z5,z6⟩:=bH.r D.o;have gf:=D.o.c;have gr:=W.o.c;have gq:=t.o.c;have q4:=t.o.a 2;have q5:=t.o.a 3;by_cases n:p=0
       ·subst n;rw[aL (by decide)]at v;obtain⟨i,rfl⟩:=bR (e0.o rfl).1;have hm:i≤g-b:=by have:=(e0.o rfl).2;have:=c.o.1;omega
        have V0:U.wrap ((b:Int)+(i:Int))=((b+i:Nat):Int):=by rw[bF _ (by omega)];omega
        have E:Y (GN (f::m) [true] ((b+i:Nat):Int) (j.b false d)=z):=aj (by rw[←v.o];congr 1);go_wp2_with fail;go_roundw;case rel=>exact⟨1,b+i,j.b false d,by omega,by go_num,by go_num,E,aj ⟨by omega,wz C.o (by simp),((t.o.f 2 _).f 3 _).h _,((V.o.i (by simp) _).i (by simp) _).h _,((q0.o.i (by simp;omega) _).i (by simp;omega) _).h _⟩⟩
        case measure=>simp[intOf]
       ·have ne:(p !=0)=true:=by simpa using n
        have E:Y (z=(.a,0,p)):=aj (v.o.symm.trans (aP n));clear n;go_wp2_with fail;obtain⟨q,r⟩:=Wo D.o rfl .a _ rfl;exact aG (jo results134 _ rfl q underlying261 rfl (by kernel_rfl)) rfl ⟨by rw[o.o,E.o];rfl,X.o.trans (r.c X.o.size (by simp))⟩
      ·have v:Y ((if p≠0 then((.a,0,p):Rp×Int×Int)else GN (f::m) [] (b+S) (j.b true d))=z):=aj (by rw[←B.o];simp only[List.drop,GN,bZ,Q.o,u]);clear B u;go_wp2_with fail;refine v0.o.mono ?_;rintro y k ⟨rfl,l⟩;have S0:a.heap.size+1<k.heap.size:=aV c.o.2.2.1.e l.size;have C:=aj (c.o.2.1.trans (l.mono c.o.2.1.size));have s:=aj (gU k 259 #[aA d.1,d.2]);have t:=aj (c.o.2.2.1.b l);have V:=aj (c.o.2.2.2.1.b l);have q0:=aj (c.o.2.2.2.2.b l);have W:=aj (t.o.b s.o.1);have D:=aj (V.o.b s.o.1);have X:=aj (C.o.trans (s.o.1.mono C.o.size));clear l T p0 p1;obtain⟨T0,v1⟩:(k.alloc (.cells #[aA d.1,d.2] 259)).cell? ⟨k,0,O⟩=R (aA d.1)∧(k.alloc (.cells #[aA d.1,d.2] 259)).cell? ⟨k,1,O⟩=R (aO d.2):=⟨s.o.2.a 0,s.o.2.a 1⟩;obtain⟨G,H,I,K,L,M,N⟩:=bH.r W.o;obtain⟨z0,z1,z2,z3,z4,z5,z6⟩:=bH.r D.o;have gf:=D.o.c;have gr:=W.o.c;have gq:=t.o.c;have q4:=t.o.a 4;have q5:=t.o.a 5;by_cases n:p=0
       ·subst n;rw[aL (by decide)]at v;obtain⟨i,rfl⟩:=bR (e0.o rfl).1;have hm:i≤g-b:=by have:=(e0.o rfl).2;have:=c.o.1;omega
        have V0:U.wrap ((b:Int)+(i:Int))=((b+i:Nat):Int):=by rw[bF _ (by omega)];omega
        have E:Y (GN (f::m) [] ((b+i:Nat):Int) (j.b true d)=z):=aj (by rw[←v.o];congr 1);go_wp2_with fail;go_roundw;case rel=>exact⟨2,b+i,j.b true d,by omega,by go_num,by go_num,E,aj ⟨by omega,wz C.o (by simp),((t.o.f 4 _).f 5 _).h _,((V.o.i (by simp) _).i (by simp) _).h _,((q0.o.i (by simp;omega) _).i (by simp;omega) _).h _⟩⟩
        case measure=>simp[intOf]
       ·have ne:(p !=0)=true:=by simpa using n
        have E:Y (z=(.a,0,p)):=aj (v.o.symm.trans (aP n));clear n;go_wp2_with fail;obtain⟨q,r⟩:=Wo D.o rfl .a _ rfl;exact aG (jo results134 _ rfl q underlying261 rfl (by kernel_rfl)) rfl ⟨by rw[o.o,E.o];rfl,X.o.trans (r.c X.o.size (by simp))⟩
      ·have v:Y (z=(j,(b:Int),0)):=aj B.o.symm;obtain⟨G,H,I,K,L,M,N⟩:=bH.r c.o.2.2.1;obtain⟨z0,z1,z2,z3,z4,z5,z6⟩:=bH.r c.o.2.2.2.1;have gf:=c.o.2.2.2.1.c;clear B u T p0 p1;go_wp2_with fail;obtain⟨q,r⟩:=Wo c.o.2.2.2.1 rfl j _ rfl;exact aG (jo results134 _ rfl q underlying261 rfl (by kernel_rfl)) rfl ⟨by rw[o.o,v.o];rfl,c.o.2.1.trans (r.c c.o.2.1.size (by simp))⟩
 ·have ne:(ge !=0)=true:=by simpa using n
  have k1:Y (qZ (f::m)=(.a,0,ge)):=aj (o.o.trans (aP n));clear n;go_wp2_with fail;obtain⟨q,r⟩:=Wo c0.o rfl .a _ rfl;exact aG (jo results134 _ rfl q underlying261 rfl (by kernel_rfl)) rfl ⟨by rw[k1.o];rfl,A.o.trans (r.c A.o.size (by simp))⟩
end Go.Proofs.YtdcacpeaimjdlaaGreatDoor
