/- Part of the proof. -/
import Derived.Test.YtdcacpeaimjdlaaGreatDoorPap
import Derived.Deep.CutBlock
namespace Go.Proofs.YtdcacpeaimjdlaaGreatDoor
open Go.RowKit Go.Maps Go.Proofs.Tryz Mq MFr MRw
open Go.Value renaming int→J,slice→Z,string→aA,pointer→aK,bool→aO,tuple→aN,agg→aS,complex→aH
open Go.IntKind renaming i64→U
open Option renaming none→O,some→R
open Go.Ending renaming returned→av
open Go renaming World→aB,Value→aI,Calls→aF,Addr→aX,TypeId→bB,undef→bq
open Go.RowKit renaming Below→aJ
open Go.Proofs.Tryz renaming prog→au
open Go.FloatKind renaming f64→aW
set_option maxRecDepth 20000
set_option maxHeartbeats 0
set_option linter.all false
def bH.F {a:aB} {b:Nat} {q:bB} {d e f g h i j k l m n o p:aI} (c:bH a b q #[d,e,f,g,h,i,j,k,l,m,n,o,p]):a.cell? ⟨b,0,O⟩=R d∧a.cell? ⟨b,1,O⟩=R e∧a.cell? ⟨b,2,O⟩=R f∧a.cell? ⟨b,3,O⟩=R g∧a.cell? ⟨b,4,O⟩=R h∧a.cell? ⟨b,5,O⟩=R i∧a.cell? ⟨b,6,O⟩=R j∧a.cell? ⟨b,7,O⟩=R k∧a.cell? ⟨b,8,O⟩=R l∧a.cell? ⟨b,9,O⟩=R m∧a.cell? ⟨b,10,O⟩=R n∧a.cell? ⟨b,11,O⟩=R o∧a.cell? ⟨b,12,O⟩=R p:=⟨c.a 0,c.a 1,c.a 2,c.a 3,c.a 4,c.a 5,c.a 6,c.a 7,c.a 8,c.a 9,c.a 10,c.a 11,c.a 12⟩
def RL (g a b c:Int) (d:Bool) (h:Option aX) (e i:Nat) (f:aB):aF au 36 #[fO g a b c d h e i] f fun j k=>j=av (aS #[J U (e:Nat),a,b,c,d])∧aJ f f k:=by have j:=aj (sK f 30 97 (qs g a b c d h e i) #[J U (e:Nat),a,b,c,d]);obtain⟨k,l,m,n,o,p⟩:=bH.j (gU f 30 (qs g a b c d h e i)).2;unfold fO;go_enter func36,ntmps36;go_wp2_with fail;exact aG (iC results36 _ rfl j.o.2.2 underlying97 rfl Y3) rfl ⟨rfl,j.o.1⟩
def qD (a b c:Int) (d:List Int):(Fr×(Int×Int))×Int:=if gK d.length a b c then(jK a b c d,0)else((Fr.o,(0,0)),1)
def pR (a:(Fr×(Int×Int))×Int) (b:aB) (h:Ending) (c:aB):Prop:=
 ∃d e f g,h=av (aN #[Av a.1.1 d a.1.1.c.length e f a.1.1.i.length g,aS #[a.1.2.1,a.1.2.2],a.2])∧c.ownsRow b 5 1 (Z d a.1.1.c.length e) a.1.1.c.length (dP a.1.1.c)∧c.ownsRow b 252 2 (Z f a.1.1.i.length g) a.1.1.i.length (bN a.1.1.i)∧aJ b b c
def zY {c:Program} {n:Func} {j k o:Tmp} {d e:bB} (r:n.results=#[.cell j d,.cell k e,.tmp o]) {a:Array aI} {b:aB} {f g:Nat} {p q:bB} {h i:Array aI} {l m:TypeDesc}
  (s:a.getD j bq=aK (R ⟨f,0,O⟩)) (t:bH b f p h) (u:c.underlying d=R l) (v:(match l with|.struct _|.array _ _=>true|_=>false)=true) (w:(c.info? d).map (·.size)=R h.size)
  (x:a.getD k bq=aK (R ⟨g,0,O⟩)) (y:bH b g q i) (z:c.underlying e=R m) (A:(match m with|.struct _|.array _ _=>true|_=>false)=true) (B:(c.info? e).map (·.size)=R i.size):
  (results n a).run c b=.ok (aN #[aS h,aS i,a.getD o bq]) b:=by have c:a[j]?.getD bq=aK (R ⟨f,0,O⟩):=Y6 s;have j:a[k]?.getD bq=aK (R ⟨g,0,O⟩):=Y6 x;simp[results,r,c,j,asAddr,run_loadVar_row b f p d h (0,0) l t u v w,run_loadVar_row b g q e i (0,0) m y z A B]
structure RN (w wx:aB) (raw:Array aI):Prop where
 e:bH wx w 30 raw
 b:bH wx (w.heap.size+1) 137 Z13
 a:bH wx (w.heap.size+1+1) 91 #[J U 0,J U 0]
 d:aJ w w wx
def RN.c {d c e:aB} {f:Array aI} (a:RN d c f) (b:aJ c c e):RN d e f:=⟨a.e.b b,a.b.b b,a.a.b b,a.d.trans (b.mono a.d.size)⟩
def kp3 (a:aB) (b c d:bB) (e f g:Array aI):aJ a a (((a.alloc (.cells e b)).alloc (.cells f c)).alloc (.cells g d))∧bH (((a.alloc (.cells e b)).alloc (.cells f c)).alloc (.cells g d)) a.heap.size b e∧bH (((a.alloc (.cells e b)).alloc (.cells f c)).alloc (.cells g d)) (a.heap.size+1) c f∧bH (((a.alloc (.cells e b)).alloc (.cells f c)).alloc (.cells g d)) (a.heap.size+1+1) d g:=
 ⟨(((ay _ a).alloc (aD _) _).alloc Y1 _).alloc (by simp;omega) _,((bH.d a _ _).h _).h _,bH.w.h _,bH.A⟩
def CZ {a c:aB} {l d e:Array aI} {g:Act} {b:(Fr×(Int×Int))×Int} {h i:Option aX} {j k:Nat} (f:RN a c l) (m:g.defers=[]) (n:f56.results=#[.cell 2 137,.cell 3 91,.tmp 4])
  (o:g.tmps.getD 2 bq=aK (R ⟨a.heap.size+1,0,O⟩)) (p:g.tmps.getD 3 bq=aK (R ⟨a.heap.size+1+1,0,O⟩)) (q:g.tmps.getD 4 bq=J U b.2)
  (r:d.size=13∧e.size=2∧ aS d=Av b.1.1 h b.1.1.c.length j i b.1.1.i.length k∧ aS e=aS #[b.1.2.1,b.1.2.2]∧c.ownsRow (a.heap.size+1+1+1) 5 1 (Z h b.1.1.c.length j) b.1.1.c.length (dP b.1.1.c)∧c.ownsRow (a.heap.size+1+1+1) 252 2 (Z i b.1.1.i.length k) b.1.1.i.length (bN b.1.1.i)):
  bodyPost au f56 (pR b a) .ret g ((c.setRow (a.heap.size+1) d).setRow (a.heap.size+1+1) e):=by
 obtain⟨s,t,u,v,g,l⟩:=r;have r:bH ((c.setRow (a.heap.size+1) d).setRow (a.heap.size+1+1) e) (a.heap.size+1) 137 d:=(f.b.p _).s Y0 _;have w:bH ((c.setRow (a.heap.size+1) d).setRow (a.heap.size+1+1) e) (a.heap.size+1+1) 91 e:=(f.a.s Y0 _).p _;have b:bg [a.heap.size+1,a.heap.size+1+1] c ((c.setRow (a.heap.size+1) d).setRow (a.heap.size+1+1) e):=(bg.h (F:=[a.heap.size+1,a.heap.size+1+1]) c _ _ Y1).a (bg.h (F:=[a.heap.size+1,a.heap.size+1+1]) _ _ _ Y1) (fun _ f=>.inl f);refine aG (zY n o r underlying137 rfl (by rw[s];kernel_rfl) p w underlying91 rfl (by rw[t];kernel_rfl)) m ⟨h,j,i,k,by rw[u,v,q],?_,?_,f.d.trans (b.c f.d.size (by simp;omega))⟩
 ·exact dz (bO g b (fun a c d=>by have:=(g.lt a c).1;simp at d;omega)) Y0
 ·exact dz (bO l b (fun a c d=>by have:=(l.lt a c).1;simp at d;omega)) Y0
def Wx (c:aB) (a b:Nat) (d e f g h i j k l m n o p q r:aI):(((((((((((((((c.setCell ⟨a,0,O⟩ d).setCell ⟨a,1,O⟩ e).setCell ⟨a,2,O⟩ f).setCell ⟨a,3,O⟩ g).setCell ⟨a,4,O⟩ h).setCell ⟨a,5,O⟩ i).setCell ⟨a,6,O⟩ j).setCell ⟨a,7,O⟩ k).setCell ⟨a,8,O⟩ l).setCell ⟨a,9,O⟩ m).setCell ⟨a,10,O⟩ n).setCell ⟨a,11,O⟩ o).setCell ⟨a,12,O⟩ p).setCell ⟨b,0,O⟩ q).setCell ⟨b,1,O⟩ r)=(c.setCells a 0 [d,e,f,g,h,i,j,k,l,m,n,o,p]).setCells b 0 [q,r]:=by simp only[World.setCells]
def Wy {a c:aB} {h:Array aI} (e f:List aI) {g:Act} {b:(Fr×(Int×Int))×Int} {D S:Option aX} {dc sc:Nat} (d:RN a c h) (m:g.defers=[]) (n:f56.results=#[.cell 2 137,.cell 3 91,.tmp 4])
  (o:g.tmps.getD 2 bq=aK (R ⟨a.heap.size+1,0,O⟩)) (p:g.tmps.getD 3 bq=aK (R ⟨a.heap.size+1+1,0,O⟩)) (q:g.tmps.getD 4 bq=J U b.2)
  (k:e.length=13∧f.length=2∧ aS e.toArray=Av b.1.1 D b.1.1.c.length dc S b.1.1.i.length sc∧ aS f.toArray=aS #[b.1.2.1,b.1.2.2]∧c.ownsRow (a.heap.size+1+1+1) 5 1 (Z D b.1.1.c.length dc) b.1.1.c.length (dP b.1.1.c)∧c.ownsRow (a.heap.size+1+1+1) 252 2 (Z S b.1.1.i.length sc) b.1.1.i.length (bN b.1.1.i)):
  bodyPost au f56 (pR b a) .ret g ((c.setCells (a.heap.size+1) 0 e).setCells (a.heap.size+1+1) 0 f).drew:=by
 obtain⟨g,h,r,s,i,j⟩:=k;have k:bg [a.heap.size+1] c (c.setCells (a.heap.size+1) 0 e):=bg.f Y1 _ _ _;have l:bg [a.heap.size+1+1] (c.setCells (a.heap.size+1) 0 e) ((c.setCells (a.heap.size+1) 0 e).setCells (a.heap.size+1+1) 0 f):=bg.f Y1 _ _ _;have t:=(d.b.y e (by rw[g];rfl)).g l Y1;have u:=(d.a.g k Y1).y f (by rw[h];rfl);have b:bg [a.heap.size+1,a.heap.size+1+1] c ((c.setCells (a.heap.size+1) 0 e).setCells (a.heap.size+1+1) 0 f):=(k.g (F1:=[a.heap.size+1,a.heap.size+1+1]) (fun _ d=>.inl (by simp at d⊢;exact .inl d))).a l (fun _ d=>.inl (by simp at d⊢;exact .inr d));refine aG (zY n o t.x underlying137 rfl (by rw[List.size_toArray,g];kernel_rfl) p u.x underlying91 rfl (by rw[List.size_toArray,h];kernel_rfl)) m ⟨D,dc,S,sc,by rw[r,s,q],?_,?_,d.d.trans (b.c d.d.size (by simp;omega)).drew⟩
 ·exact World.ownsRow.drew (dz (bO i b (fun a c d=>by have:=(i.lt a c).1;simp at d;omega)) Y0)
 ·exact World.ownsRow.drew (dz (bO j b (fun a c d=>by have:=(j.lt a c).1;simp at d;omega)) Y0)
def wC (t c e f:Int) (q:Bool) (o:Option aX) (g u:Nat) (p:List Int) (a:aB) (K:p.length=g) (hn:g≤1000000) (X:o=O→g=0) (hs:bU a o (dP p)) (hb:gZ p):
  aF au 56 #[fO t c e f q o g u] a (pR (qD c e f p) a):=by
 have w:=aj (kp3 a 30 137 91 (qs t c e f q o g u) Z13 #[J U 0,J U 0]);have a0:Y (RN a _ _):=aj ⟨w.o.2.1,w.o.2.2.1,w.o.2.2.2,w.o.1⟩;have HO:=fun a=>aj (RL t c e f q o g u a);have HH:=fun a=>aj (Io g c e f q a);have L:=fun a=>aj (CW t c e f q o g u a);obtain⟨q1,B⟩:=exq (gK g c e f);obtain⟨q2,M⟩:=exq (rP c f);obtain⟨q3,N⟩:=exq (tK c e g);rw[B]at HH;rw[M]at L;have b:Y (qD c e f p=if q1 then((if q2=true then(if q3=true then lC c e f p else(Fr.o,(lV c,6)))else(Fr.o,(2,1))),0)else((Fr.o,(0,0)),1)):=aj (by unfold qD jK;rw[K,B,M,N]);have HB:=aj hb;have n0:=aj hs;have b0:=aj (And.intro K X);have P:=aj (And.intro B N);obtain⟨i,j,k,l,m,n⟩:=bH.j w.o.2.1;clear B M N K X hs hb;unfold fO at HO L⊢;go_enter func56,ntmps56;go_wp2_with fail;refine(HO _).o.mono ?_;rintro r w1 ⟨rfl,c0⟩;have d0:=aj (a0.o.c c0);clear c0 i j k l m n;go_wp2_with fail;refine(HH _).o.mono ?_;rintro r w2 ⟨rfl,e0⟩;have C:=aj (d0.o.c e0);clear e0 d0 a0;obtain⟨i,j,k,l,m,n⟩:=bH.j C.o.e;cases q1
 ·have h:=aj C.o;go_wp2_with (first|refine wpList_store_row rfl 137 (.tmp 2) (.tmp 12) rfl (a.heap.size+1) Z13 rfl rfl 137 Z13 h.o.b (by kernel_rfl) rfl (by kernel_rfl) ?_ |refine wpList_store_row rfl 91 (.tmp 3) (.tmp 13) rfl (a.heap.size+1+1) #[J U 0,J U 0] rfl rfl 91 #[J U 0,J U 0] (h.o.a.s (by omega) _) (by kernel_rfl) rfl (by kernel_rfl) ?_);exact CZ h.o rfl results56 rfl rfl (by rw[b.o];rfl) ⟨rfl,rfl,by rw[b.o];rfl,by rw[b.o];rfl,by rw[b.o];exact aT _ _ _ _,by rw[b.o];exact aT _ _ _ _⟩
 ·go_wp2_with fail;refine(L _).o.mono ?_;rintro r w4 ⟨rfl,f0⟩;have D:=aj (C.o.c f0);clear f0 i j k l m n C;obtain⟨i,j,k,l,m,n⟩:=bH.j D.o.e;cases q2
  ·go_wp2_with fail;refine(rW 2 1 _).mono ?_;rintro r E ⟨rfl,x⟩;have h:=aj (D.o.c x);clear x i j k l m n;go_wp2_with (first|refine wpList_store_row rfl 137 (.tmp 2) (.tmp 18) rfl (a.heap.size+1) Z13 rfl rfl 137 Z13 h.o.b (by kernel_rfl) rfl (by kernel_rfl) ?_ |refine wpList_store_row rfl 91 (.tmp 3) (.tmp 19) rfl (a.heap.size+1+1) #[J U 2,J U 1] rfl rfl 91 #[J U 0,J U 0] (h.o.a.s (by omega) _) (by kernel_rfl) rfl (by kernel_rfl) ?_);exact CZ h.o rfl results56 rfl rfl (by rw[b.o];rfl) ⟨rfl,rfl,by rw[b.o];rfl,by rw[b.o];rfl,by rw[b.o];exact aT _ _ _ _,by rw[b.o];exact aT _ _ _ _⟩
  ·have g0:e≤9223372036854775807:=by have y:=P.o.1;unfold gK bV at y;simp at y;omega
   have Q:=fun a=>aj (Np t c e f q o g u a g0);rw[P.o.2]at Q;unfold fO at Q;go_wp2_with fail;refine(Q _).o.mono ?_;rintro r E ⟨rfl,x⟩;have z:=aj (D.o.c x);clear x i j k l m n D;obtain⟨i,j,k,l,m,n⟩:=bH.j z.o.e;cases q3
   ·go_wp2_with fail;refine(BG c _).mono ?_;rintro r w6 ⟨rfl,rfl⟩;go_wp2_with fail;refine(rW (lV c) 6 _).mono ?_;rintro r S ⟨rfl,A⟩;have h:=aj (z.o.c A);clear A i j k l m n;go_wp2_with (first|refine wpList_store_row rfl 137 (.tmp 2) (.tmp 24) rfl (a.heap.size+1) Z13 rfl rfl 137 Z13 h.o.b (by kernel_rfl) rfl (by kernel_rfl) ?_ |refine wpList_store_row rfl 91 (.tmp 3) (.tmp 28) rfl (a.heap.size+1+1) #[J U (lV c),J U 6] rfl rfl 91 #[J U 0,J U 0] (h.o.a.s (by omega) _) (by kernel_rfl) rfl (by kernel_rfl) ?_);exact CZ h.o rfl results56 rfl rfl (by rw[b.o];rfl) ⟨rfl,rfl,by rw[b.o];rfl,by rw[b.o];rfl,by rw[b.o];exact aT _ _ _ _,by rw[b.o];exact aT _ _ _ _⟩
   ·have h6:c=4→g%6=0:=by rintro rfl;have y:=P.o.2;unfold tK at y;cases hq:zbX 4 e 1<;>simp[hq]at y<;>omega
    obtain⟨⟨d,h0,i0⟩,hx⟩:∃o0,lC c e f p=o0:=⟨_,rfl⟩;have T:=aj (Je t c e f q o g u p E b0.o.1 hn b0.o.2 (n0.o.a z.o.d) HB.o g0 h6);rw[hx]at T b;unfold fO at T;clear hx h6;go_wp2_with fail;refine T.o.mono ?_;rintro r S ⟨F,G,H,I,rfl,j0,k0,A⟩;have v:=aj (z.o.c A);have l0:=aj (And.intro j0 k0);have p0:Y (a.heap.size+1+1<E.heap.size):=aj z.o.a.e;clear j0 k0 A i j k l m n;obtain⟨dn,V⟩:=exq d.c.length;obtain⟨sn,W⟩:=exq d.i.length;have m0:=aj (And.intro V W);unfold Av;dsimp only;rw[V,W];clear V W;have s:=aj (sK S 137 91 (qf d F dn G H sn I) #[h0,i0]);have t0:a.heap.size+1+1<S.heap.size:=v.o.a.e;obtain⟨z0,z1,z2,z3,z4,z5,z6,z7,z8,z9,q0,r0,s0⟩:_∧_:=bH.F (v.o.b.b s.o.1);obtain⟨y0,y1⟩:=bH.m (v.o.a.b s.o.1);have gz:=(v.o.b.b s.o.1).c;have gy:=(v.o.a.b s.o.1).c;have mixed:Tryz.prog.follows .mixedOrders=true:=by kernel_rfl
    go_wp2_with fail;go_region_law (first|fail);all_goals
     clear z0 z1 z2 z3 z4 z5 z6 z7 z8 z9 q0 r0 s0 y0 y1 gz gy;go_wp2_with fail;have hw:a.heap.size+1+1+1≤E.heap.size:=p0.o;have hP:=v.o.c s.o.1;rw[Wx];refine Wy [J U d.a,J U d.d,J U d.b,J U d.f,Z F dn G,Z H sn I,J U d.k,J U d.l,aO d.m,J U d.e,J U d.h,J U d.j,J U d.g] [J U h0,J U i0] (D:=F) (dc:=G) (S:=H) (sc:=I) hP rfl results56 rfl rfl (by rw[b.o];rfl) ⟨rfl,rfl,?_,by rw[b.o];rfl,?_,?_⟩
     ·rw[b.o];show _=Av d F d.c.length G H d.i.length I
      rw[m0.o.1,m0.o.2];rfl
     ·rw[b.o];exact dz (dF l0.o.1 s.o.1) hw
     ·rw[b.o];exact dz (dF l0.o.2 s.o.1) hw
structure RH (w:aB) (d tb:Nat) (v:aI) (t:qB) (F:List Nat):Prop where
 a:bH w d 193 #[qp tb]
 f:jX w 0 tb v t
 c:d∈F∧tb∈F
 h:∀r,v.ownBlock=R r→r∈F
 e:∀b∈F,b<w.heap.size
def zW (w:aB) (d:Nat) (t:qB) (F:List Nat):Prop:=∃tb v,RH w d tb v t F
section
variable {w w':aB} {d tb:Nat} {v:aI} {t:qB} {F F1:List Nat}
def RH.i (a:RH w d tb v t F) (b:bg F1 w w') (hF:∀c∈F,c∉F1):RH w' d tb v t F:=
 ⟨a.a.g b (hF d a.c.1),a.f.f b (hF tb a.c.2) (fun e f=>hF e (a.h e f)),a.c,a.h,fun c e=>aV (a.e c e) b.b⟩
def RH.g (a:RH w d tb v t F) (b:aJ w w w'):RH w' d tb v t F:=a.i (F1:=[]) (bg.d b) (fun _ _=>by simp)
def zW.b (a:zW w d t F) (b:bg F1 w w') (hF:∀c∈F,c∉F1):zW w' d t F:=by obtain⟨tb,v,a⟩:=a;exact⟨tb,v,a.i b hF⟩
def zW.c (a:zW w d t F) (b:aJ w w w'):zW w' d t F:=a.b (F1:=[]) (bg.d b) (fun _ _=>by simp)
end
def zaW (w:aB) (a:Ending) (w':aB):Prop:=∃d F,a=av (aN #[qp d,J U 0])∧zW w' d ⟨[],0,4096⟩ F∧(∀a∈F,w.heap.size≤a)∧aJ w w w'
def RI (w:aB):aF au 51 #[J U 4096] w (zaW w):=by
 have a:=aj (Rl 4096 w true Y2);go_enter func51,ntmps51;go_wp2_with fail;refine a.o.mono ?_;rintro b e a;rw[aP trivial]at a;obtain⟨f,rfl,c,g,h⟩:=a;have b:=aj (And.intro c (And.intro g h));clear c g h;go_wp2;have c:=gU e 193 #[qp f];go_ret2;refine⟨e,[e.heap.size,f],rfl,⟨f,_,c.2,b.o.2.1.e c.1,Y1,(fun f e=>nomatch e),fun f e=>?_⟩,fun f e=>?_,b.o.2.2.trans (c.1.mono b.o.2.2.size)⟩
 ·rcases bA.1 e with rfl|a
  ·exact c.2.e
  ·rw[aC.1 a];exact aV b.o.2.1.a.e c.1.size
 ·rcases bA.1 e with rfl|a
  ·exact b.o.2.2.size
  ·rw[aC.1 a];exact b.o.1
def FR {d:Nat} {t:qB} {F:List Nat} (w:aB) (a:zW w d t F):aF au 156 #[qp d] w fun b w'=>b=av t.a∧w'=w:=by
 obtain⟨tb,v,a⟩:=a;have c:=aj (Rk 0 tb v t w (aj a.f));have e:=a.a.H 0;have f:Y (aF au 194 #[qp d] w fun b w'=>b=av (aK (R ⟨tb,0,O⟩))∧w'=w):=aj (by clear c a;go_enter func194,ntmps194;go_wp2;go_ret;exact Y5)
 clear a e;go_enter func156,ntmps156;go_wp2_with fail;refine mB f.o ?_;rintro w rfl;go_wp2_with fail;refine mB c.o ?_;rintro w rfl;go_wp2;go_ret;exact Y5
def AO.f {b y:AO} {l:List Int} (g:l.length≤100000) (h:jM b.a) (i:b.t.c) (a:b.e (qZ l)=(y,0)):jM y.a∧y.t.c∧y.a.length+y.b.length=b.a.length+b.b.length+1∧Ww l.length (qZ l):=by
 unfold AO.e at a;split at a
 ·rename_i f;injection a with e c;exact absurd c f
 ·rename_i f;have b:=KO g (Y6 f);split at a
  ·obtain⟨e,c,f,g⟩:=Ny h i b.b b.c a;exact⟨e,c,by rw[f,g];omega,b⟩
  ·obtain⟨e,c,f,g⟩:=FQ h i b.d b.e a;exact⟨e,c,by rw[f,g];omega,b⟩
def RJ (d:Nat) (F:List Nat) (a:AO×Int) (w:aB) (b:Ending) (w':aB):Prop:=
 ∃e f g h c,b=av (aN #[aS #[Z e a.1.a.length g,Z f a.1.b.length h],a.2])∧zW w' d a.1.t c∧gG F c w w'∧
  (w'.ownsRow w 93 3 (Z e a.1.a.length g) a.1.a.length (dx a.1.a)∧∀b,(Z e a.1.a.length g).ownBlock=R b→b∉c)∧
  (w'.ownsRow w 3 1 (Z f a.1.b.length h) a.1.b.length (a.1.b.map (J U))∧∀b,(Z f a.1.b.length h).ownBlock=R b→b∉c)
def zX {d:Nat} {t:qB} {F:List Nat} (g:Option aX) (a j:Nat) (c:List Int) (w:aB) (b:zW w d t F) (f:t.c) (S:Y (lg w)) (i:c.length=a) (e:a≤100000) (y:a≤j) (k:bU w g (dP c)) (l:gZ c):
  aF au 91 #[qp d,Z g a j] w (RJ d F (pG t c) w):=by
 obtain⟨b0,v0,b⟩:=b;have o:=aj b;have C:=aj f;have u:=aj i;have K:=aj k;have T:=aj l;have e:=aj (gU w 139 #[Z O 0 0,Z O 0 0]);have n:=aj (Nk 0 b0 v0 t _ (b.f.e e.o.1) (by have:=f.f;omega));have I:(w.alloc (.cells #[Z O 0 0,Z O 0 0] 139)).cell? ⟨d,0,O⟩=R (aK (R ⟨b0,0,O⟩)):=(b.a.b e.o.1).a 0;obtain⟨A,h⟩:=exq (zM c.length c ⟨[],[],t⟩);have L:=aj h;have HZ:Y (pG t c=if A.2≠0 then(⟨[],[],t⟩,A.2)else A):=aj (by unfold pG;rw[h]);clear b f i k l h;go_enter func91,ntmps91;go_wp2_with fail;refine n.o.mono ?_;rintro q z ⟨tb,v,rfl,h,i,f⟩;have m:=aj (e.o.1.trans (f.mono e.o.1.size));have p:=aj (e.o.2.b f);have e:=aj (gU z 257 #[Z O 0 0,Z O 0 0,qp tb]);have M:=aj h;have N:=aj i;have x2:=e.o.2.a 2;clear h i f I n;go_wp2;have f:=aj (e.o.1);go_loopw [1] (fun l wr=>∃(B:Option aX) (h n f k:Nat) (i:AO) (r:Nat) (x:aI) (D E:Option aX) (G H:Nat),l=Z B h n∧Y (zM k (c.drop f) i=A∧h≤k)∧Y (f+h=a∧h≤n∧bU w B (dP (c.drop f))∧i.a.length+i.b.length≤f∧jM i.a∧i.t.c)∧Y (aJ w w wr∧bH wr w 139 #[Z O 0 0,Z O 0 0]∧FN wr (w.heap.size+1) z.heap.size r x D E G H i)) (fun l _=>match l with|Z _ h _=>h|_=>0);case atStart=>have l:(w.alloc (.cells #[Z O 0 0,Z O 0 0] 139)).heap.size=w.heap.size+1:=Y1;have s:=M.o;rw[l]at s;refine⟨g,a,j,0,c.length,⟨[],[],t⟩,tb,v,O,O,0,0,rfl,aj ⟨L.o,by rw[u.o];exact aD _⟩,aj ⟨Y0,y,K.o,Y1,(fun k hf=>by simp at hf),C.o⟩,aj ⟨m.o.trans (e.o.1.mono m.o.size),p.o.b e.o.1,e.o.2,aT _ _ _ _,aT _ _ _ _,s.e e.o.1,⟨p.o.e,by have:=N.o;rw[l]at this;exact this⟩,(fun a e=>nomatch e)⟩⟩
 case round=>
  obtain⟨B,h,n,f,k,i,r,x,D,E,G,H,rfl,c0,g,j⟩:=hrel;clear x2;by_cases l:h=0
  ·subst l;have K:A=(i,0):=by rw[←c0.o.1,List.drop_eq_nil_of_le (by rw[u.o];have:=g.o.1;omega)];cases k<;>rfl
   have e0:=aj K;have L:=aj j.o.2.2.b;have s:=o.o.g j.o.1;have y:=s.a.H 0;have y:=s.a.c;have y:=aj o.o.a.e;obtain⟨M,y⟩:=exq i.a.length;obtain⟨N,C⟩:=exq i.b.length;have P:=aj (And.intro y C);rw[y,C]at L;obtain⟨I,Q,V⟩:=bH.n L.o;obtain⟨I,L⟩:=bH.m j.o.2.1;have I:=j.o.2.1.c;have I:=aV o.o.a.e m.o.size;have m:=o.o.a.e;have m:=p.o.e;clear K y C s;go_wp2_with fail;obtain⟨p,m⟩:=exq (((wr.setCell ⟨d,0,O⟩ (aK (R ⟨r,0,O⟩))).setCell ⟨w,0,O⟩ (Z D M G)).setCell ⟨w,1,O⟩ (Z E N H));have s:bg [d,w.heap.size] wr p:=by rw[←m];exact((bg.e (F:=[d,w.heap.size]) (p:=⟨d,0,O⟩) wr Y1 _).a (bg.e (F:=[d,w.heap.size]) (p:=⟨w,0,O⟩) _ Y1 _) (fun _ b=>.inl b)).a (bg.e (F:=[d,w.heap.size]) (p:=⟨w,1,O⟩) _ Y1 _) (fun _ b=>.inl b)
   have f0:bH p w 139 #[Z D M G,Z E N H]:=by rw[←m];exact((j.o.2.1.i (p:=⟨d,0,O⟩) (by simp;omega) _).f 0 _).f 1 _
   have L:bH p d 193 #[qp r]:=by rw[←m];exact(((o.o.g j.o.1).a.f 0 _).i (p:=⟨w,0,O⟩) (by simp;omega) _).i (p:=⟨w,1,O⟩) (by simp;omega) _
   rw[m];have e:=j.o.2.2;have y:∀a,w.heap.size+1≤a→a∉[d,w.heap.size]:=fun a b l=>by simp at l;omega
   have C:∀a,x.ownBlock=R a→w.heap.size+1≤a∧a<wr.heap.size:=fun a b=>e.a.c.lt a b;have M:=dz (bO e.c s (fun a b=>y a (e.c.lt a b).1)) (Nat.le_succ w.heap.size);have N:=dz (bO e.d s (fun a b=>y a (e.d.lt a b).1)) (Nat.le_succ w.heap.size);have K:∀a,w.heap.size+1≤a→a≠r→x.ownBlock≠R a→a∉r::x.ownBlock.toList++F:=fun a b I h2 l=>by
    rcases bK.1 l with m|m
    ·rcases bA.1 m with p|p
     ·exact I p
     ·exact h2 (bC.1 p)
    ·have:=o.o.e a m;omega
   have g0:pG t c=(i,0):=by rw[HZ.o,e0.o];rfl
   refine aG (eH results91 _ rfl f0 underlying139 rfl Y3) rfl ?_;rw[g0];refine⟨D,E,G,H,r::x.ownBlock.toList++F,by rw[P.o.1,P.o.2];rfl,⟨r,x,L,⟨e.a.a.g s (y _ e.e.2),dz (bO e.a.c s (fun a b=>y a (C a b).1)) (aZ _),e.a.d⟩,⟨List.mem_append_right _ o.o.c.1,Y1⟩,(fun a b=>List.mem_append_left _ (bJ _ (bC.2 b))),fun a l=>?_⟩,⟨(bg.d j.o.1).a s (fun a l=>?_),fun a l=>?_⟩,⟨M,fun a b=>K a (e.c.lt a b).1 (fun q=>fJ e.c e.a.a Y2 (by rw[←q];exact b)) (e.f a b)⟩,N,fun a b=>K a (e.d.lt a b).1 (fun q=>fJ e.d e.a.a Y2 (by rw[←q];exact b)) (pQ e.d e.a.c Y2 b)⟩
   ·refine aV ?_ s.b;rcases bK.1 l with m|m
    ·rcases bA.1 m with p|p
     ·rw[p];exact e.a.a.e
     ·exact(C a (bC.1 p)).2
    ·exact aV (o.o.e a m) j.o.1.size
   ·simp at l;rcases l with rfl|rfl
    ·exact .inl o.o.c.1
    ·exact .inr (aD _)
   ·rcases bK.1 l with m|m
    ·rcases bA.1 m with p|p
     ·have:=e.e.2;exact .inr Y0
     ·have:=C a (bC.1 p);exact .inr Y0
    ·exact .inl m
  ·have s:0<h:=Y0;obtain⟨⟨⟨p,K,L,M,N,P,y⟩,ra,Q⟩,C⟩:∃m,qZ (c.drop f)=m:=⟨_,rfl⟩;have V:Y (aF au 134 #[Z B h n] wr fun q w'=>q=av (aN #[aS #[p,K,aA L,M,aA N,P,y],ra,Q])∧aJ wr wr w'):=aj (by have I:=g.o;have:=Ru B h n (c.drop f) wr (by rw[bT,u.o];omega) Y0 I.2.1 s (I.2.2.1.a j.o.1) (T.o.b f) (aj (S.o.a j.o.1));rw[C]at this;exact this)
   have B:=aj C;obtain⟨⟨m,s⟩,S⟩:∃T,i.e (qZ (c.drop f))=T:=⟨_,rfl⟩;have T:=aj S;clear l C S;go_wp2_with fail;refine mB V.o fun S l=>?_;have C:=aj (gU S 261 (Rs ⟨p,K,L,M,N,P,y⟩));have h0:=aj ((j.o.1.trans (l.mono j.o.1.size)).trans (C.o.1.mono (by have:=j.o.1.size;have:=l.size;omega)));have d0:=aj ((j.o.2.1.b l).b C.o.1);have i0:=aj ((j.o.2.2.g l).g C.o.1);obtain⟨x0,x1,x2,x3,x4,x5,x6⟩:=bH.r C.o.2;unfold Rs at x0 x1 x2 x3 x4 x5 x6;clear l;have u0:(c.drop f).length≤100000:=by rw[bT,u.o];omega
   have j0:Y (Q=0→Ww (c.drop f).length (⟨p,K,L,M,N,P,y⟩,ra,Q)):=aj (fun l=>by have:=KO u0 (by rw[B.o];exact l);rw[B.o]at this;exact this);have V:=aj T.o;rw[B.o]at V;have w0:w.heap.size+1≤(S.alloc (.cells (Rs ⟨p,K,L,M,N,P,y⟩) 261)).heap.size:=by have:=j.o.2.1.e;have:=d0.o.e;omega
   go_upto_block 2 with fail;go_cut [9] (fun l j=>∃(k0:Nat) (v2:aI) (l0 m0:Option aX) (n0 o0:Nat),l=J U s∧Y (aJ w w j∧bH j w 139 #[Z O 0 0,Z O 0 0]∧FN j (w.heap.size+1) z.heap.size k0 v2 l0 m0 n0 o0 m));case first=>
    by_cases j:Q=0
    ·subst j;have l:=j0.o rfl;have z:(if p=5 then i.c y else i.d ⟨p,K,L,M,N,P,y⟩)=(m,s):=by have:=V.o;unfold AO.e at this;rw[aL Y1]at this;exact this
     by_cases W:p=5
     ·rw[aP W]at z;have S:=aj (Rz y _ i0.o w0 g.o.2.2.2.2.2 l.b l.c (by have:=g.o;omega) (by have:=g.o;omega));rw[z]at S;subst W;clear z l T V B j0;go_wp2_with fail;refine mB S.o fun w4 ⟨X,p0,v4,q0,r0,s0,t0,a0⟩=>?_;have C:=aj (And.intro X a0);clear X a0;go_wp2;go_meet;exact⟨p0,v4,q0,r0,s0,t0,rfl,aj ⟨h0.o.trans (C.o.1.mono (Nat.le_succ _)),d0.o.B C.o.1 (Nat.lt_succ_self _),C.o.2⟩⟩
     ·have n5:=aM.2 W;rw[aL W]at z;have S:=aj (Jh ⟨p,K,L,M,N,P,y⟩ _ i0.o w0 g.o.2.2.2.2.2 l.h l.i (by have:=g.o;omega) (fun k hf=>(FQ g.o.2.2.2.2.1 g.o.2.2.2.2.2 l.d l.e hf).1));rw[z]at S;unfold rpV at S;clear z l T V B j0 W;go_wp2_with fail;refine mB S.o fun w4 ⟨X,p0,v4,q0,r0,s0,t0,a0⟩=>?_;have C:=aj (And.intro X a0);clear X a0;go_wp2;go_meet;exact⟨p0,v4,q0,r0,s0,t0,rfl,aj ⟨h0.o.trans (C.o.1.mono (Nat.le_succ _)),d0.o.B C.o.1 (Nat.lt_succ_self _),C.o.2⟩⟩
    ·have ne:(Q !=0)=true:=Y6 j;have z:(i,Q)=(m,s):=by have:=V.o;unfold AO.e at this;rw[aP j]at this;exact this
     injection z with I h2;subst I h2;clear j;go_wp2;go_meet;exact⟨r,x,D,E,G,H,rfl,aj ⟨h0.o,d0.o,i0.o⟩⟩
   case rest=>
    obtain⟨k0,v2,l0,m0,n0,o0,rfl,l⟩:=hcut;clear x0 x1 x2 x3 x4 x5 x6;obtain⟨k,rfl⟩:∃p,k=p+1:=⟨k-1,by have:=c0.o.2;omega⟩;have q:Y ((if s≠0 then(m,s)else zM k (c.drop (f+ra.toNat)) m)=A):=aj (by
     rw[←c0.o.1,show zM (k+1) (c.drop f) i=(if(c.drop f).isEmpty then(i,0)else let m:=i.e (qZ (c.drop f));if m.2≠0 then m else zM k ((c.drop f).drop (qZ (c.drop f)).2.1.toNat) m.1)from rfl];have i:(c.drop f).isEmpty=false:=by
      cases hd:c.drop f with
      |nil=>have:=bE List.length hd;rw[bT,u.o]at this;have:=g.o.1;simp at*;omega
      |cons p t=>rfl
     simp only[i,Bool.false_eq_true,if_false,T.o];rw[B.o];simp only[List.drop_drop])
    by_cases j:s=0
    ·subst j;rw[aL Y2]at q;have p:=AO.f u0 g.o.2.2.2.2.1 g.o.2.2.2.2.2 T.o;rw[B.o]at p;have C:=p.2.2.2.a;have z:=p.2.2.2.f;dsimp only at C z;rw[bT,u.o]at z;obtain⟨i,rfl⟩:=bR (show 0≤ra by omega);rw[bZ]at q;have r:i≤h:=by have:=g.o.1;omega
     have r:(0:Int)≤(i:Int):=Y0;have r:(i:Int)≤(h:Int):=Y0;have r:(h:Int)≤(n:Int):=by have:=g.o.2.1;omega
     have r:(i:Int)≤(n:Int):=Y0;have r:=aj p;obtain⟨B,D⟩:∃B,(c.drop f)[0]?=R B:=⟨_,aQ (by rw[bT,u.o];have:=g.o.1;omega)⟩;obtain⟨x,y,rfl,_⟩:=g.o.2.2.1 0 (J .u8 B) (by unfold dP;rw[bS,D];rfl);clear D;have B:Y (bU w (if n=i then R ⟨x,y,O⟩else R ⟨x,y+i,O⟩) (dP (c.drop (f+i)))):=aj (by have:=g.o.2.2.1.d (k:=i) (n:=h) (c:=n) (by rw[gW,bT,u.o];have:=g.o.1;omega) g.o.2.1;unfold dP at this⊢;rw[←List.drop_drop,List.map_drop];simpa[Addr.add_lit]using this)
     obtain⟨u,D⟩:∃u:Option aX,(if n=i then R ⟨x,y,O⟩else R ⟨x,y+i,O⟩)=u:=⟨_,rfl⟩;rw[D]at B;clear p C z;go_wp2_with fail;have p:h-i<h:=by have:=r.o.2.2.2.a;dsimp only at this;omega
     have x:=g.o;exact⟨⟨u,h-i,n-i,f+i,k,m,k0,v2,l0,m0,n0,o0,rfl,aj ⟨q.o,by have:=c0.o.2;omega⟩,aj ⟨Y0,Y0,B.o,by have:=r.o.2.2.1;omega,r.o.1,r.o.2.1⟩,l⟩,p⟩
    ·have ne:(s !=0)=true:=Y6 j;have e0:Y (A=(m,s)):=aj (by have:=q.o;rw[aP j]at this;exact this.symm);have f:=aj j;clear j;obtain⟨x0,x1⟩:=bH.m l.o.2.1;have g:=l.o.2.1.c;go_wp2_with fail;have f0:=(l.o.2.1.f 0 (Z O 0 0)).f 1 (Z O 0 0);have g:bg [w.heap.size] wc ((wc.setCell ⟨w,0,O⟩ (Z O 0 0)).setCell ⟨w,1,O⟩ (Z O 0 0)):=(bg.e (F:=[w.heap.size]) (p:=⟨w,0,O⟩) wc Y1 _).a (bg.e (F:=[w.heap.size]) (p:=⟨w,1,O⟩) _ Y1 _) (fun _ b=>.inl b);have b:=l.o.1.trans (g.c l.o.1.size Y1);have g0:pG t c=(⟨[],[],t⟩,s):=by rw[HZ.o,e0.o];exact aP f.o
     refine aG (eH results91 _ rfl f0 underlying139 rfl Y3) rfl ?_;rw[g0];exact⟨O,O,0,0,F,rfl,⟨b0,v0,o.o.g b⟩,gG.d b,⟨aT _ _ _ _,fun a e=>nomatch e⟩,aT _ _ _ _,fun a e=>nomatch e⟩
def sj (d a b e:Int) (f:Bool) (g:Option aX) (h i:Nat) (c:aB) (l:b≤9223372036854775807):aF au 89 #[fO d a b e f g h i] c fun j k=>j=av (aO (iU a b))∧aJ c c k:=by
 have k:=aj (fun a=>(gU c 30 (qs d a b e f g h i)).1);obtain⟨m,n,o,p,q,r⟩:=bH.j (gU c 30 (qs d a b e f g h i)).2;have e:=fun c=>aj (mF a b 1 c l);obtain⟨c,d⟩:=exq (zbX a b 1);obtain⟨f,c⟩:=exq (iU a b);rw[d]at e;rw[c];unfold iU at c;rw[d]at c;clear d;unfold fO;by_cases b:a=4
 ·subst b;go_enter func89,ntmps89;go_wp2_with fail;refine mB ((e _).o) ?_;rintro d rfl;go_wp2;go_ret;exact⟨by rw[←c];simp,k.o _⟩
 ·have d:(a==4)=false:=by simp[b]
  rw[d]at c;go_enter func89,ntmps89;go_wp2;go_ret;exact⟨by rw[←c];simp,k.o _⟩
def jW (a:Cf):Array aI:=#[a.a,a.b,a.c,a.e,a.d,a.f]
def Js (b:Cf) (a:aB) (d:Fx b=true):aF au 48 #[aS (jW b)] a fun c e=>c=av true∧aJ a a e:=by have e:=aj (gU a 23 (jW b)).1;obtain⟨f,g,h,i,j,k⟩:=bH.j (gU a 23 #[b.a,b.b,b.c,b.e,b.d,b.f]).2;simp only[Fx,Bool.and_eq_true]at d;obtain⟨⟨⟨⟨⟨f,g⟩,h⟩,i⟩,j⟩,k⟩:=d;have d:=fun a=>aj (nZ b.a 0 64 a);have l:=fun a=>aj (nZ b.b 1 1024 a);have m:=fun a=>aj (nZ b.c 0 1048576 a);have n:=fun a=>aj (nZ b.e 1 32 a);have o:=fun a=>aj (nZ b.d 0 64 a);have p:=fun a=>aj (nZ b.f 4096 1048576 a);rw[f]at d;rw[g]at l;rw[h]at m;rw[i]at n;rw[j]at o;rw[k]at p;clear f g h i j k;unfold jW at e⊢;go_enter func48,ntmps48;go_wp2_with fail;refine mB ((d _).o) ?_;rintro a rfl;go_wp2_with fail;refine mB ((l _).o) ?_;rintro a rfl;go_wp2_with fail;refine mB ((m _).o) ?_;rintro a rfl;go_wp2_with fail;refine mB ((n _).o) ?_;rintro a rfl;go_wp2_with fail;refine mB ((o _).o) ?_;rintro a rfl;go_wp2_with fail;refine mB ((p _).o) ?_;rintro a rfl;go_wp2;go_ret;exact⟨rfl,e.o⟩
def WH (w:aB) (g:Nat) (M:Int) (x:As) (F:List Nat):Prop:=x.a.i=[]∧(x.b=false→x=.d∧Es w g M)∧∃a d e f h A n c,vS w g M x.b x.a a d e f 0 h A n c x.c F (fun _=>False)
section
variable {w w':aB} {g:Nat} {M:Int} {x:As} {F F1:List Nat}
def Sl.j {d e:Nat→Prop} {A:Option aX} {c:Nat} {xs:List aI} (f:xs=[]) (a:Sl w d A 0 c xs):Sl w' e A 0 c xs:=⟨fun d=>a.e d,a.f,fun d e a=>by rw[f]at a;simp at a⟩
def WH.a (a:WH w g M x F) (d:bg F1 w w') (hF:∀b∈F,b∉F1):WH w' g M x F:=by obtain⟨f,e,j,k,l,m,o,A,n,c,a⟩:=a;exact⟨f,fun h=>⟨(e h).1,bH.g (e h).2 d (hF g a.e)⟩,j,k,l,m,o,A,n,c,bH.g a.d d (hF g a.e),bO a.h d (fun b e=>hF b (a.f b e).1),a.f,a.k.j (by rw[f];rfl),a.i,a.e,fun b e=>aV (a.j b e) d.b⟩
end
structure OT (w:aB) (A:Option aX) (C:Nat) (l:List Int) (F:List Nat):Prop where
 c:A=O→l=[]∧C=0
 d:l.length≤C
 b:∀a,A=R a→a.spot=O∧a.block∈F∧∃cs,bH w a.block 3 cs∧a.off+C≤cs.size∧(∀j x,l[j]?=R x→cs[a.off+j]?=R (J U x))
def OT.e {w w':aB} {A:Option aX} {d:Nat} {e:List Int} {F F1:List Nat} (a:OT w A d e F) (f:bg F1 w w') (hF:∀b∈F,b∉F1):OT w' A d e F:=
 ⟨a.c,a.d,fun e h=>by
  obtain⟨j,d,cs,k,l⟩:=a.b e h
  exact⟨j,d,cs,k.g f (hF _ d),l⟩⟩
structure fq where
 b:Nat
 m:Bool
 x:Lk
 D:Bool
 o:Bool
 p:Bool
 E:Bool
 h:Option aX
 i:Nat
 a:Option aX
 c:Nat
 d:Option aX
 e:Nat
 u:Option aX
 v:Nat
 w:Nat
 y:Option aX
 z:Nat
 A:Nat
 f:Option aX
 g:Nat
 k:Option aX
 j:Nat
def fC (p:fq):Array aI:=#[J U p.x.r.a,J U p.x.r.c,J U p.x.r.e,J U p.x.r.d,aO p.m,Z p.h p.x.r.b.length p.i,
 J U p.x.f.a,J U p.x.f.d,J U p.x.f.b,J U p.x.f.f,Z p.a p.x.f.c.length p.c,Z p.d p.x.f.i.length p.e,J U p.x.f.k,J U p.x.f.l,aO p.x.f.m,J U p.x.f.e,J U p.x.f.h,J U p.x.f.j,J U p.x.f.g,
 J U p.x.w.1,J U p.x.w.2,aO p.x.e,aO p.x.g,aO p.x.c,
 J U p.x.a.a,J U p.x.a.d,J U p.x.a.b,J U p.x.a.f,Z p.u p.v p.w,Z p.y p.z p.A,J U p.x.a.k,J U p.x.a.l,aO p.x.a.m,J U p.x.a.e,J U p.x.a.h,J U p.x.a.j,J U p.x.a.g,
 Z p.f p.x.b.length p.g,Z p.k p.x.d.length p.j,aO p.x.h,aO p.D,aO p.o,aO p.p,aO p.E]
def Aw (w:aB) (F:List Nat) (A:Option aX) (n c:Nat) (xs:List aI):Prop:=Sl w (fun b=>b∈F) A n c xs∧zA A
section
variable {w w':aB} {F F1:List Nat} {A:Option aX} {n c:Nat} {xs:List aI}
def Aw.f (a:Aw w F A n c xs) (d:bg F1 w w') (hF:∀b∈F,b∉F1):Aw w' F A n c xs:=⟨a.1.a d hF,a.2⟩
def Aw.d (a:Aw w F A n c xs):bU w A xs:=a.1.b.a
def Aw.k (a:Aw w F A n c xs) (d:A=Option.none):n=0:=(a.1.e d).1
def Aw.h:Aw w F Option.none 0 0 []:=⟨Sl.i _ _,fun d a=>by cases a⟩
def Aw.j {d e:Nat} {f:bB} (a:w.ownsRow d f e (Z A n c) n xs) (hF:∀b,(Z A n c).ownBlock=R b→b∈F):Aw w F A n c xs:=by refine⟨⟨(fH a).1,(fH a).2,fun e f h=>?_⟩,mO a⟩;obtain⟨b,j,d,_,k⟩:=jE a e f h;exact⟨b,j,d,hF b (by rw[d];rfl),k⟩
def Aw.e (a:Aw w F A n c xs) (hF:∀b∈F,b∈F1):Aw w F1 A n c xs:=⟨a.1.d fun b _ d=>hF b d,a.2⟩
end
structure KW (w:aB) (p:fq) (F:List Nat):Prop where
 a:bH w p.b 142 (fC p)
 b:p.b∈F
 g:Aw w F p.h p.x.r.b.length p.i (dP p.x.r.b)
 d:Aw w F p.a p.x.f.c.length p.c (dP p.x.f.c)
 e:Aw w F p.d p.x.f.i.length p.e (bN p.x.f.i)
 c:Aw w F p.f p.x.b.length p.g (dx p.x.b)
 f:Aw w F p.k p.x.d.length p.j (p.x.d.map (J U))
def KW.h {w w':aB} {e:fq} {F F1:List Nat} (a:KW w e F) (d:bg F1 w w') (hF:∀b∈F,b∉F1):KW w' e F:=
 ⟨a.a.g d (hF _ a.b),a.b,a.g.f d hF,a.d.f d hF,a.e.f d hF,a.c.f d hF,a.f.f d hF⟩
structure Pq where
 f:Nat
 h:Nat
 d:Nat
 a:Nat
 c:Nat
 e:Option aX
 g:Nat
 b:Nat
 i:Nat
structure Pt where
 g:Nat
 a:Pq
 b:Pq
 c:Nat
 d:Option aX
 e:Bool
def sN (c:Co) (P:Pt):Array aI:=#[J U c.a.a,J U c.a.b,J U c.a.c,J U c.a.e,J U c.a.d,J U c.a.f,
 aO c.e.h,aO c.e.d,aK (R ⟨P.a.f,0,O⟩),aK (R ⟨P.a.h,0,O⟩),J U c.e.i,aO c.e.e,aK (R ⟨P.a.d,0,O⟩),Z P.a.e c.e.c.length P.a.g,aK (R ⟨P.a.a,0,O⟩),aK (R ⟨P.a.c,0,O⟩),aO c.e.f,J U c.e.g,
 aO c.f.h,aO c.f.d,aK (R ⟨P.b.f,0,O⟩),aK (R ⟨P.b.h,0,O⟩),J U c.f.i,aO c.f.e,aK (R ⟨P.b.d,0,O⟩),Z P.b.e c.f.c.length P.b.g,aK (R ⟨P.b.a,0,O⟩),aK (R ⟨P.b.c,0,O⟩),aO c.f.f,J U c.f.g,
 aH aW (fw c.c) (fw c.d),aK (R ⟨P.c,0,O⟩),aK P.d,aO true,aO P.e]
def Rr (c:Co) (P:Pt) (X:Option fq) (i:Nat) (w:aB) (L:List Nat):Prop:=
 match i with
 |0=>P.g∈L∧bH w P.g 128 (sN c P)
 |1=>WH w P.a.f c.a.c c.e.x L
 |2=>WH w P.b.f c.a.c c.f.x L
 |3=>zW w P.a.h c.e.t L
 |4=>zW w P.b.h c.f.t L
 |5=>xP w P.a.d c.e.q L
 |6=>xP w P.b.d c.f.q L
 |7=>OT w P.a.e P.a.g c.e.c L
 |8=>OT w P.b.e P.b.g c.f.c L
 |9=>Gr w P.a.a c.a.a c.e.a L P.a.b
 |10=>Gr w P.b.a c.a.a c.f.a L P.b.b
 |11=>Jt w P.a.c c.a.d c.e.b L P.a.i
 |12=>Jt w P.b.c c.a.d c.f.b L P.b.i
 |13=>Ro w P.c c.a.b c.l L
 |14=>∀a,X=R a→KW w a L
 |_=>L=[]
def gL (c:Co) (P:Pt) (X:Option fq):IJ (Rr c P X):=fun i w w' L f a d e=>by
 match i,a with
 |0,a=>exact⟨a.1,a.2.g d (e _ a.1)⟩
 |1,a=>exact WH.a a d e
 |2,a=>exact WH.a a d e
 |3,a=>exact zW.b a d e
 |4,a=>exact zW.b a d e
 |5,a=>exact xP.d a d e
 |6,a=>exact xP.d a d e
 |7,a=>exact OT.e a d e
 |8,a=>exact OT.e a d e
 |9,a=>exact Gr.b a d e
 |10,a=>exact Gr.b a d e
 |11,a=>exact Jt.a a d e
 |12,a=>exact Jt.a a d e
 |13,a=>exact Ro.b a d e
 |14,a=>exact fun f h=>(a f h).h d e
 |_+15,a=>exact a
structure lX (w:aB) (c:Co) (P:Pt) (X:Option fq) (F:Nat→List Nat):Prop where
 h:Yo w F
 d:∀i,Rr c P X i w (F i)
 j:lg w
 l:∀i,∀b∈F i,2≤b
def Z6 (F:Nat→List Nat):List Nat:=(List.range 15).flatMap F
def xD {F:Nat→List Nat} {b:Nat}:b∈Z6 F↔∃i,i<15∧b∈F i:=by unfold Z6;simp
def iM {F:Nat→List Nat} {b i:Nat} (a:i<15) (d:b∈F i):b∈Z6 F:=xD.2 ⟨i,a,d⟩
def Cp (c:Co) (P:Pt) (X:Option fq) (F:Nat→List Nat) (w w':aB):Prop:=∃F',lX w' c P X F'∧gG (Z6 F) (Z6 F') w w'
def lg.h {w w':aB} (a:lg w) (d:aJ 2 w w'):lg w':=by obtain⟨e,h⟩:=a.f;refine⟨fun f j k=>?_,⟨e,(d.cell (p:=⟨1,0,O⟩) (by show 1<2;omega)).trans h⟩,aR a.b d.size⟩;obtain⟨b,l,e,h⟩:=a.e f j k;injection e with e;injection e with a e;subst a e;exact⟨0,0,rfl,(d.cell (p:=⟨0,0+f,O⟩) (by show 0<2;omega)).trans h⟩
def lg.d {w w':aB} {F:List Nat} (a:lg w) (d:bg F w w') (hF:∀b∈F,2≤b):lg w':=a.h (d.c a.b hF)
section
variable {w w' w1:aB} {c c':Co} {P P':Pt} {X X':Option fq} {F F':Nat→List Nat} {i:Nat} {L:List Nat}
def lX.a (a:lX w c P X F) (d:aJ w w w'):lX w' c P X F:=⟨a.h.d d.size,Yo.h (gL c P X) a.d d,a.j.a d,a.l⟩
def lX.s (i:Nat) (e:lX w c P X F) (h:i<15) (t:gG (F i) L w w') (a:∀b∈L,b<w'.heap.size) (j:Rr c' P' X' i w' L)
  (k:∀d,d≠i→Rr c' P' X' d=Rr c P X d:=by rintro(_|_|_|_|_|_|_|_|_|_|_|_|_|_|_|d) f<;>first|rfl|exact absurd rfl f):lX w' c' P' X' (GL F i L)∧gG (Z6 F) (Z6 (GL F i L)) w w':=by
 refine⟨⟨e.h.e t a,e.h.g (gL c P X) e.d t j k,e.j.d t.1 (e.l i),fun d b a=>?_⟩,t.1.g (fun b a=>.inl (iM h a)),fun b a=>?_⟩
 ·by_cases f:d=i
  ·subst f;rw[fF]at a;exact(t.2 b a).elim (e.l d b) (fun h=>aR e.j.b h)
  ·rw[dS f]at a;exact e.l d b a
 ·obtain⟨d,f,a⟩:=xD.1 a;by_cases e:d=i
  ·subst e;rw[fF]at a;exact(t.2 b a).imp (iM f) id
  ·rw[dS e]at a;exact .inl (iM f a)
def lX.k (i:Nat) (d:lX w c P X F) (e:i<15) (t:gG (F i) L w w') (f:∀b∈L,b<w'.heap.size) (h:Rr c' P' X' i w' L)
  (j:∀a,a≠i→Rr c' P' X' a=Rr c P X a:=by rintro(_|_|_|_|_|_|_|_|_|_|_|_|_|_|_|a) k<;>first|rfl|exact absurd rfl k):Cp c' P' X' F w w':=⟨_,d.s i e t f h j⟩
def lX.o (d:lX w c P X F) {b:Nat} (a:b∈Z6 F):b<w.heap.size:=by obtain⟨e,_,a⟩:=xD.1 a;exact d.h.a e b a
def lX.f (a:lX w c P X F):bH w P.g 128 (sN c P):=(a.d 0).2
def lX.e {a:fq} (d:lX w c P (R a) F):KW w a (F 14):=d.d 14 a rfl
def Cp.d {c0:Co} {P0:Pt} {X0:Option fq} (a:Cp c P X F w w1) (d:∀F1,lX w1 c P X F1→Cp c' P' X' F1 w1 w'):Cp c' P' X' F w w':=by obtain⟨F1,e,f⟩:=a;obtain⟨a,h,j⟩:=d F1 e;exact⟨a,h,f.a j⟩
def Cp.a (a:aJ w w w1) (d:Cp c P X F w1 w'):Cp c P X F w w':=by obtain⟨e,f,h⟩:=d;exact⟨e,f,(gG.d a).a h⟩
end
structure Loc (w:aB) (F:Nat→List Nat) (b:Nat) (t:bB) (cs:Array aI):Prop where
 a:bH w b t cs
 c:b∉Z6 F
section
variable {w w':aB} {F F':Nat→List Nat} {b:Nat} {t:bB} {cs:Array aI} {c:Co} {P:Pt} {X:Option fq}
def Loc.e (a:Loc w F b t cs) (d:gG (Z6 F) (Z6 F') w w'):Loc w' F' b t cs:=⟨a.a.g d.1 a.c,fun e=>(d.2 b e).elim a.c (fun d=>by have:=a.a.e;omega)⟩
def Loc.d (a:Loc w F b t cs) (d:aJ w w w'):Loc w' F b t cs:=⟨a.a.b d,a.c⟩
end
structure Yw (f:Fr):Prop where
 b:0≤f.b∧f.b≤2147483647
 c:0≤f.e∧f.e≤2147483647
 d:0≤f.d∧f.d≤255
 e:f.a≠4→f.i=[]
def Yw.a:Yw .o:=⟨by decide,by decide,by decide,fun _=>rfl⟩
structure GQ (q:Qu) (k:Nat):Prop where
 a:0<q.a.length
 c:0≤q.d
 b:q.b≤k
 e:0≤q.c
 f:q.c≤q.b
 g:∀v∈q.a,16384≤v.b
structure Sb (p:yg) (k:Nat):Prop where
 e:p.x.c.length≤300*k
 f:gZ p.x.c
 t:p.t.c
 q:GQ p.q k
 c:(p.c.length:Int)=p.q.b-p.q.c
 a:p.a.e
 b:p.a.a.length≤k
 d: -(k:Int)≤p.b.n∧p.b.n≤k
 g:p.d=true→p.h=true
 h:Yw p.x.a∧p.x.a.i=[]
structure nD (t:Ta):Prop where
 a:0≤t.l
 b:t.l≤4503599627370496
structure lQ (m:Sm):Prop where
 x:∃a,Am a∧fw a=m.d
 y:∃a,Am a∧fw a=m.e
 c:nD (m.u 0)
 d:nD (m.u 1)
structure dU (c:Co) (k:Nat):Prop where
 n:Fx c.a=true
 h:Sb c.e k
 i:Sb c.f k
 f:Am c.c
 g:Am c.d
 l:Ok c.l
 d:c.l.length≤k
 e:∀m∈c.l,lQ m
section
variable {c:Co} {k m:Nat} {s:Int} {p:yg} {q:Qu}
def dU.a (a:dU c k) (s:Int):Sb (c.p s) k:=by
 unfold Co.p;split
 ·exact a.h
 ·exact a.i
def dU.j (a:dU c k) (b:Sb p k):dU (c.b s p) k:=by
 unfold Co.b;split
 ·exact⟨a.n,b,a.i,a.f,a.g,a.l,a.d,a.e⟩
 ·exact⟨a.n,a.h,b,a.f,a.g,a.l,a.d,a.e⟩
def Ab (c:Co) (a:ko s=true):c.b s (c.p s)=c:=by unfold Co.b Co.p;by_cases a:s=0<;>simp[a]
def Sc (c:Co) (a:ko s=true) (p:yg):(c.b s p).p s=p:=by unfold Co.b Co.p;by_cases a:s=0<;>simp[a]
def GQ.h (a:GQ q k) (b:k≤m):GQ q m:=⟨a.a,a.c,by have:=a.b;omega,a.e,a.f,a.g⟩
def Sb.i (a:Sb p k) (b:k≤m):Sb p m:=⟨by have:=a.e;omega,a.f,a.t,a.q.h b,a.c,a.a,by have:=a.b;omega,by have:=a.d;omega,a.g,a.h⟩
def dU.b (a:dU c k) (b:k≤m):dU c m:=⟨a.n,a.h.i b,a.i.i b,a.f,a.g,a.l,by have:=a.d;omega,a.e⟩
def GQ.d (a:GQ q k):q.a.length≤k+1:=by have b:=a.b;have d:=a.c;unfold Qu.b at b;omega
def GQ.l (a:GQ q k):q.d≤k:=by have b:=a.b;have d:=a.a;unfold Qu.b at b;omega
def Sd:(16384:Int)≤Vl.g.b:=by decide
def GQ.n (a:GQ q k):16384≤q.e.b:=by
 unfold Qu.e;rw[List.getLastD_eq_getLast?];cases hv:q.a.getLast? with
 |none=>exact Sd
 |some b=>exact a.g b (List.mem_of_getLast? hv)
def GQ.o:GQ .j 0:=⟨by decide,by decide,by decide,by decide,by decide,fun b a=>by rw[aC.1 a];exact Sd⟩
def GQ.i (a:GQ q k) {n:Int} (d:n≤q.b):GQ (q.i n) k∧(q.i n).b=q.b∧(q.i n).c=q.c:=by
 unfold Qu.i;split
 ·rename_i b;have b:(⟨q.a.drop (n-q.d).toNat,n,q.c⟩:Qu).b=q.b:=by unfold Qu.b at d⊢;simp only[bT];omega
  refine⟨⟨?_,?_,by rw[b];exact a.b,a.e,by rw[b];exact a.f,fun e f=>a.g e (List.mem_of_mem_drop f)⟩,b,rfl⟩
  ·unfold Qu.b at d;simp only[bT];omega
  ·have:=a.c;dsimp only;omega
 ·exact⟨a,rfl,rfl⟩
def GQ.j (a:GQ q k) (b:List Bool):GQ (q.g b) k∧(q.g b).b=q.b∧(q.g b).c=q.c:=by
 unfold Qu.g;split
 ·rename_i b d;split
  ·exact a.i (by unfold Qu.b;omega)
  ·exact⟨a,rfl,rfl⟩
 ·exact⟨a,rfl,rfl⟩
def GQ.r (a:GQ q k):GQ q.h k∧q.h.b=q.b∧(q.c<q.b→q.h.c=q.c+1):=by
 have b:=a.f;have b:=a.e;unfold Qu.h;split
 ·exact⟨a,rfl,fun b=>Y0⟩
 ·have b:GQ ({q with c:=q.c+1}:Qu) k:=⟨a.a,a.c,a.b,by dsimp only;omega,by show q.c+1≤q.b;omega,a.g⟩;obtain⟨a,d,e⟩:=b.i (n:=q.c+1) (by show q.c+1≤q.b;omega);exact⟨a,d,fun _=>e⟩
def ZN {d:Vl} {b:Int×Int} (a:16384≤d.b) (e:wT b s=0):16384≤(d.h b).b:=by
 unfold Vl.h;split
 ·exact a
 ·split
  ·exact a
  ·split
   ·exact a
   ·split
    ·exact a
    ·split
     ·rename_i d;have f:b.1=5:=Y6 d;unfold wT at e;simp[f]at e;dsimp only;omega
     ·split<;>exact a
def FY:∀(d:List (Int×Int)) (a:Vl),16384≤a.b→(jw d s).2=true→16384≤(oN a d).b
 |[],a,e,_=>e
 |g::d,a,e,b=>by
  unfold jw at b
  by_cases f:wT g s=0
  ·rw[aL (by simp[f])]at b
   exact FY d (a.h g) (ZN e f) b
  ·rw[aP (by simp[f])]at b
   cases b
def GQ.t (a:GQ q k) {b:List (Int×Int)} (e:(jw b s).2=true):GQ (q.f b) (k+1)∧(q.f b).b=q.b+1∧(q.f b).c=q.c:=by
 have d:(q.f b).b=q.b+1:=by unfold Qu.f Qu.b;simp;omega
 refine⟨⟨by unfold Qu.f;simp,a.c,by rw[d];have:=a.b;omega,a.e,by rw[d];have:=a.f;show q.c≤_;omega,fun f g=>?_⟩,d,rfl⟩;rcases bK.1 g with d|d
 ·exact a.g f d
 ·rw[aC.1 d];exact FY b _ a.n e
def Sb.j:Sb .j 0:=⟨by decide,(fun b a=>by cases a),⟨(fun b a=>by cases a),rfl,by decide,by decide⟩,.o,rfl,zcs,by decide,by decide,(fun a=>by cases a),.a,rfl⟩
def dU.t {b:Cf} (a:Fx b=true):dU (.g b) 0:=⟨a,.j,.j,zi,zi,Ok.d,aD 0,(fun m a=>by cases a)⟩
end
def KX {n:Nat} (i:n≤100000):∀(m:Nat) (e:List Int) (b d:AO),e.length≤n→jM b.a→b.t.c→zM m e b=(d,0)→jM d.a∧d.t.c∧d.a.length+d.b.length≤b.a.length+b.b.length+m
 |0,e,b,d,h,f,g,a=>by injection a with a _;subst a;exact⟨f,g,Y0⟩
 |m+1,e,b,d,h,f,g,a=>by
  unfold zM at a
  split at a
  ·injection a with a _;subst a;exact⟨f,g,Y0⟩
  ·dsimp only at a
   split at a
   ·rename_i h
    rw[a]at h
    exact absurd rfl h
   ·rename_i h
    have j:(b.e (qZ e)).2=0:=Y6 h
    obtain⟨h,l,o,_⟩:=AO.f (l:=e) (y:=(b.e (qZ e)).1) Y0 f g (by rw[←j])
    obtain⟨b,e,f⟩:=KX i m _ _ d (by simp;omega) h l a
    exact⟨b,e,Y0⟩
def WI {t:qB} {l:List Int} (d:l.length≤100000) (b:t.c):jM (pG t l).1.a∧(pG t l).1.t.c∧(pG t l).1.a.length+(pG t l).1.b.length≤l.length:=by
 unfold pG;dsimp only;split
 ·exact⟨(fun e a=>by cases a),b,Y1⟩
 ·rename_i f;have g:(zM l.length l ⟨[],[],t⟩).2=0:=Y6 f;obtain⟨f,h,i⟩:=KX (n:=l.length) d l.length l ⟨[],[],t⟩ (zM l.length l ⟨[],[],t⟩).1 (aD _) (fun e a=>by cases a) b (by rw[←g]);exact⟨f,h,Y6 i⟩
def KY (h:ByteArray) (e:Int):∀(k pos:Nat) (d b:Int),0≤d→d≤e→xL h e k pos d=R b→0≤b∧b≤e
 |0,_,d,b,f,g,a=>by injection a with a;subst a;exact⟨f,g⟩
 |k+1,pos,d,b,f,g,a=>by
  unfold xL at a
  split at a
  ·split at a
   ·cases a
   ·split at a
    ·cases a
    ·rename_i d i
     exact KY h e k _ _ b Y0 Y0 a
  ·injection a with a;subst a;exact⟨f,g⟩
def WJ {e:ByteArray} {d a:Int} (b:uD e d=R a):0≤a∧a≤d:=by
 unfold uD at b;split at b
 ·cases b
 ·exact KY e d _ _ 0 a Y0 Y0 b
def Dc:∀(e:List Fd) (d:Int×Bool) (b:Int×Bool),0≤d.1→d.1≤4503599627370496→qo e d=R b→0≤b.1∧b.1≤4503599627370496
 |[],d,b,f,g,a=>by injection a with a;subst a;exact⟨f,g⟩
 |h::e,d,b,f,g,a=>by
  unfold qo at a
  split at a
  ·split at a
   ·cases a
   ·rename_i h i
    have:=WJ i
    split at a
    ·cases a
    ·exact Dc e (h,true) b this.1 this.2 a
  ·exact Dc e d b f g a
def NJ (k:Int) (b:List Fd):0≤(gD k b).1.n∧(gD k b).1.n≤4503599627370496:=by
 have a:(0:Int)≤Ms.a.n∧Ms.a.n≤4503599627370496:=Y2;unfold gD;split
 ·exact a
 ·split
  ·exact a
  ·split
   ·exact a
   ·rename_i d e f;split
    ·exact a
    ·exact Dc b (0,false) (d,e) Y2 Y2 f
def nD.d:nD .b:=⟨by decide,by decide⟩
def nD.e (m:ByteArray):nD (.i m):=⟨by show(0:Int)≤0;omega,by show(0:Int)≤_;omega⟩
section
variable {t:Ta}
def nD.f (a:nD t):nD t.c.1:=by
 unfold Ta.c;split
 ·exact .d
 ·exact⟨a.a,a.b⟩
def nD.h (a:nD t) {m:Ms} (b:0≤m.n∧m.n≤4503599627370496):nD (t.e m):=by
 unfold Ta.e;split
 ·exact⟨a.a,a.b⟩
 ·split
  ·exact⟨b.1,b.2⟩
  ·exact⟨a.a,a.b⟩
def nD.i (a:nD t) (b:List Fd) (d:Bool):nD (t.g b d).1:=by
 have d:=a.h (NJ t.j b);unfold Ta.g;dsimp only;split
 ·exact .d
 ·split
  ·split
   ·exact .d
   ·exact a
  ·split
   ·split
    ·exact .d
    ·exact d.f
   ·exact d
def nD.g (a:nD t) (b:List Fd) (d:Bool):nD (t.h b d).1:=by
 unfold Ta.h;dsimp only;split
 ·exact a.i b d
 ·split
  ·exact .d
  ·split
   ·exact .d
   ·split
    ·exact .d
    ·exact a.f
def nD.j (h:nD t) (n:Int) (e:Bool):nD (t.f n e).1:=by
 have h0:=h.a
 have h1:=h.b
 unfold Ta.f
 dsimp only
 split
 ·exact .d
 ·split
  ·exact .d
  ·rename_i hd
   have hx:nD (if t.d=2 then{t with l:=t.l-max n 0}else t):=by
    split
    ·rename_i h2
     have:¬(max n 0>t.l):=fun hn=>hd ⟨h2,hn⟩
     exact⟨by dsimp only;omega,by dsimp only;omega⟩
    ·exact h
   split
   ·exact hx.f
   ·exact hx
end
def KZ {a b d e:Int} (f:Am a) (g:Am b):Am (qQ a b d e).1∧Am (qQ a b d e).2.1:=by
 unfold qQ;split
 ·split
  ·rename_i a;exact⟨a.2,g⟩
  ·exact⟨zi,zi⟩
 ·split
  ·rename_i a;exact⟨f,a.2⟩
  ·exact⟨zi,zi⟩
def Df {a b side n i:Int} (d:Am a) (e:Am b):Am (mh a b side n i).1∧Am (mh a b side n i).2.1:=by
 unfold mh;split
 ·exact⟨zi,zi⟩
 ·exact KZ d e
def La {a b side n i:Int} (d:Am a) (e:Am b):Am (iG a b side n i).1∧Am (iG a b side n i).2.1:=by
 unfold iG;split
 ·exact⟨zi,zi⟩
 ·exact KZ d e
def yu (x:Nat):Am (fM x):=by
 unfold fM;split
 ·rename_i a;exact a.choose_spec.1
 ·exact zi
def lQ.b:lQ .s:=⟨⟨0,zi,gy⟩,⟨0,zi,gy⟩,.d,.d⟩
section
variable {m:Sm}
def lQ.f (a:lQ m) (b:Int):nD (m.u b):=by
 have d:=a.c;have e:=a.d;unfold Sm.u at d e⊢;by_cases a:b=0
 ·rw[aP a];exact d
 ·rw[aL a];exact e
def lQ.e (a:lQ m) {t:Ta} (b:nD t) (d:Int):lQ (m.t d t):=by
 unfold Sm.t;split
 ·exact⟨a.x,a.y,⟨b.a,b.b⟩,⟨a.d.a,a.d.b⟩⟩
 ·exact⟨a.x,a.y,⟨a.c.a,a.c.b⟩,⟨b.a,b.b⟩⟩
def lQ.h (a:lQ m) (b:mR):lQ (m.v b):=⟨a.x,a.y,⟨a.c.a,a.c.b⟩,⟨a.d.a,a.d.b⟩⟩
def lQ.g (a:lQ m) {b d:Int} (e:Am b) (f:Am d):lQ {m with d:=fw b,e:=fw d}:=⟨⟨b,e,rfl⟩,⟨d,f,rfl⟩,⟨a.c.a,a.c.b⟩,⟨a.d.a,a.d.b⟩⟩
end
def lH {a:List Sm} (b:∀m∈a,lQ m) (d:Int):lQ (fG a d).1:=by
 unfold fG;split
 ·rename_i d _;rw[aY];cases hi:a[d]? with
  |none=>exact .b
  |some x=>exact b x (bP hi)
 ·exact .b
def WK {a:List Sm} {m:Sm} (b:∀m∈a,lQ m) (e:lQ m):∀d∈oM a m,lQ d:=by
 unfold oM;split
 ·split
  ·intro d a;rcases List.mem_or_eq_of_mem_set a with a|a
   ·exact b d a
   ·rw[a];exact e
  ·exact b
 ·exact b
def Sg (a:List Sm) (m:Sm):(oM a m).length=a.length:=by
 unfold oM;split
 ·split<;>simp
 ·rfl
def WM {a:List Sm} {m:Sm} {e:Int} (d:∀m∈a,lQ m) (f:lQ m):∀b∈nP a m e,lQ b:=by
 unfold nP;split
 ·intro b a;rcases bK.1 a with a|a
  ·exact d b a
  ·rw[aC.1 a];exact f
 ·exact d
def Si (a:List Sm) (m:Sm) (b:Int):(nP a m b).length≤a.length+1:=by unfold nP;split<;>simp
def NK (a:nG) (x:Int):(a.j x).a.length≤a.a.length+1:=by
 unfold nG.j;split
 ·omega
 ·simp
section
variable {c:Co} {k:Nat} {x:Lk} {m:Sm}
def Sb.l {b:yg} (a:Sb b k) (d:Int):Sb {b with a:=b.a.j d} (k+1):=
 ⟨by have:=a.e;dsimp only;omega,a.f,a.t,a.q.h Y0,a.c,Pv d a.a,by have:=a.b;have:=NK b.a d;dsimp only;omega,by have:=a.d;dsimp only;omega,a.g,a.h⟩
def dU.q (a:dU c k) (b:lQ m):dU {c with l:=oM c.l m} k:=⟨a.n,a.h,a.i,a.f,a.g,a.l.i m,by rw[Sg];exact a.d,WK a.e b⟩
def dU.o (d:dU c k) (e:lQ m) (a:mR):dU (qC c m a) (k+1):=by
 have b:=d.q (e.h a);unfold qC;dsimp only;split
 ·have a:=b.b (m:=k+1) Y0;exact⟨a.n,b.h.l m.c,b.i.l m.c,a.f,a.g,a.l,a.d,a.e⟩
 ·exact b.b Y0
def dU.s (a:dU c k):dU (pI c x) (k+1):=by have b:=lH a.e x.r.d;unfold pI;dsimp only;have d:=Df (side:=x.r.a) (n:=x.r.b.length) (i:=2147483647) (yu (fG c.l x.r.d).1.d) (yu (fG c.l x.r.d).1.e);exact a.o ((b.g d.1 d.2).e ((b.f x.r.a).j _ _) x.r.a) _
def dU.u (d:dU c k) (i:iU x.r.c x.r.e=true→(jw x.f.i x.r.a).2=true) (j:iU x.r.c x.r.e=false→(c.p (1-x.r.a)).q.c<(c.p (1-x.r.a)).q.b) (a:ko x.r.a=true):dU (jf c x).1 (k+1):=by
 unfold jf;dsimp only;have a:=d.a x.r.a;have b:=d.a (1-x.r.a);have e:=d.b (m:=k+1) Y0;split
 ·rename_i d;split
  ·exact e
  ·obtain⟨f,g,h⟩:=a.q.t (i d);refine e.j ⟨by have:=a.e;dsimp only;omega,a.f,a.t,f,?_,a.a,by have:=a.b;dsimp only;omega,by have:=a.d;dsimp only;omega,a.g,a.h⟩;have:=a.c;simp only[bL,List.length_singleton];rw[g,h];omega
 ·rename_i d;have a:=j (Y6 d);obtain⟨f,g,h⟩:=b.q.r;have d:dU (c.b (1-x.r.a) {c.p (1-x.r.a)with q:=(c.p (1-x.r.a)).q.h,c:=(c.p (1-x.r.a)).c.drop 1}) (k+1):=by refine e.j ⟨by have:=b.e;dsimp only;omega,b.f,b.t,f.h Y0,?_,b.a,by have:=b.b;dsimp only;omega,by have:=b.d;dsimp only;omega,b.g,b.h⟩;have:=b.c;simp only[bT];rw[g,h a];omega
  split
  ·have a:=d.a x.r.a;exact d.j ⟨a.e,a.f,a.t,a.q,a.c,a.a,a.b,a.d,a.g,a.h⟩
  ·exact d
def dU.v (e:dU c k):dU (nU c x).1 (k+1):=by
 unfold nU;have a:=e.a x.r.a;have b:=e.a (1-x.r.a);have d:=e.b (m:=k+1) Y0;dsimp only;split
 ·split
  ·refine d.j ⟨by have:=b.e;dsimp only;omega,b.f,b.t,b.q.h Y0,b.c,b.a,by have:=b.b;dsimp only;omega,?_,b.g,b.h⟩;have:=b.d;show-((k+1:Nat):Int)≤_-1∧_-1≤((k+1:Nat):Int)
   omega
  ·exact d
 ·split
  ·exact d
  ·refine d.j ⟨by have:=a.e;dsimp only;omega,a.f,a.t,a.q.h Y0,a.c,a.a,by have:=a.b;dsimp only;omega,?_,a.g,a.h⟩;have:=a.d;show-((k+1:Nat):Int)≤_+1∧_+1≤((k+1:Nat):Int)
   omega
def dU.w (d:dU c k):dU (mo c x) (k+1):=by
 have a:=d.b (m:=k+1) Y0;unfold mo;dsimp only;split
 ·have b:=La (side:=1-x.r.a) (n:=x.f.g) (i:=65535) d.f d.g;exact⟨a.n,a.h,a.i,b.1,b.2,a.l,a.d,a.e⟩
 ·have b:=La (side:=1-x.r.a) (n:=x.f.g) (i:=(c.p x.r.a).q.e.a) (yu (fG c.l x.r.d).1.d) (yu (fG c.l x.r.d).1.e);exact a.q ((lH d.e x.r.d).g b.1 b.2)
def dU.p (b:dU c k) (e:lQ m) (d:Int):dU {c with l:=nP c.l m d} (k+1):=by have a:=b.b (m:=k+1) Y0;exact⟨a.n,a.h,a.i,a.f,a.g,b.l.f m d,by have:=Si c.l m d;have:=b.d;dsimp only;omega,WM b.e e⟩
def dU.y (a:dU c k):dU (pJ c x).1 (k+1):=by unfold pJ;have b:lQ ({Sm.s with c:=x.a.e,k:=2,o:=1}:Sm):=⟨lQ.b.x,lQ.b.y,⟨lQ.b.c.a,lQ.b.c.b⟩,⟨lQ.b.d.a,lQ.b.d.b⟩⟩;exact a.p (b.e (.e _) 1) _
def FZ (a:dU c k):nD (sZ c x):=by
 unfold sZ;split
 ·exact(lH a.e _).f _
 ·exact .d
def dU.r (a:dU c k) (b:lQ m) {t:Ta} (d:nD t):dU (tq c x m t) (k+1):=by unfold tq;exact a.o (b.e d _) _
def dU.z (a:dU c k):dU (kI c x).1 (k+2):=by
 have b:=(FZ (x:=x) a).g x.b (mI x);unfold kI;dsimp only;split
 ·exact(a.r (lH a.e _) b).b Y0
 ·have e:lQ ({Sm.s with c:=x.a.b,k:=3}:Sm):=⟨lQ.b.x,lQ.b.y,⟨lQ.b.c.a,lQ.b.c.b⟩,⟨lQ.b.d.a,lQ.b.d.b⟩⟩;have d:=e.e (.e ((sZ c x).h x.b (mI x)).2.1.m) 1;have e:=a.p d c.a.b;split
  ·exact e.b Y0
  ·exact e.r d b
end
def bH.I {w:aB} {g:Nat} {d:bB} {b:Array aI} (f:bH w g d b) (e:Nat) (l:List aI) (h:(b.toList.drop e).take l.length=l):∀j d,l[j]?=R d→w.cell? ⟨g,e+j,O⟩=R d:=fun j d b=>by
 rw[←h,List.getElem?_take]at b
 split at b
 ·rw[f.a,←b,List.getElem?_drop,Array.getElem?_toList]
 ·cases b
def Km (g:Nat) (M:Int) (f:Fr) (D S:Option aX) (dn dc sn sc:Nat) (A:Option aX) (n c:Nat) (w:aB) (h:zbs w g M f D S dn dc sn sc A n c):
  aF au 132 #[aK (R ⟨g,0,O⟩)] w fun e w'=>e=av (aS #[J U f.a,J U f.d,J U f.b,J U f.f,Z A n c,Z S sn sc,J U f.k,J U f.l,aO f.m,J U f.e,J U f.h,J U f.j,J U f.g])∧Es w' g M∧bg [g] w w':=by
 have HK:=aj (gU w 137 Z13);have HX:=aj (bH.b h HK.o.1);have hl:=bH.e h;have HL:=aj hl;clear h hl;go_enter func132,ntmps132;go_upto_region 1 with fail;generalize hW:w.alloc (.cells Z13 137)=w1 at HK HX⊢;have hz:w1.heap.size=w.heap.size+1:=by rw[←hW];simp
 have HZ:=aj hz;clear hW hz;have HK2:=aj (gU w1 137 #[J U f.a,J U f.d,J U f.b,J U f.f,Z D dn dc,Z S sn sc,J U f.k,J U f.l,aO f.m,J U f.e,J U f.h,J U f.j,J U f.g]);have q11:(w1.alloc (.cells #[J U f.a,J U f.d,J U f.b,J U f.f,Z D dn dc,Z S sn sc,J U f.k,J U f.l,aO f.m,J U f.e,J U f.h,J U f.j,J U f.g] 137)).cell? ⟨g,15,O⟩=R (Z A n c):=(HX.o.b HK2.o.1).a 15;have q0:(w1.alloc (.cells #[J U f.a,J U f.d,J U f.b,J U f.f,Z D dn dc,Z S sn sc,J U f.k,J U f.l,aO f.m,J U f.e,J U f.h,J U f.j,J U f.g] 137)).cell? ⟨g,0,O⟩=R (J U M):=(HX.o.b HK2.o.1).a 0;go_upto_region 2 with(refine eT Y4 137 (.tmp 6) rfl g 2 rfl (#[J U f.a,J U f.d,J U f.b,J U f.f,Z D dn dc,Z S sn sc,J U f.k,J U f.l,aO f.m,J U f.e,J U f.h,J U f.j,J U f.g]:Array aI).toList (HX.o.I 2 _ rfl) underlying137 rfl Y3 #[J U f.a,J U f.d,J U f.b,J U f.f,Z D dn dc,Z S sn sc,J U f.k,J U f.l,aO f.m,J U f.e,J U f.h,J U f.j,J U f.g] rfl ?_);have HK3:=aj (HK2.o.2.f 4 (Z A n c));generalize hW:w1.alloc (.cells #[J U f.a,J U f.d,J U f.b,J U f.f,Z D dn dc,Z S sn sc,J U f.k,J U f.l,aO f.m,J U f.e,J U f.h,J U f.j,J U f.g] 137)=w2 at HK2 HK3 q11 q0⊢;have g4:=HK2.o.2.c 4;have g44:=HK2.o.2.H 4;go_upto_region 3 with fail;have hu:g≠w1.heap.size∧w.heap.size≠w1.heap.size∧g≠w.heap.size∧w.heap.size≤w1.heap.size:=by have:=HL.o;have:=HZ.o;omega
 have HU:=aj hu;have HX3:=aj (((HX.o.b HK2.o.1).i (p:=⟨w1.heap.size,4,O⟩) hu.1 (Z A n c)));have HR3:=aj (((HK.o.2.b HK2.o.1).i (p:=⟨w1.heap.size,4,O⟩) hu.2.1 (Z A n c)));have HO3:Y (bg [w1.heap.size] w2 (w2.setCell ⟨w1.heap.size,4,O⟩ (Z A n c))):=aj (bg.e (p:=⟨w1.heap.size,4,O⟩) _ (aC.2 rfl) _);generalize w2.setCell ⟨w1.heap.size,4,O⟩ (Z A n c)=w3 at HK3 HX3 HR3 HO3⊢;have x0:=HX3.o.H 0;have HY4:=aj (HX3.o.p #[J U M,aO false,J U 0,J U 0,J U 0,J U 0,Z O 0 0,Z O 0 0,J U 0,J U 0,aO false,J U 0,J U 0,J U 0,J U 0,Z O 0 0]);have HK4:=aj (bH.s HK3.o hu.1.symm #[J U M,aO false,J U 0,J U 0,J U 0,J U 0,Z O 0 0,Z O 0 0,J U 0,J U 0,aO false,J U 0,J U 0,J U 0,J U 0,Z O 0 0]);have HR4:=aj (HR3.o.s hu.2.2.1.symm #[J U M,aO false,J U 0,J U 0,J U 0,J U 0,Z O 0 0,Z O 0 0,J U 0,J U 0,aO false,J U 0,J U 0,J U 0,J U 0,Z O 0 0]);clear hu q11 q0 g4 g44 hW HX;go_upto_region 4 with(refine wpList_store_row rfl 188 (.tmp 19) (.tmp 18) rfl g #[J U M,aO false,J U 0,J U 0,J U 0,J U 0,Z O 0 0,Z O 0 0,J U 0,J U 0,aO false,J U 0,J U 0,J U 0,J U 0,Z O 0 0] rfl rfl 188 #[J U M,aO true,J U f.a,J U f.d,J U f.b,J U f.f,Z D dn dc,Z S sn sc,J U f.k,J U f.l,aO f.m,J U f.e,J U f.h,J U f.j,J U f.g,Z A n c] HX3.o Y3 rfl (by simp[Value.oneCell']) ?_);go_wp2_with (first|refine eT Y4 137 (.tmp 3) rfl w1.heap.size 0 rfl (#[J U f.a,J U f.d,J U f.b,J U f.f,Z A n c,Z S sn sc,J U f.k,J U f.l,aO f.m,J U f.e,J U f.h,J U f.j,J U f.g]:Array aI).toList (jl HK4.o) underlying137 rfl Y3 #[J U f.a,J U f.d,J U f.b,J U f.f,Z A n c,Z S sn sc,J U f.k,J U f.l,aO f.m,J U f.e,J U f.h,J U f.j,J U f.g] rfl ?_ |refine wpList_store_row rfl 137 (.tmp 2) (.tmp 20) rfl w.heap.size #[J U f.a,J U f.d,J U f.b,J U f.f,Z A n c,Z S sn sc,J U f.k,J U f.l,aO f.m,J U f.e,J U f.h,J U f.j,J U f.g] rfl rfl 137 Z13 HR4.o Y3 rfl (by simp[Value.oneCell']) ?_);refine aG (iC results132 _ rfl (HR4.o.p _) underlying137 rfl Y3) rfl ⟨rfl,HY4.o.s HU.o.2.2.1 _,?_⟩;have o:=((bg.d (F:=[]) HK.o.1).a (bg.d (F:=[]) HK2.o.1) Y1).a HO3.o (fun b hb=>.inr (by rw[aC.1 hb];exact HU.o.2.2.2));exact((o.g (F1:=[g]) Y1).a (bg.h w3 g _ (aC.2 rfl)) (fun b hb=>.inl hb)).a (bg.h _ w.heap.size _ (aC.2 rfl)) (fun b hb=>.inr (by rw[aC.1 hb];exact aD _))
def SN (g:Nat) (M:Int) (F:List Nat) (b:As×Fr×Bool×Int) (w:aB) (f:Ending) (d:aB):Prop:=
 ∃e dc h i sc F',f=av (aN #[Av b.2.1 e b.2.1.c.length dc h i sc,b.2.2.1,b.2.2.2])∧WH d g M b.1 F'∧gG F F' w d∧b.2.1.c.length≤dc∧bU d e (dP b.2.1.c)
def WH.b {w:aB} {g:Nat} {M:Int} {d:As} {F:List Nat} (b:WH w g M d F):∀d∈F,d<w.heap.size:=by obtain⟨_,_,d,e,f,h,i,A,n,c,b⟩:=b;exact b.j
def Ae {g:Nat} {M:Int} {e:As} {F F':List Nat} {w b:aB} (er:Int) (d:WH b g M e F') (f:gG F F' w b):SN g M F (e,Fr.o,false,er) w (av (aN #[aS Z13,false,er])) b:=
 ⟨O,0,O,0,0,F',rfl,d,f,aD _,fun j b d=>by cases d⟩
structure AdI (w:aB) (g:Nat) (M:Int) (F:List Nat) (fr:Array aI) (a:Fr) (bs:List Int) (A:Option aX) (n c:Nat) (F':List Nat) (W:aB):Prop where
 d:∃D0 S0 dn0 dc0 sc0,vS W g M true a D0 S0 dn0 dc0 0 sc0 A n c bs F' (fun _=>False)
 t:gG F F' w W
 f:bH W w 137 fr
 r:bH W (w.heap.size+1) 137 Z13
 b:w.heap.size∉F'∧w.heap.size+1∉F'
section
variable {w W W':aB} {g n c m j dc sc:Nat} {M er:Int} {F F':List Nat} {fr:Array aI} {a:Fr} {bs l:List Int} {A:Option aX}
def AdI.e (b:AdI w g M F fr a bs A n c F' W) (d:aJ W W W'):AdI w g M F fr a bs A n c F' W':=by obtain⟨e,f,h,i,k,o⟩:=b.d;exact⟨⟨e,f,h,i,k,o.p d⟩,b.t.a (gG.d d),b.f.b d,b.r.b d,b.b⟩
def AdI.h {f:Option aX} {h:Nat} (i:AdI w g M F fr a bs A n c F' W) (v:W'.ownsRow 0 5 1 (Z f (n+m) h) (n+m) (dP bs++dP l)) (r:W.grownBy W' (Z A n c).ownBlock) (t:(Z f (n+m) h).ownBlock=(Z A n c).ownBlock∨(Z f (n+m) h).ownBlock=R W.heap.size):
  ∃b,AdI w g M F fr a (bs++l) f (n+m) h b (W'.setCell ⟨g,15,O⟩ (Z f (n+m) h)):=by
 obtain⟨y,z,B,C,D,e⟩:=i.d;have s:=bg.k r (fun b d=>.inl (e.f b d).1);have p:bg [g] W' (W'.setCell ⟨g,15,O⟩ (Z f (n+m) h)):=bg.e (p:=⟨g,15,O⟩) _ (aC.2 rfl) _;have o:gG F' (g::(Z f (n+m) h).ownBlock.toList) W (W'.setCell ⟨g,15,O⟩ (Z f (n+m) h))∧∀b,(Z f (n+m) h).ownBlock=R b→(b∈F'∨b=W.heap.size)∧b≠g:=by
  have k:∀b,(Z f (n+m) h).ownBlock=R b→(b∈F'∨b=W.heap.size)∧b≠g:=fun b d=>by
   rcases t with q|q
   ·rw[q]at d;exact⟨.inl (e.f b d).1,(e.f b d).2⟩
   ·rw[q]at d;injection d with d;have:=e.j g e.e;exact⟨.inr d.symm,Y0⟩
  refine⟨⟨s.a p (fun b d=>by rw[aC.1 d];exact .inl e.e),fun b d=>?_⟩,k⟩;rcases bA.1 d with rfl|d
  ·exact .inl e.e
  ·exact(k b (bC.1 d)).1.imp id (fun k=>Y0)
 have t:∀b,b∉F'→b<W.heap.size→b∉g::(Z f (n+m) h).ownBlock.toList∧b∉[g]:=fun b d u=>by
  have r:b≠g:=fun k=>d (k▸e.e);refine⟨fun u=>?_,Y6 r⟩;rcases bA.1 u with k|u
  ·exact r k
  ·rcases(o.2 b (bC.1 u)).1 with k|k
   ·exact d k
   ·omega
 have u:=t _ i.b.1 i.f.e;have x:=t _ i.b.2 i.r.e;refine⟨_,⟨y,z,B,C,D,?_,bO (by rw[tH];exact v) p (fun b d=>by simpa using(o.2 b d).2),fun b d=>⟨by simp[d],(o.2 b d).2⟩,?_,e.i,Y1,fun b d=>?_⟩,i.t.a o.1,(i.f.g s i.b.1).g p u.2,(i.r.g s i.b.2).g p x.2,u.1,x.1⟩
 ·exact(bH.u e.d r (fun k=>(e.f g k.symm).2 rfl)).f 15 _
 ·exact(((e.k.d (K':=fun b=>(b∉g::(Z f (n+m) h).ownBlock.toList∧¬False)∧b∉F'∧b∉[g]) (fun b d f=>⟨⟨(t b f.1 d).1,f.2⟩,f.1,(t b f.1 d).2⟩)).a s (fun b d=>d.2.1)).a p (fun b d=>d.2.2)).d (fun b _ d=>d.1)
 ·rcases o.1.2 b d with q|q
  ·exact aV (e.j b q) o.1.1.b
  ·rcases bA.1 d with rfl|d
   ·exact aV (e.j _ e.e) o.1.1.b
   ·exact aV (v.lt b (bC.1 d)).2 p.b
def zcL {b:aB} {on:Bool} {f:Fr} {D S d e:Option aX} {h i k:Nat} (o:Asm b g M on a d e h i 0 k A n c):bH ((b.setCell ⟨g,1,O⟩ (aO true)).setCells g 2 ((qf f D m dc S 0 sc):Array aI).toList) g 188 (qg M f D m dc S 0 sc A n c true):=by have p:bH (b.setCell ⟨g,1,O⟩ (aO true)) g 188 (qg M a d h i e 0 k A n c true):=bH.f o 1 _;have b:=bH.o ((qf f D m dc S 0 sc):Array aI).toList 2 _ _ p;simp only[gV,List.setIfInBounds_toArray,List.set_cons_zero,List.set_cons_succ]at b;exact b
def zcM {e i:aB} {on:Bool} {f:Fr} {k p b d q:Option aX} {o s t r:Nat} (h:vS e g M on a b d o s 0 t A n c bs F (fun _=>False)) (hF:∀b∈F,b<w.heap.size) (o:aJ w w e∧bH e w 137 fr∧bH e (w.heap.size+1) 137 Z13) (t:f.i.length=0) (u:i.ownsRow ((e.setCell ⟨g,1,O⟩ (aO true)).setCells g 2 ((qf f k m dc p 0 sc):Array aI).toList).heap.size 252 2 (Z q 0 r) 0 (jy f.i)) (d:aJ ((e.setCell ⟨g,1,O⟩ (aO true)).setCells g 2 ((qf f k m dc p 0 sc):Array aI).toList).heap.size ((e.setCell ⟨g,1,O⟩ (aO true)).setCells g 2 ((qf f k m dc p 0 sc):Array aI).toList) i):
  AdI w g M F fr f bs A n c F (i.setCell ⟨g,7,O⟩ (Z q 0 r)):=by have v:=zcL (f:=f) (D:=k) (S:=p) (m:=m) (dc:=dc) (sc:=sc) h.d;have s:bg [g] e ((e.setCell ⟨g,1,O⟩ (aO true)).setCells g 2 ((qf f k m dc p 0 sc):Array aI).toList):=(bg.e (p:=⟨g,1,O⟩) _ (aC.2 rfl) _).a (bg.f (aC.2 rfl) _ _ _) (fun b d=>.inl d);have p:bg [g] i (i.setCell ⟨g,7,O⟩ (Z q 0 r)):=bg.e (p:=⟨g,7,O⟩) _ (aC.2 rfl) _;have f:bg [g] e (i.setCell ⟨g,7,O⟩ (Z q 0 r)):=(s.a (bg.d (F:=[]) d) Y1).a p (fun b d=>.inl d);have e:∀b,w.heap.size≤b→b∉F∧b∉[g]:=fun b x=>⟨fun i=>by have:=hF b i;omega,fun i=>by have:=hF g h.e;rw[aC.1 i]at x;omega⟩;refine⟨⟨k,q,m,dc,r,(v.b d).f 7 _,bO h.h f (fun b d=>by simpa using(h.f b d).2),h.f,?_,t,h.e,fun b d=>aV (hF b d) (aR o.1.size f.b)⟩,(gG.d o.1).a ⟨f.g (fun b d=>.inl (by rw[aC.1 d];exact h.e)),fun b d=>.inl d⟩,o.2.1.g f (e _ (aD _)).2,o.2.2.g f (e _ (Nat.le_succ _)).2,(e _ (aD _)).1,(e _ (Nat.le_succ _)).1⟩;exact((Cg u).a p (fun b d=>(e b (aR (aR o.1.size s.b) d)).2)).d (fun b _ d=>⟨(e b (aR (aR o.1.size s.b) d)).1,id⟩)
def zcJ {e f:Nat} {h i:bB} {k o:Array aI} (b:aJ w w W∧bH W e h k∧bH W f i o) (d:aJ W W W'):aJ w w W'∧bH W' e h k∧bH W' f i o:=⟨b.1.trans (d.mono b.1.size),b.2.1.b d,b.2.2.b d⟩
def zcK {d:Ending→aB→Prop} {b:Act} (e:b.tmps.getD 4 bq=aK (R ⟨w.heap.size+1,0,O⟩)) (f:b.tmps.getD 5 bq=aO false) (h:b.tmps.getD 6 bq=J U er) (i:b.defers=[]) (k:bH W (w.heap.size+1) 137 Z13) (o:∀W',bg [w.heap.size+1] W W'→d (av (aN #[aS Z13,false,er])) W'):bodyPost au f90 d .ret b (W.setRow (w.heap.size+1) Z13):=by have d:=o _ (bg.h W (w.heap.size+1) Z13 (aC.2 rfl));rw[←f,←h]at d;exact aG (jo (tmps:=b.tmps) results90 (w.heap.size+1) e (k.p _) underlying137 rfl Y3) i d
def zcN (b:AdI w g M F fr a bs A n c F' W) (d:a.i=[]) (e:bg [w.heap.size+1] W W'):SN g M F (⟨true,a,bs⟩,Fr.o,false,er) w (av (aN #[aS Z13,false,er])) W':=by obtain⟨f,h,i,k,o,p⟩:=b.d;exact Ae er (F':=F') (WH.a (F:=F') ⟨d,nofun,f,h,i,k,o,A,n,c,p⟩ e (fun f d h=>b.b.2 (by rw[←aC.1 h];exact d))) ⟨b.t.1.a e (fun f d=>.inr (by rw[aC.1 d];omega)),b.t.2⟩
def zcO {b:aB} {h d:Option aX} {k o i:Nat} (f:AdI w g M F fr a bs A n c F' W) (e:vS W g M true a h d k o 0 i A n c bs F' (fun _=>False)) (k:Es b g M) (o:bg [g] W b) (h:bg [w.heap.size+1] b W'):SN g M F (.d,{a with c:=bs},true,0) w (av (aN #[aS (qf a A n c d 0 i),true,J U 0])) W':=by
 have b:g≠w.heap.size+1:=fun p=>f.b.2 (p▸e.e);have p:=Kn e.h;refine⟨A,c,d,0,i,[g],by dsimp only[Av];rw[e.o],⟨rfl,fun _=>⟨rfl,k.g h (Y6 b)⟩,O,O,0,0,0,O,0,0,vS.l (bH.g k h (Y6 b))⟩,?_,by dsimp only;rw[e.o];exact p.f,?_⟩
 ·have hF:=f.t.2 g e.e;exact⟨(f.t.1.a o (fun d b=>by rw[aC.1 b];exact hF)).a h (fun d b=>.inr (by rw[aC.1 b];omega)),fun d b=>by rw[aC.1 b];exact hF⟩
 ·have i:Sl W (fun d=>d∉[g]∧d∉[w.heap.size+1]) A n c (dP bs):=p.d (fun d _ b=>⟨by simpa using(e.f d b).2,fun k=>f.b.2 (by rw[←aC.1 k];exact(e.f d b).1)⟩);exact((i.a o (fun d b=>b.1)).a h (fun d b=>b.2)).b.a
end
def Lg {g:Nat} {M:Int} {x:As} {F:List Nat} (f:Fr) (D S:Option aX) (dc sc:Nat) (w:aB) (h:WH w g M x F) (hM:0≤M∧M≤1048576) (hb:x.c.length≤100000) (hd:f.c.length≤300) (hs:f.i.length≤300) (hff:f.d≤255) (hp:mg f.a=true→f.i=[]) (hfs:FS w (fun b=>b∉F) f D f.c.length dc S f.i.length sc):
  aF au 90 #[aK (R ⟨g,0,O⟩),Av f D f.c.length dc S f.i.length sc] w (SN g M F (jY M x f) w):=by
 obtain⟨on,a,bs⟩:=x
 have HI:=aj h
 obtain⟨h0,hn,D0,S0,dn0,dc0,sc0,A,n,c,h⟩:=h
 dsimp only at h0 h hn hb
 have hlen:=h.o
 obtain⟨m,hm⟩:=exq f.c.length
 obtain⟨j,hj⟩:=exq f.i.length
 obtain⟨k1,hk1⟩:=exq (kE on a.b f.a f.b)
 obtain⟨k2,hk2⟩:=exq (mg f.a)
 obtain⟨k4,hk4⟩:=exq (zbX f.a f.d 4)
 obtain⟨a1,ha1⟩:=exq ((if on then a else f))
 rw[hm,hj]at hfs⊢
 have HT:Y (∀W,aJ w.heap.size w W→aF au 57 #[aK (R ⟨g,0,O⟩),aS #[J U f.a,J U f.d,J U f.b,J U f.f,Z D m dc,Z S j sc,J U f.k,J U f.l,aO f.m,J U f.e,J U f.h,J U f.j,J U f.g]] W fun e w'=>e=av (aO k1)∧aJ W.heap.size W w'):=aj fun W hW=>by rw[←hk1];exact kW f D S _ dc _ sc g on a.b W ((h.p hW).d.a 1) ((h.p hW).d.a 4)
 have HP:Y (∀W,aF au 130 #[aS #[J U f.a,J U f.d,J U f.b,J U f.f,Z D m dc,Z S j sc,J U f.k,J U f.l,aO f.m,J U f.e,J U f.h,J U f.j,J U f.g]] W fun e w'=>e=av (aO k2)∧aJ W.heap.size W w'):=aj fun W=>by rw[←hk2];exact uL f D S m dc j sc W
 have HH:Y (∀W,aF au 123 #[J U f.a,J U f.d,J U 4] W fun e w'=>e=av (aO k4)∧W=w'):=aj fun W=>by rw[←hk4];exact mF f.a f.d 4 W (by omega)
 have HZ:Y (∀er,(k1=false∧er=4∨k1=true∧(k2=false∧er=0∨k2=true∧M<(n:Int)+m∧er=9))→∀W W',aJ w.heap.size w W→bg [w.heap.size+1] W W'→SN g M F (jY M ⟨on,a,bs⟩ f) w (av (aN #[aS Z13,aO false,J U er])) W'):=aj fun er he W W' hW ho=>by
  have:=Ae er (HI.o.a (F1:=[]) (bg.d (hW.trans (ho.c hW.size (by simp)))) (by simp)) (gG.d (hW.trans (ho.c hW.size (by simp))))
  have e:jY M ⟨on,a,bs⟩ f=(⟨on,a,bs⟩,Fr.o,false,er):=by
   unfold jY;dsimp only;rw[hk1,hk2,hlen,hm]
   rcases he with⟨rfl,rfl⟩|⟨rfl,⟨rfl,rfl⟩|⟨rfl,h9,rfl⟩⟩<;>simp_all
  rw[e];exact this
 have HY:Y (k1=true→k2=true→¬M<(n:Int)+m→jY M ⟨on,a,bs⟩ f=if k4 then(.d,{a1 with c:=bs++f.c},true,0)else(⟨true,a1,bs++f.c⟩,Fr.o,false,0)):=aj fun e1 e2 e3=>by
  unfold jY;dsimp only;rw[hk1,hk2,hlen,hm,e1,e2,aL (by decide),aL (by decide),aL e3,ha1,hk4]
  cases on
  ·have:bs=[]:=bE As.c (hn rfl).1
   simp[this]
  ·simp
 have HB:=aj (sK w 137 137 #[J U f.a,J U f.d,J U f.b,J U f.f,Z D m dc,Z S j sc,J U f.k,J U f.l,aO f.m,J U f.e,J U f.h,J U f.j,J U f.g] Z13)
 have HA:=aj h
 have HF:=aj (And.intro hfs (And.intro hp (And.intro hn (And.intro hk2 (And.intro ha1 (And.intro hm (And.intro hj h0)))))))
 have HN:Y (n≤100000∧m≤300∧j≤300∧0≤M∧M≤1048576):=aj ⟨by omega,by omega,by omega,hM.1,hM.2⟩
 clear h0 hn h hlen hm hj hk1 hk2 hk4 ha1 hM hb hd hs hff hp hfs HI
 unfold Av
 go_enter func90,ntmps90
 go_upto_region 3 with fail
 generalize hW1:(w.alloc (.cells #[J U f.a,J U f.d,J U f.b,J U f.f,Z D m dc,Z S j sc,J U f.k,J U f.l,aO f.m,J U f.e,J U f.h,J U f.j,J U f.g] 137)).alloc (.cells Z13 137)=W1 at HB⊢
 clear hW1
 go_wp2_with (refine eT (by rfl) 137 (.tmp 3) rfl w.heap.size 0 rfl (#[J U f.a,J U f.d,J U f.b,J U f.f,Z D m dc,Z S j sc,J U f.k,J U f.l,aO f.m,J U f.e,J U f.h,J U f.j,J U f.g]:Array aI).toList (jl HB.o.2.1) underlying137 rfl (by kernel_rfl) #[J U f.a,J U f.d,J U f.b,J U f.f,Z D m dc,Z S j sc,J U f.k,J U f.l,aO f.m,J U f.e,J U f.h,J U f.j,J U f.g] rfl ?_)
 refine(HT.o _ HB.o.1).mono ?_
 rintro e w3 ⟨rfl,hb⟩
 have HB3:=aj (zcJ HB.o hb)
 clear hb HB HT W1
 cases k1
 ·go_wp2_with (refine wpList_store_row rfl 137 (.tmp 4) (.tmp 16) rfl (w.heap.size+1) Z13 rfl rfl 137 Z13 HB3.o.2.2 (by kernel_rfl) rfl (by kernel_rfl) ?_)
  exact zcK rfl rfl rfl rfl HB3.o.2.2 fun W' ho=>HZ.o 4 (by simp) _ _ HB3.o.1 ho
 go_wp2_with (refine eT (by rfl) 137 (.tmp 3) rfl w.heap.size 0 rfl (#[J U f.a,J U f.d,J U f.b,J U f.f,Z D m dc,Z S j sc,J U f.k,J U f.l,aO f.m,J U f.e,J U f.h,J U f.j,J U f.g]:Array aI).toList (jl HB3.o.2.1) underlying137 rfl (by kernel_rfl) #[J U f.a,J U f.d,J U f.b,J U f.f,Z D m dc,Z S j sc,J U f.k,J U f.l,aO f.m,J U f.e,J U f.h,J U f.j,J U f.g] rfl ?_)
 refine(HP.o _).mono ?_
 rintro e w4 ⟨rfl,hb⟩
 have HB:=aj (zcJ HB3.o hb)
 clear hb HB3 HP
 cases k2
 ·go_wp2_with (refine wpList_store_row rfl 137 (.tmp 4) (.tmp 21) rfl (w.heap.size+1) Z13 rfl rfl 137 Z13 HB.o.2.2 (by kernel_rfl) rfl (by kernel_rfl) ?_)
  exact zcK rfl rfl rfl rfl HB.o.2.2 fun W' ho=>HZ.o 0 (by simp) _ _ HB.o.1 ho
 have x4:w4.cell? ⟨w.heap.size,4,O⟩=R (Z D m dc):=HB.o.2.1.a 4
 have hA:=HA.o.p HB.o.1
 have y0:w4.cell? ⟨g,0,O⟩=R (J U M):=hA.d.a 0
 have y15:w4.cell? ⟨g,15,O⟩=R (Z A n c):=hA.d.a 15
 clear hA
 have q3: -9223372036854775808≤M- (n:Int):=by have:=HN.o;omega
 have q4:M- (n:Int)≤9223372036854775807:=by have:=HN.o;omega
 go_upto_region 7 with fail
 go_quiet (fail)
 have HB5:=aj (zcJ HB.o (bI (ay _ _) nq))
 generalize w4.drewN nq=w5 at HB5⊢
 clear HB q3 q4 x4 y0 y15 w4
 by_cases hgt:(m:Int)>M- (n:Int)
 ·go_wp2_with (refine wpList_store_row rfl 137 (.tmp 4) (.tmp 37) rfl (w.heap.size+1) Z13 rfl rfl 137 Z13 HB5.o.2.2 (by kernel_rfl) rfl (by kernel_rfl) ?_)
  exact zcK rfl rfl rfl rfl HB5.o.2.2 fun W' ho=>HZ.o 9 (by simp;omega) _ _ HB5.o.1 ho
 have hgt2:(n:Int)+m≤M:=by clear HY HZ HF HH HA;omega
 have HY:=aj (HY.o (by simp) (by simp) hgt2)
 have HN:=aj (And.intro HN.o hgt2)
 clear hgt2 HZ
 have y1:w5.cell? ⟨g,1,O⟩=R (aO on):=(HA.o.p HB5.o.1).d.a 1
 go_upto_if 42 with fail
 clear hgt
 go_cut [] (fun wx=>Y (∃F',AdI w g M F #[J U f.a,J U f.d,J U f.b,J U f.f,Z D m dc,Z S j sc,J U f.k,J U f.l,aO f.m,J U f.e,J U f.h,J U f.j,J U f.g] a1 bs A n c F' wx))
 case first=>
  cases on
  rotate_left
  ·go_wp2_with fail
   go_meet
   exact aj ⟨F,⟨D0,S0,dn0,dc0,sc0,by rw[←HF.o.2.2.2.2.1];exact HA.o.p HB5.o.1⟩,gG.d HB5.o.1,HB5.o.2.1,HB5.o.2.2,fun hm=>by have:=HA.o.j _ hm;omega,fun hm=>by have:=HA.o.j _ hm;omega⟩
  ·obtain rfl:j=0:=by rw[←HF.o.2.2.2.2.2.2.1,HF.o.2.1 (by rw[HF.o.2.2.2.1])];rfl
   have hA:=HA.o.p HB5.o.1
   have u1:w5.frozen? ⟨g,1,O⟩=false:=hA.d.c 1
   obtain⟨v2,hv2⟩:=exq ((w5.setCell ⟨g,1,O⟩ (aO true)).setCells g 2 (#[J U f.a,J U f.d,J U f.b,J U f.f,Z D m dc,Z S 0 sc,J U f.k,J U f.l,aO f.m,J U f.e,J U f.h,J U f.j,J U f.g]:Array aI).toList)
   have o2:bg [g] w5 v2:=by rw[←hv2];exact(bg.e (p:=⟨g,1,O⟩) _ (aC.2 rfl) _).a (bg.f (aC.2 rfl) _ _ _) (fun b hb=>.inl hb)
   have HF1:=aj (HB5.o.2.1.i (show w.heap.size≠g from by have:=HA.o.j g HA.o.e;omega) (p:=⟨g,1,O⟩) (aO true))
   have HTH:Y ((w5.setCell ⟨g,1,O⟩ (aO true)).there g 2 13):=aj (fun i hi=>by
    have k:=hA.d.f 1 (aO true)
    refine⟨?_,k.c (2+i)⟩
    rw[k.a (2+i),dA (by simp;omega)]
    rfl)
   have hK2:=zcL (f:=f) (D:=D) (S:=S) (m:=m) (dc:=dc) (sc:=sc) hA.d
   rw[hv2]at hK2
   have HK2:=aj hK2
   clear hK2
   have s5:v2.cell? ⟨w.heap.size,5,O⟩=R (Z S 0 sc):=(HB5.o.2.1.g o2 (by simp;have:=HA.o.j g HA.o.e;omega)).a 5
   have HC:=aj (Mk S 0 sc f.i v2 HF.o.1.b (by omega) HF.o.1.s.e ((HF.o.1.s.g HB5.o.1 |>.a o2 (fun b hb=>by simp;rintro rfl;exact hb HA.o.e)).b.a))
   clear hA o2
   go_upto_region 12 with(first|refine eT (by rfl) 137 (.tmp 3) rfl w.heap.size 0 rfl (#[J U f.a,J U f.d,J U f.b,J U f.f,Z D m dc,Z S 0 sc,J U f.k,J U f.l,aO f.m,J U f.e,J U f.h,J U f.j,J U f.g]:Array aI).toList (jl HF1.o) underlying137 rfl (by kernel_rfl) #[J U f.a,J U f.d,J U f.b,J U f.f,Z D m dc,Z S 0 sc,J U f.k,J U f.l,aO f.m,J U f.e,J U f.h,J U f.j,J U f.g] rfl ?_ |((with_reducible refine wpList_store_mid (op:={dst:=O,op:=.store 137 (.tmp 49) (.tmp 47),type:=_,pos:=_,after:=_,guard:=O}) rfl 137 (.tmp 49) (.tmp 47) rfl g 2 #[J U f.a,J U f.d,J U f.b,J U f.f,Z D m dc,Z S 0 sc,J U f.k,J U f.l,aO f.m,J U f.e,J U f.h,J U f.j,J U f.g] ?_ ?_ ?_ ?_ ?_ ?_);rfl;rfl;exact HTH.o;kernel_rfl;simp[Value.oneCell']))
   rw[hv2]
   go_wp2_with fail
   go_at_call 131
   refine HC.o.mono ?_
   rintro e v3 ⟨S1,c1,rfl,hos,hb⟩
   have u7:v3.frozen? ⟨g,7,O⟩=false:=(HK2.o.b hb).c 7
   have q7:v3.cell? ⟨g,7,O⟩=R (Z S 0 sc):=(HK2.o.b hb).a 7
   have HQ:Y (AdI w g M F #[J U f.a,J U f.d,J U f.b,J U f.f,Z D m dc,Z S 0 sc,J U f.k,J U f.l,aO f.m,J U f.e,J U f.h,J U f.j,J U f.g] a1 bs A n c F (v3.setCell ⟨g,7,O⟩ (Z S1 0 c1))):=aj (by
    rw[←hv2]at hos hb
    rw[←HF.o.2.2.2.2.1]
    exact zcM (HA.o.p HB5.o.1) HA.o.j HB5.o HF.o.2.2.2.2.2.2.1 hos hb)
   clear hos hb HC s5 hv2
   go_wp2_with fail
   go_meet
   exact aj ⟨F,HQ.o⟩
 case rest=>
  obtain⟨F2,hD⟩:=hcut.o
  obtain⟨k,hk⟩:=exq 188
  have HD:Y (∀q,AdI w g M F #[J U f.a,J U f.d,J U f.b,J U f.f,Z D m dc,Z S j sc,J U f.k,J U f.l,aO f.m,J U f.e,J U f.h,J U f.j,J U f.g] a1 bs A n c F2 (wc.drewN q)):=aj fun q=>hD.e (bI (ay _ _) q)
  have HS:Y (∀q,Sl (wc.drewN q) (fun b=>b∉F) D m dc (dP f.c)):=aj fun q=>HF.o.1.d.a (HD.o q).t.1 (fun b hb=>hb)
  have HO:Y (∀q,(wc.drewN q).ownsRow 0 5 1 (Z A n c) n (dP bs)):=aj fun q=>by obtain⟨_,_,_,_,_,k⟩:=(HD.o q).d;exact k.h
  have x4:wc.cell? ⟨w.heap.size,4,O⟩=R (Z D m dc):=hD.f.a 4
  have y15:wc.cell? ⟨g,15,O⟩=R (Z A n c):=by obtain⟨_,_,_,_,_,k⟩:=hD.d;exact k.d.a 15
  have HL:Y (f.c.length=m):=aj HF.o.2.2.2.2.2.1
  clear hD hcut HA HB5 hk k y1
  go_upto_region 13 with fail
  go_region_law (refine jR rfl (.tmp 61) (.tmp 63) 28 rfl 0 5 1 qL rfl (by decide) underlying28 (Z A n c) n (dP bs) (by simp[Act.eval,Act.put]) (HO.o _) D m dc (dP f.c) (by simp[Act.eval,Act.put]) (by rw[gW,HL.o,Nat.mul_one]) (HS.o 0).e (HS.o _).b.a Vt (by have:=HN.o;unfold maxLen;omega) (by have:=HN.o;omega) (aZ _) ?_;intro B cB w6 ho hg hat;obtain⟨D0,S0,dn0,dc0,sc0,k⟩:=(HD.o _).d;have k6:=bH.u k.d hg (fun e=>(k.f g e.symm).2 rfl);have e15:=k6.a 15;have f15:=k6.c 15;have HG:=aj ((HD.o _).h ho hg hat);clear ho hg hat k6 k)
  all_goals
   obtain⟨F3,hG⟩:=HG.o
   obtain⟨w7,hw7⟩:=exq (w6.setCell ⟨g,15,O⟩ (Z B (n+m) cB))
   rw[hw7]at hG⊢
   have x0:w7.cell? ⟨w.heap.size,0,O⟩=R (J U f.a):=hG.f.a 0
   have x1:w7.cell? ⟨w.heap.size,1,O⟩=R (J U f.d):=hG.f.a 1
   have HG3:=aj hG
   have hs1:a1.i=[]:=by
    have h:=HF.o.2
    rw[←h.2.2.2.1]
    split
    ·exact h.2.2.2.2.2.2
    ·exact h.1 h.2.2.1
   have HS1:=aj hs1
   clear hG hs1 HG hw7 HD HS HO x4 y15 e15 f15 w6
   dsimp only[Exit.then]
   go_wp2_with fail
   refine(HH.o _).mono ?_
   rintro e w8 ⟨rfl,rfl⟩
   cases k4
   ·go_wp2_with (refine wpList_store_row rfl 137 (.tmp 4) (.tmp 73) rfl (w.heap.size+1) Z13 rfl rfl 137 Z13 HG3.o.r (by kernel_rfl) rfl (by kernel_rfl) ?_)
    exact zcK rfl rfl rfl rfl HG3.o.r fun W' ho=>by rw[HY.o];exact zcN HG3.o HS1.o ho
   ·obtain⟨D0,S0,dn0,dc0,sc0,k⟩:=HG3.o.d
    have HK:=aj k
    have HE:=aj (Km g M a1 D0 S0 dn0 dc0 0 sc0 B (n+m) cB w7 k.d)
    clear k
    go_wp2_with fail
    refine HE.o.mono ?_
    rintro e w9 ⟨rfl,hN9,o9⟩
    have HR9:=aj (HG3.o.r.g o9 (fun hm=>HG3.o.b.2 (by rw[aC.1 hm];exact HK.o.e)))
    have HX:=aj (And.intro hN9 o9)
    clear hN9 o9 HE
    go_wp2_with (refine wpList_store_row rfl 137 (.tmp 4) (.tmp 75) rfl (w.heap.size+1) #[J U a1.a,J U a1.d,J U a1.b,J U a1.f,Z B (n+m) cB,Z S0 0 sc0,J U a1.k,J U a1.l,aO a1.m,J U a1.e,J U a1.h,J U a1.j,J U a1.g] rfl rfl 137 Z13 HR9.o (by kernel_rfl) rfl (by simp[Value.oneCell']) ?_)
    exact aG (jo results90 _ rfl (HR9.o.p _) underlying137 rfl (by kernel_rfl)) rfl (by rw[HY.o];exact zcO HG3.o HK.o HX.o.1 HX.o.2 (bg.h w9 (w.heap.size+1) _ (aC.2 rfl)))
structure ZO (ty fl st:Int) (f:Fr):Prop where
 h:Yw f
 c:f.a=ty
 g:f.d=fl
 i:f.b=st
 b:f.c.length≤300
 a:gZ f.c
 d:f.i.length≤300
 e:ty=6→f.c.length=8
def Dh {c:Cu} (b:gZ c.r) (a:Nat):(0≤(c.a a).1∧(c.a a).1<256^a)∧gZ (c.a a).2.r∧(c.a a).2.r.length≤c.r.length:=by
 unfold Cu.a;split
 ·exact⟨⟨Int.le_refl _,Int.pow_pos Y2⟩,b,aD _⟩
 ·rename_i d;have d:=Cv (b.a a);have e:(c.r.take a).length=a:=by rw[dw];omega
  rw[e]at d;exact⟨d,b.b a,Y1⟩
def ZP (a:Int):0≤lJ a∧lJ a≤2147483647:=by unfold lJ;omega
def Ga:∀a:List Int,(eX a).length≤a.length
 |b::c::d::e::f::g::a=>by
  have:=Ga a
  simp only[eX,List.length_cons]
  omega
 |[]=>by simp[eX]
 |[_]=>by simp[eX]
 |[_,_]=>by simp[eX]
 |[_,_,_]=>by simp[eX]
 |[_,_,_,_]=>by simp[eX]
 |[_,_,_,_,_]=>by simp[eX]
structure Sj (f g:Fr) (c d:Cu):Prop where
 h:g.a=f.a
 a:g.d=f.d
 e:g.b=f.b
 m:g.f=f.f
 k:g.i=f.i
 i:g.c=f.c
 j:0≤g.e∧g.e≤2147483647
 b:gZ d.r
 l:d.r.length≤c.r.length
def Gb {f:Fr} {b:Cu} (d:gZ b.r) (a:f.e=0):Sj f (eO f b).1 b (eO f b).2:=by
 have c:0≤f.e∧f.e≤2147483647:=Y0;have e:Sj f f b b:=⟨rfl,rfl,rfl,rfl,rfl,rfl,c,d,aD _⟩;have a:=Dh d 4;have d:Sj f (kY f b).1 b (kY f b).2:=by have b:=Dh a.2.1 1;exact⟨rfl,rfl,rfl,rfl,rfl,rfl,c,b.2.1,aR b.2.2 a.2.2⟩
 unfold eO;split
 ·split
  ·exact d
  ·exact e
 ·split
  ·exact d
  ·split
   ·exact⟨rfl,rfl,rfl,rfl,rfl,rfl,c,a.2.1,a.2.2⟩
   ·split
    ·exact⟨rfl,rfl,rfl,rfl,rfl,rfl,ZP _,a.2.1,a.2.2⟩
    ·split
     ·have b:=Dh a.2.1 4;exact⟨rfl,rfl,rfl,rfl,rfl,rfl,c,b.2.1,aR b.2.2 a.2.2⟩
     ·split
      ·exact⟨rfl,rfl,rfl,rfl,rfl,rfl,c,a.2.1,a.2.2⟩
      ·exact e
def Gc {c d f:Int} {e:List Int} (h:gK e.length c d f=true) (v:e.length≤300) (p:gZ e):((jK c d f e).2=(0,0)→ZO c d f (jK c d f e).1)∧((jK c d f e).2≠(0,0)→(jK c d f e).1=Fr.o):=by
 have k:(0≤d∧d≤255)∧(0≤f∧f≤2147483647):=by unfold gK bV at h;simp at h;omega
 have q:∀r:Int,lV r≠0:=fun r=>by unfold lV;split<;>decide
 unfold jK;split
 ·split
  ·rename_i C m;unfold lC;dsimp only;obtain⟨i,s⟩:=exq (Ip c d ⟨e,false⟩);have n:gZ i.2.r∧i.2.r.length≤e.length∧(zbX c d 8=false→i=(-1,⟨e,false⟩)):=by
    rw[←s];unfold Ip;split
    ·rename_i l;have t:=Dh (c:=⟨e,false⟩) p 1;exact⟨t.2.1,t.2.2,fun w=>by rw[w]at l;cases l⟩
    ·exact⟨p,aD _,fun _=>rfl⟩
   rw[s];have a:=Gb (f:={Fr.o with a:=c,d:=d,b:=f,f:=i.1}) n.1 rfl;obtain⟨b,o⟩:=exq (eO {Fr.o with a:=c,d:=d,b:=f,f:=i.1} i.2);have x:c=6→b.2.r=e∧b.1.f= -1:=by
    rintro rfl;have l:zbX 6 d 8=false:=by unfold zbX sV;simp
    rw[n.2.2 l]at o;rw[←o];exact⟨rfl,rfl⟩
   rw[o]at a⊢;have u:b.1.i=[]:=a.k;split
   ·refine⟨fun g=>?_,fun _=>rfl⟩;have:=bE Prod.fst g;exact absurd this (q c)
   ·split
    ·exact⟨fun g=>by have:=bE Prod.fst g;exact absurd this (by decide),fun _=>rfl⟩
    ·split
     ·rename_i y;have z:c=4:=by simpa using y
      refine⟨fun _=>⟨⟨?_,a.j,?_,fun j=>?_⟩,a.h,a.a,a.e,?_,?_,?_,fun h=>by omega⟩,fun j=>absurd rfl j⟩
      ·show 0≤b.1.b∧_;rw[a.e];exact k.2
      ·show 0≤b.1.d∧_;rw[a.a];exact k.1
      ·exact absurd (a.h.trans z) j
      ·show b.1.c.length≤300;rw[a.i];exact aZ 300
      ·show gZ b.1.c;rw[a.i];exact gZ.c
      ·exact aR (Ga e) v
     ·refine⟨fun _=>⟨⟨?_,a.j,?_,fun _=>u⟩,a.h,a.a,a.e,?_,(a.b.a _),?_,fun h=>?_⟩,fun j=>absurd rfl j⟩
      ·show 0≤b.1.b∧_;rw[a.e];exact k.2
      ·show 0≤b.1.d∧_;rw[a.a];exact k.1
      ·have:=a.l;have:=n.2.1;simp only[dw];omega
      ·rw[show({b.1 with c:=b.2.r.take (b.2.r.length-b.1.f.toNat)}:Fr).i=b.1.i from rfl,u];decide
      ·obtain⟨A,B⟩:=x h;subst h;unfold tK at m;simp at m;show(b.2.r.take _).length=8
       rw[A,B,dw,m];rfl
  ·exact⟨fun g=>by have:=bE Prod.fst g;exact absurd this (q c),fun _=>rfl⟩
 ·exact⟨fun g=>by have:=bE Prod.fst g;exact absurd this (by decide),fun _=>rfl⟩
structure iZ (x:Lk):Prop where
 a:ko x.r.a=true
 g:x.r.b.length≤300
 h:gZ x.r.b
 j:x.r.c≠ -1→gK x.r.b.length x.r.c x.r.e x.r.d=true
 c:x.w=(0,0)→x.r.c≠ -1→ZO x.r.c x.r.e x.r.d x.f
 e:x.w≠(0,0)∨x.r.c= -1→x.f=Fr.o
 k:x.e=true→x.r.c≠ -1
 i:Yw x.a
 n:x.c=true→x.w=(0,0)∧x.r.c≠ -1∧(x.r.c=1∨x.r.c=5∨x.r.c=9)
 f:jM x.b
 d:x.b.length+x.d.length≤100000
def Sk {a:Rw} (c:ko a.a=true) (d:a.b.length≤300) (e:gZ a.b) (b:a.c= -1):iZ (BD a):=
 ⟨c,d,e,fun a=>absurd b a,fun _ a=>absurd b a,fun _=>rfl,(fun a=>by cases a),.a,(fun a=>by cases a),(fun b a=>by cases a),aZ 100000⟩
def Gd {p:yg} {a:Rw} (f:ko a.a=true) (b:a.b.length≤300) (c:gZ a.b) (d:a.c≠ -1) (e:gK a.b.length a.c a.e a.d=true):iZ (kM p a):=by obtain⟨g,h⟩:=Gc e b c;exact⟨f,b,c,fun _=>e,fun a _=>g a,fun a=>h (a.elim id (fun a=>absurd a d)),fun _=>d,.a,(fun a=>by cases a),(fun b a=>by cases a),aZ 100000⟩
def pU {c:Co} {a:Rw} (b:iN c a=true):ko a.a=true∧(a.c≠ -1→gK a.b.length a.c a.e a.d=true):=by unfold iN at b;simp only[Bool.and_eq_true]at b;refine⟨b.1,fun c=>?_⟩;have a:=b.2;rw[aL c]at a;simp only[Bool.and_eq_true]at a;exact a.2
structure zcy (M:Int) (x:As) (f:Fr) (k:Nat):Prop where
 b:(jY M x f).1.c.length≤300*(k+1)
 a:gZ (jY M x f).1.c
 h:Yw (jY M x f).1.a∧(jY M x f).1.a.i=[]
 w:Yw (jY M x f).2.1
 d:(jY M x f).2.1.c.length≤300*(k+1)∧gZ (jY M x f).2.1.c
 e:(jY M x f).2.2.1=true→(jY M x f).2.2.2=0∧(f.a=1∨f.a=5∨f.a=9)
def zcz {M:Int} {a:As} {b:Fr} {e:Nat} {c d f:Int} (g:a.c.length≤300*e) (k:gZ a.c) (l:Yw a.a∧a.a.i=[]) (h:ZO c d f b):zcy M a b e:=by
 have f:(0:Nat)≤300*(e+1)∧gZ []:=⟨aZ _,gZ.c⟩;have c:zcy M a b e↔zcy M a b e:=Iff.rfl;by_cases i:kE a.b a.a.b b.a b.b=false
 ·have c:jY M a b=(a,Fr.o,false,4):=by unfold jY;rw[aP i]
  constructor<;>rw[c]
  ·show a.c.length≤_;omega
  ·exact k
  ·exact l
  ·exact .a
  ·exact f
  ·intro d;cases d
 ·by_cases g:mg b.a=false
  ·have c:jY M a b=(a,Fr.o,false,0):=by unfold jY;rw[aL i,aP g]
   constructor<;>rw[c]
   ·show a.c.length≤_;omega
   ·exact k
   ·exact l
   ·exact .a
   ·exact f
   ·intro d;cases d
  ·by_cases m:M<(a.c.length:Int)+b.c.length
   ·have c:jY M a b=(a,Fr.o,false,9):=by unfold jY;rw[aL i,aL g,aP m]
    constructor<;>rw[c]
    ·show a.c.length≤_;omega
    ·exact k
    ·exact l
    ·exact .a
    ·exact f
    ·intro d;cases d
   ·have n:b.a=1∨b.a=5∨b.a=9:=by unfold mg at g;simp at g;omega
    have o:=h.h.e Y0;have j:Yw (if a.b then a.a else b)∧(if a.b then a.a else b).i=[]:=by
     split
     ·exact l
     ·exact⟨h.h,o⟩
    have l:(if a.b then a.c++b.c else b.c).length≤300*(e+1)∧gZ (if a.b then a.c++b.c else b.c):=by
     have:=h.b;split
     ·exact⟨by simp;omega,k.d h.a⟩
     ·exact⟨Y0,h.a⟩
    by_cases e:zbX b.a b.d 4=true
    ·have c:jY M a b=(.d,{(if a.b then a.a else b)with c:=if a.b then a.c++b.c else b.c},true,0):=by unfold jY;rw[aL i,aL g,aL m,aP e]
     constructor<;>rw[c]
     ·exact f.1
     ·exact f.2
     ·exact⟨.a,rfl⟩
     ·exact⟨j.1.b,j.1.c,j.1.d,fun _=>j.2⟩
     ·exact l
     ·intro _;exact⟨rfl,n⟩
    ·have c:jY M a b=(⟨true,if a.b then a.a else b,if a.b then a.c++b.c else b.c⟩,Fr.o,false,0):=by unfold jY;rw[aL i,aL g,aL m,aL e]
     constructor<;>rw[c]
     ·exact l.1
     ·exact l.2
     ·exact j
     ·exact .a
     ·exact f
     ·intro d;cases d
def WO {M:Int} {d:yg} {c:Rw} {e:Nat} (g:Sb d e) (a:e≤300) (b:ko c.a=true) (f:c.b.length≤300) (i:gZ c.b) (h:c.c≠ -1) (j:gK c.b.length c.c c.e c.d=true):
  Sb (kN M d (kM d c)).1 (e+1)∧iZ (kN M d (kM d c)).2:=by
 have a:=Gd (p:=d) b f i h j;have b:=g.i (m:=e+1) Y0;obtain⟨e,f⟩:=exq (kM d c);have i:e.a=Fr.o∧e.c=false∧e.b=[]∧e.d=[]∧e.r=c:=by rw[←f];exact⟨rfl,rfl,rfl,rfl,rfl⟩
 rw[f]at a⊢;unfold kN;split
 ·exact⟨b,a⟩
 ·rename_i c;have j:=Classical.byContradiction fun f=>c (.inr (.inl f));have k:=a.c j (by rw[i.2.2.2.2];exact h);have c:=zcz (M:=M) g.e g.f g.h k;dsimp only;split
  ·exact⟨⟨c.b,c.a,b.t,b.q,b.c,b.a,b.b,b.d,b.g,c.h⟩,a.a,a.g,a.h,a.j,a.c,a.e,a.k,c.w,fun f=>⟨j,by rw[i.2.2.2.2];exact h,by have:=(c.e f).2;rw[k.c]at this;exact this⟩,a.f,a.d⟩
  ·split
   ·rename_i f;have l:=WI (t:=d.t) (l:=(jY M d.x e.f).2.1.c) (by have:=c.d.1;omega) g.t;exact⟨⟨c.b,c.a,l.2.1,b.q,b.c,b.a,b.b,b.d,b.g,c.h⟩,a.a,a.g,a.h,a.j,a.c,a.e,a.k,c.w,fun _=>⟨j,by rw[i.2.2.2.2];exact h,by have:=(c.e f).2;rw[k.c]at this;exact this⟩,l.1,by have:=l.2.2;have:=c.d.1;dsimp only;omega⟩
   ·exact⟨⟨c.b,c.a,b.t,b.q,b.c,b.a,b.b,b.d,b.g,c.h⟩,a.a,a.g,a.h,a.j,a.c,a.e,a.k,c.w,(fun f=>by rw[show({e with a:=(jY M d.x e.f).2.1}:Lk).c=e.c from rfl,i.2.1]at f;cases f),a.f,a.d⟩
def Lb {b:Co} {a:Rw} {c:Nat} (e:dU b c) (i:c≤300) (d:iN b a=true) (f:a.b.length≤300) (g:gZ a.b):dU (fU b a).1 (c+1)∧iZ (fU b a).2:=by
 obtain⟨h,j⟩:=pU d;unfold fU;split
 ·rename_i d;exact⟨e.b Y0,Sk h f g d⟩
 ·rename_i d;obtain⟨k,l⟩:=WO (M:=b.a.c) (e.a a.a) i h f g d (j d);exact⟨(e.b (m:=c+1) Y0).j k,l⟩
def Sn {b:Co} {a:Rw}:(fU b a).2.r=a:=by
 unfold fU;split
 ·rfl
 ·show(kN _ _ _).2.r=a
  unfold kN;split
  ·rfl
  ·dsimp only;split
   ·rfl
   ·split<;>rfl
end Go.Proofs.YtdcacpeaimjdlaaGreatDoor
