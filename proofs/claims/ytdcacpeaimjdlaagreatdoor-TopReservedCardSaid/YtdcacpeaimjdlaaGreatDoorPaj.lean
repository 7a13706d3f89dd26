/- Part of the proof. -/
import Derived.Test.YtdcacpeaimjdlaaGreatDoorPal
import Derived.Test.YtdcacpeaimjdlaaGreatDoorPag
import Derived.BigRegion
import Derived.Deep.Upon
import Derived.Ground.SlsfProg
import Derived.Shelf.SlSortCmp.NoneTotal
import Derived.Shelf.SlSortCmp.WholeK
import Derived.Shelf.Sort.Plain
namespace Go.Proofs.YtdcacpeaimjdlaaGreatDoor
open Go.RowKit Go.Maps Go.Proofs.Tryz Mq MFr
open Go.Value renaming int→J,slice→Z,string→aA,pointer→aK,bool→aO,tuple→aN,agg→aS,complex→aH
open Go.IntKind renaming i64→U
open Option renaming none→O,some→R
open Go.Ending renaming returned→av
open Go renaming World→aB,Value→aI,Calls→aF,Addr→aX,TypeId→bB,undef→bq
open Go.RowKit renaming Below→aJ
open Go.Proofs.Tryz renaming prog→au
open Go.FloatKind renaming f64→aW
set_option maxRecDepth 20000
set_option maxHeartbeats 0
set_option linter.all false
def bH.w {a:aB} {d:Obj} {b:bB} {c:Array aI}:bH ((a.alloc d).alloc (.cells c b)) (a.heap.size+1) b c:=by have:=bH.d (a.alloc d) b c;simpa using this
def bH.A {a:aB} {d e:Obj} {b:bB} {c:Array aI}:bH (((a.alloc d).alloc e).alloc (.cells c b)) (a.heap.size+1+1) b c:=by have:=bH.d ((a.alloc d).alloc e) b c;simpa using this
def bH.G {a:aB} {d e f:Obj} {b:bB} {c:Array aI}:bH ((((a.alloc d).alloc e).alloc f).alloc (.cells c b)) (a.heap.size+1+1+1) b c:=by have:=bH.d (((a.alloc d).alloc e).alloc f) b c;simpa using this
def zbx (b:aB):Prop:=∀(a:Nat) (c:aB) (d e f g h:aI),b.heap.size≤a→aJ b b c→aJ b b (((((c.setCell ⟨a,0,O⟩ d).setCell ⟨a,1,O⟩ e).setCell ⟨a,2,O⟩ f).setCell ⟨a,3,O⟩ g).setCell ⟨a,4,O⟩ h)
def Fb (a:aB):zbx a:=fun c d _ _ _ _ _ a b=>dM (dM (dM (dM (dM b a _) a _) a _) a _) a _
def QX (b:Ta) (a:Ms) (c:aB):aF au 272 #[aS b,aS #[aA a.m,a.t,a.n,a.b]] c (CP (b.e a) c):=by
 have A:=fun c=>aj (Ng {b with p:=1} a c);have B:=fun c=>aj (IV {b with p:=1} a c);have j:Y (b.e a=if({b with p:=1}:Ta).n a then{b with p:=1,d:=1}else if a.b&& !({b with p:=1}:Ta).k a then{b with p:=1,d:=2,l:=a.n}else{b with p:=1}):=aj rfl;obtain⟨X,C⟩:=exq (({b with p:=1}:Ta).n a);obtain⟨qt,D⟩:=exq (({b with p:=1}:Ta).k a);rw[C]at A j;rw[D]at B j;clear C D;obtain⟨d,e,t,g,f⟩:=b;obtain⟨p,q,h,v⟩:=a;dsimp only at*;have u:=aj (Fb c);go_enter func272,ntmps272;go_wp2_with fail;refine(A _).o.mono ?_;rintro a0 w ⟨rfl,r⟩;have x:=aj (bG (qX (w:=c) _ _ _) r);have y:Y (bH w c 208 #[d,aA e,J U 1,g,f]):=aj (bH.b (((bH.d c _ _).h _).h _) r);have E:Y (bH w (c.heap.size+1) 314 #[aA p,q,h,v]):=aj (bH.b (bH.w.h _) r);have z:Y (bH w (c.heap.size+1+1) 208 (rU .b)):=aj (bH.b bH.A r);clear r;obtain⟨F,G,H,I,K⟩:=bH.k y.o;obtain⟨L,M,N,P⟩:=bH.l E.o;obtain⟨k,l,m,n,o⟩:=bH.k z.o;have Q:=z.o.c;have S:=y.o.c;cases X
 ·cases v
  ·have i:Y ((⟨d,e,t,g,f⟩:Ta).e ⟨p,q,h,false⟩=⟨d,e,1,g,f⟩):=j;go_wp2_with fail;exact aG (v:=lS ⟨d,e,1,g,f⟩) (by simp[results,results272,go_sem,k,l,m,n,o];rfl) rfl ⟨by rw[i.o],u.o _ _ _ _ _ _ _ (by omega) x.o⟩
  ·go_wp2_with fail;refine(B _).o.mono ?_;clear F G H I K L M N P k l m n o Q S;rintro a0 w4 ⟨rfl,s⟩;have T:=aj (bG x.o s);have V:=aj (y.o.b s);have J2:=aj (E.o.b s);have W:=aj (z.o.b s);clear s;obtain⟨F,G,H,I,K⟩:=bH.k V.o;obtain⟨L,M,N,P⟩:=bH.l J2.o;obtain⟨k,l,m,n,o⟩:=bH.k W.o;have Q:=W.o.c;have S:=V.o.c;cases qt
   ·have i:Y ((⟨d,e,t,g,f⟩:Ta).e ⟨p,q,h,true⟩=⟨d,e,1,2,h⟩):=j;go_wp2_with fail;go_region_held3 (fun w'=>w'.cell? ⟨c.heap.size+1,2,O⟩=R (J U h)) (go_keep) (first|fail);go_wp2_with fail;exact aG (v:=lS ⟨d,e,1,2,h⟩) (by simp[results,results272,go_sem,k,l,m,n,o];rfl) rfl ⟨by rw[i.o],bI (u.o _ _ _ _ _ _ _ (by omega) (dM (dM T.o (aD _) _) (aD _) _)) 1⟩
   ·have i:Y ((⟨d,e,t,g,f⟩:Ta).e ⟨p,q,h,true⟩=⟨d,e,1,g,f⟩):=j;go_wp2_with fail;exact aG (v:=lS ⟨d,e,1,g,f⟩) (by simp[results,results272,go_sem,k,l,m,n,o];rfl) rfl ⟨by rw[i.o],u.o _ _ _ _ _ _ _ (by omega) T.o⟩
 ·have i:Y ((⟨d,e,t,g,f⟩:Ta).e ⟨p,q,h,v⟩=⟨d,e,1,1,f⟩):=j;go_wp2_with fail;exact aG (v:=lS ⟨d,e,1,1,f⟩) (by simp[results,results272,go_sem,k,l,m,n,o];rfl) rfl ⟨by rw[i.o],u.o _ _ _ _ _ _ _ (by omega) (dM x.o (by omega) _)⟩
def zcg (a:Ta×Ms×Int) (b:aB) (c:Ending) (d:aB):Prop:=c=av (aN #[lS a.1,uV a.2.1,a.2.2])∧aJ b b d
def zby (a:aB):Prop:=∀(b c:Nat) (d:aB) (e f g h i j k l m:aI),a.heap.size≤b→a.heap.size≤c→aJ a a d→aJ a a (((((((((d.setCell ⟨b,0,O⟩ e).setCell ⟨b,1,O⟩ f).setCell ⟨b,2,O⟩ g).setCell ⟨b,3,O⟩ h).setCell ⟨b,4,O⟩ i).setCell ⟨c,0,O⟩ j).setCell ⟨c,1,O⟩ k).setCell ⟨c,2,O⟩ l).setCell ⟨c,3,O⟩ m)
def zaJ (b:aB):zby b:=fun c g d _ _ _ _ _ _ _ _ _ e a f=>dM (dM (dM (dM (Fb b c d _ _ _ _ _ e f) a _) a _) a _) a _
set_option maxRecDepth 100000 in
def Nh (e:Ta) (j0:Option aX) (h0 o0:Nat) (x:List Fd) (M:Bool) (a:aB) (hn:x.length=h0) (hm:h0≤100000) (hs:bU a j0 (dx x)) (hF:∀e0∈x,e0.n.size≤1000000∧e0.v.size≤1000000):
  aF au 234 #[aS e,Z j0 h0 o0,M] a (zcg (e.g x M) a):=by
 have HK:=fun a=>aj (QU e a);have HC:=aj (fun b (hb:aJ a a b)=>rT e.j j0 h0 o0 x b hn hm (hs.a hb) hF);obtain⟨kd,k0⟩:=exq e.j;obtain⟨f,l0⟩:=exq (gD e.j x);rw[l0,k0]at HC;rw[k0]at HK;have v:Y (e.g x M=if f.2≠0 then(.b,.a,f.2)else if(e.a&&decide (f.1.t<200))=true then(if M then(.b,.a,32)else(e,f.1,0))else if M then(if(e.e f.1).c.2≠0 then(.b,.a,(e.e f.1).c.2)else((e.e f.1).c.1,f.1,0))else(e.e f.1,f.1,0)):=aj (by unfold Ta.g;rw[l0]);clear k0 l0 hn hs hF;obtain⟨f,cr⟩:=f;have p0:=fun a=>aj (QX e f a);have m0:=fun a=>aj (zy (e.e f) a);obtain⟨e0,hf⟩:=exq (e.e f);dsimp only at v HC;rw[hf]at p0 m0 v;clear hf;obtain⟨u0,hz⟩:=exq e0.c;rw[hz]at m0 v;clear hz;obtain⟨L,N,P,Q,S⟩:=e;obtain⟨g,d,h,i⟩:=f;obtain⟨T,V,W,X,fl⟩:=e0;obtain⟨⟨za,zm,zp,zd,zl⟩,zr⟩:=u0;dsimp only at*;have b0:=aj (zaJ a);go_enter func234,ntmps234;go_wp2_with fail;refine(HK _).o.mono ?_;rintro e' w1 ⟨rfl,f0⟩;have q0:=aj (bG (qX (w:=a) _ _ _) f0);have K1:Y (bH w1 a 208 #[L,aA N,P,Q,S]):=aj (bH.b (((bH.d a _ _).h _).h _) f0);have K2:Y (bH w1 (a.heap.size+1) 208 (rU .b)):=aj (bH.b (bH.w.h _) f0);have K3:Y (bH w1 (a.heap.size+1+1) 314 (qW .a)):=aj (bH.b bH.A f0);clear f0 HK;go_wp2_with fail;refine(HC.o _ q0.o).mono ?_;rintro e' c ⟨rfl,g0⟩;have r0:=aj (bG q0.o g0);have J1:=aj (K1.o.b g0);have J2:=aj (K2.o.b g0);have J3:=aj (K3.o.b g0);clear g0 HC;have v0:Y (a.heap.size≤c.heap.size):=aj r0.o.size;have w0:Y (a.heap.size<c.heap.size):=aj (by have:=J1.o.e;exact this);have G1:Y (bH (c.alloc (.cells #[aA g,d,h,i] 314)) a.heap.size 208 #[L,aA N,P,Q,S]):=aj (J1.o.h _);have G2:Y (bH (c.alloc (.cells #[aA g,d,h,i] 314)) (a.heap.size+1) 208 (rU .b)):=aj (J2.o.h _);have G3:Y (bH (c.alloc (.cells #[aA g,d,h,i] 314)) (a.heap.size+1+1) 314 (qW .a)):=aj (J3.o.h _);have G4:Y (bH (c.alloc (.cells #[aA g,d,h,i] 314)) c.heap.size 314 #[aA g,d,h,i]):=aj (bH.d _ _ _);have GB:Y (aJ a a (c.alloc (.cells #[aA g,d,h,i] 314))):=aj (r0.o.alloc v0.o _);obtain⟨y,z,A,B,C⟩:=bH.k G1.o;obtain⟨j,k,l,m,n⟩:=bH.k G2.o;obtain⟨o,p,q,r⟩:=bH.l G3.o;obtain⟨D,E,F,G⟩:=bH.l G4.o;have H:=G1.o.c;have I:=G2.o.c;have K:=G3.o.c;have A0:=J3.o.e;have B0:¬c.heap.size=a.heap.size+1:=by omega
 have C0:¬a.heap.size+1=c.heap.size:=by omega
 have D0:¬c.heap.size=a.heap.size+1+1:=by omega
 have E0:¬a.heap.size+1+1=c.heap.size:=by omega
 have F0:¬a.heap.size+1+1=a.heap.size:=by omega
 have G0:¬a.heap.size=a.heap.size+1+1:=by omega
 have H0:¬a.heap.size+1+1=a.heap.size+1:=by omega
 have I0:¬a.heap.size+1=a.heap.size+1+1:=by omega
 have K0:¬c.heap.size=a.heap.size:=by omega
 have L0:¬a.heap.size=c.heap.size:=by omega
 unfold uV;by_cases hr:cr=0
 ·subst hr;rw[aL (by decide)]at v;cases hea:(L&&decide (d<200))with
  |true=>
   have ha:L=true:=by cases L;exact absurd hea (by simp);rfl
   have x0:d<200:=by simpa[ha]using hea
   rw[hea,aP rfl]at v;clear hea;subst ha;cases M
   ·have u:Y ((⟨true,N,P,Q,S⟩:Ta).g x false=(⟨true,N,P,Q,S⟩,⟨g,d,h,i⟩,0)):=v;go_wp2_with fail;go_region_held3 (fun b=>b.cell? ⟨a,0,O⟩=R (aO true)∧b.cell? ⟨a,1,O⟩=R (aA N)∧b.cell? ⟨a,2,O⟩=R (J U P)∧b.cell? ⟨a,3,O⟩=R (J U Q)∧b.cell? ⟨a,4,O⟩=R (J U S)∧b.cell? ⟨c,0,O⟩=R (aA g)∧b.cell? ⟨c,1,O⟩=R (J U d)∧b.cell? ⟨c,2,O⟩=R (J U h)∧b.cell? ⟨c,3,O⟩=R (aO i)) (go_keep) (first|fail);go_wp2_with fail;exact aG (v:=aN #[lS ⟨true,N,P,Q,S⟩,uV ⟨g,d,h,i⟩,J U 0]) (by simp[results,results234,go_sem,j,k,l,m,n,o,p,q,r];exact⟨rfl,rfl⟩) rfl ⟨by rw[u.o],bI (b0.o _ _ _ _ _ _ _ _ _ _ _ _ (by omega) (by omega) GB.o) 1⟩
   ·have u:Y ((⟨true,N,P,Q,S⟩:Ta).g x true=(.b,.a,32)):=v;go_wp2_with fail;exact aG (v:=aN #[lS .b,uV .a,J U 32]) (by simp[results,results234,go_sem,j,k,l,m,n,o,p,q,r];exact⟨rfl,rfl⟩) rfl ⟨by rw[u.o],b0.o _ _ _ _ _ _ _ _ _ _ _ _ (by omega) (by omega) GB.o⟩
  |false=>
   rw[hea,aL (by decide)]at v;have y0:L=false∨L=true∧¬d<200:=by cases L<;>simp at hea⊢;omega
   clear hea;have s:Y (c.heap.size≠a.heap.size):=aj (by have:=w0.o;omega);rcases y0 with rfl|⟨rfl,x0⟩
   all_goals
    go_wp2_with fail;refine(p0 _).o.mono ?_;clear y z A B C j k l m n o p q r D E F G H I K;rintro e' w4 ⟨rfl,c0⟩;have s0:=aj (bG GB.o c0);have F1:=aj (G1.o.b c0);have F2:=aj (G2.o.b c0);have F3:=aj (G3.o.b c0);have F4:=aj (G4.o.b c0);clear c0;obtain⟨y,z,A,B,C⟩:=bH.k F1.o;obtain⟨j,k,l,m,n⟩:=bH.k F2.o;obtain⟨o,p,q,r⟩:=bH.l F3.o;obtain⟨D,E,F,G⟩:=bH.l F4.o;have H:=F1.o.c;have I:=F2.o.c;have K:=F3.o.c;unfold lS;cases M
    ·have u:=v;rw[aL (by decide)]at u;go_wp2_with fail;obtain⟨w,t⟩:=exq ((((((w4.setCell ⟨a,0,O⟩ (aO T)).setCell ⟨a,1,O⟩ (aA V)).setCell ⟨a,2,O⟩ (J U W)).setCell ⟨a,3,O⟩ (J U X)).setCell ⟨a,4,O⟩ (J U fl)));have n0:Y (aJ a a w):=aj (by rw[←t];exact Fb a _ _ _ _ _ _ _ (aD _) s0.o);have E1:Y (bH w a 208 #[T,aA V,W,X,fl]):=aj (by rw[←t];exact((((F1.o.f 0 (aO T)).f 1 (aA V)).f 2 (J U W)).f 3 (J U X)).f 4 (J U fl));have E2:Y (bH w (a.heap.size+1) 208 (rU .b)):=aj (by rw[←t];exact((((F2.o.i (by simp) _).i (by simp) _).i (by simp) _).i (by simp) _).i (by simp) _);have E3:Y (bH w (a.heap.size+1+1) 314 (qW .a)):=aj (by rw[←t];exact((((F3.o.i (by simp;omega) _).i (by simp;omega) _).i (by simp;omega) _).i (by simp;omega) _).i (by simp;omega) _);have E4:Y (bH w c 314 #[aA g,d,h,i]):=aj (by rw[←t];exact((((F4.o.i s.o _).i s.o _).i s.o _).i s.o _).i s.o _);rw[t];clear t y z A B C j k l m n o p q r D E F G H I K;obtain⟨y,z,A,B,C⟩:=bH.k E1.o;obtain⟨j,k,l,m,n⟩:=bH.k E2.o;obtain⟨o,p,q,r⟩:=bH.l E3.o;obtain⟨D,E,F,G⟩:=bH.l E4.o;have H:=E1.o.c;have I:=E2.o.c;have K:=E3.o.c;go_region_held3 (fun b=>b.cell? ⟨a,0,O⟩=R (aO T)∧b.cell? ⟨a,1,O⟩=R (aA V)∧b.cell? ⟨a,2,O⟩=R (J U W)∧b.cell? ⟨a,3,O⟩=R (J U X)∧b.cell? ⟨a,4,O⟩=R (J U fl)∧b.cell? ⟨c,0,O⟩=R (aA g)∧b.cell? ⟨c,1,O⟩=R (J U d)∧b.cell? ⟨c,2,O⟩=R (J U h)∧b.cell? ⟨c,3,O⟩=R (aO i)) (go_keep) (first|fail);go_wp2_with fail;exact aG (v:=aN #[lS ⟨T,V,W,X,fl⟩,uV ⟨g,d,h,i⟩,J U 0]) (by simp[results,results234,go_sem,j,k,l,m,n,o,p,q,r];exact⟨rfl,rfl⟩) rfl ⟨by rw[u.o],bI (b0.o _ _ _ _ _ _ _ _ _ _ _ _ (by omega) (by omega) n0.o) 1⟩
    ·rw[aP rfl]at v;go_wp2_with fail;obtain⟨w,t⟩:=exq ((((((w4.setCell ⟨a,0,O⟩ (aO T)).setCell ⟨a,1,O⟩ (aA V)).setCell ⟨a,2,O⟩ (J U W)).setCell ⟨a,3,O⟩ (J U X)).setCell ⟨a,4,O⟩ (J U fl)));have n0:Y (aJ a a w):=aj (by rw[←t];exact Fb a _ _ _ _ _ _ _ (aD _) s0.o);have E1:Y (bH w a 208 #[T,aA V,W,X,fl]):=aj (by rw[←t];exact((((F1.o.f 0 (aO T)).f 1 (aA V)).f 2 (J U W)).f 3 (J U X)).f 4 (J U fl));have E2:Y (bH w (a.heap.size+1) 208 (rU .b)):=aj (by rw[←t];exact((((F2.o.i (by simp) _).i (by simp) _).i (by simp) _).i (by simp) _).i (by simp) _);have E3:Y (bH w (a.heap.size+1+1) 314 (qW .a)):=aj (by rw[←t];exact((((F3.o.i (by simp;omega) _).i (by simp;omega) _).i (by simp;omega) _).i (by simp;omega) _).i (by simp;omega) _);have E4:Y (bH w c 314 #[aA g,d,h,i]):=aj (by rw[←t];exact((((F4.o.i s.o _).i s.o _).i s.o _).i s.o _).i s.o _);rw[t];clear t y z A B C j k l m n o p q r D E F G H I K;obtain⟨y,z,A,B,C⟩:=bH.k E1.o;obtain⟨j,k,l,m,n⟩:=bH.k E2.o;obtain⟨o,p,q,r⟩:=bH.l E3.o;obtain⟨D,E,F,G⟩:=bH.l E4.o;have H:=E1.o.c;have I:=E2.o.c;have K:=E3.o.c;refine(m0 _).o.mono ?_;clear y z A B C j k l m n o p q r D E F G H I K;rintro e' w6 ⟨rfl,d0⟩;have t0:=aj (bG n0.o d0);have I1:=aj (E1.o.b d0);have I2:=aj (E2.o.b d0);have I3:=aj (E3.o.b d0);have I4:=aj (E4.o.b d0);clear d0;obtain⟨y,z,A,B,C⟩:=bH.k I1.o;obtain⟨j,k,l,m,n⟩:=bH.k I2.o;obtain⟨o,p,q,r⟩:=bH.l I3.o;obtain⟨D,E,F,G⟩:=bH.l I4.o;have H:=I1.o.c;have I:=I2.o.c;have K:=I3.o.c;unfold lS;by_cases i0:zr=0
     ·subst i0;have u:=v;rw[aL (by decide)]at u;go_wp2_with fail;obtain⟨W7,a0⟩:=exq ((((((w6.setCell ⟨a,0,O⟩ (aO za)).setCell ⟨a,1,O⟩ (aA zm)).setCell ⟨a,2,O⟩ (J U zp)).setCell ⟨a,3,O⟩ (J U zd)).setCell ⟨a,4,O⟩ (J U zl)));have z0:Y (aJ a a W7):=aj (by rw[←a0];exact Fb a _ _ _ _ _ _ _ (aD _) t0.o);have L1:Y (bH W7 a 208 #[za,aA zm,zp,zd,zl]):=aj (by rw[←a0];exact((((I1.o.f 0 (aO za)).f 1 (aA zm)).f 2 (J U zp)).f 3 (J U zd)).f 4 (J U zl));have L2:Y (bH W7 (a.heap.size+1) 208 (rU .b)):=aj (by rw[←a0];exact((((I2.o.i (by simp) _).i (by simp) _).i (by simp) _).i (by simp) _).i (by simp) _);have L3:Y (bH W7 (a.heap.size+1+1) 314 (qW .a)):=aj (by rw[←a0];exact((((I3.o.i (by simp;omega) _).i (by simp;omega) _).i (by simp;omega) _).i (by simp;omega) _).i (by simp;omega) _);have L4:Y (bH W7 c 314 #[aA g,d,h,i]):=aj (by rw[←a0];exact((((I4.o.i s.o _).i s.o _).i s.o _).i s.o _).i s.o _);rw[a0];clear a0 y z A B C j k l m n o p q r D E F G H I K;obtain⟨y,z,A,B,C⟩:=bH.k L1.o;obtain⟨j,k,l,m,n⟩:=bH.k L2.o;obtain⟨o,p,q,r⟩:=bH.l L3.o;obtain⟨D,E,F,G⟩:=bH.l L4.o;have H:=L1.o.c;have I:=L2.o.c;have K:=L3.o.c;go_region_held3 (fun b=>b.cell? ⟨a,0,O⟩=R (aO za)∧b.cell? ⟨a,1,O⟩=R (aA zm)∧b.cell? ⟨a,2,O⟩=R (J U zp)∧b.cell? ⟨a,3,O⟩=R (J U zd)∧b.cell? ⟨a,4,O⟩=R (J U zl)∧b.cell? ⟨c,0,O⟩=R (aA g)∧b.cell? ⟨c,1,O⟩=R (J U d)∧b.cell? ⟨c,2,O⟩=R (J U h)∧b.cell? ⟨c,3,O⟩=R (aO i)) (go_keep) (first|fail);go_wp2_with fail;exact aG (v:=aN #[lS ⟨za,zm,zp,zd,zl⟩,uV ⟨g,d,h,i⟩,J U 0]) (by simp[results,results234,go_sem,j,k,l,m,n,o,p,q,r];exact⟨rfl,rfl⟩) rfl ⟨by rw[u.o],bI (b0.o _ _ _ _ _ _ _ _ _ _ _ _ (by omega) (by omega) z0.o) 1⟩
     ·have u:=v;rw[aP i0]at u;have M0:(zr !=0)=true:=by rw[bne_iff_ne];exact i0
      clear i0;go_wp2_with fail;exact aG (v:=aN #[lS .b,uV .a,zr]) (by simp[results,results234,go_sem,j,k,l,m,n,o,p,q,r];exact⟨rfl,rfl⟩) rfl ⟨by rw[u.o],b0.o _ _ _ _ _ _ _ _ _ _ _ _ (by omega) (by omega) (Fb a _ _ _ _ _ _ _ (aD _) t0.o)⟩
 ·have u:Y ((⟨L,N,P,Q,S⟩:Ta).g x M=(.b,.a,cr)):=aj (by rw[v.o,aP hr]);have N0:(cr !=0)=true:=by rw[bne_iff_ne];exact hr
  clear hr;go_wp2_with fail;exact aG (v:=aN #[lS .b,uV .a,cr]) (by simp[results,results234,go_sem,j,k,l,m,n,o,p,q,r];exact⟨rfl,rfl⟩) rfl ⟨by rw[u.o],b0.o _ _ _ _ _ _ _ _ _ _ _ _ (by omega) (by omega) GB.o⟩
def jm (f:bB) (g a:Nat) (h:List aI) (b:aB) (i:Ending) (c:aB):Prop:=
 ∃d e,i=av (Z d a e)∧c.ownsRow b f g (Z d a e) a h∧aJ b b c
def oz {j:Program} {o:FuncId} {p:bB} {f n:Nat} {b:aI} (a:(j.info? p).map (fun a=>(a.zero,a.size,a.bytes))=R (R b,f,n)) (a:0<f)
  (r:∀(a e:Nat) (b:aB),aF j o #[Z O a e] b fun c g=>c=av (Z O 0 0)∧g=b)
  (s:∀(k i a e:Nat) (h:List aI) (b:aB),h.length=a*f→a≤maxLen→a*n≤140737488355328→(∀l d,h[l]?=R d→b.cell? ⟨k,i+l,O⟩=R d)→(∀d∈h,d.oneCell'=true)→
   aF j o #[Z (R ⟨k,i,O⟩) a e] b fun c g=>∃m,c=av m∧g.ownsRow b p f m a h∧m≠ Z O 0 0∧aJ b b g)
  (i:Option aX) (a e:Nat) (h:List aI) (b:aB) (t:h.length=a*f) (u:a≤100000000) (q:n≤1000) (v:i=O→a=0) (w:∀n,i=R n→n.spot=O) (x:bU b i h) (y:∀d∈h,d.oneCell'=true):
  aF j o #[Z i a e] b (jm p f a h b):=by
 cases i with
 |none=>have f:=v rfl;subst f;have f:h=[]:=List.length_eq_zero_iff.1 (by omega);subst f;refine mB (r 0 e b) ?_;rintro g rfl;exact⟨O,0,rfl,aT _ _ _ _,ay _ _⟩
 |some n=>
  obtain⟨k,i,f⟩:=n;have f:=w _ rfl;dsimp only at f;subst f;refine(s k i a e h b t (by unfold maxLen;omega) ?_ ?_ y).mono ?_
  ·have:=Nat.mul_le_mul u q;omega
  ·intro l d a;obtain⟨e,f,c,b⟩:=x l d a;injection c with c;injection c with a d;subst a d;exact b
  ·rintro c g ⟨m,rfl,a,_,q⟩;obtain⟨b,c,rfl⟩:=dB a;exact⟨b,c,rfl,a,q⟩
def zA (b:Option aX):Prop:=∀a,b=R a→a.spot=O
def tT {a:Program} {d:aB} {j:Array Oper} {k:List Oper} {b:Oper} {e:Act} {l:Exit→Act→aB→Prop} (s:b.guard=O) (m n:Operand) (c:bB)
  (t:b.op=.call {callee:=.builtin .append,args:=#[m,n],argTypes:=#[c,c]}) (h:bB) (o:TypeInfo) (p:a.underlying c=R (.slice h)) (u:a.info? h=R o)
  (i:Option aX) (f g:Nat) (v:f≤g) (q:aX) (r:Nat) (w:e.eval m=Z i f g) (m:e.eval n=Z (R q) 0 r)
  (n:wpList a j l k (e.put b.dst (Z i f g)) d):wpList a j l (b::k) e d:=by refine wpList_plain s fun j e=>?_;have j:=run_append_nothing (P:=a) d c c b.type h o p u i f g v _ (Src.ofSlice d p q 0 r [] Y1 Y1 Y1);unfold Oper.wp;simp[execOp,t,resolve,invoke,builtin,w,m,j,Result.andThen];exact e _ _ n
def IW (g:aX) (b:Nat) (a:aB):aF au 34 #[Z (R g) 0 b] a (jm 5 1 0 [] a):=by obtain⟨h,c⟩:∃d,Tryz.prog.info? 5=R d:=Option.isSome_iff_exists.1 Y3;have i:=aj c;clear c;have j:∀(a:aB) (c:Option aX) (d b e f:Nat),(binOp .eql 28 (Z c d b) (Z O e f)).run au a=.ok (aO c.isNone) a:=fun a c d b e f=>Lib.run_eql_slice_nil a _ _ c d b e f underlying28;go_enter func34,ntmps34;go_wp2_with (at_builtin;refine tT rfl (.tmp 5) (.tmp 6) 28 rfl 5 h underlying28 i.o (R ⟨a,0,O⟩) 0 0 (aD _) g b rfl rfl ?_);go_ret;exact⟨_,_,rfl,World.ownsRow_made a #[] 0 (aD _) (aZ _) Y1,iQ a _⟩
def jd (e:Option aX) (a d:Nat) (f:List Int) (b:aB) (k:f.length=a) (z:a≤1000000) (l:e=O→a=0) (i:bU b e (dP f)):aF au 34 #[Z e a d] b (jm 5 1 a (dP f) b):=by
 by_cases h:∀g,e=R g→g.spot=O
 ·exact oz qL (by decide) (fun a d b=>AnyE.slices_Clone_nil Tryz.lc34 a d b) (fun j m a d n b o p q r s=>by obtain⟨t,u,v,w,x⟩:=info_parts qL;exact AnyE.slices_Clone Tryz.lc34 t _ 1 1 u v w x rfl (by decide) Tryz.sizeOf5 j m a d n b o p q r s) e a d (dP f) b (by rw[gW];omega) (by omega) (by omega) l h i Vt
 ·cases e with
  |none=>exact absurd (fun g c=>nomatch c) h
  |some y=>
   cases f with
   |nil=>obtain rfl:a=0:=k.symm;exact IW y d b
   |cons A f=>obtain⟨j,B,c,_⟩:=i 0 _ rfl;injection c with c;subst c;exact absurd (fun g c=>by injection c with c;subst c;rfl) h
structure CQ (w:aB) (g:Nat) (l:List Int) (k B:Nat):Prop where
 a:∃A c,bH w g 390 #[Z A l.length c,J U (k:Nat)]∧mQ w (fun b=>b≠g∧b<B) A (dP l)
 f:k≤8*l.length
 d:g<B
def CQ.e {a e:aB} {d f b:Nat} {g:List Int} {F:List Nat} (c:CQ a d g f b) (h:bg F a e) (hF:∀a∈F,b≤a):CQ e d g f b:=by
 obtain⟨f,g,i,j⟩:=c.a;have e:∀a,a<b→a∉F:=fun a b k=>by have:=hF a k;omega
 exact⟨⟨f,g,i.g h (e d c.d),j.c fun a b d=>h.m a b (e a d.2)⟩,c.f,c.d⟩
def Ni (d:Option aX) (a h:Nat) (e:List Int) (b:aB) (g:e.length=a) (l:a≤1000000) (i:d=O→a=0) (j:bU b d (dP e)):
  aF au 236 #[Z d a h] b fun k f=>∃c,k=av (aK (R ⟨c,0,O⟩))∧b.heap.size≤c∧CQ f c e 0 f.heap.size∧c<f.heap.size∧aJ b b f:=by
 have f:=aj (jd d a h e b g l i j);have l:=aj g;clear g j i;go_enter func236,ntmps236;go_wp2_with fail;refine f.o.mono ?_;rintro k b ⟨d,e,rfl,g,h⟩;have i:=aj g;have f:=aj h;clear g h;go_wp2;go_ret;refine⟨b,rfl,f.o.size,⟨⟨d,e,?_,?_⟩,aZ _,Y1⟩,Y1,f.o.alloc f.o.size _⟩
 ·rw[l.o];exact bH.d _ _ _
 ·exact(((Cg i.o).d (K':=fun f=>f≠b.heap.size∧f<(b.alloc (.cells #[Z d a e,J U 0] 390)).heap.size) (fun c f _=>by simp;omega)).g ((ay _ b).alloc (aD _) (.cells #[Z d a e,J U 0] 390))).b
def Fh (d:Nat) (a:List Int) (b e:Nat) (c:aB) (g:a.length≤1000000) (f:Y (CQ c d a b e)):
  aF au 274 #[qp d] c fun e h=>e=av (J U (8*(a.length:Int)- (b:Nat)))∧∃e,h=c.drewN e:=by obtain⟨h,i,e,j⟩:=f.o.a;have k:=f.o.f;have f:=e.H 0;have f:=e.H 1;have c:U.wrap (8*(a.length:Int))=8*(a.length:Int):=bF _ Y0;have c:U.wrap (8*(a.length:Int)- (b:Int))=8*(a.length:Int)- (b:Int):=bF _ Y0;clear e j k g;go_enter func274,ntmps274;go_wp2;go_quiet (fail);go_wp2;go_ret;exact⟨rfl,_,rfl⟩
def zB (b:List Int) (a:Nat):Int:=b.getD (a/8) 0/2^(7-a%8)%2
def VU (c e:Nat) (a:List Int) (b:aB) (h:a.length≤1000000) (i:Y (CQ b c a (8*a.length) e)):
  aF au 237 #[qp c] b fun f g=>f=av (aN #[J U 0,false])∧∃d,g=b.drewN d:=by have g:=fun b j=>aj (Fh c a (8*a.length) e b h j);have b:(8*(a.length:Int)- ((8*a.length:Nat):Int))=0:=Y0;rw[b]at g;clear b;go_enter func237,ntmps237;go_wp2_with fail;refine mB ((g _ i).o) ?_;rintro a ⟨d,rfl⟩;go_wp2;go_ret2;exact⟨rfl,d,rfl⟩
def ZF:∀a:Fin 256,bits .and .u8 (a.1:Int) 1=((a.1%2:Nat):Int):=by decide+kernel
def zaK (a:Int) (c:0≤a) (e:a≤255):wrap64 (bits .and .u8 a 1)=a%2:=by obtain⟨d,rfl⟩:=bR c;have b:=ZF ⟨d,by omega⟩;dsimp only at b;rw[b];unfold wrap64;omega
def VW {a:IntKind} {b c:Int} {d:Bool} (e:b=c):av (aN #[J a b,d])=av (aN #[J a c,d]):=by rw[e]
def QY (a:Int) (b:Nat) (c:0≤a) (d:a≤255):0≤a/2^b∧a/2^b≤255:=by
 have a:(1:Int)≤2^b:=by have:=Nat.one_le_two_pow (n:=b);exact_mod_cast this
 exact⟨Int.ediv_nonneg c Y0,Int.le_trans (Int.ediv_le_self _ c) d⟩
def QZ (d:Nat) (b:List Int) (a e:Nat) (c:aB) (g:b.length≤1000000) (k:a<8*b.length) (q:Y (gZ b)) (i:Y (CQ c d b a e)):
  aF au 237 #[qp d] c fun l f=>l=av (aN #[J U (zB b a),true])∧CQ f d b (a+1) e∧bg [d] c f:=by
 have r:=fun c f=>aj (Fh d b a e c g f);obtain⟨e,m,g,j⟩:=i.o.a;have n:a/8<b.length:=Y0;obtain⟨e,h⟩:∃e,b[a/8]?=R e:=⟨_,aQ n⟩;obtain⟨n,o,rfl,⟨p,s⟩,t⟩:=j (a/8) (J .u8 e) (by unfold dP;simp[h]);have p:=q.o e (bP h);have q:Y (b.getD (a/8) 0=e):=aj (by rw[aY,h];rfl);have s:=aj j;have t:=aj g;have u:=g.H 0;have u:=g.H 1;have u:=g.c 1;have u:((8*(b.length:Int)- (a:Int))==0)=false:=by rw[aM];omega
 clear j g h;go_enter func237,ntmps237;go_wp2_with fail;refine mB ((r _ i).o) ?_;rintro g ⟨b,rfl⟩;go_wp2;go_quiet (fail);go_wp2;go_ret2;have g:=QY e (7-a%8) p.1 p.2;have e:bg [d] c ((c.drewN (b+nq)).setCell ⟨d,1,O⟩ (J U ((a:Int)+1))):=(bg.j c (b+nq)).a (bg.e _ (aC.2 rfl) _) (fun _ f=>.inl f);refine⟨VW ?_,⟨⟨R ⟨n,o,O⟩,m,?_,?_⟩,Y0,i.o.d⟩,e⟩
 ·unfold zB;rw[q.o];exact zaK _ g.1 g.2
 ·exact(t.o.q (b+nq)).f 1 (J U ((a:Int)+1))
 ·exact s.o.c fun a b k=>e.m a b (fun f=>k.1 (aC.1 f))
def nS (a:Fd):Int:=(a.n.size:Int)+(a.v.size:Int)+32
structure qB where
 l:List Fd
 d:Int
 a:Int
structure jX (w:aB) (B b:Nat) (v:aI) (t:qB):Prop where
 a:bH w b 238 #[v,t.d,t.a]
 c:w.ownsRow B 93 3 v t.l.length (dx t.l)
 d:v.ownBlock≠R b
def zC (a:Fd) (b:aB) (c:a.n.size≤1000000) (d:a.v.size≤1000000):aF au 210 #[aS #[aA a.n,aA a.v,a.a]] b fun e f=>e=av (J U (nS a))∧aJ b b f:=by unfold nS;obtain⟨b,e,f⟩:=a;dsimp only at c d⊢;go_enter func210,ntmps210;go_wp2;go_ret;exact⟨rfl,gN (ay _ _) (ay _ _)⟩
def Rj (e b:Nat) (f:aI) (c:qB) (a:aB) (d:Y (jX a e b f c)) (e:Nat) (f:c.l.length=e):aF au 242 #[qp b] a fun b c=>b=av e∧c=a:=by obtain⟨b,c,a⟩:=dB d.o.c;subst a;obtain⟨a,b,c⟩:=bH.n d.o.a;rw[f]at a;clear f;go_enter func242,ntmps242;go_wp2;go_ret;exact Y5
def Rk (d b:Nat) (e:aI) (c:qB) (a:aB) (f:Y (jX a d b e c)):aF au 195 #[qp b] a fun b d=>b=av c.a∧d=a:=by obtain⟨a,b,c⟩:=bH.n f.o.a;go_enter func195,ntmps195;go_wp2;go_ret;exact Y5
def Rl (b:Int) (a:aB) (d:Bool) (g:bV b 0 2147483647=d):aF au 83 #[b] a fun c e=>if d=true then∃f,c=av (aN #[qp f,J U 0])∧a.heap.size≤f∧jX e 0 f (Z O 0 0) ⟨[],0,b⟩∧aJ a a e else c=av (aN #[aK O,J U 1])∧e=a:=by
 have e:=fun a=>qb g (Qj b a);clear g;cases d
 ·go_enter func83,ntmps83;go_wp2_with fail;refine mB ((e _).o) ?_;rintro b rfl;go_wp2;go_ret2;exact Y5
 ·go_enter func83,ntmps83;go_wp2_with fail;refine mB ((e _).o) ?_;rintro b rfl;go_wp2;go_ret2;exact⟨_,rfl,aD _,⟨bH.d _ _ _,aT _ _ _ _,by simp[Value.ownBlock]⟩,(ay _ a).alloc (aD _) _⟩
def zD:(Tryz.prog.info? 93).map (fun a=>(a.zero,a.size,a.bytes))=R (R (aS #[aA {data:=#[]},aA {data:=#[]},false]),3,40):=by kernel_rfl
def zaO (a:List Fd):∀b∈dx a,b.oneCell'=true:=by intro b a;unfold dx at a;rw[List.mem_flatMap]at a;obtain⟨c,_,b⟩:=a;simp at b;rcases b with rfl|rfl|rfl<;>rfl
def uW (d:Option aX) (a c:Nat) (e:List Fd) (b:aB) (f:e.length=a) (f:a≤100000000) (g:d=O→a=0) (h:zA d) (i:bU b d (dx e)):aF au 71 #[Z d a c] b (jm 93 3 a (dx e) b):=
 oz zD Y2 (fun a c b=>AnyE.slices_Clone_nil Tryz.lc71 a c b) (fun j k a c l b m n o p q=>by
  obtain⟨r,s,t,u,v⟩:=info_parts zD
  exact AnyE.slices_Clone Tryz.lc71 r _ 3 40 s t u v rfl Y2 Tryz.sizeOf93 j k a c l b m n o p q) d a c (dx e) b (by rw[lD];omega) f Y0 g h i (zaO e)
def mO {c:aB} {d a e f:Nat} {g:bB} {b:Option aX} {h:List aI} (i:c.ownsRow d g f (Z b a e) a h):zA b:=by
 intro b a;rcases i.2 with⟨b,_⟩|⟨c,d,e,b,_⟩
 ·injection b with c;rw[c]at a;cases a
 ·injection b with c;rw[c]at a;injection a with a;subst a;rfl
def Nk (b c:Nat) (e:aI) (d:qB) (a:aB) (f:jX a b c e d) (o:d.l.length≤100000000):
  aF au 133 #[qp c] a fun g b=>∃e h,g=av (aK (R ⟨e,0,O⟩))∧jX b a.heap.size e h d∧a.heap.size≤e∧aJ a a b:=by
 obtain⟨p,q,r⟩:=d;obtain⟨h,i,d⟩:=dB f.c;subst d;obtain⟨l,m,n⟩:=bH.n f.a;have j:=f.a;obtain⟨d,k⟩:=exq p.length;have e:=f.c;dsimp only at o l m n j e;rw[k]at o l j e;have s:Y (∀l,aF au 71 #[Z h d i] (a.drewN l) fun g b=>∃m n,g=av (Z m d n)∧(b.cell? ⟨c,0,O⟩=R (Z h d i)∧b.cell? ⟨c,1,O⟩=R (J U q)∧b.cell? ⟨c,2,O⟩=R (J U r))∧Y (b.ownsRow a 93 3 (Z m d n) d (dx p)∧aJ a a b)):=aj fun l=>by refine(uW h d i p (a.drewN l) k o (fun o=>((fH e).1 o).1) (mO e) (jE e).a).mono ?_;rintro g b ⟨m,n,rfl,p,t⟩;have o:aJ a a b:=bG (bI (ay _ a) l) t;exact⟨m,n,rfl,bH.n (j.b o),aj ⟨p,o⟩⟩
 have l:=aj k;clear k e f j;go_enter func133,ntmps133;go_wp2;go_region_held3 (fun b=>b.cell? ⟨c,0,O⟩=R (Z h d i)∧b.cell? ⟨c,1,O⟩=R (J U q)∧b.cell? ⟨c,2,O⟩=R (J U r)) (go_keep)
  (first|(go_at_call 71;refine(s.o _).mono ?_;rintro g e ⟨f,j,rfl,⟨k,m,n⟩,a⟩))
 go_wp2;go_ret;refine⟨e,Z f d j,rfl,⟨bH.d _ _ _,?_,?_⟩,a.o.2.size,a.o.2.alloc a.o.2.size _⟩
 ·dsimp only;rw[l.o];exact dF a.o.1 ((ay _ _).alloc (aD _) _)
 ·intro b;have:=a.o.1.lt _ b;omega
def Exit.jumps (c:Nat→Act→aB→Prop) (d:Exit→Act→aB→Prop):Exit→Act→aB→Prop
 |.goto l,a,b=>c l a b
 |c,a,b=>d c a b
def xR {P:Program} {a:Act} {w:aB} {Q:Exit→Act→aB→Prop} {c:Code} (J:Nat→Nat→Act→aB→Prop)
  (first:c.wp P (Exit.jumps (fun l a' w'=>∃m,J l m a' w') Q) a w)
  (pass:∀l m a w,J l m a w→∃rest,findLabel c l=R rest∧rest.wp P (Exit.jumps (fun l' a' w'=>∃m',m'<m∧J l' m' a' w') Q) a w):(Code.scope c).wp P Q a w:=by
 intro b k cs
 have key:∀m l a w,J l m a w→∃e a' w',Q e a' w'∧∀cc,gotoIn l (.inScope c::k)=R cc→Arrives P (lone (b.at a cc) cs w) b k cs e a' w':=by
  intro m
  induction m using Nat.strongRecOn with
  |_ m ih=>
   intro l a w hJ
   obtain⟨rest,hf,hp⟩:=pass l m a w hJ
   have hg:gotoIn l (.inScope c::k)=R (.code rest:: .inScope c::k):=by simp[gotoIn,hf]
   obtain⟨e,a₁,w₁,hq,harr⟩:=hp b (.inScope c::k) cs
   have hcc:∀cc,gotoIn l (.inScope c::k)=R cc→cc=.code rest:: .inScope c::k:=fun cc h=>by rw[hg]at h;injection h with h;exact h.symm
   cases e with
   |normal=>exact⟨.normal,a₁,w₁,hq,fun cc h=>by rw[hcc cc h];exact Steps.trans harr (.one step_inScope)⟩
   |exit id=>exact⟨.exit id,a₁,w₁,hq,fun cc h k' hk=>by rw[hcc cc h];exact harr k' (by simp[exitTo,hk])⟩
   |goto l'=>
    obtain⟨m',hlt,hJ'⟩:=hq
    obtain⟨rest',hf',_⟩:=pass l' m' a₁ w₁ hJ'
    have hg':gotoIn l' (.inScope c::k)=R (.code rest':: .inScope c::k):=by simp[gotoIn,hf']
    obtain⟨e₂,a₂,w₂,hq₂,harr₂⟩:=ih m' hlt l' a₁ w₁ hJ'
    exact⟨e₂,a₂,w₂,hq₂,fun cc h=>by rw[hcc cc h];exact .of_steps (harr _ hg') (harr₂ _ hg')⟩
   |ret=>exact⟨_,a₁,w₁,hq,fun cc h=>by rw[hcc cc h];exact harr⟩
   |panic ch=>exact⟨_,a₁,w₁,hq,fun cc h=>by rw[hcc cc h];exact harr⟩
   |outgrown=>exact⟨_,a₁,w₁,hq,fun cc h=>by rw[hcc cc h];exact harr⟩
 obtain⟨e,a₁,w₁,hq,harr⟩:=first b (.inScope c::k) cs
 cases e with
 |normal=>exact⟨.normal,a₁,w₁,hq,.head step_scope (Steps.trans harr (.one step_inScope))⟩
 |exit id=>exact⟨.exit id,a₁,w₁,hq,fun k' hk=>.head step_scope (harr k' (by simp[exitTo,hk]))⟩
 |goto l'=>
  obtain⟨m',hJ'⟩:=hq
  obtain⟨rest',hf',_⟩:=pass l' m' a₁ w₁ hJ'
  have hg':gotoIn l' (.inScope c::k)=R (.code rest':: .inScope c::k):=by simp[gotoIn,hf']
  obtain⟨e₂,a₂,w₂,hq₂,harr₂⟩:=key m' l' a₁ w₁ hJ'
  exact⟨e₂,a₂,w₂,hq₂,.of_steps (.head step_scope (harr _ hg')) (harr₂ _ hg')⟩
 |ret=>exact⟨_,a₁,w₁,hq,.of_steps (.one step_scope) harr⟩
 |panic ch=>exact⟨_,a₁,w₁,hq,.of_steps (.one step_scope) harr⟩
 |outgrown=>exact⟨_,a₁,w₁,hq,.of_steps (.one step_scope) harr⟩
def Nj (g:Nat) (b a:Int) (c:aB) (d:0≤a) (h:b≤9223372036854775807) (f:Y (vT c g)):
  aF au 238 #[qp g,b,a] c fun e w'=>e=av (aN #[J U ((qM b a).getD 0:Nat),aO (qM b a).isSome])∧aJ c c w':=by
 obtain⟨a,rfl⟩:=bR d;by_cases e:1≤a∧a≤30
 ·by_cases i:b<(fs a:Nat)
  ·have d:qM b a=O:=by unfold qM;rw[aL (by rw[bZ];omega)]
   rw[d];exact Qg g a b c e.1 e.2 i f
  ·by_cases i:(jD a 257:Nat)≤b- (fs a:Nat)
   ·have d:qM b a=O:=by unfold qM;rw[aL (by rw[bZ];omega)]
    rw[d];exact Mx g a b c e.1 e.2 Y0 i h f
   ·have j:(b-fs a).toNat<(xM a 257).length:=by rw[kX];omega
    obtain⟨h,i⟩:∃h,(xM a 257)[(b-fs a).toNat]?=R h:=⟨_,aQ j⟩;have d:qM b a=R h:=by unfold qM;rw[aP (by rw[bZ];omega),bZ];exact i
    rw[d];have m:b=((fs a+(b-fs a).toNat:Nat):Int):=Y0;have j:=Qh g a (b-fs a).toNat h c e.1 e.2 i f;rw[←m]at j;exact j
 ·have d:qM b a=O:=by unfold qM;rw[aL Y0]
  rw[d];exact Qf g b a c Y0 f
def VX {c d:Int} {b:Nat} (a:qM c d=R b):b<257:=by
 unfold qM at a;split at a
 ·exact(Vy _ _ _ (bP a)).2
 ·cases a
def ng (a b:Int):Int:=bits .or U (wrap64 (a*2)) b
def kL (l:List Int):Nat→Nat→Int→Nat→List Int→List Int×Int
 |0,k,b,a,out=>if a>7∨b≠2^a-1 then([],10)else(out,0)
 |c+1,k,b,a,out=>match qM (ng b (zB l k)) (a+1:Nat)with
  |none=>kL l c (k+1) (ng b (zB l k)) (a+1) out
  |some a=>if a=256 then([],11)else kL l c (k+1) 0 0 (out++[(a:Int)])
def qd (l:List Int):List Int×Int:=kL l (8*l.length) 0 0 0 []
def yc (a:List Int×Int) (b:aB) (d:Ending) (w':aB):Prop:=
 ∃A c,d=av (aN #[Z A a.1.length c,a.2])∧w'.ownsRow b 5 1 (Z A a.1.length c) a.1.length (dP a.1)∧aJ b b w'
def jL:Code→Option Code
 |.scope a=>R a
 |.seq b c=>match jL b with
  |some a=>R a
  |none=>jL c
 |.block _ a=>jL a
 |.cond _ b c=>match jL b with
  |some a=>R a
  |none=>jL c
 |.loop a=>jL a
 |_=>O
noncomputable def zaL:Code:=(Tryz.f206.body.bind jL).getD .skip
noncomputable def Yr (l:Nat):Code:=(findLabel zaL l).getD .skip
noncomputable def zaM:Code:=match Yr 1 with
 |.seq _ a=>a
 |a=>a
structure Z5 (w0 w1:aB) (B:Nat) (g r:Nat) (l:List Int) (wr:aB) (k:Nat) (A:Option aX) (N C:Nat) (out:List Int):Prop where
 e:out.length=N
 d:N≤k
 b:aJ w1 w1 wr
 f:CQ wr r l k B
 c:wr.ownsRow B 5 1 (Z A N C) N (dP out)
 h:B≤wr.heap.size
 a:aJ w0 w0 wr
structure Fj (w0 w1:aB) (B:Nat) (g r:Nat) (l:List Int):Prop where
 e:vT w1 g
 c:w1.heap.size≤r
 a:w0.heap.size≤w1.heap.size
 f:r<B
 d:w1.heap.size≤B
 b:l.length≤100000
 h:gZ l
section
variable {w0 w1 wr w':aB} {B g r:Nat} {l out:List Int} {k:Nat} {A:Option aX} {N C:Nat}
def Z5.i (a:Z5 w0 w1 B g r l wr k A N C out) (b:Nat):Z5 w0 w1 B g r l (wr.drewN b) k A N C out:=
 ⟨a.e,a.d,bI a.b b,a.f.e (F:=[]) (bg.j wr b) Y1,a.c,a.h,bI a.a b⟩
def Z5.j (a:Z5 w0 w1 B g r l wr k A N C out) (b:aJ wr wr w'):Z5 w0 w1 B g r l w' k A N C out:=
 ⟨a.e,a.d,bG a.b b,a.f.e (F:=[]) (bg.d b) Y1,dF a.c b,aR a.h b.size,bG a.a b⟩
def Z5.m (a:Z5 w0 w1 B g r l wr k A N C out) (c:Fj w0 w1 B g r l) (f:CQ w' r l (k+1) B) (d:bg [r] wr w'):Z5 w0 w1 B g r l w' (k+1) A N C out:=
 ⟨a.e,cZ a.d,a.b.trans (d.c a.b.size (fun e b=>by rw[aC.1 b];exact c.c)),f,bO a.c d (fun e b f=>by have:=mP a.c e b;have:=c.f;rw[aC.1 f]at*;omega),aR a.h d.b,a.a.trans (d.c a.a.size (fun e b=>by rw[aC.1 b];exact aR c.a c.c))⟩
def Z5.n (c:Z5 w0 w1 B g r l wr k A N C out) (a:Int) {b d:Nat} (e:w'.ownsRow B 5 1 (Z (R ⟨b,0,O⟩) (N+1) d) (N+1) (dP out++[J .u8 a])) (f:(wr.alloc (.cells #[J .u8 a] 5)).grownBy w' (Z A N C).ownBlock) (h:N+1≤k) (i:w0.heap.size≤w1.heap.size) (i:w1.heap.size≤B):Z5 w0 w1 B g r l w' k (R ⟨b,0,O⟩) (N+1) d (out++[a]):=by have d:bg ((Z A N C).ownBlock.toList) wr w':=(bg.n wr _).a (bg.k f (fun a b=>.inl (by rw[b];simp))) (fun a b=>.inl b);have hF:∀a∈(Z A N C).ownBlock.toList,B≤a:=fun a b=>mP c.c a (Y6 b);refine⟨by rw[bL,c.e];rfl,h,c.b.trans (d.c c.b.size (fun a b=>aR i (hF a b))),c.f.e d hF,?_,aR c.h d.b,c.a.trans (d.c c.a.size (fun a b=>by have:=hF a b;omega))⟩;rw[tH];exact e
end
def Yt (w0 w1:aB) (B g r:Nat) (l:List Int) (c:List Int×Int) (d e:Nat) (f:Act) (wr:aB):Prop:=
 ∃(k a:Nat) (b:Int) (A:Option aX) (N C:Nat) (out:List Int) (u0 u1 u2 u3 u7 u8 u9 u10 u13 u14 u15 u16 u17 u18 u19 u20 u21 u22 u23 u24 u25 u26 u27 u28 u29 u30 u31 u32 u33 u34 u35 u36 u37 u38 u39 u40 u41 u42 u43 u44 u45 u46 u47 u48 u49 u50 u51 u52 u53 u54 u55:aI),Z5 w0 w1 B g r l wr k A N C out∧k≤8*l.length∧a≤k∧b≤9223372036854775807∧
  (d=0∧e=3*(8*l.length-k)+2∧kL l (8*l.length-k) k 0 0 out=c∨d=1∧e=3*(8*l.length-k)+1∧kL l (8*l.length-k) k b a out=c∨d=2∧e=0∧k=8*l.length∧kL l 0 k b a out=c)∧
  f=⟨#[u0,u1,u2,u3,Z A N C,b,J U (a:Nat),u7,u8,u9,u10,qp g,qp r,u13,u14,u15,u16,u17,u18,u19,u20,u21,u22,u23,u24,u25,u26,u27,u28,u29,u30,u31,u32,u33,u34,u35,u36,u37,u38,u39,u40,u41,u42,u43,u44,u45,u46,u47,u48,u49,u50,u51,u52,u53,u54,u55],[]⟩
def zaN (a b:Int):bits .or U a b≤9223372036854775807:=by
 show U.wrap _≤_
 rw[IntKind.wrap_i64];omega
set_option maxRecDepth 1000000 in
def vZ (w0 w1:aB) (B g r:Nat) (l:List Int) (e:List Int×Int) (f:Y (Fj w0 w1 B g r l)) (k a:Nat) (b:Int) (A:Option aX) (N C:Nat) (out:List Int) (u0 u1 u2 u3 u7 u8 u9 u10 u13 u14 u15 u16 u17 u18 u19 u20 u21 u22 u23 u24 u25 u26 u27 u28 u29 u30 u31 u32 u33 u34 u35 u36 u37 u38 u39 u40 u41 u42 u43 u44 u45 u46 u47 u48 u49 u50 u51 u52 u53 u54 u55:aI) (wr:aB) (G:Nat)
  (p:Y (Z5 w0 w1 B g r l wr k A N C out)) (hk:k≤8*l.length) (hn:a≤k) (hc:b≤9223372036854775807) (hM:3*(8*l.length-k)<G) (s:Y (kL l (8*l.length-k) k b a out=e)):
  zaM.wp au (Exit.jumps (fun l' a' w'=>∃H,H<G∧Yt w0 w1 B g r l e l' H a' w') (bodyPost au f206 (yc e w0))) ⟨#[u0,u1,u2,u3,Z A N C,b,J U (a:Nat),u7,u8,u9,u10,qp g,qp r,u13,u14,u15,u16,u17,u18,u19,u20,u21,u22,u23,u24,u25,u26,u27,u28,u29,u30,u31,u32,u33,u34,u35,u36,u37,u38,u39,u40,u41,u42,u43,u44,u45,u46,u47,u48,u49,u50,u51,u52,u53,u54,u55],[]⟩ wr:=by
 conv=>arg 2;whnf
 by_cases I:k=8*l.length
 ·subst I;have t:=aj (VU r B l wr (by have:=f.o.b;omega) (aj p.o.f));have j:Y (kL l 0 (8*l.length) b a out=e):=aj (by rw[←s.o,Nat.sub_self]);go_wp2_with fail;refine t.o.mono ?_;rintro K L ⟨rfl,u,rfl⟩;go_wp2_with fail;go_step3;exact⟨0,by omega,8*l.length,a,b,A,N,C,out,_,_,_,_,_,_,_,_,_,_,_,_,_,_,_,_,_,_,_,_,_,_,_,_,_,_,_,_,_,_,_,_,_,_,_,_,_,_,_,_,_,_,_,_,_,_,_,_,_,_,_,p.o.i u,aD _,hn,hc,.inr (.inr ⟨rfl,rfl,rfl,j.o⟩),rfl⟩
 ·obtain⟨i,M⟩:∃i,8*l.length-k=i+1:=⟨8*l.length-k-1,by omega⟩;have b0:k<8*l.length:=by omega
  have t:=aj (QZ r l k B wr (by have:=f.o.b;omega) b0 (aj f.o.h) (aj p.o.f));rw[M]at s;have j:=s;unfold kL at j;obtain⟨d,w⟩:=exq (zB l k);rw[w]at t j;have c0:0≤d∧d≤1:=by rw[←w];unfold zB;omega
  obtain⟨e0,f0⟩:=c0;have x:ng b d≤9223372036854775807:=zaN _ _;have P:8*l.length- (k+1)=i:=by omega
  have g0:=f.o.b;have m:=aj P;clear w M P I s;go_wp2_with fail;refine t.o.mono ?_;rintro K L ⟨rfl,Q,S⟩;have y:=aj (p.o.m f.o Q S);clear Q S;have z:=aj (Nj g (ng b d) ((a:Int)+1) L (by omega) x (aj (f.o.e.b y.o.b)));have D:((a:Int)+1)=((a+1:Nat):Int):=by omega
  obtain⟨c,v⟩:=exq ((qM (ng b d) ((a:Int)+1)).getD 0);obtain⟨u,n⟩:=exq ((qM (ng b d) ((a:Int)+1)).isSome);have E:Y (qM (ng b d) ((a+1:Nat):Int)=if u then R c else O):=aj (by
   rw[←D];cases h:qM (ng b d) ((a:Int)+1)with
   |none=>rw[h]at n;subst n;rfl
   |some h0=>rw[h]at n v;subst n v;rfl)
  rw[v,n]at z;have T:=aj D;clear v n D;unfold ng at z;go_wp2_with fail;refine z.o.mono ?_;rintro K w3 ⟨rfl,V⟩;have o:=aj (y.o.j V);clear V;cases u with
  |false=>have q:Y (kL l i (k+1) (ng b d) (a+1) out=e):=aj (by rw[←j.o,E.o];rfl);go_wp2_with fail;go_step3;exact⟨3*i+1,by have:=m.o;omega,k+1,a+1,ng b d,A,N,C,out,_,_,_,_,_,_,_,_,_,_,_,_,_,_,_,_,_,_,_,_,_,_,_,_,_,_,_,_,_,_,_,_,_,_,_,_,_,_,_,_,_,_,_,_,_,_,_,_,_,_,_,o.o,by omega,by omega,x,.inr (.inl ⟨rfl,by rw[m.o],by rw[m.o];exact q.o⟩),by unfold ng;rw[T.o]⟩
  |true=>
   have hz:c<257:=VX (by rw[E.o];rfl);have W:Y ((if c=256 then([],11)else kL l i (k+1) 0 0 (out++[(c:Int)]))=e):=aj (by rw[←j.o,E.o];rfl);by_cases F:c=256
   ·subst F;have q:Y (e=([],11)):=aj (by rw[←W.o,aP rfl]);go_wp2_with fail;simp only[Exit.jumps];go_ret2;rw[q.o];exact⟨O,0,rfl,aT _ _ _ _,o.o.a⟩
   ·have i0:((c:Int)==256)=false:=by rw[aM];omega
    have j0:(c:Int)≤255:=by omega
    have q:Y (kL l i (k+1) 0 0 (out++[(c:Int)])=e):=aj (by rw[←W.o,aL F]);have hN:N≤800000:=by have:=o.o.d;omega
    have k0:(c:Int)%256=(c:Int):=by omega
    clear F;go_wp2_with (at_builtin;go_loud (refine jP rfl (.tmp 40) (.tmp 43) 28 rfl B 5 qL rfl underlying28 A N C (dP out) (J .u8 (c:Nat)) rfl o.o.c w3.heap.size rfl rfl rfl (by unfold maxLen;omega) (by omega) o.o.h ?_));intro g' c' w4 X a0;have d0:=aj (o.o.n (c:Int) X a0 (by have:=y.o.d;have:=p.o.d;omega) f.o.a f.o.d);clear X a0;go_wp2_with fail;go_step3;exact⟨3*i+2,by have:=m.o;omega,k+1,a+1,ng b d,_,_,_,_,_,_,_,_,_,_,_,_,_,_,_,_,_,_,_,_,_,_,_,_,_,_,_,_,_,_,_,_,_,_,_,_,_,_,_,_,_,_,_,_,_,_,_,_,_,_,_,_,_,_,_,d0.o,by omega,by omega,x,.inl ⟨rfl,by rw[m.o],by rw[m.o];exact q.o⟩,by unfold ng;rw[T.o]⟩
def Ra {a:aB} {b B:Nat} {c:bB} {d:Nat} {e:aI} {f:Nat} {h:List aI} (i:a.ownsRow B c d e f h) (j:b≤B):a.ownsRow b c d e f h:=by
 refine⟨i.1,?_⟩;rcases i.2 with a|⟨g,b,c,d,e,r⟩
 ·exact .inl a
 ·exact .inr ⟨g,b,c,d,aR j e,r⟩
def tV {d e:Nat→Act→aB→Prop} {f:Exit→Act→aB→Prop} (h:∀l a b,d l a b→e l a b):∀(c:Exit) (a:Act) (b:aB),Exit.jumps d f c a b→Exit.jumps e f c a b:=fun c a b d=>by
 cases c<;>first|exact d|exact h _ _ _ d
def KI {a w':aB} {b:Int} (c:aJ a a w'):yc ([],b) a (av (aN #[Z O 0 0,b])) w':=⟨O,0,rfl,aT _ _ _ _,c⟩
set_option maxRecDepth 1000000 in
def Rb (w0 w1:aB) (B g r:Nat) (l:List Int) (d:List Int×Int) (m:Y (Fj w0 w1 B g r l)) (a:Nat) (i:Int) (A:Option aX) (N C:Nat) (out:List Int) (u0 u1 u2 u3 u7 u8 u9 u10 u13 u14 u15 u16 u17 u18 u19 u20 u21 u22 u23 u24 u25 u26 u27 u28 u29 u30 u31 u32 u33 u34 u35 u36 u37 u38 u39 u40 u41 u42 u43 u44 u45 u46 u47 u48 u49 u50 u51 u52 u53 u54 u55:aI) (wr:aB) (c:Nat→Act→aB→Prop)
  (b:Y (Z5 w0 w1 B g r l wr (8*l.length) A N C out)) (j:Y (kL l 0 (8*l.length) i a out=d)):
  (Yr 2).wp au (Exit.jumps c (bodyPost au f206 (yc d w0))) ⟨#[u0,u1,u2,u3,Z A N C,i,J U (a:Nat),u7,u8,u9,u10,qp g,qp r,u13,u14,u15,u16,u17,u18,u19,u20,u21,u22,u23,u24,u25,u26,u27,u28,u29,u30,u31,u32,u33,u34,u35,u36,u37,u38,u39,u40,u41,u42,u43,u44,u45,u46,u47,u48,u49,u50,u51,u52,u53,u54,u55],[]⟩ wr:=by
 conv=>arg 2;whnf
 have c:=j;unfold kL at c;by_cases h:a>7
 ·have e:Y (d=([],10)):=aj (by rw[←c.o,aP (.inl h)]);have f:(a:Int)>7:=Y0;go_wp2;simp only[Exit.jumps];go_ret2;rw[e.o];exact KI b.o.a
 ·have n:a=0∨a=1∨a=2∨a=3∨a=4∨a=5∨a=6∨a=7:=Y0;by_cases f:i=2^a-1
  ·have e:Y (d=(out,0)):=aj (by rw[←c.o,aL (by intro a;rcases a with a|a;exact h a;exact a f)]);subst f;clear h c j;have a:=b.o.e;have i:=aj b.o.a;have o:Y (wr.ownsRow w0 5 1 (Z A N C) N (dP out)):=aj (Ra b.o.c (by have:=m.o.d;have:=m.o.a;omega));clear b;rcases n with rfl|rfl|rfl|rfl|rfl|rfl|rfl|rfl
   all_goals
    simp only[Int.reducePow,Int.reduceSub];go_wp2_with fail;simp only[Exit.jumps];go_ret2;rw[e.o];subst a;exact⟨A,C,rfl,o.o,i.o⟩
  ·have e:Y (d=([],10)):=aj (by rw[←c.o,aP (.inr f)]);clear h c j;rcases n with rfl|rfl|rfl|rfl|rfl|rfl|rfl|rfl
   all_goals
    have a:=bne_iff_ne.2 f;simp only[Int.reducePow,Int.reduceSub]at a;clear f;go_wp2;simp only[Exit.jumps];go_ret2;rw[e.o];exact KI b.o.a
set_option maxRecDepth 1000000 in
def xq (A:Option aX) (b e:Nat) (l:List Int) (a:aB) (c:l.length=b) (u:b≤100000) (d:A=O→b=0) (f:bU a A (dP l)) (h:gZ l):
  aF au 206 #[Z A b e] a (yc (qd l) a):=by
 have n:=aj f;have t:=aj d;have i:=aj c;have v:=aj h;clear f d c h;obtain⟨d,c⟩:=exq (qd l);rw[c];have w:=aj c;clear c;go_enter func206,ntmps206;go_wp2_with fail;refine xR (fun o p q wr=>∃w1 B g r,Fj a w1 B g r l∧Yt a w1 B g r l d o p q wr) ?_ ?_
 ·go_wp2_with fail;refine(Qe _).mono ?_;rintro x w1 ⟨g,rfl,f,h,c⟩;have j:=aj c;have s:=aj f;have y:=aj h;have m:=aj (Ni A b e l w1 i.o Y0 t.o (n.o.a c));clear f h c;go_wp2_with fail;refine m.o.mono ?_;rintro x f ⟨r,rfl,e,n,t,b⟩;have c:Y (Fj a w1 f.heap.size g r l):=aj ⟨y.o,e,j.o.size,t,b.size,by rw[i.o];exact u,v.o⟩;have h:Y (Z5 a w1 f.heap.size g r l f 0 O 0 0 []):=aj ⟨rfl,aD _,b,n,aT _ _ _ _,aD _,bG j.o b⟩;clear e n t b m;go_wp2;go_step3;go_wp2;go_step3;rename_i e;refine e _ _ ?_;refine Code.wp_mono (tV fun t u w' b=>?_) (vZ a w1 f.heap.size g r l d c 0 0 0 O 0 0 [] _ _ _ _ _ _ _ _ _ _ _ _ _ _ _ _ _ _ _ _ _ _ _ _ _ _ _ _ _ _ _ _ _ _ _ _ _ _ _ _ _ _ _ _ _ _ _ _ _ _ _ f (3*(8*l.length)+1) h (aZ _) (aD _) Y0 Y0 w);obtain⟨i,_,b⟩:=b;exact⟨i,w1,_,g,r,c.o,b⟩
 ·rintro o p q wr ⟨w1,B,g,r,e,k,v,w,j,m,n,out,E,F,G,H,I,K,L,M,P,Q,S,T,V,W,X,a0,b0,c0,d0,e0,f0,g0,h0,i0,j0,k0,l0,m0,n0,o0,p0,q0,r0,s0,t0,u0,v0,x0,y0,z0,A0,B0,C0,D0,E0,F0,G0,H0,I0,K0,L0,f,x,y,z,D,rfl⟩;have c:=aj e;have h:=aj f;clear e f;rcases D with⟨rfl,rfl,f⟩|⟨rfl,rfl,f⟩|⟨rfl,rfl,rfl,f⟩
  ·refine⟨_,rfl,?_⟩;have s:=aj f;clear f;go_wp2;go_step3;rename_i e;refine e _ _ ?_;refine Code.wp_mono (tV fun t u w' b=>?_) (vZ a w1 B g r l d c k 0 0 j m n out _ _ _ _ _ _ _ _ _ _ _ _ _ _ _ _ _ _ _ _ _ _ _ _ _ _ _ _ _ _ _ _ _ _ _ _ _ _ _ _ _ _ _ _ _ _ _ _ _ _ _ wr (3*(8*l.length-k)+2) h x (aZ _) Y0 Y0 s);obtain⟨i,e,b⟩:=b;exact⟨i,e,w1,_,g,r,c.o,b⟩
  ·refine⟨_,rfl,?_⟩;refine wp_seq (wp_skip ?_);refine Code.wp_mono (tV fun t u w' b=>?_) (vZ a w1 B g r l d c k v w j m n out _ _ _ _ _ _ _ _ _ _ _ _ _ _ _ _ _ _ _ _ _ _ _ _ _ _ _ _ _ _ _ _ _ _ _ _ _ _ _ _ _ _ _ _ _ _ _ _ _ _ _ wr (3*(8*l.length-k)+1) h x y z Y0 (aj f));obtain⟨i,e,b⟩:=b;exact⟨i,e,w1,_,g,r,c.o,b⟩
  ·refine⟨_,rfl,?_⟩;exact Rb a w1 B g r l d c v w j m n out _ _ _ _ _ _ _ _ _ _ _ _ _ _ _ _ _ _ _ _ _ _ _ _ _ _ _ _ _ _ _ _ _ _ _ _ _ _ _ _ _ _ _ _ _ _ _ _ _ _ _ wr _ h (aj f)
section
open Go.Shelf
def Tryz.ls220_ren:Go.Shelf.Ren:=⟨fun|6=>220|15=>218|14=>261|28=>259|29=>260|20=>287|21=>288|22=>289|23=>290|24=>291|25=>292|26=>293|27=>294|46=>316|47=>282|48=>283|49=>317|50=>318|57=>328|a=>a,fun|22=>36|24=>91|25=>333|3=>3|39=>228|0=>0|53=>374|55=>376|4=>4|46=>368|45=>367|50=>82|5=>5|9=>9|66=>394|70=>398|76=>415|77=>267|a=>a,fun|a=>a⟩
def Tryz.ls220:Go.Proofs.SlLaysF0.n6 au Tryz.ls220_ren:={
 mixed:=Y3
 f6:=⟨f220.name,Y2,func220.trans (bE R Y3)⟩
 f14:=⟨f261.name,Y2,func261.trans (bE R Y3)⟩
 f15:=func218.trans (bE R Y3)
 f20:=⟨f287.name,Y2,func287.trans (bE R Y3)⟩
 f21:=⟨f288.name,Y2,func288.trans (bE R Y3)⟩
 f22:=⟨f289.name,Y2,func289.trans (bE R Y3)⟩
 f23:=⟨f290.name,Y2,func290.trans (bE R Y3)⟩
 f24:=⟨f291.name,Y2,func291.trans (bE R Y3)⟩
 f25:=⟨f292.name,Y2,func292.trans (bE R Y3)⟩
 f26:=⟨f293.name,Y2,func293.trans (bE R Y3)⟩
 f27:=⟨f294.name,Y2,func294.trans (bE R Y3)⟩
 f28:=func259.trans (bE R Y3)
 f29:=func260.trans (bE R Y3)
 f46:=⟨f316.name,Y2,func316.trans (bE R Y3)⟩
 f47:=func282.trans (bE R Y3)
 f48:=func283.trans (bE R Y3)
 f49:=⟨f317.name,Y2,func317.trans (bE R Y3)⟩
 f50:=⟨f318.name,Y2,func318.trans (bE R Y3)⟩
 f57:=⟨f328.name,Y2,func328.trans (bE R Y3)⟩
 t0:=underlying0
 a0:=Tryz.isAgg0
 z0:=Tryz.sizeOf0
 v0:=Tryz.zeroValue0
 t3:=underlying3
 a3:=Tryz.isAgg3
 z3:=Tryz.sizeOf3
 v3:=Tryz.zeroValue3
 t4:=underlying4
 a4:=Tryz.isAgg4
 z4:=Tryz.sizeOf4
 v4:=Tryz.zeroValue4
 t5:=underlying5
 a5:=Tryz.isAgg5
 z5:=Tryz.sizeOf5
 v5:=Tryz.zeroValue5
 t9:=underlying9
 a9:=Tryz.isAgg9
 z9:=Tryz.sizeOf9
 v9:=Tryz.zeroValue9
 t22:=underlying36
 a22:=Tryz.isAgg36
 z22:=Tryz.sizeOf36
 v22:=Tryz.zeroValue36
 t25:=underlying333
 a25:=Tryz.isAgg333
 z25:=Tryz.sizeOf333
 v25:=Tryz.zeroValue333
 t39:=underlying228
 a39:=Tryz.isAgg228
 z39:=Tryz.sizeOf228
 v39:=Tryz.zeroValue228
 t45:=underlying367
 a45:=Tryz.isAgg367
 z45:=Tryz.sizeOf367
 v45:=Tryz.zeroValue367
 t46:=underlying368
 a46:=Tryz.isAgg368
 z46:=Tryz.sizeOf368
 v46:=Tryz.zeroValue368
 t50:=underlying82
 a50:=Tryz.isAgg82
 z50:=Tryz.sizeOf82
 v50:=Tryz.zeroValue82
 t53:=underlying374
 a53:=Tryz.isAgg374
 z53:=Tryz.sizeOf374
 v53:=Tryz.zeroValue374
 t55:=underlying376
 a55:=Tryz.isAgg376
 z55:=Tryz.sizeOf376
 v55:=Tryz.zeroValue376
 t66:=underlying394
 a66:=Tryz.isAgg394
 z66:=Tryz.sizeOf394
 v66:=Tryz.zeroValue394
 t70:=underlying398
 a70:=Tryz.isAgg398
 z70:=Tryz.sizeOf398
 v70:=Tryz.zeroValue398
 t76:=underlying415
 a76:=Tryz.isAgg415
 z76:=Tryz.sizeOf415
 v76:=Tryz.zeroValue415
 t77:=underlying267
 a77:=Tryz.isAgg267
 z77:=Tryz.sizeOf267
 v77:=Tryz.zeroValue267}
end
section
open Go.Shelf
def Tryz.lays189_ren:Go.Shelf.Ren:=⟨fun|189=>180|125=>218|257=>217|128=>259|129=>260|294=>250|295=>251|296=>252|297=>253|298=>254|299=>255|216=>256|300=>257|301=>258|328=>281|329=>282|330=>283|331=>284|332=>285|215=>286|343=>315|a=>a,fun|28=>37|3=>3|46=>228|0=>0|51=>374|53=>376|4=>4|183=>368|182=>367|131=>82|5=>5|9=>9|218=>394|222=>398|228=>415|229=>267|a=>a,fun|a=>a⟩
def Tryz.lays189:Go.Proofs.Lays.n189 au Tryz.lays189_ren:={
 mixed:=Y3
 f125:=func218.trans (bE R Y3)
 f128:=func259.trans (bE R Y3)
 f129:=func260.trans (bE R Y3)
 f189:=func180.trans (bE R Y3)
 f215:=func286.trans (bE R Y3)
 f216:=func256.trans (bE R Y3)
 f257:=func217.trans (bE R Y3)
 f294:=func250.trans (bE R Y3)
 f295:=func251.trans (bE R Y3)
 f296:=func252.trans (bE R Y3)
 f297:=func253.trans (bE R Y3)
 f298:=func254.trans (bE R Y3)
 f299:=func255.trans (bE R Y3)
 f300:=func257.trans (bE R Y3)
 f301:=func258.trans (bE R Y3)
 f328:=func281.trans (bE R Y3)
 f329:=func282.trans (bE R Y3)
 f330:=func283.trans (bE R Y3)
 f331:=func284.trans (bE R Y3)
 f332:=func285.trans (bE R Y3)
 f343:=func315.trans (bE R Y3)
 t0:=underlying0
 a0:=Tryz.isAgg0
 z0:=Tryz.sizeOf0
 v0:=Tryz.zeroValue0
 t3:=underlying3
 a3:=Tryz.isAgg3
 z3:=Tryz.sizeOf3
 v3:=Tryz.zeroValue3
 t4:=underlying4
 a4:=Tryz.isAgg4
 z4:=Tryz.sizeOf4
 v4:=Tryz.zeroValue4
 t5:=underlying5
 a5:=Tryz.isAgg5
 z5:=Tryz.sizeOf5
 v5:=Tryz.zeroValue5
 t9:=underlying9
 a9:=Tryz.isAgg9
 z9:=Tryz.sizeOf9
 v9:=Tryz.zeroValue9
 t28:=underlying37
 a28:=Tryz.isAgg37
 z28:=Tryz.sizeOf37
 v28:=Tryz.zeroValue37
 t46:=underlying228
 a46:=Tryz.isAgg228
 z46:=Tryz.sizeOf228
 v46:=Tryz.zeroValue228
 t51:=underlying374
 a51:=Tryz.isAgg374
 z51:=Tryz.sizeOf374
 v51:=Tryz.zeroValue374
 t53:=underlying376
 a53:=Tryz.isAgg376
 z53:=Tryz.sizeOf376
 v53:=Tryz.zeroValue376
 t131:=underlying82
 a131:=Tryz.isAgg82
 z131:=Tryz.sizeOf82
 v131:=Tryz.zeroValue82
 t182:=underlying367
 a182:=Tryz.isAgg367
 z182:=Tryz.sizeOf367
 v182:=Tryz.zeroValue367
 t183:=underlying368
 a183:=Tryz.isAgg368
 z183:=Tryz.sizeOf368
 v183:=Tryz.zeroValue368
 t218:=underlying394
 a218:=Tryz.isAgg394
 z218:=Tryz.sizeOf394
 v218:=Tryz.zeroValue394
 t222:=underlying398
 a222:=Tryz.isAgg398
 z222:=Tryz.sizeOf398
 v222:=Tryz.zeroValue398
 t228:=underlying415
 a228:=Tryz.isAgg415
 z228:=Tryz.sizeOf415
 v228:=Tryz.zeroValue415
 t229:=underlying267
 a229:=Tryz.isAgg267
 z229:=Tryz.sizeOf267
 v229:=Tryz.zeroValue267}
open Go.Sort Go.RowKit in
def Tryz.slices_Sort_int (a d e:Nat) (b:List Int) (c:aB) (f:Holds (J U) c a d b.toArray) (g:a<c.heap.size) (h:b.length<4611686018427387904):
  aF au 180 #[Z (R ⟨a,d,O⟩) b.length e] c fun i j=>
   i=av (aN #[])∧∃i k,j=grow (putRow (J U) (Sort.ahead c i) a d (b.mergeSort fun i j=>decide (i≤j)).toArray) k:=Any.slices_Sort_int Tryz.lays189 a d e b c f g h
open Go.RowKit Go.Sort in
def Tryz.slices_Sort_int_none (b:Option aX) (c:Nat) (a:aB):
  aF au 180 #[Z b 0 c] a fun d e=>d=av (aN #[])∧e=a:=Any.slices_Sort_int_none Tryz.lays189 b c a
end
end Go.Proofs.YtdcacpeaimjdlaaGreatDoor
