/- Part of the proof. -/
import Derived.Test.YtdcacpeaimjdlaaGreatDoorPay
namespace Go.Proofs.YtdcacpeaimjdlaaGreatDoor
open Go.RowKit Go.Maps Go.Proofs.Tryz Mq MFr MRw
open Go.Value renaming int→J,slice→Z,string→aA,bool→aO,tuple→aN,agg→aS
open Go.IntKind renaming i64→U
open Option renaming none→O,some→R
open Go.Ending renaming returned→av
open Go renaming World→aB,Value→aI,Calls→aF,Addr→aX,TypeId→bB
open Go.RowKit renaming Below→aJ
open Go.Proofs.Tryz renaming prog→au
set_option maxRecDepth 20000
set_option maxHeartbeats 0
set_option linter.all false
section
variable {W W':aB} {mb k n:Nat} {m:Mo} {L L':List Nat} {c:Co} {P:Pt} {X:Option fq} {F:Nat→List Nat}
def Ay.d (a:Ay W mb m k L):∀b∈L,2≤b:=by obtain⟨b,a⟩:=a;exact a.d
end
section
variable {I I':aB→List Nat→Prop} {w W W':aB} {L L' L1 L2:List Ow} {F:List Nat} {b:Nat} {t:bB} {cs cs':Array aI}
def Bs.s (a:Bs I w L W) (n:Nat):Bs I w L (W.drewN n):=a.h (bI (ay _ _) n)
variable {e:bB} {sz n base:Nat} {v:aI} {xs:List aI} {LR LB:List Ow}
end
def UD (c e:Option aX) (a f j:Nat) (d:List Fd) (b:aB) (g:d.length=a) (h:a≤9223372036854775807) (h:bU b c (dx d)) (i:bU b e (dx d)):aF au 16 #[Z c a f,Z e a j] b fun c f=>c=av true∧∃e,f=b.drewN e:=by
 have f:=aj (And.intro h (And.intro i g));clear h i g;go_enter func16,ntmps16;go_wp2;go_loopw [5] (fun g wr=>∃c:Nat,c≤a∧g=J U (c:Int)∧∃e,wr=b.drewN e) (fun g _=>((a:Int)-intOf g).toNat);case atStart=>exact⟨0,aZ _,rfl,0,rfl⟩
 case round=>
  obtain⟨c,b,rfl,e,rfl⟩:=hrel;by_cases b:c<a
  ·obtain⟨b,g⟩:∃b,d[c]?=R b:=⟨_,aQ (by have:=f.o.2.2;omega)⟩;have b:=mZ (f:=fun d:Fd=>[aA d.n,aA d.v,aO d.a]) (s:=3) (fun _=>rfl) g;obtain⟨e,h,rfl,d⟩:=jI f.o.1 (b 0 Y2);obtain⟨h,i,rfl,e⟩:=jI f.o.2.1 (b 0 Y2);have h:=d _ _ (b 0 Y2);have i:=e _ _ (b 0 Y2);have j:=d _ _ (b 1 Y2);have k:=e _ _ (b 1 Y2);have l:=d _ _ (b 2 Y2);have m:=e _ _ (b 2 Y2);have n:(c:Int)<(a:Int):=Y0;rw[dQ]at h i;rw[←Nat.add_assoc]at j k l m;clear b d e f g;go_wp2;go_quiet (fail);go_wp2_with fail;exact⟨⟨c+1,Y0,Y1,_,rfl⟩,by simp[intOf];omega⟩
  ·obtain rfl:c=a:=Y0;go_wp2;go_ret;exact⟨rfl,_,rfl⟩
section
variable {c:Co} {r:Rw} {k:Nat} {x:Lk} {lc:Bool} {v:Vl} {j:Jd} {kept:Bool}
def vL (c:Co) (a:Int):c.b a (c.p a)=c:=by unfold Co.b Co.p;split<;>rfl
structure zbM (c:Co) (r:Rw) (y:Co×Lk):Prop where
 c:y.1=c
 r:y.2.r=r
 a:y.2.g=false
 b:y.2.c=false
 e:y.2.d=[]
 d:y.2.b=[]
def Ub (f:r.c=2∨10≤r.c) (a:iN c r=true) (d:r.b.length≤300) (e:gZ r.b):zbM c r (fU c r):=by
 have g:=(pU a).2 Y0;obtain⟨h,b⟩:=Gc g d e;have a:fU c r=(c.b r.a (kN c.a.c (c.p r.a) (kM (c.p r.a) r)).1,(kN c.a.c (c.p r.a) (kM (c.p r.a) r)).2):=by unfold fU;rw[aL Y0]
 rw[a];unfold kN;split
 ·exact⟨vL ..,rfl,rfl,rfl,rfl,rfl⟩
 ·rename_i d;have e:(kM (c.p r.a) r).e=true:=by
   cases hod:(kM (c.p r.a) r).e
   ·exact absurd (.inl hod) d
   ·rfl
  have g:=Classical.byContradiction fun a=>d (.inr (.inl a));have d:=h g;have g:jY c.a.c (c.p r.a).x (kM (c.p r.a) r).f=((c.p r.a).x,Fr.o,false,0):=by
   unfold jY;have h:(kM (c.p r.a) r).f.a=r.c:=d.c;have i:(kM (c.p r.a) r).f.b=r.d:=d.i;have d:mg r.c=false:=by
    unfold mg;rcases f with a|a
    ·rw[a];rfl
    ·have b:(r.c==1)=false:=by simp;omega
     have f:(r.c==5)=false:=by simp;omega
     have l:(r.c==9)=false:=by simp;omega
     rw[b,f,l];rfl
   rw[h,i];rw[aL (by show¬(kE (c.p r.a).x.b (c.p r.a).x.a.b r.c r.d=false);intro a;rw[show(kM (c.p r.a) r).e=kE (c.p r.a).x.b (c.p r.a).x.a.b r.c r.d from rfl,a]at e;cases e)];rw[aP d]
  rw[g];exact⟨vL ..,rfl,rfl,rfl,rfl,rfl⟩
def qE (c:Co) (x:Lk):Int×Int:=
 if(c.p x.r.a).d=false then(3,1)else if x.e=false then(3,4)else if tJ x.r.c=false then(2,0)else if x.w≠(0,0)then(3,5)else(2,0)
def zcp (e:x.r.c=2∨10≤x.r.c) (a:x.r.b.length≤300) (a:16384≤v.b) (kept:Bool):dV c x v kept=qE c x:=by
 have a:iU x.r.c x.r.e=false:=by
  unfold iU;have:(x.r.c==4)=false:=by simp;omega
  rw[this];rfl
 unfold dV qE;rw[aL (c:=x.r.c= -1) Y0,a];by_cases a:(c.p x.r.a).d=false
 ·rw[aP ⟨a,rfl⟩,aP a]
 ·rw[aL (fun b=>a b.1),aL a,aL (c:=(x.r.b.length:Int)>v.b) Y0];by_cases a:x.e=false
  ·rw[aP a,aP a]
  ·rw[aL a,aL a];by_cases a:tJ x.r.c=false
   ·rw[aP a,aP a]
   ·rw[aL a,aL a];by_cases d:x.w≠(0,0)
    ·rw[aP d,aP d]
    ·rw[aL d,aL d];have d:x.r.c=2:=by
      rcases e with b|b
      ·exact b
      ·exfalso;apply a;unfold tJ bV;simp;omega
     unfold iW;rw[aL Y0,aP d]
def Dy (a:(qE c x).1=3) (b:dV c x v kept=qE c x) (d:j.a=0):(pK c x v kept j).1.a=0:=by unfold pK;rw[b];dsimp only;rw[aP a];exact d
def Uc (a:(qE c x).1=3) (b:∀kept,dV c x v kept=qE c x) (d:j.a=0):(kR c x lc v j).1.a=0:=by
 unfold kR;dsimp only;split
 ·exact Dy a (b _) (Dy a (b _) d)
 ·exact Dy a (b _) d
def Lu (d:(qE c x).1=3):∀(a:List Vl) {j:Jd},(∀v∈a,∀kept,dV c x v kept=qE c x)→j.a=0→(jZ c x lc a j).1.a=0
 |[],_,_,b=>b
 |v::a,_,e,b=>Lu d a (fun v a=>e v (bJ _ a)) (Uc d (e v (bM ..)) b)
def Lv (a:(qE c x).1=2) (b:dV c x v kept=qE c x):pK c x v kept j=({j with a:=2,d:=j.d|| !kept},true):=by unfold pK;rw[b];dsimp only;rw[aL Y0,a]
def Gx (a:(qE c x).1=2) (b:∀kept,dV c x v kept=qE c x):kR c x lc v j=({j with a:=2,d:=true},true):=by unfold kR;rw[Lv a (b _)];dsimp only;rw[Lv a (b _)];split<;>simp
def Lx (b:(qE c x).1=2):∀(a:List Vl) {j:Jd},(∀v∈a,∀kept,dV c x v kept=qE c x)→j.a=2∧j.d=true→(jZ c x lc a j).1.a=2∧(jZ c x lc a j).1.d=true
 |[],_,_,d=>d
 |v::a,_,e,d=>by
  unfold jZ
  rw[Gx b (e v (bM ..))]
  exact Lx b a (fun v a=>e v (bJ _ a)) Y5
def Ox (c:Co) (x:Lk):(qE c x).1=3∨((qE c x).1=2∧(c.p x.r.a).d=true):=by
 unfold qE;split
 ·exact .inl rfl
 ·rename_i a;have a:(c.p x.r.a).d=true:=Y6 a;split
  ·exact .inl rfl
  ·split
   ·exact .inr ⟨rfl,a⟩
   ·split
    ·exact .inl rfl
    ·exact .inr ⟨rfl,a⟩
def XL (a:Qu) (d:0<a.a.length) (b:List Bool):a.g (true::b)=a:=by unfold Qu.g;rw[show jJ (true::b)=R 0 from by simp[jJ]];dsimp only;rw[aP d];unfold Qu.i;rw[aL Y1]
def Ud (d:x.r.c≠0) (e:x.g=false) (f:x.c=false) (a:(c.p x.r.a).d=true) (b:(c.p x.r.a).h=true):KL c x 2=(c,true):=by
 have g:({c.p x.r.a with h:=true,d:=(c.p x.r.a).d||x.r.c != -1}:yg)=c.p x.r.a:=by obtain⟨h,i⟩:=exq (c.p x.r.a);rw[i]at a b⊢;cases h;dsimp only at a b⊢;subst a;subst b;rfl
 unfold KL;dsimp only;rw[g,vL];unfold nK;rw[e,f];simp[d]
def Dz {m:Mo} (l:m.a=false→dU m.c k) (P:k≤300) (p:r.c=2∨10≤r.c) (q:r.b.length≤300) (B:gZ r.b):
  dH m r=(m,⟨2,[],[],[]⟩,0)∨(dH m r).2.2≠0∨((dH m r).2.2=0∧(dH m r).2.1.k=3):=by
 unfold dH;split
 ·exact .inr (.inl (show(8:Int)≠0 by decide))
 ·rename_i e;have e:m.a=false:=by simpa using e
  split
  ·exact .inr (.inl (show(1:Int)≠0 by decide))
  ·rename_i g;have g:iN m.c r=true:=by simpa using g
   have d:=Ub p g q B;have n:=l e;obtain⟨s,Q⟩:=m;dsimp only at e g n d⊢;subst e;obtain⟨C,D⟩:=exq (fU s r);rw[D]at d⊢;obtain⟨a,x⟩:=C;have E:a=s:=d.c;subst E;have t:x.r=r:=d.r;have u:x.r.c=2∨10≤x.r.c:=by rw[t];exact p
   have F:x.r.b.length≤300:=by rw[t];exact q
   have o:=(n.a (1-r.a)).q;have h:∀v∈((a.p (1-r.a)).q).a,∀kept,dV a x v kept=qE a x:=fun v f kept=>zcp u F (o.g v f) kept;obtain⟨lc,G⟩:=exq (((kH a r).2&&((kH a r).2&&(a.p (1-r.a)).a.h a.a.a (kH a r).1)));dsimp only;rw[G];rcases Ox a x with H|⟨w,y⟩
   ·have:=Lu (lc:=lc) H _ (j:=.e) h rfl;rw[aP this];exact .inr (.inr Y5)
   ·obtain⟨i,z⟩:=exq (jZ a x lc ((a.p (1-r.a)).q).a .e);have I:i.1.a=2∧i.1.d=true∧∃b,i.2=true::b:=by
     rw[←z];obtain⟨v,b,f⟩:∃v b,((a.p (1-r.a)).q).a=v::b:=by
      have:=o.a;cases hvs:((a.p (1-r.a)).q).a with
      |nil=>rw[hvs]at this;cases this
      |cons v b=>exact⟨v,b,rfl⟩
     rw[f]at h⊢;unfold jZ;rw[Gx w (h v (bM ..))];have:=Lx (lc:=lc) w b (j:={Jd.e with a:=2,d:=true}) (fun v f=>h v (bJ _ f)) Y5;exact⟨this.1,this.2,_,rfl⟩
    rw[z];obtain⟨A,K,b,L⟩:=I;rw[aL (show¬i.1.a=0 by rw[A];decide),L,XL _ o.a,K];have M:=(n.a x.r.a).g y;simp only[Bool.not_true,Bool.and_false];have N:a.b (1-r.a) {a.p (1-r.a)with q:=(a.p (1-r.a)).q,a:=if(false:Bool)=true then(a.p (1-r.a)).a.f a.a.a (kH a r).1 else(a.p (1-r.a)).a}=a:=vL ..;rw[N,A,Ud (x:=x) (by rcases u with l|l<;>omega) d.a d.b y M];exact .inl (by rw[d.d];rfl)
end
def M2 (s mb1 k1:Nat) (m1:Mo) (mb2 k2:Nat) (m2:Mo) (W:aB) (c:List Nat):Prop:=
 ∃b a,c=b++a∧Ay W mb1 m1 k1 b∧Ay W mb2 m2 k2 a∧(∀c∈b,c∉a)∧∀c∈a,c<s
def Cl.a (s mb1 k1:Nat) (m1:Mo) (mb2 k2:Nat) (m2:Mo):Cl (M2 s mb1 k1 m1 mb2 k2 m2):=by
 refine⟨?_,?_⟩
 ·rintro W b m e ⟨f,g,rfl,c,d,h,i⟩ k l a;exact⟨f,g,rfl,c.b k (fun b e=>l b (by simp[e])) a,d.b k (fun b e=>l b (by simp[e])) a,h,i⟩
 ·rintro W m ⟨f,g,rfl,c,d,h,i⟩ a b;rcases bK.1 b with b|b
  ·exact c.a a b
  ·exact d.a a b
section
variable {s mb1 k1 mb2 k2 j:Nat} {m1 m2:Mo} {w W:aB} {L:List Ow} {r:Rw} {res:Bool} {A:Option aX} {C:Nat}
def Bs.b (a:Bs (M2 s mb1 k1 m1 mb2 k2 m2) w L W):Bs (M2 W.heap.size mb1 k1 m1 mb2 k2 m2) w L W:=by obtain⟨b,a⟩:=a;obtain⟨b,c,rfl,e,d,f,g⟩:=a.c;exact⟨b++c,Cl.a ..,⟨b,c,rfl,e,d,f,d.a⟩,a.b,a.a,a.e,a.d⟩
def Bs.e (a:Bs (M2 s mb1 k1 m1 mb2 k2 m2) w L W) (b:m2.a=false):dU m2.c k2:=by obtain⟨c,a⟩:=a;obtain⟨d,e,rfl,f,⟨g,c⟩,h,i⟩:=a.c;obtain⟨d,e,a⟩:=c.e b;exact a.d
noncomputable def UO (a:Mo) (r:Rw) (b c d:Option aX×Nat):aI:=aN #[aS #[J U (dH a r).2.1.k,Z b.1 (dH a r).2.1.a.length b.2,Z c.1 (dH a r).2.1.b.length c.2,Z d.1 (dH a r).2.1.c.length d.2],J U (dH a r).2.2]
def zbW (c:Bs (M2 s mb1 k1 m1 mb2 k2 m2) w L W) (k:k1≤280) (o:r.b.length≤300) (a:gZ r.b) (p:A=O→r.b.length=0) (q:∀d,aJ w w d→bU d A (dP r.b)):
  aF au 13 #[qp mb1,fO r.a r.c r.e r.d res A r.b.length C] W fun l f=>∃b e g,l=av (UO m1 r b e g)∧AY m1 r b e g W.heap.size f∧Bs (M2 W.heap.size mb1 (k1+5) (dH m1 r).1 mb2 k2 m2) w L f:=by
 have g:=c.c;obtain⟨b,hF⟩:=c;obtain⟨h,e,rfl,m,i,n,b⟩:=hF.c;have t:∀b∈h,w.heap.size≤b:=fun b a=>(hF.b.2 b (by simp[a])).resolve_left Y1;refine(Al m k o a p (fun d k=>q d (g.trans (k.c g.size t)))).mono ?_;rintro l f ⟨d,u,v,k,rfl,t,g,x,o,p,q⟩;obtain⟨u,v,rfl⟩:=dB o;obtain⟨x,y,rfl⟩:=dB p;obtain⟨z,B,rfl⟩:=dB q;have D:∀b∈e,b∉h:=fun b a d=>n b d a;have l:gG (h++e) (k++e) W f:=⟨g.1.g (fun b a=>by simp[a]),fun b a=>by
  rcases bK.1 a with a|a
  ·rcases g.2 b a with c|c
   ·exact .inl (by simp[c])
   ·exact .inr c
  ·exact .inl (by simp[a])⟩
 refine⟨(u,v),(x,y),(z,B),rfl,⟨o,p,q⟩,k++e,Cl.a ..,⟨k,e,rfl,t,i.b g.1 D m.d,fun b a d=>?_,i.a⟩,hF.b.a l,fun e f=>⟨(hF.a e f).1.g l.1 (hF.a e f).2.1,fun d=>?_,(hF.a e f).2.2⟩,hF.e,hF.d⟩
 ·rcases g.2 b a with c|c
  ·exact n b c d
  ·have:=i.a b d;omega
 ·rcases l.2 _ d with a|a
  ·exact(hF.a e f).2.1 a
  ·have:=(hF.a e f).1.e;omega
def zbo (c:Bs (M2 s mb1 k1 m1 mb2 k2 m2) w L W) (f:k2≤280) (o:r.b.length≤300) (b:gZ r.b) (v:A=O→r.b.length=0) (x:∀g,aJ w w g→bU g A (dP r.b)):
  aF au 13 #[qp mb2,fO r.a r.c r.e r.d res A r.b.length C] W fun d e=>∃a h i,d=av (UO m2 r a h i)∧AY m2 r a h i W.heap.size e∧Bs (M2 e.heap.size mb1 k1 m1 mb2 (k2+5) (dH m2 r).1) w L e∧∀i k l a m,AY i k l a m s W→AY i k l a m s e:=by
 have n:=c.c;obtain⟨h,hF⟩:=c;obtain⟨h,p,rfl,q,t,u,F⟩:=hF.c;have y:∀a∈p,w.heap.size≤a:=fun a b=>(hF.b.2 a (by simp[b])).resolve_left Y1;refine(Al t f o b v (fun g o=>x g (n.trans (o.c n.size y)))).mono ?_;rintro d e ⟨o,B,D,n,rfl,v,g,E,x,y,z⟩;obtain⟨G,H,rfl⟩:=dB x;obtain⟨I,K,rfl⟩:=dB y;obtain⟨M,N,rfl⟩:=dB z;have o:gG (h++p) (h++n) W e:=⟨g.1.g (fun a b=>by simp[b]),fun a b=>by
  rcases bK.1 b with b|b
  ·exact .inl (by simp[b])
  ·rcases g.2 a b with c|c
   ·exact .inl (by simp[c])
   ·exact .inr c⟩
 have f:∀{d p B:Nat} {D:aI} {E:List aI},W.ownsRow s d p D B E→e.ownsRow s d p D B E:=fun p=>bO p g.1 (fun a d e=>by have:=(p.lt a d).1;have:=F a e;omega);refine⟨(G,H),(I,K),(M,N),rfl,⟨x,y,z⟩,⟨h++n,Cl.a ..,⟨h,n,rfl,q.b g.1 u t.d,v,fun a b e=>?_,v.a⟩,hF.b.a o,fun d h=>⟨(hF.a d h).1.g o.1 (hF.a d h).2.1,fun e=>?_,(hF.a d h).2.2⟩,hF.e,hF.d⟩,fun i k l a m c=>⟨f c.a,f c.b,f c.c⟩⟩
 ·rcases g.2 a e with c|c
  ·exact u a b c
  ·have:=q.a a b;omega
 ·rcases o.2 _ e with a|a
  ·exact(hF.a d h).2.1 a
  ·have:=(hF.a d h).1.e;omega
def zaw {g b:aB} {c d:List Nat} {i:List Ow} {f:aB→List Nat→Prop} (a:Bs f w i W) (m:∀e,f W e→e=[]) (k:Ay g mb1 m1 0 c) (h:gG [] c W g) (l:Ay b mb2 m2 0 d) (f:gG [] d g b):Bs (M2 b.heap.size mb1 0 m1 mb2 0 m2) w i b:=by
 obtain⟨e,hF⟩:=a;obtain rfl:=m e hF.c;have g:=k.b f.1 Y1 Y1;have e:gG [] (c++d) W b:=⟨h.1.a f.1 (fun b a=>by cases a),fun b a=>by
  rcases bK.1 a with a|a
  ·exact h.2 b a
  ·exact .inr (aR h.1.b ((f.2 b a).resolve_left Y1))⟩
 refine⟨c++d,Cl.a ..,⟨c,d,rfl,g,l,fun b a c=>?_,l.a⟩,hF.b.a e,fun d g=>⟨(hF.a d g).1.g e.1 Y1,fun c=>?_,(hF.a d g).2.2⟩,hF.e,hF.d⟩
 ·have:=k.a b a;have:=(f.2 b c).resolve_left Y1;omega
 ·have:=(e.2 _ c).resolve_left Y1;have:=(hF.a d g).1.e;omega
end
def ignored_any (e0:List Rd) (b:Option aX) (l i:Nat) (a:Rd) (at_:Int) (c:aB) (d:lg c) (f:e0.length=l) (g:bU c b (e0.flatMap kS)) (h:∀e∈e0,e.b c) (j:a.b c):
  aF au 4 #[Z b l i,aS (kS a).toArray,at_] c fun b i=>b=av true∧aJ c c i:=by
 have M:=aj (And.intro g (And.intro h f));have N:=aj j;have A:=aj d;clear g h f j d;obtain⟨⟨m,f,n,o,C⟩,x,y,z⟩:=a;obtain⟨p,E⟩:=exq C.length;have B:=aj (gU c 30 (qs m f n o x y p z));have d0:Y (∀g,aJ c c g→aF au 6 #[] g fun b i=>b=av true∧aJ g g i):=aj fun g a=>BZ g (A.o.a a);have t:Y (∀g,aF au 12 #[] g fun b i=>b=av (aS (jW AX))∧aJ g g i):=aj fun g=>GA g;have u:Y (∀g,aJ c c g→aF au 11 #[aS (jW AX)] g (XD AX g)):=aj fun g a=>Gv AX g Y2 (A.o.a a);unfold XD jW AX at u;unfold jW AX at t;dsimp only at t u;have D:Y (Bs (fun _ v=>v=[]) c [(c.heap.size,30,(qs m f n o x y p z))] (c.alloc (.cells (qs m f n o x y p z) 30))):=aj (Bs.d (show Bs (fun _ v=>v=[]) c [] c from⟨[],Cl.f,rfl,gG.e _ _,Y1,Y1,A.o.b⟩) 30 _);obtain⟨V,W,X,x3,x4,x5⟩:=bH.j B.o.2;unfold kS;dsimp only;rw[E];obtain⟨h,d⟩:∃r:Bool,r=decide (40<l∨at_<0∨(l:Int)<at_∨300<p∨(f≠2∧f<10)):=⟨_,rfl⟩;go_enter func4,ntmps4;go_upto_region 1 with fail;go_cut [46] (fun j H=>j=aO h∧Y (H=c.alloc (.cells (qs m f n o x y p z) 30)));case first=>
  have j:((40:Int)<(l:Int)∧h=true)∨(¬(40:Int)<(l:Int)∧at_<0∧h=true)∨(¬(40:Int)<(l:Int)∧¬at_<0∧(l:Int)<at_∧h=true)∨(¬(40:Int)<(l:Int)∧¬at_<0∧¬(l:Int)<at_∧(300:Int)<(p:Int)∧h=true)∨(¬(40:Int)<(l:Int)∧¬at_<0∧¬(l:Int)<at_∧¬(300:Int)<(p:Int)∧f=2∧h=false)∨(¬(40:Int)<(l:Int)∧¬at_<0∧¬(l:Int)<at_∧¬(300:Int)<(p:Int)∧(f !=2)=true∧h=decide (f<10)):=by
   by_cases w:40<l
   ·exact .inl ⟨Y0,by rw[d];simp[w]⟩
   by_cases s:at_<0
   ·exact .inr (.inl ⟨Y0,s,by rw[d];simp[s]⟩)
   by_cases q:(l:Int)<at_
   ·exact .inr (.inr (.inl ⟨Y0,s,q,by rw[d];simp[q]⟩))
   by_cases I:300<p
   ·exact .inr (.inr (.inr (.inl ⟨Y0,s,q,Y0,by rw[d];simp[I]⟩)))
   by_cases k:f=2
   ·exact .inr (.inr (.inr (.inr (.inl ⟨Y0,s,q,Y0,k,by rw[d];simp[w,s,q,I,k]⟩))))
   ·exact .inr (.inr (.inr (.inr (.inr ⟨Y0,s,q,Y0,by simp[k],by rw[d];simp[w,s,q,I,k]⟩))))
  clear d M N d0 t u D B E A;rcases j with⟨w,rfl⟩|⟨w,s,rfl⟩|⟨w,s,q,rfl⟩|⟨w,s,q,I,rfl⟩|⟨w,s,q,I,rfl,rfl⟩|⟨w,s,q,I,k,rfl⟩
  all_goals
   go_wp2;go_meet;exact⟨Y1,aj rfl⟩
 case rest=>
  obtain⟨rfl,F⟩:=hcut;have A:Y (aJ c c wc):=aj (by rw[F.o];exact B.o.1);have G:Y (Bs (fun _ v=>v=[]) c [(c.heap.size,30,(qs m f n o x y p z))] wc):=aj (by rw[F.o];exact D.o);clear F D B V W X x3 x4 x5;cases h with
  |true=>clear d;go_wp2_with (go_at_call 6;refine(d0.o _ A.o).mono ?_;rintro b F ⟨rfl,a⟩;have P:=aj (A.o.trans (a.mono A.o.size));clear a);go_ret;exact⟨rfl,P.o⟩
  |false=>
   have Q:Y (l≤40∧0≤at_∧at_≤(l:Int)∧p≤300∧(f=2∨10≤f)):=aj (by
    have:=of_decide_eq_false d.symm;by_cases k:f=2
    ·simp only[not_or]at this;omega
    ·simp only[not_or,not_and]at this;have:=this.2.2.2.2 k;omega)
   clear d;go_upto_region 4 with(first|(go_at_call 12;refine(t.o _).mono ?_;rintro b L ⟨rfl,a⟩;have d:=aj (A.o.trans (a.mono A.o.size));have B:=aj (G.o.h a);clear a)|(go_at_call 11;refine(u.o _ d.o).mono ?_;rintro b F ⟨K,S,rfl,D,h⟩;have k:=aj (And.intro D h);have v:=aj (d.o.trans ((h.1.c (aD _) Y1).mono d.o.size));clear D h));clear G A d;go_upto_region 7 with(first|(go_at_call 12;refine(t.o _).mono ?_;rintro b D ⟨rfl,a⟩;have h:=aj (v.o.trans (a.mono v.o.size));have d:=aj (And.intro (k.o.1.e a) (k.o.2.a (gG.d a)));clear a));refine(u.o _ h.o).mono ?_;rintro b F ⟨D,S,rfl,G,L⟩;have S:=aj (zaw B.o (fun _ j=>j) d.o.1 d.o.2 G L);clear G L;clear B k d v h t u;go_wp2_with fail;have t:Y (Bs (M2 F.heap.size K (5*0) ⟨.g ⟨2,60,20000,9,20,8000⟩,false⟩ D (5*0+0) ⟨.g ⟨2,60,20000,9,20,8000⟩,false⟩) c [(c.heap.size,30,(qs m f n o x y p z))] F):=aj S.o;clear S;generalize Co.g ⟨2,60,20000,9,20,8000⟩=d at t;go_loopw [11] (fun u wr=>∃(d k:Nat) (h:Mo),u=J U (d:Int)∧d≤l∧Y (k≤5∧((d:Int)≤at_→k=0)∧Bs (M2 wr.heap.size K (5*d) h D (5*d+k) h) c [(c.heap.size,30,(qs m f n o x y p z))] wr)) (fun u _=>((l:Int)+1-intOf u).toNat);case atStart=>exact⟨0,0,_,rfl,aZ _,aj ⟨Y0,fun _=>rfl,t.o⟩⟩
   case round=>
    clear t;obtain⟨d,k,h,rfl,t,F⟩:=hrel;have t:(d:Int)≤(l:Int):=Y0;by_cases a0:(d:Int)=at_;case' pos=>
     subst a0;obtain⟨V,W,X,x3,x4,x5⟩:=bH.j (F.o.2.2.l (L1:=[]));have G:=zbo (r:=⟨m,f,n,o,C⟩) (res:=x) (A:=y) (C:=z) F.o.2.2 (by have:=Q.o.1;have:=F.o.1;omega) (by have:=Q.o.2.2.2.1;show C.length≤300;omega) N.o.a (fun b=>(N.o.b b).1) (fun W' a=>N.o.c.a a);unfold UO fO at G;dsimp only at G;rw[E]at G;have B:=Dz (r:=⟨m,f,n,o,C⟩) (m:=h) (k:=5*d+k) (fun ho=>F.o.2.2.e ho) (by have:=Q.o.1;have:=F.o.1;omega) Q.o.2.2.2.2 (by have:=Q.o.2.2.2.1;show C.length≤300;omega) N.o.a;rcases B with B|B|B
     rotate_left
     ·have L:Y (aF au 13 #[qp D,aS (qs m f n o x y p z)] wr fun b i=>∃(S er:Int) (t u v:Kg),(er !=0)=true∧b=av (aN #[aS #[S,kg t,kg u,kg v],er])∧aJ c c i):=aj (G.mono fun b i ⟨t,u,v,w,s,q,I⟩=>⟨_,_,(t.1,_,t.2),(u.1,_,u.2),(v.1,_,v.2),by simpa using B,w,q.c⟩);clear G B F N M Q;go_wp2_with (first|(go_at_call 13;refine L.o.mono ?_;rintro b T ⟨S,er,t,u,v,g0,rfl,a⟩;have E:=aj a;clear a)|(go_at_call 6;refine(d0.o _ (E.o.alloc E.o.size _)).mono ?_;rintro b w6 ⟨rfl,a⟩;have P:=aj ((E.o.alloc E.o.size _).trans (a.mono (by have:=E.o.size;simp;omega)));clear a));go_ret;exact⟨rfl,P.o⟩
     ·have L:Y (aF au 13 #[qp D,aS (qs m f n o x y p z)] wr fun b i=>∃(t u v:Kg),b=av (aN #[aS #[J U 3,kg t,kg u,kg v],J U 0])∧aJ c c i):=aj (G.mono fun b i ⟨t,u,v,w,s,q,I⟩=>⟨(t.1,(dH h ⟨m,f,n,o,C⟩).2.1.a.length,t.2),(u.1,(dH h ⟨m,f,n,o,C⟩).2.1.b.length,u.2),(v.1,(dH h ⟨m,f,n,o,C⟩).2.1.c.length,v.2),by rw[w,B.1,B.2],q.c⟩);clear G B F N M Q;go_wp2_with (first|(go_at_call 13;refine L.o.mono ?_;rintro b T ⟨t,u,v,rfl,a⟩;have E:=aj a;clear a)|(go_at_call 6;refine(d0.o _ (E.o.alloc E.o.size _)).mono ?_;rintro b w6 ⟨rfl,a⟩;have P:=aj ((E.o.alloc E.o.size _).trans (a.mono (by have:=E.o.size;simp;omega)));clear a));go_ret;exact⟨rfl,P.o⟩
     have L:Y (aF au 13 #[qp D,aS (qs m f n o x y p z)] wr fun b i=>∃(t u v:Kg),b=av (aN #[aS #[J U 2,kg t,kg u,kg v],J U 0])∧Bs (M2 i.heap.size K (5*d) h D (5*d+5) h) c [(c.heap.size,30,(qs m f n o x y p z))] i):=aj (G.mono fun b i ⟨t,u,v,w,s,q,I⟩=>⟨(t.1,(dH h ⟨m,f,n,o,C⟩).2.1.a.length,t.2),(u.1,(dH h ⟨m,f,n,o,C⟩).2.1.b.length,u.2),(v.1,(dH h ⟨m,f,n,o,C⟩).2.1.c.length,v.2),by rw[w,B],by rw[B,F.o.2.1 (Int.le_refl _)]at q;exact q⟩);clear G B F;go_upto_region 14 with(go_at_call 13;refine L.o.mono ?_;rintro b T ⟨t,u,v,rfl,a⟩;have E:=aj a;clear a);have B:∃k,Y (k≤5∧(((d+1:Nat):Int)≤(d:Int)→k=0)∧Bs (M2 (T.alloc (.cells #[J U 2,kg t,kg u,kg v] 52)).heap.size K (5*d) h D (5*d+k) h) c [(c.heap.size,30,(qs m f n o x y p z))] (T.alloc (.cells #[J U 2,kg t,kg u,kg v] 52))):=⟨5,aj ⟨aD _,fun j=>Y0,(E.o.d 52 _).j.b⟩⟩;clear E L V W X x3 x4 x5;obtain⟨k,B⟩:=B;generalize(T.alloc (.cells #[J U 2,kg t,kg u,kg v] 52))=H at B⊢;obtain⟨at_,a0⟩:∃h0:Int,Y ((d:Int)=h0):=⟨_,aj rfl⟩;have B:Y (k≤5∧(((d+1:Nat):Int)≤at_→k=0)∧Bs (M2 H.heap.size K (5*d) h D (5*d+k) h) c [(c.heap.size,30,(qs m f n o x y p z))] H):=aj (by rw[←a0.o];exact B.o)
    case' neg=>have B:Y (k≤5∧(((d+1:Nat):Int)≤at_→k=0)∧Bs (M2 wr.heap.size K (5*d) h D (5*d+k) h) c [(c.heap.size,30,(qs m f n o x y p z))] wr):=aj ⟨F.o.1,fun j=>F.o.2.1 Y0,F.o.2.2⟩;clear F;go_upto_region 14 with fail;generalize wr=H at B⊢
    all_goals
     have A:=aj B.o.2.2.c;by_cases r0:d=l
     ·subst r0;clear B N M;go_wp2_with (go_at_call 6;refine(d0.o _ A.o).mono ?_;rintro b w6 ⟨rfl,a⟩;have P:=aj (A.o.trans (a.mono A.o.size));clear a);go_ret;exact⟨rfl,P.o⟩
     have B0:¬((d:Int)=(l:Int)):=Y0;obtain⟨e,hy⟩:∃e,e0[d]?=R e:=⟨_,aQ (by have:=M.o.2.2;omega)⟩;have s0:=bP hy;have a0:=mZ (f:=kS) (s:=6) (fun _=>rfl) hy;have HY:=aj (M.o.2.1 e s0);obtain⟨bb,oo,rfl,hA⟩:=jI (M.o.1.a A.o) (a0 0 Y2);have i0:Y (∀g,aJ c c g→g.cell? ⟨bb,oo+d*6,O⟩=R (J U e.r.a)∧g.cell? ⟨bb,oo+d*6+1,O⟩=R (J U e.r.c)∧g.cell? ⟨bb,oo+d*6+2,O⟩=R (J U e.r.e)∧g.cell? ⟨bb,oo+d*6+3,O⟩=R (J U e.r.d)∧g.cell? ⟨bb,oo+d*6+4,O⟩=R (aO e.a)∧g.cell? ⟨bb,oo+d*6+5,O⟩=R (Z e.A e.r.b.length e.C)):=aj fun g a=>by have j:=M.o.1.a a;exact⟨gM j (a0 0 Y2),gM j (a0 1 Y2),gM j (a0 2 Y2),gM j (a0 3 Y2),gM j (a0 4 Y2),gM j (a0 5 Y2)⟩
     have C0:(d:Int)<(l:Int):=Y0;obtain⟨yn,j0⟩:=exq e.r.b.length;rw[j0]at i0;obtain⟨n0,a1,a2,a3,a4,a5⟩:=i0.o _ A.o;clear a0 hA s0 hy r0;by_cases D0:(300:Int)<(yn:Int)
     ·clear B N M HY;go_wp2_with (go_at_call 6;refine(d0.o _ A.o).mono ?_;rintro b w6 ⟨rfl,a⟩;have P:=aj (A.o.trans (a.mono A.o.size));clear a);go_ret;exact⟨rfl,P.o⟩
     have f0:Y (e.r.b.length≤300∧k≤5∧d≤40):=aj ⟨Y0,B.o.1,by have:=Q.o.1;omega⟩;obtain⟨S,o0⟩:=exq ((dH h e.r).2.1.k);obtain⟨er,g0⟩:=exq ((dH h e.r).2.2);obtain⟨T,k0⟩:=exq ((dH h e.r).2.1.a.length);obtain⟨V,l0⟩:=exq ((dH h e.r).2.1.b.length);obtain⟨W,m0⟩:=exq ((dH h e.r).2.1.c.length);have t0:Y (aF au 13 #[qp K,aS (qr e.r e.a e.A yn e.C)] H fun b i=>∃t u v E F G,b=av (aN #[aS #[S,Z t T u,Z v V E,Z F W G],er])∧AY h e.r (t,u) (v,E) (F,G) H.heap.size i∧Bs (M2 H.heap.size K (5*d+5) (dH h e.r).1 D (5*d+k) h) c [(c.heap.size,30,(qs m f n o x y p z))] i):=aj (by have j:=zbW (r:=e.r) (res:=e.a) (A:=e.A) (C:=e.C) B.o.2.2 (by have:=f0.o.2.2;omega) f0.o.1 HY.o.a (fun b=>(HY.o.b b).1) (fun W' a=>HY.o.c.a a);unfold UO fO at j;rw[o0,g0,k0,l0,m0,j0]at j;exact j.mono fun b i ⟨⟨t,u⟩,⟨v,E⟩,⟨F,G⟩,w,s,q⟩=>⟨t,u,v,E,F,G,w,s,q⟩)
     have u0:Y (∀g p0,Bs (M2 H.heap.size K (5*d+5) (dH h e.r).1 D (5*d+k) h) c p0 g→aF au 13 #[qp D,aS (qr e.r e.a e.A yn e.C)] g fun b i=>∃t u v E F G,b=av (aN #[aS #[S,Z t T u,Z v V E,Z F W G],er])∧AY h e.r (t,u) (v,E) (F,G) g.heap.size i∧Bs (M2 i.heap.size K (5*d+5) (dH h e.r).1 D (5*d+k+5) (dH h e.r).1) c p0 i∧∀m' r' h0 C v0,AY m' r' h0 C v0 H.heap.size g→AY m' r' h0 C v0 H.heap.size i):=aj fun g p0 hB=>by have j:=zbo (r:=e.r) (res:=e.a) (A:=e.A) (C:=e.C) hB (by have:=f0.o.2;omega) f0.o.1 HY.o.a (fun b=>(HY.o.b b).1) (fun W' a=>HY.o.c.a a);unfold UO fO at j;rw[o0,g0,k0,l0,m0,j0]at j;exact j.mono fun b i ⟨⟨t,u⟩,⟨v,E⟩,⟨F,G⟩,w,s,q,I⟩=>⟨t,u,v,E,F,G,w,s,q,I⟩
     have b0:=aj (And.intro k0 (And.intro l0 m0));have HD:=aj (And.intro B.o.1 B.o.2.1);clear o0 g0 k0 l0 m0 j0 B;go_upto_region 18 with(go_at_call 13;refine t0.o.mono ?_;rintro b w6 ⟨t,u,v,E,F,G,rfl,ho,a⟩;have H6:=aj (And.intro ho a);clear ho a);clear t0 n0 a1 a2 a3 a4 a5;obtain⟨n0,a1,a2,a3,a4,a5⟩:=i0.o (w6.alloc (.cells #[S,Z t T u,Z v V E,Z F W G] 52)) (H6.o.2.c.alloc H6.o.2.B _);go_upto_region 19 with(go_at_call 13;refine(u0.o _ _ (H6.o.2.d 52 _)).mono ?_;rintro b w7 ⟨FB,FD,RB,RD,SB,SD,rfl,ho,a,hk⟩;have H7:=aj (And.intro ho (And.intro (hk _ _ _ _ _ (H6.o.1.d ((ay _ _).alloc (aD _) _))) a));clear ho a hk);have h8:aJ w7 w7 (w7.alloc (.cells #[S,Z FB T FD,Z RB V RD,Z SB W SD] 52)):=(ay _ _).alloc (aD _) _;have L:=aj (And.intro (H7.o.1.d h8) (H7.o.2.1.d h8));have c0:=aj (H7.o.2.2.d 52 #[S,Z FB T FD,Z RB V RD,Z SB W SD]);clear H6 H7 u0 h8 n0 a1 a2 a3 a4 a5;generalize w6.heap.size=b1 at c0⊢;obtain⟨b2,q0⟩:=exq w7.heap.size;rw[q0]at c0;try rw[q0]
     clear q0;generalize w7.alloc (.cells #[S,Z FB T FD,Z RB V RD,Z SB W SD] 52)=X at L c0⊢;obtain⟨E0,y1,y2,y3⟩:=bH.l (c0.o.l (L1:=[]));obtain⟨F0,z1,z2,z3⟩:=bH.l (c0.o.l (L1:=[_]));have w0:Y (aF au 14 #[Z t T u,Z FB T FD] X fun b i=>b=av true∧∃r,i=X.drewN r):=aj (Gz t FB T u FD _ X b0.o.1 (b0.o.1▸sI L.o.1.a) (dD L.o.2.a) (dD L.o.1.a));have x0:Y (∀r,aF au 15 #[Z v V E,Z RB V RD] (X.drewN r) fun b i=>b=av true∧∃q',i=(X.drewN r).drewN q'):=aj fun r=>BX v RB V E RD _ _ b0.o.2.1 (b0.o.2.1▸sI L.o.1.b) ((dD L.o.2.b).c r) ((dD L.o.1.b).c r);have y0:Y (∀r,aF au 16 #[Z F W G,Z SB W SD] (X.drewN r) fun b i=>b=av true∧∃q',i=(X.drewN r).drewN q'):=aj fun r=>UD F SB W G SD _ _ b0.o.2.2 (b0.o.2.2▸sI L.o.1.c) ((dD L.o.2.c).c r) ((dD L.o.1.c).c r);have z0:Y (∀r,k≤5∧(((d+1:Nat):Int)≤at_→k=0)∧Bs (M2 (X.drewN r).heap.size K (5*(d+1)) (dH h e.r).1 D (5*(d+1)+k) (dH h e.r).1) c [(c.heap.size,30,(qs m f n o x y p z))] (X.drewN r)):=aj fun r=>⟨HD.o.1,HD.o.2,by have j:=((c0.o.k [_,_]).s r).b;rw[show 5*d+k+5=5*(d+1)+k by omega]at j;exact j⟩
     clear L c0 f0 b0 HD i0;have A0:U.wrap ((d:Int)+1)=(d+1:Nat):=by rw[bF _ (by have:=Q.o.1;omega)];omega
     go_wp2_with (first|(go_at_call 14;refine w0.o.mono ?_;rintro b w9 ⟨rfl,q1,rfl⟩)|(go_at_call 15;refine(x0.o q1).mono ?_;rintro b G0 ⟨rfl,q2,rfl⟩)|(go_at_call 16;refine(y0.o (q1+q2)).mono ?_;rintro b H0 ⟨rfl,q3,rfl⟩));go_roundw;case rel=>exact⟨d+1,k,_,by first|rfl|(rw[A0]),Y0,aj (by have j:=z0.o (q1+q2+q3);exact⟨j.1,fun h'=>by first|exact j.2.1 h'|(exfalso;omega),j.2.2⟩)⟩
     case measure=>simp[intOf];omega
section
open Go.ChangeAt Go.ChangeShapes Go.Deep Go.WideShapes
section
variable {H:Type} {enc:bB×aI→H} {w:aB} {base:Nat} {spare:Nat→Bool} {held:Bool} {fuel:Nat} {x:DataW H×List MemPlace}
def open_raw {c:Reach} {d:Nat} {b:aI} {x:DataW H} {e:List MemPlace} (f:Value.okWide au w c d 30 b) (g:DataW.Trod enc au w base spare held 30 b x e):∃a:Rd,b=aS (kS a).toArray∧a.b w:=by obtain⟨h,rfl,i⟩:=okWide_struct underlying30 f;obtain⟨m⟩:=h;obtain⟨fuel,j⟩:=g;obtain⟨a,k,l⟩:=UR (i.trans DJ) (by simpa[Value.cells]using j);subst k;exact⟨a,rfl,l⟩
end
end
end Go.Proofs.YtdcacpeaimjdlaaGreatDoor
