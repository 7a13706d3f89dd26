/- Part of the proof. -/
import Derived.Test.YtdcacpeaimjdlaaGreatDoorPau
import Derived.Test.YtdcacpeaimjdlaaGreatDoorPav
namespace Go.Proofs.YtdcacpeaimjdlaaGreatDoor
open Go.RowKit Go.Maps Go.Proofs.Tryz Mq MFr MRw
open Go.Value renaming int→J,slice→Z,pointer→aK,bool→aO,tuple→aN,agg→aS,complex→aH
open Go.IntKind renaming i64→U
open Option renaming none→O,some→R
open Go.Ending renaming returned→av
open Go renaming World→aB,Value→aI,Calls→aF,Addr→aX,TypeId→bB,undef→bq
open Go.RowKit renaming Below→aJ
open Go.Proofs.Tryz renaming prog→au
open Go.FloatKind renaming f64→aW
set_option maxRecDepth 20000
set_option maxHeartbeats 0
set_option linter.all false
variable {J0 J1 J2 J3 J4 J5 J6 J7 J8 J9 M0 M1 M2 M3 M4 M5 M6 M7 M8 M9 N0 N1 N2 N3 N4 N5 N6 N7 N8 N9 O0 O1 O2 O3 O4 O5 O6 O7 O8 O9 Q0 Q1 Q2 Q3 Q4 Q5 Q6 Q7 Q8 Q9 R0 R1 R2 R3 R4 R5 R6 R7 R8 R9 T0 T1 T2 T3 T4 T5 T6 T7 T8 T9 X0 X1 X2 X3 X4 X5 X6 X7 X8 X9 u1 u100 u101 u102 u103 u104 u105 u106 u107 u108 u109 u110 u111 u112 u113 u114 u115 u116 u117 u118 u119 u120 u121 u122 u123 u124 u125 u126 u127 u128 u129 u130 u131 u132 u133 u134 u135 u136 u137 u138 u139 u140 u141 u142 u143 u144 u145 u146 u147 u148 u149 u150 u151 u152 u153 u154 u155 u156 u157 u158 u2 u3 u4 u5 u6 u7 u8 u9 u90 u91 u92 u93 u94 u95 u96 u97 u98 u99:aI}
section
variable {w W:aB} {c c':Co} {P:Pt} {X:Option fq} {F:Nat→List Nat} {L:List Ow} {p:fq} {k q:Nat} {s:Int}
def JC (d:St c P (R p) F w L W) (g:dU c k) (f:jh P k) (t:k≤700) (h:iZ p.x):
  aF au 111 #[qp P.g,qp p.b] W (Lh (lG c p.x) P (R p) F w L (k+2)):=by
 obtain⟨B,i⟩:=d.f;have v:W.cell? ⟨p.b,23,O⟩=R (aO p.x.c):=i.a.a 23;have x:W.cell? ⟨p.b,24,O⟩=R (J U p.x.a.a):=i.a.a 24;obtain⟨u,j⟩:=exq p.x.c;obtain⟨l,m⟩:=exq p.x.a.a;have n:Y (aF au 161 #[qp P.g,qp p.b] W _):=aj (Od d g f (by omega) h);have o:Y (aF au 162 #[qp P.g,qp p.b] W _):=aj (Og d g f t h);have y:=aj (xU.a d (f.e (Nat.le_add_right k 2)));have b:Y (lG c p.x=if u=false then(c,true)else if l=5 then pJ c p.x else kI c p.x):=aj (by unfold lG;rw[j,m]);rw[j]at v;rw[m]at x;clear d g f t h i j m;cases u
 ·have a:Y (lG c p.x=(c,true)):=aj (by rw[b.o,aP rfl]);clear b n o;go_enter func111,ntmps111;go_wp2_with fail;go_ret;exact⟨by rw[a.o];rfl,by rw[a.o];exact y.o⟩
 ·by_cases e:l=5
  ·have a:Y (lG c p.x=pJ c p.x):=aj (by rw[b.o,aL (by decide),aP e]);subst e;clear b o;go_enter func111,ntmps111;go_wp2_with (go_at_call 161;refine n.o.mono ?_;rintro z A ⟨rfl,r⟩);go_ret;exact⟨by rw[a.o];rfl,by rw[a.o];exact r.b (by omega)⟩
  ·have a:Y (lG c p.x=kI c p.x):=aj (by rw[b.o,aL (by decide),aL e]);have C:(l==5)=false:=aM.2 e;clear b n e;go_enter func111,ntmps111;go_wp2_with (go_at_call 162;refine o.o.mono ?_;rintro z A ⟨rfl,r⟩);go_ret;exact⟨by rw[a.o];rfl,by rw[a.o];exact r⟩
def zaa (b:oF s q) (a:St c P X F w L W):St (c.b s {c.p s with e:=false}) P X F w L (W.setCell ⟨P.g,q+5,O⟩ (aO false)):=by
 obtain⟨d,a⟩:=a;rcases b with⟨rfl,rfl⟩|⟨rfl,rfl⟩
 ·exact a.d (a.a.m [aO false] 11 Y3 rfl)
 ·exact a.d (a.a.m [aO false] 23 Y3 rfl)
def TG (e:oF s q) (b:Bool) (d:Int) (a:St c P X F w L W):St (c.b s {c.p s with f:=b,g:=d}) P X F w L (W.setCells P.g (q+10) [aO b,J U d]):=by
 obtain⟨f,a⟩:=a;rcases e with⟨rfl,rfl⟩|⟨rfl,rfl⟩
 ·exact a.d (a.a.m [aO b,J U d] 16 Y3 rfl)
 ·exact a.d (a.a.m [aO b,J U d] 28 Y3 rfl)
structure Gp (c:Co) (x:Lk):Prop where
 a:x.r.c=4→x.w=(0,0)∧(iU x.r.c x.r.e=false→(c.p (1-x.r.a)).q.c<(c.p (1-x.r.a)).q.b)
 b:x.r.c=6→x.w=(0,0)
def Xn (f:St c P (R p) F w L W) (g:dU c k) (h:jh P k) (l:k≤700) (x:iZ p.x) (m:Gp c p.x) (G:oF p.x.r.a q) :
  Code.wp au (Ht 12 (f70.body.getD .skip)) (bodyPost au f70 (Lh (kQ c p.x) P (R p) F w L (k+2))) ⟨#[qp P.g,qp p.b,u2,bq,bq,bq,u6,aK (R ⟨P.g,q,O⟩),u8,u9,Q0,Q1,Q2,Q3,Q4,Q5,Q6,Q7,Q8,Q9,T0,T1,T2,T3,T4,T5,T6,T7,T8,T9,N0,N1,N2,N3,N4,N5,N6,N7,N8,N9,X0,X1,X2,X3,X4,X5,X6,X7,X8,X9,O0,O1,O2,O3,O4,O5,O6,O7,O8,O9,J0,J1,J2,J3,J4,J5,J6,J7,J8,J9,R0,R1,R2,R3,R4,R5,R6,R7,R8,R9,M0,M1,M2,M3,M4,M5,M6,M7,M8,M9,u90,u91,u92,u93,u94,u95,u96,u97,u98,u99,u100,u101,u102,u103,u104,u105,u106,u107,u108,u109,u110,u111,u112,u113,u114,u115,u116,u117,u118,u119,u120,u121,u122,u123,u124,u125,u126,u127,u128,u129,u130,u131,u132,u133,u134,u135,u136,u137,u138,u139,u140,u141,u142,u143,u144,u145,u146,u147,u148,u149,u150,u151,u152,u153,u154,u155,u156,u157,u158],[]⟩ W:=by
 obtain⟨d,b⟩:=exq p.x.r.c;obtain⟨n,e⟩:=exq p.x.r.a;have V:W.cell? ⟨p.b,1,O⟩=R (J U d):=by obtain⟨S,A⟩:=f.f;rw[←b];exact A.a.a 1
 have i:Y (kQ c p.x=if d=0 then(pI c p.x,true)
  else if d=3 then(let s:=(fG c.l p.x.r.d).1;(qC c s (.c (mD s.k s.o s.a s.b s.y n)),true))
  else if d=4 then jf c p.x else if d=6 then nU c p.x
  else if d=7 then(let a:=c.p n;(c.b n (if Qi a.f a.g p.x.f.h then{a with f:=true,g:=p.x.f.h}else{a with f:=false,g:=0}),true))
  else if d=8 then(mo c p.x,true)
  else if d=1∨d=5∨d=9 then lG c p.x else(c,true)):=aj (by unfold kQ;rw[b,e])
 have j:=aj f;have a:=aj (And.intro g (And.intro h (And.intro l (And.intro x (And.intro m (And.intro b e))))));rw[e]at G;clear f g h l x m b e;conv=>arg 2;whnf
 by_cases l:d=0
 ·have e:Y (kQ c p.x=(pI c p.x,true)):=aj (by rw[i.o,aP l]);have u:=aj (zco j.o a.o.1 a.o.2.1 (by have:=a.o.2.2.1;omega) a.o.2.2.2.1 (by rw[a.o.2.2.2.2.2.1,l];decide));subst l;clear i a j;go_wp2_with (go_at_call 103;refine u.o.mono ?_;rintro h B ⟨rfl,v⟩);go_ret;exact⟨by rw[e.o];rfl,by rw[e.o];exact v.b Y0⟩
 have H:(d==0)=false:=aM.2 l;by_cases o:d=3
 ·subst o;obtain⟨m,z⟩:=exq p.x.r.d;have I:c.l.length≤1000:=by have:=a.o.1.d;have:=a.o.2.2.1;omega
  have K:=a.o.2.2.2.1.b (by rw[a.o.2.2.2.2.2.1];decide);rw[z]at K;have E:=Dr (l:=c.l) (st:=m) ⟨Y0,Y0⟩;obtain⟨b,C⟩:=exq ((fG c.l m).1);obtain⟨g,M⟩:=exq ((fG c.l m).2);obtain⟨r,D⟩:∃T:mR,T=.c (mD b.k b.o b.a b.b b.y n):=⟨_,rfl⟩;rw[C]at E;have e:Y (kQ c p.x=(qC c b r,true)):=aj (by rw[i.o,aL Y2,aP rfl];dsimp only;rw[z,C,D]);have N:Y (∀L W,St c P (R p) F w L W→aF au 104 #[qp P.c,m] W fun h t=>h=av (aN #[pV b,g])∧St c P (R p) F w L t):=aj fun L W g=>by obtain⟨S,hF⟩:=id g;refine mB (nu (M:=c.a.b) (F:=S 13) P.c m W I (hF.a.d 13) (aj (bX Y0))) fun t y=>?_;exact⟨by rw[C,M],g.a y⟩
  have Q:Y (∀W,aF au 106 #[aS #[b.k,b.o,b.a,b.b,b.y],n] W fun h t=>h=av (aS r)∧aJ W W t):=aj fun W=>by obtain⟨T,x⟩:=exq (mD b.k b.o b.a b.b b.y n);rw[x]at D;refine mB (zci b.k b.o b.a b.b b.y n W) fun t f=>?_;exact⟨by rw[x,D];rfl,f⟩
  have y:Y (∀L W,St c P (R p) F w L W→W.cell? ⟨p.b,0,O⟩=R (J U n)∧W.cell? ⟨p.b,3,O⟩=R (J U m)):=aj fun L W g=>by obtain⟨S,A⟩:=g.f;exact⟨by rw[←a.o.2.2.2.2.2.2];exact A.a.a 0,by rw[←z];exact A.a.a 3⟩
  have u:Y (∀m W,St c P (R p) F w (m++L) W→aF au 105 #[qp P.g,pV b,aS r] W fun h t=>h=av (aN #[])∧xU (qC c b r) P (R p) F w L (k+1) t):=aj fun m W g=>(Jv b r (g.j _) a.o.1 a.o.2.1 (by have:=a.o.2.2.1;omega) E).mono fun h t f=>f.a a.o.2.1
  clear i a I K E C M D z;go_upto_region 16 with fail;refine TB (A:=fun m W=>St c P (R p) F w (m++L) W) j.o.e St.s (fun m W g=>N.o _ _ g) (fun m W g=>g.d.a 31) (fun m W g=>(y.o _ _ g).2) ?_;intros;rename_i m C x;have z:Y (St c P (R p) F w ((m,211,fD b)::L) C):=aj x;clear x j N V;dsimp only[Exit.then];go_upto_region 17 with fail;refine TD (m:=b) (A:=fun W=>St c P (R p) F w ((m,211,fD b)::L) W) (B:=fun W=>xU (qC c b r) P (R p) F w L (k+1) W) z.o.e (fun b=>(Q.o _).mono fun h t f=>⟨f.1,b.a.a f.2⟩) (fun b=>u.o [_] _ b.a) (fun b=>(y.o _ _ b.a).1) (fun b=>b.a.b) ?_;intros;rename_i B I;have K:=aj I;clear I z Q y u;dsimp only[Exit.then];go_wp2;go_ret;exact⟨by rw[e.o];rfl,by rw[e.o];exact K.o.b Y0⟩
 have M:(d==3)=false:=aM.2 o;by_cases m:d=4
 ·have e:Y (kQ c p.x=jf c p.x):=aj (by rw[i.o,aL l,aL o,aP m]);have r:=a.o.2.2.2.2.1.a (by rw[a.o.2.2.2.2.2.1,m]);have u:=aj (Ob j.o a.o.1 a.o.2.1 (by have:=a.o.2.2.1;omega) a.o.2.2.2.1 (by rw[a.o.2.2.2.2.2.1,m]) r.1 r.2);subst m;clear i a j l o H M r;go_wp2_with (go_at_call 107;refine u.o.mono ?_;rintro h B ⟨rfl,v⟩);go_ret;exact⟨by rw[e.o];rfl,by rw[e.o];exact v.b Y0⟩
 have V:(d==4)=false:=aM.2 m;by_cases r:d=6
 ·have e:Y (kQ c p.x=nU c p.x):=aj (by rw[i.o,aL l,aL o,aL m,aP r]);have u:=aj (NY j.o a.o.1 a.o.2.1 (by have:=a.o.2.2.1;omega) a.o.2.2.2.1 (by rw[a.o.2.2.2.2.2.1,r]) (a.o.2.2.2.2.1.b (by rw[a.o.2.2.2.2.2.1,r])));subst r;clear i a j l o H M m V;go_wp2_with (go_at_call 108;refine u.o.mono ?_;rintro h B ⟨rfl,v⟩);go_ret;exact⟨by rw[e.o];rfl,by rw[e.o];exact v.b Y0⟩
 have b6:(d==6)=false:=aM.2 r;by_cases x:d=7
 ·obtain⟨C,a0⟩:=exq p.x.f.h;obtain⟨N,b0⟩:=exq ((c.p n).f);obtain⟨Q,c0⟩:=exq ((c.p n).g);obtain⟨z,D⟩:=exq (Qi N Q C);obtain⟨nl,E⟩:∃T:Int,T=if z then C else 0:=⟨_,rfl⟩
  have e:Y (kQ c p.x=(c.b n {c.p n with f:=z,g:=nl},true)):=aj (by rw[i.o,aL l,aL o,aL m,aL r,aP x];dsimp only;rw[a0,b0,c0,D,E];cases z<;>rfl)
  have T:Y (∀W,aF au 109 #[aS #[N,Q],C] W fun h t=>h=av (aN #[aS #[z,nl],z])∧aJ W W t):=aj fun W=>by
   cases hn:z
   ·rw[hn]at D E;rw[E];exact Kt N Q C W D
   ·rw[hn]at D E;rw[E];exact Ey N Q C W D
  have y:Y (∀L W,St c P (R p) F w L W→W.cell? ⟨p.b,16,O⟩=R (J U C)∧W.cell? ⟨P.g,q+10,O⟩=R (aO N)∧W.cell? ⟨P.g,q+11,O⟩=R (J U Q)):=aj fun L W g=>by
   obtain⟨S,A⟩:=g.f;refine⟨by rw[←a0];exact A.a.a 16,?_,?_⟩
   ·rw[←b0];rcases G with⟨rfl,rfl⟩|⟨rfl,rfl⟩
    ·exact g.d.a 16
    ·exact g.d.a 28
   ·rw[←c0];rcases G with⟨rfl,rfl⟩|⟨rfl,rfl⟩
    ·exact g.d.a 17
    ·exact g.d.a 29
  have g:=aj a.o.2.1;subst x;clear i a l o H M m V r b6 a0 b0 c0 D E;go_upto_region 23 with fail;refine TF (A:=fun W=>St c P (R p) F w L W) (B:=fun W=>St (c.b n {c.p n with f:=z,g:=nl}) P (R p) F w L W) j.o.e G (fun b=>(T.o _).mono fun h t f=>⟨f.1,b.a.a f.2⟩) (fun b=>TG G z nl b.a) (fun b=>(y.o _ _ b.a).1) (fun b=>(y.o _ _ b.a).2.1) (fun b=>(y.o _ _ b.a).2.2) (fun b=>b.a.d.c) ?_;intros;rename_i B I;have K:=aj I;clear I j T y;dsimp only[Exit.then];go_wp2;go_ret;exact⟨by rw[e.o];rfl,by rw[e.o];exact .a K.o (g.o.e Y0)⟩
 have n:(d==7)=false:=aM.2 x;by_cases b:d=8
 ·have e:Y (kQ c p.x=(mo c p.x,true)):=aj (by rw[i.o,aL l,aL o,aL m,aL r,aL x,aP b]);have u:=aj (Tn j.o a.o.1 a.o.2.1 (by have:=a.o.2.2.1;omega) a.o.2.2.2.1 (by rw[a.o.2.2.2.2.2.1,b];decide));subst b;clear i a j l o H M m V r b6 x n;go_wp2_with (go_at_call 110;refine u.o.mono ?_;rintro h B ⟨rfl,v⟩);go_ret;exact⟨by rw[e.o];rfl,by rw[e.o];exact v.b Y0⟩
 have u:(d==8)=false:=aM.2 b;have t:=aj (JC j.o a.o.1 a.o.2.1 a.o.2.2.1 a.o.2.2.2.1);by_cases g:d=1∨d=5∨d=9
 ·have e:Y (kQ c p.x=lG c p.x):=aj (by rw[i.o,aL l,aL o,aL m,aL r,aL x,aL b,aP g]);clear i a j l o H M m V r b6 x n b u;rcases g with rfl|rfl|rfl
  all_goals
   go_wp2_with (go_at_call 111;refine t.o.mono ?_;rintro h B ⟨rfl,v⟩);go_ret;exact⟨by rw[e.o];rfl,by rw[e.o];exact v⟩
 ·have e:Y (kQ c p.x=(c,true)):=aj (by rw[i.o,aL l,aL o,aL m,aL r,aL x,aL b,aL g]);have h:(d==1)=false:=aM.2 (fun f=>g (.inl f));have h:(d==5)=false:=aM.2 (fun f=>g (.inr (.inl f)));have h:(d==9)=false:=aM.2 (fun f=>g (.inr (.inr f)));have K:Y (xU c P (R p) F w L (k+2) W):=aj (.a j.o (a.o.2.1.e Y0));clear i a j t l o m r x b g;go_wp2;go_ret;exact⟨by rw[e.o];rfl,by rw[e.o];exact K.o⟩
end
section
variable {w W:aB} {c c':Co} {P:Pt} {X:Option fq} {F:Nat→List Nat} {L:List Ow} {p:fq} {k q:Nat} {s ans:Int}
def Gp.d {b:Lk} (a:Gp c b) (d:∀s,(c'.p s).q=(c.p s).q):Gp c' b:=⟨fun b=>⟨(a.a b).1,fun e=>by rw[d];exact(a.a b).2 e⟩,a.b⟩
def Yz (c:Co) (s a:Int) (b:yg) (d:b.q=(c.p s).q):((c.b s b).p a).q=(c.p a).q:=by unfold Co.b Co.p at*;by_cases b:s=0<;>by_cases e:a=0<;>simp[b,e]at* <;>exact d
def Xo (i:St c P (R p) F w L W) (K:dU c k) (V:jh P k) (hk:k≤700) (M:iZ p.x) (ha:ans=1∨ans=2) (hd:ans=1→Gp c p.x):
  aF au 70 #[qp P.g,qp p.b,ans] W (Lh (nK c p.x ans) P (R p) F w L (k+2)):=by
 have hs:=dN M.a;obtain⟨q,B⟩:=oF.a hs;obtain⟨l,m⟩:=exq p.x.r.a;obtain⟨N,a0⟩:=exq p.x.r.c;obtain⟨t,hn⟩:=exq p.x.r.b.length;obtain⟨x,b0⟩:=exq p.x.g;obtain⟨u,c0⟩:=exq p.x.c;obtain⟨e,h⟩:=exq p.x.d;obtain⟨y,d0⟩:=exq c.a.f;obtain⟨a,C⟩:∃d,d=if u then c.b l {c.p l with e:=false}else c:=⟨_,rfl⟩
 have e0:=M.d;have b:dU a k:=by
  rw[C];split
  ·have:=K.a l;exact K.j ⟨this.e,this.f,this.t,this.q,this.c,this.a,this.b,this.d,this.g,this.h⟩
  ·exact K
 obtain⟨D,E,q1,Q⟩:∃d f q,mh a.c a.d l t 65535=(d,f,q):=⟨_,_,_,rfl⟩;obtain⟨f,G⟩:∃d:Co,d=if N=0 then{a with c:=D,d:=E}else a:=⟨_,rfl⟩
 have g0:dU f k:=by
  rw[G];split
  ·have:=Df (side:=l) (n:=t) (i:=65535) b.f b.g;rw[Q]at this;exact⟨b.n,b.h,b.i,this.1,this.2,b.l,b.d,b.e⟩
  ·exact b
 have h0:ans=1→Gp f p.x:=fun i=>(hd i).d fun s=>by
  have d:(f.p s).q=(a.p s).q:=by rw[G];split<;>rfl
  rw[d,C];split
  ·exact Yz c l s _ rfl
  ·rfl
 obtain⟨o,n⟩:∃H:Bool,H=(u&&(!e.isEmpty&&decide (uZ e>y))):=⟨_,rfl⟩;have S:Y (nK c p.x ans=if x then(c,false)else if o then(a,false)else if ans=2 then(f,true)else kQ f p.x):=aj (by
  unfold nK;dsimp only;rw[b0,m,a0,c0,h,hn,d0,←C,Q,←G];have:(u=true∧e≠[]∧uZ e>y)↔o=true:=by rw[n];cases e<;>simp
  by_cases d:o=true
  ·rw[aP d,aP (this.2 d)]
  ·rw[aL d,aL (fun i=>d (this.1 i))])
 have g:Y (∀c' W,St c' P (R p) F w L W→W.cell? ⟨p.b,0,O⟩=R (J U l)∧W.cell? ⟨p.b,1,O⟩=R (J U N)∧W.cell? ⟨p.b,5,O⟩=R (Z p.h t p.i)∧W.cell? ⟨p.b,22,O⟩=R (aO x)∧W.cell? ⟨p.b,23,O⟩=R (aO u)∧W.cell? ⟨p.b,38,O⟩=R (Z p.k e.length p.j)):=aj fun c' W j=>by obtain⟨A,d⟩:=j.f;have d:=d.a;exact⟨by rw[←m];exact d.a 0,by rw[←a0];exact d.a 1,by rw[←hn];exact d.a 5,by rw[←b0];exact d.a 22,by rw[←c0];exact d.a 23,by rw[←h];exact d.a 38⟩
 have z:Y (∀c' W,e≠[]→St c' P (R p) F w L W→aF au 101 #[Z p.k e.length p.j] W fun v I=>v=av (J U (uZ e))∧St c' P (R p) F w L I):=aj fun c' W T j=>by
  obtain⟨A,d⟩:=j.f;have r:=d.f;rw[h]at r;rw[h]at e0;cases hzz:e with
  |nil=>exact absurd hzz T
  |cons d f0=>rw[hzz]at r e0;refine mB (Ld d f0 p.k (d::f0).length p.j A W r rfl Y0) fun I A=>?_;exact⟨rfl,j.a A⟩
 have r:Y (∀W,St a P (R p) F w L W→aF au 102 #[aS #[aH aW (fw a.c) (fw a.d)],l,t,J U 65535] W fun v I=>v=av (aN #[aS #[aH aW (fw D) (fw E)],q1])∧St a P (R p) F w L I):=aj fun W j=>by refine mB (Cz a.c a.d l t 65535 D E q1 W (aj b.f) (aj b.g) (aj Q)) fun I A=>?_;exact⟨rfl,j.a A⟩
 have j:=aj i;have d:=aj (And.intro C (And.intro G (And.intro g0 (And.intro V (And.intro hk (And.intro M (And.intro h0 (And.intro m d0))))))));have f0:Y (jh P (k+2)):=aj (V.e Y0);rw[m]at B;clear i K V hk M hd hs m a0 hn b0 c0 h d0 C G b g0 Q h0 e0;go_enter func70,ntmps70;go_upto_region 1 with fail;refine Xl (A:=fun W=>St c P (R p) F w L W) j.o.e B (fun b=>(g.o _ _ b.a).1) ?_;intros;rename_i C i;have m:=aj i;obtain⟨_,_,_,Q,V,_⟩:=g.o _ _ i;clear i j;dsimp only[Exit.then];obtain rfl|rfl:x=true∨x=false:=by cases x<;>simp
 ·have i:Y (Lh (nK c p.x ans) P (R p) F w L (k+2) (av false) C):=aj (by rw[S.o,aP rfl];exact⟨rfl,.a m.o f0.o⟩);clear S g z r d m n;go_wp2;go_ret;exact i.o
 have x:Y (nK c p.x ans=if o then(a,false)else if ans=2 then(f,true)else kQ f p.x):=aj (by rw[S.o,aL Y2]);clear S;go_upto_block 0 with fail;go_cut [] (fun K=>o=false∧Y (St a P (R p) F w L K));case first=>
  obtain rfl|rfl:u=false∨u=true:=by cases u<;>simp
  ·have j:Y (o=false∧St a P (R p) F w L C):=aj ⟨by rw[n];rfl,by rw[d.o.1,aL Y2];exact m.o⟩;clear x g z r d m n;go_wp2;go_meet;exact⟨j.o.1,aj j.o.2⟩
  ·have I:Y (a=c.b l {c.p l with e:=false}):=aj (by rw[d.o.1,aP rfl]);have G:Y (St a P (R p) F w L (C.setCell ⟨P.g,q+5,O⟩ (aO false))):=aj (by rw[I.o];exact zaa B m.o);have xb:C.cell? ⟨P.g,q+5,O⟩=R (aO (c.p l).e):=by
    rcases B with⟨rfl,rfl⟩|⟨rfl,rfl⟩
    ·exact m.o.d.a 11
    ·exact m.o.d.a 23
   have hf:=m.o.d.c;go_upto_region 6 with fail;generalize C.setCell ⟨P.g,q+5,O⟩ (aO false)=W2 at G⊢;clear xb hf m Q V;cases h:e with
   |nil=>have j:Y (o=false):=aj (by rw[n,h];rfl);refine Tz (A:=fun W=>St a P (R p) F w L W) G.o.e (fun b=>by have:=(g.o _ _ b.a).2.2.2.2.2;rw[h]at this;exact this) ?_;intros;rename_i M t;have i:=aj t;clear t G x g z r d I n h;dsimp only[Exit.then];go_wp2;go_meet;exact⟨j.o,i⟩
   |cons z1 zl=>
    have T:e≠[]:=by rw[h];simp
    have S:0<e.length:=by rw[h];simp
    have j:Y (o=decide (uZ e>y)):=aj (by rw[n,h];rfl);refine TA (mx:=uZ e) (ta:=y) (A:=fun W=>St a P (R p) F w L W) G.o.e S (fun b=>z.o _ _ T b.a) (fun b=>(g.o _ _ b.a).2.2.2.2.2) (fun b=>by
     have h5:=b.a.d.a 5;have v:a.a.f=y:=by rw[I.o,←d.o.2.2.2.2.2.2.2.2];unfold Co.b;split<;>rfl
     rw[←v];exact h5) ?_
    intros;rename_i M t;have i:=aj t;obtain⟨mx,a0⟩:=exq (uZ e);rw[a0]at j⊢;clear t G g z r d I n h T S a0;dsimp only[Exit.then];obtain⟨H,A⟩:∃H:Bool,decide (mx>y)=H:=⟨_,rfl⟩;rw[A]at j⊢;clear A;cases H
    ·clear x;go_wp2_with fail;go_meet;exact⟨j.o,i⟩
    ·have HR:Y (Lh (nK c p.x ans) P (R p) F w L (k+2) (av false) M):=aj (by rw[x.o,aP j.o];exact⟨rfl,.a i.o f0.o⟩);clear x j i;go_wp2;go_ret;exact HR.o
 case rest=>
  obtain⟨l,e⟩:=hcut;have h:Y (nK c p.x ans=if ans=2 then(f,true)else kQ f p.x):=aj (by rw[x.o,aL (by rw[l];decide)]);have o:=(g.o _ _ e.o).2.1;clear x m n l z Q V;go_upto_if 58 with fail;go_cut [] (fun K=>Y (St f P (R p) F w L K));case first=>
   by_cases l:N=0
   ·have j:Y (f={a with c:=D,d:=E}):=aj (by rw[d.o.2.1,aP l]);subst l;go_upto_region 9 with fail;refine Xm (A:=fun W=>St a P (R p) F w L W) (B:=fun W=>St f P (R p) F w L W) e.o.e (fun b=>r.o _ b.a) (fun b=>by rw[j.o];exact Lj D E b.a) (fun b=>(g.o _ _ b.a).1) (fun b=>(g.o _ _ b.a).2.2.1) (fun b=>b.a.d.a 30) (fun b=>b.a.d.c) ?_;intros;rename_i M t;have i:=aj t;clear t j e g r d h o;dsimp only[Exit.then];go_wp2;go_meet;exact i
   ·have i:Y (St f P (R p) F w L wc):=aj (by rw[d.o.2.1,aL l];exact e.o);have m:=aM.2 l;clear e g r d h l;go_wp2_with fail;go_meet;exact i
  case rest=>
   have a:=hcut;clear g r e hcut o;rcases ha with rfl|rfl
   ·have b:Y (nK c p.x 1=kQ f p.x):=aj (by rw[h.o,aL Y2]);go_upto_if 82 with fail;refine wp_cond_false rfl (wp_skip ?_);dsimp only[Exit.then];apply_assumption;rw[b.o];exact Xn a.o d.o.2.2.1 d.o.2.2.2.1 d.o.2.2.2.2.1 d.o.2.2.2.2.2.1 (d.o.2.2.2.2.2.2.1 Y1) (by rw[d.o.2.2.2.2.2.2.2.1];exact B)
   ·have i:Y (Lh (nK c p.x 2) P (R p) F w L (k+2) (av true) wc):=aj (by rw[h.o,aP rfl];exact⟨rfl,.a a.o f0.o⟩);clear h d a;go_wp2;go_ret;exact i.o
end
section
variable {w:aB} {c:Co} {P:Pt} {p:fq}
def NQ {k:Nat} (F:Nat→List Nat) (h:lX w c P (R p) F) (ho:dU c k) (hk:k≤900) (hx:iZ p.x) (hw:p.x.w=(0,0)) (hty:p.x.r.c≠ -1) (v:Vl) (kept:Bool):
  aF au 215 #[aK (R ⟨P.g,0,O⟩),aK (R ⟨p.b,0,O⟩),aS #[J U v.d,J U v.e,J U v.c,J U v.a,J U v.b,J U v.f],aO kept] w (rC (iW c p.x v kept) c P p F w):=by
 have hl:c.l.length≤1000:=by have:=ho.d;omega
 have hs:=dN hx.a;have hf4:=hx.b hty;obtain⟨fr,hfr⟩:=exq p.x.r.a;obtain⟨ty,hty0⟩:=exq p.x.r.c;obtain⟨st,hst⟩:=exq p.x.r.d;obtain⟨g,hg⟩:=exq P.g;obtain⟨la,hla⟩:=exq p.x.f.h;obtain⟨gt,hgt⟩:=exq ((c.p fr).f);obtain⟨gl,hgl⟩:=exq ((c.p fr).g);obtain⟨tq,htq⟩:=exq (Qi gt gl la);rw[hfr]at hs;obtain⟨i1,i2,hfi,HX⟩:∃i1 i2,((fr=0∧i1=16∧i2=17)∨(fr=1∧i1=28∧i2=29))∧Y (∀W,aJ w.heap.size w W→W.cell? ⟨g,i1,O⟩=R (aO gt)∧W.cell? ⟨g,i2,O⟩=R (J U gl)∧W.cell? ⟨p.b,0,O⟩=R (J U fr)∧W.cell? ⟨p.b,16,O⟩=R (J U la)∧W.cell? ⟨p.b,1,O⟩=R (J U ty)∧W.cell? ⟨p.b,3,O⟩=R (J U st)):=by
  rcases hs with h0|h0
  ·refine⟨16,17,.inl ⟨h0,rfl,rfl⟩,aj fun W hW=>?_⟩;have hC:=(h.a hW).f;have hL:=(h.a hW).e.a;exact⟨by rw[←hg,←hgt,h0];exact hC.a 16,by rw[←hg,←hgl,h0];exact hC.a 17,by rw[←hfr];exact hL.a 0,by rw[←hla];exact hL.a 16,by rw[←hty0];exact hL.a 1,by rw[←hst];exact hL.a 3⟩
  ·refine⟨28,29,.inr ⟨h0,rfl,rfl⟩,aj fun W hW=>?_⟩;have hC:=(h.a hW).f;have hL:=(h.a hW).e.a;exact⟨by rw[←hg,←hgt,h0];exact hC.a 28,by rw[←hg,←hgl,h0];exact hC.a 29,by rw[←hfr];exact hL.a 0,by rw[←hla];exact hL.a 16,by rw[←hty0];exact hL.a 1,by rw[←hst];exact hL.a 3⟩
 have HT:Y (∀W,aJ w.heap.size w W→aF au 109 #[aS #[aO gt,J U gl],J U la] W fun e w'=>(∃a b,e=av (aN #[aS #[aO a,J U b],aO tq]))∧(w'.cell? ⟨g,i1,O⟩=R (aO gt)∧w'.cell? ⟨g,i2,O⟩=R (J U gl)∧w'.cell? ⟨p.b,0,O⟩=R (J U fr)∧w'.cell? ⟨p.b,16,O⟩=R (J U la))∧Y (aJ W.heap.size W w')):=aj fun W hW=>by
  cases tq
  ·refine mB (Kt gt gl la W htq) fun w' hb=>?_;have hx:=HX.o _ (bG hW hb);exact⟨⟨_,_,rfl⟩,⟨hx.1,hx.2.1,hx.2.2.1,hx.2.2.2.1⟩,aj hb⟩
  ·refine mB (Ey gt gl la W htq) fun w' hb=>?_;have hx:=HX.o _ (bG hW hb);exact⟨⟨_,_,rfl⟩,⟨hx.1,hx.2.1,hx.2.2.1,hx.2.2.2.1⟩,aj hb⟩
 have H243:Y (∀W,aJ w.heap.size w W→aF au 243 #[aK (R ⟨g,0,O⟩),aK (R ⟨p.b,0,O⟩),aS #[J U v.d,J U v.e,J U v.c,J U v.a,J U v.b,J U v.f],aO kept] W (rC (kP c p.x v kept) c P p F W)):=aj fun W hW=>by rw[←hg];refine mB (NP F (h.a hW) ho Y0 hx hty v kept) fun w' hb=>?_;exact⟨rfl,(h.a hW).g hb⟩
 have H244:Y (∀W,aJ w.heap.size w W→aF au 244 #[aK (R ⟨g,0,O⟩),aK (R ⟨p.b,0,O⟩),J U st,aO kept] W (rC (zbY c p.x.r st kept) c P p F W)):=aj fun W hW=>by rw[←hg,←hst];refine mB (wH F _ kept (h.a hW) ho.l hl hx.a (bX Y0)) fun w' hb=>?_;exact⟨rfl,(h.a hW).g hb⟩
 have H245:Y (ty=4→∀W,aJ w.heap.size w W→aF au 245 #[aK (R ⟨g,0,O⟩),aK (R ⟨p.b,0,O⟩)] W (rC (jV c p.x) c P p F W)):=aj fun h4 W hW=>by rw[←hg];exact AV F (h.a hW) ho hk hx (by rw[hty0];exact h4) hw
 have H246:Y (ty=6→∀W,aJ w.heap.size w W→aF au 246 #[aK (R ⟨g,0,O⟩),aK (R ⟨p.b,0,O⟩)] W (rC (uY c p.x) c P p F W)):=aj fun h6 W hW=>by rw[←hg];exact Sv F (h.a hW) hx (by rw[hty0];exact h6) hw
 have H247:Y (∀W,aJ w.heap.size w W→aF au 247 #[aK (R ⟨g,0,O⟩),aK (R ⟨p.b,0,O⟩),aO kept] W (rC (sM c p.x kept) c P p F W)):=aj fun W hW=>by rw[←hg];exact Gj F (h.a hW) ho hk hx hty kept
 have H248:Y (∀W,aJ w.heap.size w W→aF au 248 #[aK (R ⟨g,0,O⟩),aK (R ⟨p.b,0,O⟩),aS #[J U v.d,J U v.e,J U v.c,J U v.a,J U v.b,J U v.f],aO kept] W (rC (iB c p.x v kept) c P p F W)):=aj fun W hW=>by rw[←hg];exact NM F (h.a hW) ho.l hl hx v kept
 have HZ:Y (iW c p.x v kept=if ty=0 then kP c p.x v kept else if ty=2 then(2,0)else if ty=3 then zbY c p.x.r st kept else if ty=4 then jV c p.x else if ty=6 then uY c p.x else if ty=7 then jv tq 9 else if ty=8 then sM c p.x kept else iB c p.x v kept):=aj (by unfold iW;rw[hty0,hst,hfr,hgt,hgl,hla,htq])
 have HC:=aj h;have HK:=aj (gU w 213 #[J U v.d,J U v.e,J U v.c,J U v.a,J U v.b,J U v.f]);have n1:g<w.heap.size:=by rw[←hg];exact h.f.e
 have n2:=h.e.a.e;rw[hg];clear h hl hs hk ho hx hty hw hf4 hfr hty0 hst hg hla hgt hgl htq;go_enter func215,ntmps215;go_upto_region 1 with fail;generalize hW1:w.alloc (.cells #[J U v.d,J U v.e,J U v.c,J U v.a,J U v.b,J U v.f] 213)=W1 at HK⊢;clear hW1;obtain⟨xg,xl,x0,x16,x1,x3⟩:=HX.o _ HK.o.1;have xv:=bH.j HK.o.2;have hcase:ty=0∨ty=2∨ty=3∨ty=4∨ty=6∨ty=7∨ty=8∨((ty==0)=false∧(ty==2)=false∧(ty==3)=false∧(ty==4)=false∧(ty==6)=false∧(ty==7)=false∧(ty==8)=false):=by simp only[aM];omega
 rcases hcase with rfl|rfl|rfl|rfl|rfl|rfl|rfl|⟨b0,b2,b3,b4,b6,b7,b8⟩
 ·have HZ2:Y (iW c p.x v kept=kP c p.x v kept):=aj (by rw[HZ.o];simp);clear HZ;go_wp2_with fail;refine mB (H243.o _ HK.o.1) fun w4 hp=>?_;have HQ:=aj (Cp.a HK.o.1 hp);clear hp;go_wp2;go_ret2;exact⟨by rw[HZ2.o];rfl,HQ.o⟩
 ·have HZ2:Y (iW c p.x v kept=(2,0)):=aj (by rw[HZ.o];simp);clear HZ;go_wp2;go_ret2;exact⟨by rw[HZ2.o];rfl,HC.o.g HK.o.1⟩
 ·have HZ2:Y (iW c p.x v kept=zbY c p.x.r st kept):=aj (by rw[HZ.o];simp);clear HZ;go_wp2_with fail;refine mB (H244.o _ HK.o.1) fun w4 hp=>?_;have HQ:=aj (Cp.a HK.o.1 hp);clear hp;go_wp2;go_ret2;exact⟨by rw[HZ2.o];rfl,HQ.o⟩
 ·have HZ2:Y (iW c p.x v kept=jV c p.x):=aj (by rw[HZ.o];simp);clear HZ;go_wp2_with fail;refine mB (H245.o Y1 _ HK.o.1) fun w4 hp=>?_;have HQ:=aj (Cp.a HK.o.1 hp);clear hp;go_wp2;go_ret2;exact⟨by rw[HZ2.o];rfl,HQ.o⟩
 ·have HZ2:Y (iW c p.x v kept=uY c p.x):=aj (by rw[HZ.o];simp);clear HZ;go_wp2_with fail;refine mB (H246.o Y1 _ HK.o.1) fun w4 hp=>?_;have HQ:=aj (Cp.a HK.o.1 hp);clear hp;go_wp2;go_ret2;exact⟨by rw[HZ2.o];rfl,HQ.o⟩
 ·have HZ2:Y (iW c p.x v kept=jv tq 9):=aj (by rw[HZ.o];simp);clear HZ H243 H244 H245 H246 H247 H248;have m1:W1.heap.size≠g:=by have:=HK.o.1.size;omega
  have m2:W1.heap.size≠p.b:=by have:=HK.o.1.size;omega
  go_upto_region 13 with fail;go_cut [11] (fun y wx=>y=aO tq∧Y (aJ W1.heap.size W1 wx));case first=>
   have HT2:Y (∀W,aJ W1.heap.size W1 W→_):=aj fun W hW=>HT.o W (bG HK.o.1 hW);clear HT HZ2;rcases hfi with⟨rfl,rfl,rfl⟩|⟨rfl,rfl,rfl⟩
   ·go_region_held3 (fun W=>W.cell? ⟨g,16,O⟩=R (aO gt)∧W.cell? ⟨g,17,O⟩=R (J U gl)∧W.cell? ⟨p.b,0,O⟩=R (J U 0)∧W.cell? ⟨p.b,16,O⟩=R (J U la)) (go_keep) (first|(go_at_call 109;refine(HT2.o _ (by first|exact(ay _ _).drew|exact(ay _ _).drew.alloc (aD _) _)).mono ?_;rintro e w3 ⟨⟨ya,yb,rfl⟩,⟨d1,d2,d3,d4⟩,HP⟩;first|(have HBk:=aj (jG HP.o);have gfb:=HBk.o.c;have z0:=HBk.o.a 0;have z1:=HBk.o.a 1)|skip));all_goals
     go_wp2;go_meet;first|(rw[Ju];exact⟨rfl,aj (Sy [aO ya,J U yb] HP.o rfl).a⟩)|exact⟨rfl,aj (vG (ay _ _).drew HP.o).a⟩
   ·go_region_held3 (fun W=>W.cell? ⟨g,28,O⟩=R (aO gt)∧W.cell? ⟨g,29,O⟩=R (J U gl)∧W.cell? ⟨p.b,0,O⟩=R (J U 1)∧W.cell? ⟨p.b,16,O⟩=R (J U la)) (go_keep) (first|(go_at_call 109;refine(HT2.o _ (by first|exact(ay _ _).drew|exact(ay _ _).drew.alloc (aD _) _)).mono ?_;rintro e w3 ⟨⟨ya,yb,rfl⟩,⟨d1,d2,d3,d4⟩,HP⟩;first|(have HBk:=aj (jG HP.o);have gfb:=HBk.o.c;have z0:=HBk.o.a 0;have z1:=HBk.o.a 1)|skip));all_goals
     go_wp2;go_meet;first|(rw[Ju];exact⟨rfl,aj (Sy [aO ya,J U yb] HP.o rfl).a⟩)|exact⟨rfl,aj (vG (ay _ _).drew HP.o).a⟩
  case rest=>obtain⟨rfl,HB3⟩:=hcut;have HB4:=aj (bG HK.o.1 HB3.o);clear HK HB3 HT xg xl x0 x16 x1 x3 xv m1 m2;go_wp2_with fail;refine mB (ny tq 9 _) ?_;rintro w7 rfl;go_wp2;go_ret2;exact⟨by rw[HZ2.o];rfl,HC.o.g HB4.o⟩
 ·have HZ2:Y (iW c p.x v kept=sM c p.x kept):=aj (by rw[HZ.o];simp);clear HZ;go_wp2_with fail;refine mB (H247.o _ HK.o.1) fun w4 hp=>?_;have HQ:=aj (Cp.a HK.o.1 hp);clear hp;go_wp2;go_ret2;exact⟨by rw[HZ2.o];rfl,HQ.o⟩
 ·have HZ2:Y (iW c p.x v kept=iB c p.x v kept):=aj (by rw[HZ.o];simp only[aM]at b0 b2 b3 b4 b6 b7 b8;rw[aL b0,aL b2,aL b3,aL b4,aL b6,aL b7,aL b8])
  clear HZ;go_wp2_with fail;refine mB (H248.o _ HK.o.1) fun w4 hp=>?_;have HQ:=aj (Cp.a HK.o.1 hp);clear hp;go_wp2;go_ret2;exact⟨by rw[HZ2.o];rfl,HQ.o⟩
end
def Xp {A:aB→Prop} {f:Exit→Act→aB→Prop} {wc:aB} {b d q:Nat} {a:Int} 
  (e:A wc.drew) (g:oF a q)
  (h:∀h:Wd A,h.W.cell? ⟨d,0,O⟩=R (J U a))
  (a:∀h i j l m n o r t W,A W→f .normal ⟨#[qp b,u1,u2,u3,u4,u5,qp d,aK (R ⟨b,q,O⟩),u8,u9,Q0,Q1,Q2,Q3,Q4,Q5,Q6,Q7,Q8,Q9,T0,T1,T2,T3,T4,T5,T6,T7,T8,T9,N0,N1,N2,N3,N4,N5,h,i,j,l,m,n,o,r,t,X5,X6,X7,X8,X9,O0,O1,O2,O3,O4,O5,O6,O7,O8,O9,J0,J1,J2,J3,J4,J5,J6,J7,J8,J9,R0,R1,R2,R3,R4,R5,R6],[]⟩ W):
  Code.wp au (fu 7 (f32.body.getD .skip)) f ⟨#[qp b,u1,u2,u3,u4,u5,qp d,u7,u8,u9,Q0,Q1,Q2,Q3,Q4,Q5,Q6,Q7,Q8,Q9,T0,T1,T2,T3,T4,T5,T6,T7,T8,T9,N0,N1,N2,N3,N4,N5,N6,N7,N8,N9,X0,X1,X2,X3,X4,X5,X6,X7,X8,X9,O0,O1,O2,O3,O4,O5,O6,O7,O8,O9,J0,J1,J2,J3,J4,J5,J6,J7,J8,J9,R0,R1,R2,R3,R4,R5,R6],[]⟩ wc:=by
 haveI:Nonempty (Wd A):=⟨⟨_,e⟩⟩;have b:=aj a;clear a;conv=>arg 2;whnf
 refine Mg A [] e ?_;clear e;rcases g with⟨rfl,rfl⟩|⟨rfl,rfl⟩
 all_goals
  repeat(refine WL.m (fun d a=>?_);go_simp;refine a _ ?_;clear a d)
  exact WL.b fun f e=>by apply b.o;exact e
section
variable {w W:aB} {c c':Co} {P:Pt} {X:Option fq} {F:Nat→List Nat} {L:List Ow} {p:fq} {k q:Nat} {s ans:Int}
def lX.z (a:lX W c P X F):lX W c P O F:=⟨a.h,fun b=>by
 rcases b with _|_|_|_|_|_|_|_|_|_|_|_|_|_|_|b
 case succ.succ.succ.succ.succ.succ.succ.succ.succ.succ.succ.succ.succ.succ.zero=>exact fun p d=>by cases d
 all_goals first|exact a.d 0|exact a.d 1|exact a.d 2|exact a.d 3|exact a.d 4|exact a.d 5|exact a.d 6|exact a.d 7|exact a.d 8|exact a.d 9|exact a.d 10|exact a.d 11|exact a.d 12|exact a.d 13|exact a.d (b+15),a.j,a.l⟩
def St.t (a:St c P X F w L W):St c P O F w L W:=by obtain⟨b,a⟩:=a;exact⟨b,a.a.z,a.e,a.b,a.f,a.g⟩
def zab (b:Option aX) (a:St c P X F w L W):St c {P with d:=b} X F w L (W.setCell ⟨P.g,32,O⟩ (aK b)):=by obtain⟨d,a⟩:=a;exact a.d (a.a.m [aK b] 32 Y3 rfl)
def zac (b:Bool) (a:St c P X F w L W):St c {P with e:=b} X F w L (W.setCell ⟨P.g,34,O⟩ (aO b)):=by obtain⟨d,a⟩:=a;exact a.d (a.a.m [aO b] 34 Y3 rfl)
def zad (b:oF s q) (a:St c P X F w L W):St (c.b s {c.p s with h:=true}) P X F w L (W.setCell ⟨P.g,q,O⟩ (aO true)):=by
 obtain⟨d,a⟩:=a;rcases b with⟨rfl,rfl⟩|⟨rfl,rfl⟩
 ·exact a.d (a.a.m [aO true] 6 Y3 rfl)
 ·exact a.d (a.a.m [aO true] 18 Y3 rfl)
def zae (d:oF s q) (b:Bool) (a:St c P X F w L W):St (c.b s {c.p s with d:=b}) P X F w L (W.setCell ⟨P.g,q+1,O⟩ (aO b)):=by
 obtain⟨e,a⟩:=a;rcases d with⟨rfl,rfl⟩|⟨rfl,rfl⟩
 ·exact a.d (a.a.m [aO b] 7 Y3 rfl)
 ·exact a.d (a.a.m [aO b] 19 Y3 rfl)
def DoZ (a:Co×Bool) (d:List Fd) (P:Pt) (F:Nat→List Nat) (w:aB) (L:List Ow) (k:Nat) (e:Ending) (f:aB):Prop:=
 ∃b,Xd {P with d:=O,e:= !a.2} b∧jh b k∧St a.1 b O F w L f∧(a.2=false→e=av (aN #[Z O 0 0,J U 6]))∧
  (a.2=true→∃a,e=av (aN #[a,J U 0])∧f.ownsRow w 93 3 a d.length (dx d))
def zbc (b:St c P (R p) F w L W) (N:P.d=R ⟨p.b,0,O⟩) (Q:P.e=false) (l:dU c k) (v:jh P k) (S:k≤700) (B:iZ p.x) (T:ans=1∨ans=2) (V:ans=1→Gp c p.x) (x:W.cell? ⟨p.b,40+ans.toNat,O⟩=R (aO true)):
  aF au 32 #[qp P.g,ans] W (DoZ (KL c p.x ans) p.x.b P F w L (k+2)):=by
 have hs:=dN B.a;obtain⟨q,m⟩:=oF.a hs;obtain⟨d,C⟩:=exq p.x.r.a;obtain⟨H,I⟩:=exq p.x.r.c;obtain⟨D,y⟩:=exq p.x.b.length;obtain⟨n,K⟩:∃a,a=((c.p d).d||H != -1):=⟨_,rfl⟩;obtain⟨r,z⟩:∃a,a=c.b d {c.p d with h:=true,d:=n}:=⟨_,rfl⟩;obtain⟨g,E⟩:∃a,a={P with d:=O}:=⟨_,rfl⟩;have a0:jh g k:=by rw[E];exact⟨v.a,v.b,v.c,v.d⟩
 have b0:dU r k:=by rw[z];have:=l.a d;exact l.j ⟨this.e,this.f,this.t,this.q,this.c,this.a,this.b,this.d,fun _=>rfl,this.h⟩
 have c0:ans=1→Gp r p.x:=fun b=>(V b).d fun s=>by rw[z];exact Yz c d s _ rfl
 obtain⟨G,M⟩:=exq (nK r p.x ans);have d0:KL c p.x ans=G:=by unfold KL;dsimp only;rw[C,I,←K,←z,M]
 have j:g.g=P.g:=by rw[E]
 have t:Y (∀W,St r g (R p) F w L W→aF au 70 #[qp P.g,qp p.b,ans] W fun f A=>f=av (aO G.2)∧xU G.1 g (R p) F w L (k+2) A):=aj fun W i=>by have:=Xo i b0 a0 S B T c0;rw[M,j]at this;exact this
 have h:Y (∀c' a W,St c' a (R p) F w L W→W.cell? ⟨p.b,0,O⟩=R (J U d)∧W.cell? ⟨p.b,1,O⟩=R (J U H)∧W.cell? ⟨p.b,37,O⟩=R (Z p.f D p.g)):=aj fun c' a W i=>by obtain⟨F',e⟩:=i.f;have e:=e.a;exact⟨by rw[←C];exact e.a 0,by rw[←I];exact e.a 1,by rw[←y];exact e.a 37⟩
 have o:Y (∀c' a W,St c' a (R p) F w L W→aF au 71 #[Z p.f D p.g] W fun f A=>∃u,f=av u∧A.ownsRow w 93 3 u D (dx p.x.b)∧St c' a (R p) F w L A):=aj fun c' a W i=>by obtain⟨F',hF⟩:=id i;have e:=hF.a.e.c;rw[y]at e;refine(uW p.f D p.g p.x.b W y (by have:=B.d;omega) e.k e.2 e.d).mono ?_;rintro f A ⟨D,e0,rfl,l,e⟩;exact⟨_,rfl,dz l hF.e.1.b,i.a e⟩
 have A:=aj (uh b.d);rw[N]at A;have i:=aj b;have e:=aj (And.intro K (And.intro z (And.intro E (And.intro d0 (And.intro y Q)))));rw[C]at m;clear b l v S B V hs C I y K z E a0 b0 c0 M d0 j N Q;go_enter func32,ntmps32;go_upto_region 4 with(go_at_call 59;refine A.o.mono ?_;rintro f v ⟨rfl,rfl⟩);go_cut [13] (fun u B=>u=aO false∧B=v);case first=>
  rcases T with rfl|rfl
  ·have y:v.cell? ⟨p.b,41,O⟩=R (aO true):=x;clear x t h o e i A;go_wp2_with fail;go_meet;exact⟨rfl,rfl⟩
  ·have z:v.cell? ⟨p.b,42,O⟩=R (aO true):=x;clear x t h o e i A;go_wp2_with fail;go_meet;exact⟨rfl,rfl⟩
 case rest=>
  obtain⟨rfl,rfl⟩:=hcut;have y:Y (St c g (R p) F w L (wc.setCell ⟨P.g,32,O⟩ (aK O))):=aj (by rw[e.o.2.2.1];exact zab O i.o);have z:=i.o.d.H 32;have v:=i.o.d.c;clear x A i;go_upto_region 7 with fail;generalize wc.setCell ⟨P.g,32,O⟩ (aK O)=i at y⊢;clear z v;refine Xp (A:=fun W=>St c g (R p) F w L W) y.o.e m (fun i=>(h.o _ _ _ i.a).1) ?_;intros;rename_i z i;have C:=aj i;clear i y;dsimp only[Exit.then];have j:g.g=P.g:=by rw[e.o.2.2.1]
  have y:z.cell? ⟨P.g,q,O⟩=R (aO (c.p d).h)∧∀A,z.frozen? ⟨P.g,A,O⟩=false:=by
   have i:=C.o.d;rw[j]at i;refine⟨?_,i.c⟩;rcases m with⟨rfl,rfl⟩|⟨rfl,rfl⟩
   ·exact i.a 6
   ·exact i.a 18
  have x:=aj (zad m C.o);rw[j]at x;clear C;obtain⟨C,v⟩:=y;go_upto_region 9 with fail;generalize z.setCell ⟨P.g,q,O⟩ (aO true)=z at x⊢;clear C v;obtain⟨y,C⟩:=exq ((c.p d).d);have D:z.cell? ⟨P.g,q+1,O⟩=R (aO y)∧∀A,z.frozen? ⟨P.g,A,O⟩=false:=by
   have i:=x.o.d;rw[j]at i;refine⟨?_,i.c⟩;rw[←C];rcases m with⟨rfl,rfl⟩|⟨rfl,rfl⟩
   ·exact i.a 7
   ·exact i.a 19
  obtain⟨E,v⟩:=D;have D:=(h.o _ _ _ x.o).2.1;have i:Y (St r g (R p) F w L (z.setCell ⟨P.g,q+1,O⟩ (aO n))):=aj (by
   have z:=zae m n x.o;rw[j]at z;rw[e.o.2.1];have f:((c.b d {c.p d with h:=true}).b d {(c.b d {c.p d with h:=true}).p d with d:=n})=c.b d {c.p d with h:=true,d:=n}:=by rcases m with⟨rfl,_⟩|⟨rfl,_⟩<;>rfl
   rw[f]at z;exact z)
  have d:Y ((y=true→n=true)∧(y=false→n=(H != -1))):=aj (by rw[e.o.1,C];exact⟨fun b=>by rw[b];rfl,fun b=>by rw[b];rfl⟩);clear C x;go_cut [] (fun B=>Y (St r g (R p) F w L B));case first=>
   obtain rfl|rfl:y=true∨y=false:=by cases y<;>simp
   ·obtain rfl:=d.o.1 rfl;clear d h t o e;go_wp2_with fail;go_meet;exact i
   ·obtain rfl:=d.o.2 rfl;clear d h t o e;go_wp2_with fail;go_meet;exact i
  case rest=>
   have C:=hcut;clear i hcut d D E v;obtain⟨d,D⟩:=G;go_upto_if 67 with(go_at_call 70;refine(t.o _ C.o).mono ?_;rintro f r ⟨rfl,n⟩);obtain⟨a,i,m,d⟩:=n;have n:a.g=P.g:=i.g.trans j;have x:=aj e.o.2.2.2.1;have y:g.e=false:=by rw[e.o.2.2.1];exact e.o.2.2.2.2.2
   have B:g.d=O:=by rw[e.o.2.2.1]
   have g:∀j,Xd {P with d:=O,e:=j} {a with e:=j}:=fun j=>by have f:=e.o.2.2.1;exact⟨n,by rw[show({a with e:=j}:Pt).c=a.c from rfl,i.h,f],by show a.d=O;rw[i.c,B],rfl,by have:=i.a;rw[f]at this;exact this,by have:=i.b;rw[f]at this;exact this⟩
   clear C t;cases D
   ·have j:Y (DoZ (KL c p.x ans) p.x.b P F w L (k+2) (av (aN #[Z O 0 0,J U 6])) (r.setCell ⟨P.g,34,O⟩ (aO true))):=aj (by rw[x.o];refine⟨{a with e:=true},g true,⟨m.a,m.b,m.c,m.d⟩,?_,fun _=>rfl,fun b=>by cases b⟩;rw[←n];exact(zac true d).t)
    have t:r.cell? ⟨P.g,34,O⟩=R (aO a.e):=by rw[←n];exact d.d.a 34
    have v:∀A,r.frozen? ⟨P.g,A,O⟩=false:=by rw[←n];exact d.d.c
    clear d g y B i m x e h o;go_wp2_with fail;go_ret2;exact j.o
   ·have j:=(h.o _ _ _ d).2.2;have j:=aj (o.o _ _ _ d);have n:Y (Xd {P with d:=O,e:=false} a):=aj (by
     have b:=g false;have f:({a with e:=false}:Pt)=a:=by have z:=i.d.trans y;obtain⟨_,_,_,_,_,r⟩:=a;dsimp only at z;subst z;rfl
     rw[f]at b;exact b)
    have r:=aj e.o.2.2.2.2.1;clear d g y B i e h o;go_wp2_with (go_at_call 71;refine j.o.mono ?_;rintro f e ⟨u,rfl,l,d⟩);go_ret2;rw[x.o];exact⟨a,n.o,m,d.t,(fun b=>by cases b),fun _=>⟨u,rfl,by rw[r.o];exact l⟩⟩
end
section
variable {w:aB} {c:Co} {P:Pt} {p:fq}
def NR {k:Nat} (F:Nat→List Nat) (h:lX w c P (R p) F) (ho:dU c k) (hk:k≤900) (hx:iZ p.x) (v:Vl) (kept:Bool):
  aF au 178 #[aK (R ⟨P.g,0,O⟩),aK (R ⟨p.b,0,O⟩),aS #[J U v.d,J U v.e,J U v.c,J U v.a,J U v.b,J U v.f],aO kept] w (rC (dV c p.x v kept) c P p F w):=by
 have hs:=dN hx.a;obtain⟨fr,hfr⟩:=exq p.x.r.a;obtain⟨ty,hty0⟩:=exq p.x.r.c;obtain⟨fl,hfl⟩:=exq p.x.r.e;obtain⟨g,hg⟩:=exq P.g;obtain⟨n,hn⟩:=exq p.x.r.b.length;obtain⟨fm,hfm⟩:=exq ((c.p fr).d);obtain⟨op,hop⟩:=exq (iU ty fl);obtain⟨od,hod⟩:=exq p.x.e;obtain⟨kn,hkn⟩:=exq (tJ ty);obtain⟨w1,w2,hww⟩:∃x y,p.x.w=(x,y):=⟨_,_,rfl⟩;obtain⟨pt,hpt⟩:=exq ((p.x.r.b==yY));obtain⟨vf,hvf⟩:=exq v.b;rw[hfr]at hs;obtain⟨i1,hfi,HX⟩:∃i1,((fr=0∧i1=7)∨(fr=1∧i1=19))∧Y (∀W,aJ w.heap.size w W→W.cell? ⟨g,i1,O⟩=R (aO fm)∧(W.cell? ⟨p.b,0,O⟩=R (J U fr)∧W.cell? ⟨p.b,1,O⟩=R (J U ty)∧W.cell? ⟨p.b,2,O⟩=R (J U fl)∧W.cell? ⟨p.b,3,O⟩=R (J U p.x.r.d)∧W.cell? ⟨p.b,4,O⟩=R (aO p.m)∧W.cell? ⟨p.b,5,O⟩=R (Z p.h n p.i))∧W.cell? ⟨p.b,19,O⟩=R (J U w1)∧W.cell? ⟨p.b,20,O⟩=R (J U w2)∧W.cell? ⟨p.b,21,O⟩=R (aO od)):=by
  have hL:∀W,aJ w.heap.size w W→(W.cell? ⟨p.b,0,O⟩=R (J U fr)∧W.cell? ⟨p.b,1,O⟩=R (J U ty)∧W.cell? ⟨p.b,2,O⟩=R (J U fl)∧W.cell? ⟨p.b,3,O⟩=R (J U p.x.r.d)∧W.cell? ⟨p.b,4,O⟩=R (aO p.m)∧W.cell? ⟨p.b,5,O⟩=R (Z p.h n p.i))∧W.cell? ⟨p.b,19,O⟩=R (J U w1)∧W.cell? ⟨p.b,20,O⟩=R (J U w2)∧W.cell? ⟨p.b,21,O⟩=R (aO od):=fun W hW=>by have hL:=(h.a hW).e.a;exact⟨⟨by rw[←hfr];exact hL.a 0,by rw[←hty0];exact hL.a 1,by rw[←hfl];exact hL.a 2,hL.a 3,hL.a 4,by rw[←hn];exact hL.a 5⟩,by rw[show w1=p.x.w.1 by rw[hww]];exact hL.a 19,by rw[show w2=p.x.w.2 by rw[hww]];exact hL.a 20,by rw[←hod];exact hL.a 21⟩
  rcases hs with h0|h0
  ·exact⟨7,.inl ⟨h0,rfl⟩,aj fun W hW=>⟨by rw[←hg,←hfm,h0];exact(h.a hW).f.a 7,hL W hW⟩⟩
  ·exact⟨19,.inr ⟨h0,rfl⟩,aj fun W hW=>⟨by rw[←hg,←hfm,h0];exact(h.a hW).f.a 19,hL W hW⟩⟩
 have HO:Y (fl≤255→∀W,aF au 89 #[aS #[J U fr,J U ty,J U fl,J U p.x.r.d,aO p.m,Z p.h n p.i]] W fun e w'=>e=av (aO op)∧aJ W.heap.size W w'):=aj fun h2 W=>by rw[←hop];exact sj fr ty fl _ _ _ _ _ W Y0
 have HFL:Y (ty≠ -1→fl≤255):=aj fun h1=>by have:=hx.b (by rw[hty0];exact h1);omega
 have HPF:Y (∀W,aJ w.heap.size w W→aF au 212 #[Z p.h n p.i] W fun e w'=>e=av (aO pt)∧W=w'):=aj fun W hW=>by rw[←hpt,←hn];exact Zk p.h p.i p.x.r.b W (h.a hW).e.g.d (by have:=hx.g;omega) hx.h
 have HKN:Y (∀W,aF au 214 #[J U ty] W fun e w'=>e=av (aO kn)∧W=w'):=aj fun W=>by rw[←hkn];exact MB ty W
 have HKI:Y (ty≠ -1→w1=0→w2=0→∀W,aJ w.heap.size w W→aF au 215 #[aK (R ⟨g,0,O⟩),aK (R ⟨p.b,0,O⟩),aS #[J U v.d,J U v.e,J U v.c,J U v.a,J U vf,J U v.f],aO kept] W (rC (iW c p.x v kept) c P p F W)):=aj fun h1 h2 h3 W hW=>by rw[←hg,←hvf];exact NQ F (h.a hW) ho hk hx (by rw[hww,h2,h3]) (by rw[hty0];exact h1) v kept
 have HZ:Y (dV c p.x v kept=if ty= -1 then jv pt 2 else if fm=false∧op=false then(3,1)else if(n:Int)>vf then(3,3)else if od=false then(3,4)else if kn=false then(2,0)else if¬(w1=0∧w2=0)then(3,5)else iW c p.x v kept):=aj (by unfold dV;rw[hty0,hfr,hfl,hop,hfm,hn,hod,hkn,hww,hpt,hvf];simp only[ne_eq,Prod.mk.injEq])
 have HC:=aj h;have HK:=aj (gU w 213 #[J U v.d,J U v.e,J U v.c,J U v.a,J U v.b,J U v.f]);rw[hvf]at HK;rw[hg,hvf];clear h hs hk ho hx hfr hty0 hfl hg hn hfm hop hod hkn hww hpt hvf;go_enter func178,ntmps178;go_upto_region 1 with fail;generalize hW1:w.alloc (.cells #[J U v.d,J U v.e,J U v.c,J U v.a,J U vf,J U v.f] 213)=W1 at HK⊢;clear hW1;obtain⟨xf,⟨x0,x1,x2,x3,x4,x5⟩,x19,x20,x21⟩:=HX.o _ HK.o.1;by_cases hm1:ty= -1
 ·have HZ2:Y (dV c p.x v kept=jv pt 2):=aj (by rw[HZ.o,aP hm1]);clear HZ HO HFL HKN HKI;subst hm1;go_wp2_with fail;refine mB (HPF.o _ HK.o.1) ?_;rintro w2 rfl;go_wp2_with fail;refine mB (ny pt 2 _) ?_;rintro w7 rfl;go_wp2_with fail;go_ret2;exact⟨by rw[HZ2.o];rfl,HC.o.g HK.o.1⟩
 have HZ2:Y (dV c p.x v kept=if fm=false∧op=false then(3,1)else if(n:Int)>vf then(3,3)else if od=false then(3,4)else if kn=false then(2,0)else if¬(w1=0∧w2=0)then(3,5)else iW c p.x v kept):=aj (by rw[HZ.o,aL hm1]);have b1:=aM.2 hm1;have HO2:=aj (HO.o (HFL.o hm1));have HK2:=aj (HKI.o hm1);clear HZ HO HFL HKI HPF hm1;obtain⟨b3,hb3⟩:∃b:Bool,b=(!fm&& !op):=⟨_,rfl⟩;go_upto_region 3 with fail;clear xf x0 x1 x2 x3 x4 x5 x19 x20 x21;go_cut [26] (fun y wx=>y=aO b3∧Y (aJ w.heap.size w wx)∧Y (bH wx w.heap.size 213 #[J U v.d,J U v.e,J U v.c,J U v.a,J U vf,J U v.f]));case first=>
  have yf:∀u:Gw W1,u.W.cell? ⟨g,i1,O⟩=R (aO fm):=fun u=>(HX.o _ (u.a HK.o.1)).1;have y0:∀u:Gw W1,u.W.cell? ⟨p.b,0,O⟩=R (J U fr):=fun u=>(HX.o _ (u.a HK.o.1)).2.1.1;have y1:∀u:Gw W1,u.W.cell? ⟨p.b,1,O⟩=R (J U ty):=fun u=>(HX.o _ (u.a HK.o.1)).2.1.2.1;have y2:∀u:Gw W1,u.W.cell? ⟨p.b,2,O⟩=R (J U fl):=fun u=>(HX.o _ (u.a HK.o.1)).2.1.2.2.1;have y3:∀u:Gw W1,u.W.cell? ⟨p.b,3,O⟩=R (J U p.x.r.d):=fun u=>(HX.o _ (u.a HK.o.1)).2.1.2.2.2.1;have y4:∀u:Gw W1,u.W.cell? ⟨p.b,4,O⟩=R (aO p.m):=fun u=>(HX.o _ (u.a HK.o.1)).2.1.2.2.2.2.1;have y5:∀u:Gw W1,u.W.cell? ⟨p.b,5,O⟩=R (Z p.h n p.i):=fun u=>(HX.o _ (u.a HK.o.1)).2.1.2.2.2.2.2;have G1:Y (∀u:Gw W1,aF au 89 #[aS #[J U fr,J U ty,J U fl,J U p.x.r.d,aO p.m,Z p.h n p.i]] u.W fun e w'=>e=av (aO op)∧∃u':Gw W1,w'=u'.W):=aj fun u=>Calls.gw (HO2.o _);have hw0:U.wrap 0=0:=rfl;have hw1:U.wrap 1=1:=rfl;clear HZ2 HKN HK2 HX HC HO2;rcases hfi with⟨rfl,rfl⟩|⟨rfl,rfl⟩
  all_goals
   cases fm;all_goals
    refine dJ Y3 Y3 ?_;repeat(refine WQ.d (fun K hK=>?_);go_simp;first|(refine hK _ ?_;clear hK K)|(apply Exists.intro;refine⟨fun _=>?_,hK _ ?_⟩;(go_at_call 89;exact G1.o _);clear hK K))
    refine WQ.b ?_;rintro _ ⟨u3,rfl⟩;go_wp2_with fail;go_meet;exact⟨by rw[hb3];rfl,aj (u3.a HK.o.1),aj (HK.o.2.b u3.h)⟩
 case rest=>
  obtain⟨rfl,HB3,HV3⟩:=hcut;clear HK HO2;have HZ3:Y (dV c p.x v kept=if b3=true then(3,1)else if(n:Int)>vf then(3,3)else if od=false then(3,4)else if kn=false then(2,0)else if¬(w1=0∧w2=0)then(3,5)else iW c p.x v kept):=aj (by rw[HZ2.o,hb3];congr 1;cases fm<;>cases op<;>simp)
  clear HZ2 hb3;cases b3;rotate_left
  ·have HZ4:Y (dV c p.x v kept=(3,1)):=aj (by rw[HZ3.o,aP rfl]);clear HZ3;go_wp2_with fail;refine mB (dR 1 _) ?_;rintro w4 rfl;go_wp2_with fail;go_ret2;exact⟨by rw[HZ4.o];rfl,HC.o.g HB3.o⟩
  have HZ4:Y (dV c p.x v kept=if(n:Int)>vf then(3,3)else if od=false then(3,4)else if kn=false then(2,0)else if¬(w1=0∧w2=0)then(3,5)else iW c p.x v kept):=aj (by rw[HZ3.o,aL Y2]);clear HZ3;obtain⟨b5,hb5⟩:∃b:Bool,b=decide ((n:Int)>vf):=⟨_,rfl⟩;have HZ5:Y (dV c p.x v kept=if b5=true then(3,3)else if od=false then(3,4)else if kn=false then(2,0)else if¬(w1=0∧w2=0)then(3,5)else iW c p.x v kept):=aj (by rw[HZ4.o,hb5];simp only[decide_eq_true_eq]);clear HZ4;obtain⟨xf,⟨x0,x1,x2,x3,x4,x5⟩,x19,x20,x21⟩:=HX.o _ HB3.o;have xv:=bH.j HV3.o;go_upto_region 5 with fail;go_cut [50] (fun y wx=>y=aO b5∧Y (aJ w.heap.size w wx)∧Y (bH wx w.heap.size 213 #[J U v.d,J U v.e,J U v.c,J U v.a,J U vf,J U v.f]));case first=>clear HX HKN HK2 HC HZ5;go_quiet (fail);go_wp2_with fail;go_meet;exact⟨by rw[hb5],aj (bI HB3.o nq),aj (HV3.o.q nq)⟩
  case rest=>
   obtain⟨rfl,HB4,HV4⟩:=hcut;clear HB3 HV3 xf x0 x1 x2 x3 x4 x5 x19 x20 x21 xv hb5;obtain⟨xf,⟨x0,x1,x2,x3,x4,x5⟩,x19,x20,x21⟩:=HX.o _ HB4.o;have xv:=bH.j HV4.o;cases b5;rotate_left
   ·have HZ6:Y (dV c p.x v kept=(3,3)):=aj (by rw[HZ5.o,aP rfl]);clear HZ5;go_wp2_with fail;refine mB (dR 3 _) ?_;rintro w4 rfl;go_wp2_with fail;go_ret2;exact⟨by rw[HZ6.o];rfl,HC.o.g HB4.o⟩
   cases od
   ·have HZ6:Y (dV c p.x v kept=(3,4)):=aj (by rw[HZ5.o,aL Y2,aP rfl]);clear HZ5;go_wp2_with fail;refine mB (dR 4 _) ?_;rintro w4 rfl;go_wp2_with fail;go_ret2;exact⟨by rw[HZ6.o];rfl,HC.o.g HB4.o⟩
   go_wp2_with fail;refine mB (HKN.o _) ?_;rintro w4 rfl;cases kn
   ·have HZ6:Y (dV c p.x v kept=(2,0)):=aj (by rw[HZ5.o,aL Y2,aL Y2,aP rfl]);clear HZ5;go_wp2_with fail;go_ret2;exact⟨by rw[HZ6.o];rfl,HC.o.g HB4.o⟩
   have HZ6:Y (dV c p.x v kept=if¬(w1=0∧w2=0)then(3,5)else iW c p.x v kept):=aj (by rw[HZ5.o,aL Y2,aL Y2,aL Y2]);clear HZ5;have hww:(w1=0∧w2=0)∨(¬w1=0∧(w1==0)=false)∨(w1=0∧¬w2=0∧(w2==0)=false):=by
    by_cases h1:w1=0
    ·by_cases h2:w2=0
     ·exact .inl ⟨h1,h2⟩
     ·exact .inr (.inr ⟨h1,h2,aM.2 h2⟩)
    ·exact .inr (.inl ⟨h1,aM.2 h1⟩)
   rcases hww with⟨rfl,rfl⟩|⟨hn0,bn0⟩|⟨rfl,hn0,bn0⟩
   ·have HZ7:Y (dV c p.x v kept=iW c p.x v kept):=aj (by rw[HZ6.o];simp);clear HZ6;have HK3:=aj (HK2.o Y1 Y1);clear HK2;go_wp2_with fail;refine mB (HK3.o _ HB4.o) fun w4 hp=>?_;have HQ:=aj (Cp.a HB4.o hp);clear hp;go_wp2_with fail;go_ret2;exact⟨by rw[HZ7.o];rfl,HQ.o⟩
   ·have HZ7:Y (dV c p.x v kept=(3,5)):=aj (by rw[HZ6.o,aP (fun h=>hn0 h.1)]);clear HZ6;go_wp2_with fail;all_goals
     refine mB (dR 5 _) ?_;rintro w4 rfl;go_wp2_with fail;go_ret2;exact⟨by rw[HZ7.o];rfl,HC.o.g HB4.o⟩
   ·have HZ7:Y (dV c p.x v kept=(3,5)):=aj (by rw[HZ6.o,aP (fun h=>hn0 h.2)]);clear HZ6;go_wp2_with fail;all_goals
     refine mB (dR 5 _) ?_;rintro w4 rfl;go_wp2_with fail;go_ret2;exact⟨by rw[HZ7.o];rfl,HC.o.g HB4.o⟩
end
section
variable {w W W':aB} {c:Co} {P:Pt} {X:Option fq} {F:Nat→List Nat} {L L' L1 L2:List Ow} {b:Nat} {t:bB} {cs cs':Array aI}
def St.l (a:St c P X F w L W) (d:L'.Perm L):St c P X F w L' W:=by obtain⟨f,a⟩:=a;exact⟨f,a.a,a.e,fun f g=>a.b f (d.mem_iff.1 g),(d.map _).nodup_iff.2 a.f,a.g⟩
def St.G (a:St c P X F w (L1++(b,t,cs)::L2) W) (d:bg [b] W W') (f:bH W' b t cs'):St c P X F w (L1++(b,t,cs')::L2) W':=by have g:=a.l (L':=(b,t,cs)::(L1++L2)) List.perm_middle.symm;exact(g.k d f).l List.perm_middle
def St.o (f:St c P X F w (L1++(b,t,cs)::L2) W) (a:Nat) (d:List aI):St c P X F w (L1++(b,t,gV cs a d)::L2) (W.setCells b a d):=
 f.G (bg.f (F:=[b]) Y1 d a W) (bH.o d a W _ (f.h (x:=(b,t,cs)) Y1))
def St.u (a:St c P X F w (L1++(b,t,cs)::L2) W):bH W b t cs:=a.h (x:=(b,t,cs)) (by simp)
def St.H (a:St c P X F w L W):lg W:=by obtain⟨d,a⟩:=a;exact a.a.j
def St.K (a:St c P X F w L W):w.heap.size≤W.heap.size:=by obtain⟨d,a⟩:=a;exact a.e.1.b
def St.q (a:St c P X F w L W):bg (Z6 F) w W:=by obtain⟨d,a⟩:=a;exact a.e.1
def St.M (d:St c P X F w (L1++L2) W) (h:bg (L1.map (fun a=>a.1)) W W'):St c P X F w L2 W':=by
 obtain⟨i,d⟩:=d;have j:∀a∈L1,Loc W i a.1 a.2.1 a.2.2∧w.heap.size≤a.1:=fun a f=>d.b a (List.mem_append_left _ f);have k:∀b∈L1.map (fun a:Ow=>a.1),∃a∈L1,a.1=b:=fun b l=>by simpa using dI.1 l
 have p:∀g,g<15→∀b∈i g,b∉L1.map (fun a:Ow=>a.1):=fun g m b l o=>by obtain⟨a,f,e⟩:=k b o;exact(j a f).1.c (iM m (by rw[e];exact l))
 have l:=d.f;rw[List.map_append,List.nodup_append]at l;refine⟨i,⟨d.a.h.d h.b,fun g=>?_,d.a.j.d h (fun a f=>?_),d.a.l⟩,⟨d.e.1.a h (fun a f=>.inr ?_),d.e.2⟩,fun a f=>?_,l.2.1,d.g⟩
 ·by_cases m:g<15
  ·exact gL c P X g W W' _ _ (d.a.d g) h (p g m)
  ·obtain⟨i,rfl⟩:∃i,g=i+15:=⟨g-15,Y0⟩;exact d.a.d (i+15)
 ·obtain⟨g,i,e⟩:=k a f;rw[←e];exact aR d.g (j g i).2
 ·obtain⟨g,i,e⟩:=k a f;rw[←e];exact(j g i).2
 ·have g:=d.b a (List.mem_append_right _ f);exact⟨⟨g.1.a.g h (fun o=>l.2.2 a.1 o a.1 (List.mem_map_of_mem f) rfl),g.1.c⟩,g.2⟩
def eZ (e:bB) (sz:Nat) (v:aI) (n:Nat) (xs:List aI) (LR:List Ow):Prop:=
 xs.length=n*sz∧((v=Z O 0 0∧n=0∧LR=[])∨∃f a d,v=Z (R ⟨f,0,O⟩) n a∧LR=[(f,e,d)]∧n≤a∧a≤maxLen∧d.size=a*sz∧d.toList.take (n*sz)=xs)
def eZ.d (e:bB) (sz:Nat):eZ e sz (Z O 0 0) 0 [] []:=⟨by simp,.inl ⟨rfl,rfl,rfl⟩⟩
variable {e:bB} {sz n base:Nat} {v:aI} {xs:List aI} {LR:List Ow}
def eZ.a (f:eZ e sz v n xs LR) (i:∀a∈LR,bH W a.1 a.2.1 a.2.2∧base≤a.1):W.ownsRow base e sz v n xs:=by
 refine⟨f.1,?_⟩;rcases f.2 with⟨a,d,_⟩|⟨g,j,h,a,d,k⟩
 ·exact .inl ⟨a,d⟩
 ·have:=i (g,e,h) (by rw[d];simp);exact .inr ⟨g,j,h,a,this.2,this.1,k⟩
def eZ.f (d:W.ownsRow base e sz v n xs):∃LR,eZ e sz v n xs LR∧∀a∈LR,bH W a.1 a.2.1 a.2.2∧base≤a.1:=by
 rcases d.2 with⟨f,g⟩|⟨h,j,i,f,g,k,l⟩
 ·exact⟨[],⟨d.1,.inl ⟨f,g,rfl⟩⟩,Y1⟩
 ·exact⟨[(h,e,i)],⟨d.1,.inr ⟨h,j,i,f,rfl,l⟩⟩,fun a d=>by rw[aC.1 d];exact⟨k,g⟩⟩
def eZ.g (f:eZ e sz v n xs LR):LR.map (fun a=>a.1)=v.ownBlock.toList:=by rcases f.2 with⟨a,_,d⟩|⟨g,h,i,a,d,_⟩<;>rw[a,d]<;>rfl
def St.x (d:St c P X F w L W) (f:aJ W W W') (a:W'.ownsRow W e sz v n xs):∃LR,eZ e sz v n xs LR∧St c P X F w (LR++L) W':=by
 obtain⟨LR,g,h⟩:=eZ.f a;refine⟨LR,g,?_⟩;rcases g.2 with⟨_,_,a⟩|⟨i,k,j,_,a,_⟩
 ·rw[a];exact d.a f
 ·rw[a]at h⊢;have a:=h (i,e,j) Y1;exact d.z f a.1 a.2
def St.p (a:St c P X F w (L1++(LR++L2)) W) (d:eZ e sz v n xs LR):W.ownsRow w e sz v n xs:=d.a fun d f=>by
 obtain⟨g,a⟩:=a
 have:=a.b d (by simp[f])
 exact⟨this.1.a,this.2⟩
end
section
variable {w:aB} {c:Co} {P:Pt} {p:fq}
def zbE (a:Int×Int) (c:Co) (P:Pt) (p:fq) (b:Nat→List Nat) (w:aB) (d:Ending) (e:aB):Prop:=d=av (aN #[a.1,a.2])∧Cp c P (R (p.n a.1)) b w e
def SK {a:Nat} (h:Nat→List Nat) (o:lX w c P (R p) h) (q:P.d=R ⟨p.b,0,O⟩) (r:p.l) (s:dU c a) (t:a≤900) (u:iZ p.x) (f:Vl) (i:Bool):
  aF au 138 #[qp P.g,aS f,i] w (zbE (dV c p.x f i) c P p h w):=by
 obtain⟨v,j⟩:=exq P.g;obtain⟨b,k⟩:=exq p.b;obtain⟨g,l⟩:=exq (dV c p.x f i);have m:sO g:=by rw[←l];exact wL ..
 have x:Y (∀d,aJ w w d→aF au 59 #[qp v] d fun e a=>e=av (aK (R ⟨b,0,O⟩))∧a=d):=aj fun d n=>by rw[←j,←k,←q];exact uh (o.a n).f
 have y:Y (∀d,aJ w w d→aF au 178 #[qp v,qp b,aS f,i] d fun e a=>e=av (aN #[g.1,g.2])∧Y (Cp c P (R p) h w a)∧Y (∃z A B C:Bool,(a.cell? ⟨b,40,O⟩=R (aO z)∧a.cell? ⟨b,41,O⟩=R (aO A)∧a.cell? ⟨b,42,O⟩=R (aO B)∧a.cell? ⟨b,43,O⟩=R (aO C))∧∀D,a.frozen? ⟨b,D,O⟩=false)):=aj fun d n=>by rw[←j,←k];refine mB (NR h (o.a n) s t u f i) fun a i=>?_;have d:=Cp.a n i;refine⟨by rw[l],aj d,?_⟩;obtain⟨v,n,_⟩:=d;have d:=n.e.a;exact aj ⟨p.D,p.o,p.p,p.E,⟨d.a 40,d.a 41,d.a 42,d.a 43⟩,d.c⟩
 have D:Y (∀a,Cp c P (R p) h w a→∀d,d=a.setCell ⟨b,40+g.1.toNat,O⟩ (aO true)→Cp c P (R (p.n g.1)) h w d):=aj fun a i d e=>by rw[e,←k];obtain⟨h,a,b⟩:=i;obtain⟨v,n,h⟩:=a.v r g.1 m;exact⟨v,n,b.a h⟩
 have a:=aj (gU w 213 f);rw[j,l];clear o q r s t u j k l;go_enter func138,ntmps138;go_upto_region 1 with fail;generalize b:w.alloc (.cells f 213)=f at a⊢;clear b;have f:=bH.j a.o.2;go_wp2_with fail;refine mB (x.o _ a.o.1) ?_;rintro d rfl;go_wp2_with fail;refine mB (y.o _ a.o.1) fun h ⟨d,b⟩=>?_;obtain⟨z,A,B,C,⟨e,h,i,j⟩,k⟩:=b.o;clear y x b a f;obtain⟨a,b⟩:=g;unfold sO at m;dsimp only at m D⊢;rcases m with rfl|rfl|rfl|rfl
 all_goals
  go_wp2;go_ret2;exact⟨rfl,D.o _ d.o _ rfl⟩
end
structure JE where
 c:Co
 P:Pt
 x:Lk
 b:Nat
 F:Nat→List Nat
 w:aB
 L:List Ow
 k:Nat
 a:Nat
 j:Bool
 i:Option aX
 l:Nat
 g:Int
 d:Bool
 e:Bool
structure JE.h (E:JE):Prop where
 c:E.P.d=R ⟨E.b,0,O⟩
 a:dU E.c E.k
 k:E.k≤900
 b:iZ E.x
 d:∀W,bg (Z6 E.F) E.w W→bU W E.i (dP E.x.r.b)
 e:E.i=O→E.x.r.b.length=0
def jA (E:JE) (j:Jd) (mv vR vF:aI):Array aI:=#[qp E.P.g,E.x.r.a,E.x.r.c,E.x.r.e,E.x.r.d,E.j,Z E.i E.x.r.b.length E.l,E.g,E.d,E.e,j.a,j.d,mv,J U 0,vF,vR,Z O 0 0]
structure JK (E:JE) (mv:aI) (X:List Ow) (m:Nat) (j:Jd) (p:fq) (vR vF:aI) (LR LF:List Ow) (W:aB):Prop where
 c:p.x=E.x
 e:p.b=E.b
 f:p.l
 h:j.a=1→p.o=true
 i:j.a=2→p.p=true
 l:j.a=0∨j.a=1∨j.a=2
 a:St E.c E.P (R p) E.F E.w (LR++(LF++(X++(E.a,81,jA E j mv vR vF)::E.L))) W
 b:eZ 3 1 vR j.c.length (j.c.map (J U)) LR
 d:eZ 91 2 vF j.b.length (bN j.b) LF
 k:j.c.length≤m
 g:j.b.length≤2*m
def JJ (E:JE) (mv:aI) (X:List Ow) (m:Nat) (j:Jd) (W:aB):Prop:=∃p vR vF LR LF,JK E mv X m j p vR vF LR LF W
section
variable {E:JE} {mv vR vF:aI} {X:List Ow} {m:Nat} {j:Jd} {p:fq} {LR LF:List Ow} {W W':aB}
def JK.n (a:JK E mv X m j p vR vF LR LF W):bH W E.a 81 (jA E j mv vR vF):=a.a.h (x:=(E.a,81,jA E j mv vR vF)) (by simp)
def JK.q (a:JK E mv X m j p vR vF LR LF W) (b:aJ W W W'):JK E mv X m j p vR vF LR LF W':=⟨a.c,a.e,a.f,a.h,a.i,a.l,a.a.a b,a.b,a.d,a.k,a.g⟩
def JJ.h (a:JJ E mv X m j W) (b:aJ W W W'):JJ E mv X m j W':=by obtain⟨p,vR,vF,LR,LF,a⟩:=a;exact⟨p,vR,vF,LR,LF,a.q b⟩
def JJ.c (a:JJ E mv X m j W) {b:Nat} (c:m≤b):JJ E mv X b j W:=by obtain⟨p,vR,vF,LR,LF,a⟩:=a;exact⟨p,vR,vF,LR,LF,a.c,a.e,a.f,a.h,a.i,a.l,a.a,a.b,a.d,aR a.k c,by have:=a.g;omega⟩
def Ll (a b c:List Ow) (d:Ow):(a++(b++(d::c))).Perm (d::(a++(b++c))):=by rw[←bD,←bD];exact List.perm_middle
def JJ.d (a:JJ E mv X m j W) (b:bB) (c:Array aI):JJ E mv ((W.heap.size,b,c)::X) m j (W.alloc (.cells c b)):=by obtain⟨p,vR,vF,LR,LF,a⟩:=a;exact⟨p,vR,vF,LR,LF,a.c,a.e,a.f,a.h,a.i,a.l,(a.a.i b c).l (by rw[List.cons_append];exact Ll _ _ _ _),a.b,a.d,a.k,a.g⟩
def JK.o {b:Ow} (a:JK E mv (b::X) m j p vR vF LR LF W):JK E mv X m j p vR vF LR LF W:=⟨a.c,a.e,a.f,a.h,a.i,a.l,(a.a.l (L':=b::(LR++(LF++(X++(E.a,81,jA E j mv vR vF)::E.L)))) (by rw[List.cons_append];exact(Ll _ _ _ _).symm)).g,a.b,a.d,a.k,a.g⟩
def JJ.e {b:Ow} (a:JJ E mv (b::X) m j W):JJ E mv X m j W:=by obtain⟨p,vR,vF,LR,LF,a⟩:=a;exact⟨p,vR,vF,LR,LF,a.o⟩
def JJ.b {a:Ow} (b:JJ E mv (a::X) m j W):bH W a.1 a.2.1 a.2.2:=by obtain⟨p,vR,vF,LR,LF,b⟩:=b;exact b.a.h (x:=a) Y1
def JJ.a (b:JJ E mv X m j W):W.cell? ⟨E.a,0,O⟩=R (aK (R ⟨E.P.g,0,O⟩))∧W.cell? ⟨E.a,1,O⟩=R (J U E.x.r.a)∧W.cell? ⟨E.a,7,O⟩=R (J U E.g)∧W.cell? ⟨E.a,8,O⟩=R (aO E.d)∧W.cell? ⟨E.a,9,O⟩=R (aO E.e)∧W.cell? ⟨E.a,10,O⟩=R (J U j.a)∧W.cell? ⟨E.a,11,O⟩=R (aO j.d)∧W.cell? ⟨E.a,12,O⟩=R mv∧∀a,W.frozen? ⟨E.a,a,O⟩=false:=by obtain⟨p,vR,vF,LR,LF,b⟩:=b;have a:=b.n;exact⟨a.a 0,a.a 1,a.a 7,a.a 8,a.a 9,a.a 10,a.a 11,a.a 12,a.c⟩
def JJ.k (a:JJ E mv X m j W) (b:Bool):JJ E mv X m {j with d:=b} (W.setCell ⟨E.a,11,O⟩ (aO b)):=by obtain⟨p,vR,vF,LR,LF,a⟩:=a;refine⟨p,vR,vF,LR,LF,a.c,a.e,a.f,a.h,a.i,a.l,?_,a.b,a.d,a.k,a.g⟩;have:=a.a;rw[←bD,←bD]at this⊢;exact this.o 11 [aO b]
end
def xH {a:Type} [Inhabited a] [DecidableEq a] (b:List a):(Lib.compact b).length≤b.length:=by unfold Lib.compact Lib.compactUpTo;rw[List.length_map];exact aR (List.length_filter_le _ _) Y1
def Gt (a:List Int):(vg a).length≤a.length:=by unfold vg;refine aR (xH _) ?_;rw[List.length_mergeSort];exact List.length_filter_le _ _
def wM (a:List Ft):(eG a).length≤a.length:=by unfold eG;refine aR (xH _) ?_;rw[List.length_mergeSort];exact List.length_filter_le _ _
def zbI {a:Prop} [Decidable a] {b c:List Ft} (d:b.length≤2) (e:c.length≤2):(if a then b else c).length≤2:=by split<;>assumption
def Ai (c:Int) (a:Rw):(iq c a).length≤2:=by
 have a:∀b:List Ft,b.length≤2→(eG b).length≤2:=fun b d=>aR (wM b) d;have b:(CU c).length≤2:=by
  unfold CU;split
  ·exact a _ Y2
  ·split
   ·exact a _ Y2
   ·split
    ·exact a _ Y2
    ·split
     ·exact a _ Y2
     ·decide
 unfold iq gB;repeat' (first|exact b|exact a _ (show 1≤2 by decide)|exact(show 1≤2 by decide)|exact(show 0≤2 by decide)|refine zbI ?_ ?_)
def Xv (a:fq) (b:Int):(a.n b).x=a.x∧(a.n b).b=a.b∧(a.l→(a.n b).l)∧(a.o=true→(a.n b).o=true)∧(a.p=true→(a.n b).p=true)∧(b=1→(a.n b).o=true)∧(b=2→(a.n b).p=true):=by
 unfold fq.n;by_cases c:b=0
 ·rw[aP c];exact⟨rfl,rfl,id,id,id,fun a=>Y0,fun a=>Y0⟩
 ·rw[aL c];by_cases c:b=1
  ·rw[aP c];exact⟨rfl,rfl,id,fun _=>rfl,id,fun _=>rfl,fun a=>Y0⟩
  ·rw[aL c];by_cases d:b=2
   ·rw[aP d];exact⟨rfl,rfl,id,id,fun _=>rfl,fun a=>Y0,fun _=>rfl⟩
   ·rw[aL d];exact⟨rfl,rfl,id,id,id,fun a=>absurd a c,fun a=>absurd a d⟩
def St.w {b W:aB} {c:Co} {d:Pt} {X:Option fq} {e:Nat→List Nat} {f g a:List Ow} (h:St c d X e b (f++(g++a)) W):St c d X e b (g++(f++a)) W:=h.l (by
 rw[←bD,←bD]
 exact(List.perm_append_comm).append_right a)
def JS (E:JE) (mv:aI) (X:List Ow) (m:Nat) (j:Jd) (b:Int) (W:aB):Prop:=∃a c d e f,JK E mv X m j a c d e f W∧(b=1→a.o=true)∧(b=2→a.p=true)
def JS.a {E:JE} {mv:aI} {X:List Ow} {m:Nat} {j:Jd} {W:aB} {b:Int} {c:Ow} (a:JS E mv (c::X) m j b W):JS E mv X m j b W:=by obtain⟨b,c,d,e,f,a,g⟩:=a;exact⟨b,c,d,e,f,a.o,g⟩
section
variable {E:JE} {mv:aI} {X:List Ow} {m:Nat} {j:Jd} {W:aB}
def JJ.l (b:E.h) (a:JJ E mv X m j W) (c:Vl) (d:Bool):aF au 138 #[qp E.P.g,aS c,d] W fun e f=>e=av (aN #[J U (dV E.c E.x c d).1,J U (dV E.c E.x c d).2])∧JS E mv X m j (dV E.c E.x c d).1 f:=by obtain⟨g,i,k,l,n,a⟩:=a;obtain⟨h,hF⟩:=id a.a;refine mB (SK h hF.a (by rw[a.e];exact b.c) a.f b.a b.k (by rw[a.c];exact b.b) c d) fun f h=>?_;rw[a.c]at h⊢;have b:=Xv g (dV E.c E.x c d).1;exact⟨rfl,g.n _,i,k,l,n,⟨b.1.trans a.c,b.2.1.trans a.e,b.2.2.1 a.f,fun e=>b.2.2.2.1 (a.h e),fun e=>b.2.2.2.2.1 (a.i e),a.l,hF.d h,a.b,a.d,a.k,a.g⟩,b.2.2.2.2.2.1,b.2.2.2.2.2.2⟩
def TK (C:E.h) (b:Vl) (f:Bool) (a:m≤10000) (a:JJ E mv X m j W):
  aF au 98 #[qp E.a,aS b,f] W fun i n=>i=av (aO (pK E.c E.x b f j).2)∧JJ E mv X (m+1) (pK E.c E.x b f j).1 n:=by
 obtain⟨c,w⟩:=exq (dV E.c E.x b f);have g:sO c:=by rw[←w];exact wL ..
 have d:pK E.c E.x b f j=if c.1=3 then({j with c:=vg (j.c++[c.2]),b:=eG (j.b++iq c.2 E.x.r)},false)else({j with a:=c.1,d:=j.d|| !f},true):=by unfold pK;rw[w]
 obtain⟨e,h⟩:=c;obtain⟨F,k⟩:=exq (pK E.c E.x b f j);rw[k]at d⊢;have l:Y (∀X W,JJ E mv X m j W→aF au 138 #[qp E.P.g,aS b,f] W fun i n=>i=av (aN #[e,h])∧JS E mv X m j e n):=aj fun X W a=>by have:=a.l C b f;rw[w]at this;exact this
 have c:=aj (a.d 213 (xO b));have G:=aj d;have P:=aj g;unfold xO at c;clear a w d k g;go_enter func98,ntmps98;go_upto_region 1 with fail;generalize W.alloc (.cells b 213)=d at c⊢;generalize W.heap.size=d at c⊢;refine Xr (a1:=e) (a2:=h) (g:=E.P.g) (A:=fun W=>JJ E mv ((d,213,b)::X) m j W) (B:=fun W=>JS E mv X m j e W) (c.o.h (ay _ _).drew) (fun b=>(l.o _ _ b.a).mono fun i n a=>⟨a.1,a.2.a⟩) (fun b=>b.a.a.1) (fun b=>b.a.b.a 0) (fun b=>b.a.b.a 1) (fun b=>b.a.b.a 2) (fun b=>b.a.b.a 3) (fun b=>b.a.b.a 4) (fun b=>b.a.b.a 5) ?_;intros;rename_i x b;have H:=aj b;clear b c l;dsimp only[Exit.then];by_cases y:e=3
 ·have p:Y (F=({j with c:=vg (j.c++[h]),b:=eG (j.b++iq h E.x.r)},false)):=aj (by rw[G.o,aP y]);subst y;obtain⟨c,Q,S,I,z,b,_⟩:=H.o;have b:=aj b;obtain⟨A,g,d⟩:=dB (St.p (L1:=[]) b.o.a b.o.b);subst d;obtain⟨s,t,d⟩:=dB (b.o.a.p b.o.d);subst d;have r:=aj (St.p (L1:=[]) b.o.a b.o.b);have u:=aj b.o.a.K;have i0:=b.o.k;have T:=b.o.n.H 15;have y1:=b.o.n.e;clear G P H;go_wp2_with (at_builtin;go_loud (refine jP rfl (.tmp 26) (.tmp 28) 37 rfl E.w.heap.size 3 Tryz.info3 rfl underlying37 A j.c.length g (j.c.map (J U)) _ rfl r.o x.heap.size rfl rfl rfl (by unfold maxLen;omega) Y0 u.o ?_));intro v c5 B D K;obtain⟨d,l⟩:∃d:List Ow,d=z++(X++(E.a,81,jA E j mv (Z A j.c.length g) (Z s j.b.length t))::E.L):=⟨_,rfl⟩;have L:Y (St E.c E.P (R c) E.F E.w (I++d) x):=aj (by rw[l];exact b.o.a);have o:=aj l;have M:St E.c E.P (R c) E.F E.w d B:=L.o.M (by rw[b.o.b.g];exact(bg.n x _).a (bg.k K (fun d q=>.inl (by rw[q];simp))) (fun d q=>.inl q))
  have k:=aj M;have N:Y (bU B (R ⟨v,0,O⟩) ((j.c++[h]).map (J U))):=aj (by rw[List.map_append];exact(jE D).a);have V:=aj (WE (R ⟨v,0,O⟩) (j.c.length+1) c5 (j.c++[h]) B k.o.H Y1 Y0 N.o);have a0:Y (∀d,aJ B B d→d.cell? ⟨E.a,15,O⟩=R (Z A j.c.length g)∧∀v,d.frozen? ⟨E.a,v,O⟩=false):=aj fun d q=>by have g:=k.o.a q;rw[o.o,←bD]at g;exact⟨g.u.a 15,g.u.c⟩
  clear D K l M r u T y1 N L;go_upto_region 4 with(go_at_call 139;refine V.o.mono ?_;rintro i d ⟨u,v,rfl,r,D⟩;obtain⟨d0,K⟩:=a0.o _ D);obtain⟨g,M⟩:=exq (vg (j.c++[h]));have b0:g.length≤m+1:=by rw[←M];refine aR (Gt _) ?_;simp;omega
  rw[M]at r p⊢;obtain⟨L,N,l⟩:=k.o.x D r;have c0:=aj N;obtain⟨j2,e0⟩:∃T:Jd,T={j with c:=g}:=⟨_,rfl⟩;have T:Y (St E.c E.P (R c) E.F E.w (L++(z++(X++(E.a,81,jA E j mv (Z u g.length v) (Z s j.b.length t))::E.L))) (d.setCell ⟨E.a,15,O⟩ (Z u g.length v))):=aj (by rw[o.o]at l;rw[←bD,←bD]at l⊢;exact l.o 15 [Z u g.length v])
  generalize d.setCell ⟨E.a,15,O⟩ (Z u g.length v)=d at T⊢;clear M r D l N d0 K a0 V k o;obtain⟨o,M⟩:=exq (iq h E.x.r);have j0:o.length≤2:=by rw[←M];exact Ai _ _
  obtain⟨k,N⟩:=exq (eG (j.b++o));have d0:k.length≤2*(m+1):=by have:=b.o.g;rw[←N];refine aR (wM _) ?_;simp;omega
  obtain⟨l,D⟩:∃l:List Ow,l=L++(z++(X++(E.a,81,jA E j mv (Z u g.length v) (Z s j.b.length t))::E.L)):=⟨_,rfl⟩;have e0:Y (∀W,St E.c E.P (R c) E.F E.w l W→bH W E.a 81 (jA E j mv (Z u g.length v) (Z s j.b.length t))):=aj fun W a=>by rw[D,←bD,←bD]at a;exact a.u
  have f0:Y (∀W,St E.c E.P (R c) E.F E.w l W→aF au 141 #[h,aS (qr E.x.r E.j E.i E.x.r.b.length E.l)] W fun i n=>∃d,i=av (pY d)∧∃r,eZ 91 2 d o.length (bN o) r∧St E.c E.P (R c) E.F E.w (r++l) n):=aj fun W a=>by have:=Jr h E.x.r E.j E.i E.x.r.b.length E.l W a.H rfl (by have:=C.b.g;omega) C.e (C.d W a.q) C.b.h;rw[M]at this;refine this.mono ?_;rintro i n ⟨A7,c7,rfl,C,q⟩;exact⟨_,rfl,a.x q C⟩
  have g0:Y (∀d W,(∃r,eZ 91 2 d o.length (bN o) r∧St E.c E.P (R c) E.F E.w (r++l) W)→aF au 140 #[Z s j.b.length t,d] W fun i n=>∃d,i=av (pY d)∧∃h,eZ 91 2 d k.length (bN k) h∧St E.c E.P (R c) E.F E.w (h++l) n):=aj fun d W ⟨r,V,a⟩=>by
   have a0:=St.p (L1:=[]) a V;obtain⟨A7,c7,rfl⟩:=dB a0;have hy:=a.j _;have h0:W.ownsRow E.w.heap.size 91 2 (Z s j.b.length t) j.b.length (bN j.b):=by rw[D]at hy;exact hy.p b.o.d
   have k0:=b.o.g;have:=BM s A7 j.b.length t o.length c7 j.b o W rfl rfl Y0 Y0 (fH h0).1 (fH a0).1 (jE h0).a (jE a0).a;rw[N]at this;refine this.mono ?_;rintro i n ⟨A8,c8,rfl,C,q⟩;exact⟨_,rfl,hy.x q C⟩
  have q:Y (∀d W,(∃h,eZ 91 2 d k.length (bN k) h∧St E.c E.P (R c) E.F E.w (h++l) W)→∃A i n,d=Z A i n∧JJ E mv X (m+1) {j with c:=g,b:=k} (W.setCell ⟨E.a,14,O⟩ (Z A i n))):=aj fun d W ⟨h,i,a⟩=>by
   obtain⟨A8,c8,rfl⟩:=dB (St.p (L1:=[]) a i);refine⟨_,_,_,rfl,c,Z u g.length v,Z A8 k.length c8,L,h,b.o.c,b.o.e,b.o.f,b.o.h,b.o.i,b.o.l,?_,c0.o,i,b0,d0⟩;rw[D]at a;have y:St E.c E.P (R c) E.F E.w (z++(h++(L++(X++(E.a,81,jA E j mv (Z u g.length v) (Z s j.b.length t))::E.L)))) W:=by refine a.l ?_;refine bY .. |>.trans ?_;exact List.Perm.append_left h (bY ..)
   have n:=(y.j _).w;rw[←bD,←bD]at n⊢;exact n.o 14 [Z A8 k.length c8]
  have n:=aj T.o;rw[←D]at n;rw[M,N]at p;clear D M N T b c0 b0 d0 j0 i0;refine Xt (A0:=fun W=>St E.c E.P (R c) E.F E.w l W) (A1:=fun d W=>∃r,eZ 91 2 d o.length (bN o) r∧St E.c E.P (R c) E.F E.w (r++l) W) (A2:=fun d W=>∃h,eZ 91 2 d k.length (bN k) h∧St E.c E.P (R c) E.F E.w (h++l) W) (B:=fun W=>JJ E mv X (m+1) {j with c:=g,b:=k} W) n.o.e (fun W a=>?_) f0.o g0.o q.o ?_
  ·have b:bH W E.a 81 _:=e0.o W (by
    rcases a with a|⟨_,_,_,a⟩|⟨_,_,_,a⟩
    ·exact a
    ·exact a.j _
    ·exact a.j _)
   exact⟨b.a 1,b.a 2,b.a 3,b.a 4,b.a 5,b.a 6,b.a 14,b.c⟩
  intros;rename_i d b;have d:=aj b;clear b e0 f0 g0 q n;dsimp only[Exit.then];go_wp2;go_ret;exact⟨by rw[p.o];rfl,by rw[p.o];exact d.o⟩
 ·have p:Y (F=({j with a:=e,d:=j.d|| !f},true)):=aj (by rw[G.o,aL y]);have b:=aM.2 y;have w:e=0∨e=1∨e=2:=by have:=P.o;unfold sO at this;dsimp only at this;omega
  obtain⟨g,h⟩:=exq j.d;rw[h]at p;have b:Y (JJ E mv X m {j with a:=e} (x.setCell ⟨E.a,10,O⟩ (J U e))∧JJ E mv X m j x):=aj (by obtain⟨c,Q,S,I,z,a,V,i⟩:=H.o;refine⟨⟨c,Q,S,I,z,a.c,a.e,a.f,V,i,w,?_,a.b,a.d,a.k,a.g⟩,c,Q,S,I,z,a⟩;have:=a.a;rw[←bD,←bD]at this⊢;exact this.o 10 [J U e])
  have c:=b.o.2.a.2.2.2.2.2.1;have K:=b.o.2.a.2.2.2.2.2.2.2.2;clear G P H w y;go_upto_region 7 with fail;generalize x.setCell ⟨E.a,10,O⟩ (J U e)=B at b⊢;clear c K;have c:=aj b.o.1;have i:=aj (c.o.k (g|| !f));have k:B.cell? ⟨E.a,11,O⟩=R (aO g):=by rw[←h];exact c.o.a.2.2.2.2.2.2.1
  have K:=c.o.a.2.2.2.2.2.2.2.2;clear b h c;have d:Y (∀W,JJ E mv X m {{j with a:=e}with d:=g|| !f} W→ av true=av (aO F.2)∧JJ E mv X (m+1) F.1 W):=aj fun W a=>⟨by rw[p.o],by rw[p.o];exact a.c Y0⟩;clear p;cases g<;>cases f;all_goals
   dsimp only[Bool.or_true,Bool.or_false,Bool.true_or,Bool.false_or,Bool.not_true,Bool.not_false]at i d;go_wp2;go_ret;exact d.o _ i.o
end
def oG {w a b:aB} {v:aI} (d:aJ w w a) (f:v.ownBlock=O) (g:a.grownBy b v.ownBlock):aJ w w b:=dZ d (aD _) (fun a e=>by rw[f]at e;cases e) g
def St.I {w W:aB} {c:Co} {P:Pt} {X:Option fq} {F:Nat→List Nat} {b a:List Ow} (d:St c P X F w (b++a) W):St c P X F w a W:=d.j _
def Oh (a:Array aI) (n:Nat) (b:aI) (d:n<a.size):(gV a n [b]).toList.take (n+1)=a.toList.take n++[b]:=by
 have e:(gV a n [b]).toList=a.toList.set n b:=by simp[gV]
 rw[e,List.take_set,List.take_add_one,aQ (Y6 d)];rw[Option.toList_some,List.set_append_right _ _ (by rw[dw];omega)];simp[dw,Nat.min_eq_left (Nat.le_of_lt d)]
section
variable {Pr:Program} {w W W':aB} {c:Co} {P:Pt} {X:Option fq} {F:Nat→List Nat} {L LB:List Ow} {v:aI} {n:Nat} {xs:List aI} {e:bB}
def Aj {p:Array Oper} {q:List Oper} {b:Oper} {d:Act} {r:Exit→Act→aB→Prop} (f:St c P X F w (LB++L) W) (j:eZ e 1 v n xs LB)
  (z:b.guard=O) (k l:Operand) (g:bB) (A:b.op=.call {callee:=.builtin .append,args:=#[k,l],argTypes:=#[g,g]})
  {s:aI} {t:Nat} (B:(Pr.info? e).map (fun a=>(a.zero,a.size,a.bytes))=R (R s,1,t)) (C:s.cells.size=1) (D:Pr.underlying g=R (.slice e))
  (a:aI) (E:d.eval k=v) (h:Nat) (G:d.eval l=Z (R ⟨h,0,O⟩) 1 1) (H:W.heap.size=h) (i:a.oneCell'=true)
  (I:n+1≤maxLen) (K:(n+1)*t≤140737488355328)
  (M:∀u m x W',eZ e 1 (Z u (n+1) m) (n+1) (xs++[a]) x→St c P X F w (x++L) W'→wpList Pr p r q (d.put b.dst (Z u (n+1) m)) W'):
  wpList Pr p r (b::q) d (W.alloc (.cells #[a] e)):=by
 have Q:=f;have y:=j.1;have N:∀o W',W'.ownsRow W e 1 o (n+1) (xs++[a])→aJ W W W'→wpList Pr p r q (d.put b.dst o) W':=fun o W' i b=>by obtain⟨u,m,rfl⟩:=dB i;obtain⟨x,d,p⟩:=Q.I.x b i;exact M _ _ _ _ d p
 have b:aJ W W (W.alloc (.cells #[a] e)):=(ay _ _).alloc (aD _) _;rcases j.2 with⟨rfl,rfl,rfl⟩|⟨d,p,q,rfl,rfl,r,S,Q,u⟩
 ·obtain rfl:xs=[]:=dL (Y6 y);refine jP z k l g A W.heap.size e B C D O 0 0 [] a E (aT ..) h G H i I K (aD _) ?_;intro V m T r x;exact N _ _ r (oG b rfl x)
 ·obtain⟨V,a0,b0,c0,d0⟩:=info_parts B;subst H;rw[Nat.mul_one]at Q u y;have B:=St.u (L1:=[]) f;have m:=B.b b;refine wpList_append_arg _ z k l g A e V s 1 t D a0 b0 c0 d0 C Y2 d 0 n p xs E Y0 (fun k a g=>?_) ⟨W,0,O⟩ 1 1 [a] G rfl (uq _ _ _) (uw i) (fun j k g=>?_) I K (fun j=>?_) (fun _ o T r x=>?_)
  ·rw[cK,m.a k,←g,←u,List.getElem?_take_of_lt (by have:=(aU.1 g).1;omega),Array.getElem?_toList]
  ·have i:k=0:=Y6 g;subst i;refine⟨?_,m.c _⟩;rw[m.a,dA Y0];rfl
  ·refine M _ _ [(d,e,gV q n [a])] _ ⟨by simp[y],.inr ⟨d,p,_,rfl,rfl,Y0,S,?_,?_⟩⟩ ?_
   ·simp[gV,Q]
   ·rw[Nat.mul_one,Oh _ _ _ Y0,u]
   ·have:=(f.a b).o (L1:=[]) (0+n*1) [a];rw[Nat.mul_one,cK]at this⊢;exact this
  ·refine N _ _ ⟨r.1,?_⟩ (oG (v:=aO true) b rfl x);rcases r.2 with f|⟨h,p,q,a,g,d⟩
   ·exact .inl f
   ·exact .inr ⟨h,p,q,a,by have:=b.size;omega,d⟩
def Ak {b:JE} {d:aI} {f:List Ow} {s:Nat} {g:Jd} {t:Array Oper} {u:List Oper} {h:Oper} {i:Act} {x:Exit→Act→aB→Prop} (a:JJ b d (LB++f) s g W) (y:eZ e 1 v n xs LB)
  (z:h.guard=O) (m o:Operand) (j:bB) (A:h.op=.call {callee:=.builtin .append,args:=#[m,o],argTypes:=#[j,j]})
  {l:aI} {q:Nat} (B:(Pr.info? e).map (fun k=>(k.zero,k.size,k.bytes))=R (R l,1,q)) (C:l.cells.size=1) (D:Pr.underlying j=R (.slice e))
  (k:aI) (E:i.eval m=v) (p:Nat) (G:i.eval o=Z (R ⟨p,0,O⟩) 1 1) (H:W.heap.size=p) (I:k.oneCell'=true)
  (K:n+1≤maxLen) (M:(n+1)*q≤140737488355328)
  (N:∀q r l W',eZ e 1 (Z q (n+1) r) (n+1) (xs++[k]) l→JJ b d (l++f) s g W'→wpList Pr t x u (i.put h.dst (Z q (n+1) r)) W'):
  wpList Pr t x (h::u) i (W.alloc (.cells #[k] e)):=by
 obtain⟨x,i,s,h,t,a⟩:=a;have u:∀LB:List Ow,(LB++(h++(t++(f++(b.a,81,jA b g d i s)::b.L)))).Perm (h++(t++((LB++f)++(b.a,81,jA b g d i s)::b.L))):=fun LB=>by rw[bD];exact(bY ..).trans (List.Perm.append_left h (bY ..))
 refine Aj (a.a.l (u LB)) y z m o j A B C D k E p G H I K M fun q r l W' b d=>?_;exact N _ _ _ _ b ⟨x,i,s,h,t,a.c,a.e,a.f,a.h,a.i,a.l,d.l (u l).symm,a.b,a.d,a.k,a.g⟩
def zaf {a:Nat} (d:St c P X F w L W) (f:dU c a) (b:a≤900) (a:Int):aF au 66 #[aK (R ⟨qS P a,0,O⟩)] W fun e b=>∃g h i,e=av (Z g (c.p a).q.a.length h)∧eZ 213 6 (Z g (c.p a).q.a.length h) (c.p a).q.a.length (gF (c.p a).q.a) i∧St c P X F w (i++L) b:=by have b:=(f.a a).q;obtain⟨l,d⟩:=d;have m:=aj (ow W (d.a.n a) b.a);have p:Y ((c.p a).q.a.length≤1000):=aj (by have:=b.d;omega);have o:Y (∀j k,xP k (qS P a) (c.p a).q j→gG (l (if a=0 then 5 else 6)) j W k→St c P X F w L k):=aj fun j k l q=>d.d (d.a.p a q l);obtain⟨k,q⟩:=exq ((c.p a).q);rw[q]at m p o b⊢;clear d f b q;go_enter func66,ntmps66;go_wp2_with fail;refine m.o.mono ?_;rintro e q ⟨g,n,r,j,rfl,b,a,_⟩;have d:=b.d;subst d;have d:=aj (vw g k.a.length r k.a q rfl (by have:=p.o;omega) (fun g=>((fH b.e).1 g).1) (mO b.e) (jE b.e).a);have g:=aj (o.o _ _ (.inl ⟨_,_,_,b⟩) a);clear b a m o;go_wp2_with fail;refine d.o.mono ?_;rintro e b ⟨j,h,rfl,f,a⟩;obtain⟨i,l,b⟩:=g.o.x a f;have g:=aj l;have k:=aj b;clear f a d l b;go_wp2;go_ret;exact⟨j,h,i,rfl,g.o,k.o⟩
end
abbrev vlC (a:Vl):Array aI:=a
section
variable {E:JE} {mv:aI} {X:List Ow} {m:Nat} {j:Jd} {W:aB}
def Oi (r:E.h) (a:Vl) (b:m≤9999) (c:JJ E mv X m j W):
  aF au 67 #[qp E.a,aS (vlC a)] W fun b f=>b=av (aO (kR E.c E.x (E.d&&E.e) a j).2)∧JJ E mv X (m+2) (kR E.c E.x (E.d&&E.e) a j).1 f:=by
 obtain⟨d,i⟩:=exq (pK E.c E.x a false j);obtain⟨g,k⟩:=exq (pK E.c E.x a true d.1);obtain⟨l,n⟩:=exq E.d;obtain⟨o,p⟩:=exq E.e;obtain⟨e,q⟩:=exq (kR E.c E.x (E.d&&E.e) a j);have h:Y (e=if l&&o then(g.1,d.2||g.2)else d):=aj (by rw[←q];unfold kR;dsimp only;rw[n,p,i,k]);rw[q];have s:Y (∀X W,JJ E mv X m j W→aF au 98 #[qp E.a,aS (vlC a),false] W fun b f=>b=av (aO d.2)∧JJ E mv X (m+1) d.1 f):=aj fun X W c=>by rw[←i];exact TK r a false Y0 c
 have t:Y (∀X W,JJ E mv X (m+1) d.1 W→aF au 98 #[qp E.a,aS (vlC a),true] W fun b f=>b=av (aO g.2)∧JJ E mv X (m+1+1) g.1 f):=aj fun X W c=>by rw[←k];exact TK r a true Y0 c
 have f:=aj (c.d 213 (vlC a));have r:=aj (And.intro n p);clear c i k n p q;go_enter func67,ntmps67;go_upto_region 1 with fail;generalize W.alloc (.cells (vlC a) 213)=a at f⊢;generalize W.heap.size=a at f⊢;obtain⟨n,p,q,u,v,w⟩:=bH.j f.o.b;go_upto_region 2 with(go_at_call 98;refine(s.o _ _ f.o).mono ?_;rintro b k ⟨rfl,a⟩);have i:=aj a;have x:k.cell? ⟨E.a,8,O⟩=R (aO l):=by rw[←r.o.1];exact a.a.2.2.2.1
 have x:k.cell? ⟨E.a,9,O⟩=R (aO o):=by rw[←r.o.2];exact a.a.2.2.2.2.1
 obtain⟨k,x,y,z,A,B⟩:=bH.j a.b;clear a f s r n p q u v w;obtain⟨n,f⟩:=d;obtain⟨p,q⟩:=g;have k:∀d (g:Jd) a,e=(g,d)→JJ E mv X (m+2) g a→(av (aO d)=av (aO e.2)∧JJ E mv X (m+2) e.1 a):=fun d g a b c=>by rw[b];exact⟨rfl,c⟩
 cases l<;>cases o;case true.true=>
  have c:Y (e=(p,f||q)):=aj (by rw[h.o];rfl);clear h;cases f;all_goals
   go_wp2_with (go_at_call 98;refine(t.o _ _ i.o).mono ?_;rintro b a ⟨rfl,d⟩);go_ret;exact k _ _ _ c.o d.e
 all_goals
  have c:Y (e=(n,f)):=aj (by rw[h.o];rfl);have g:=aj (k _ _ _ c.o (i.o.e.c Y0));clear h t i c;go_wp2;go_ret;exact g.o
def JJ.i {b:aI} {c:Nat} {d:List aI} {e:bB} {f:Nat} {L1 g L3:List Ow} (a:JJ E mv (L1++(g++L3)) m j W) (h:eZ e f b c d g):W.ownsRow E.w.heap.size e f b c d:=by obtain⟨b,c,d,e,f,a⟩:=a;have:=a.a;rw[bD,bD,←bD,←bD]at this;exact this.p h
def zah:(Tryz.prog.info? 4).map (fun a=>(a.zero,a.size,a.bytes))=R (R (aO false),1,1):=by kernel_rfl
def Xw (hE:E.h) (c:List Vl) (q:List Ow) (x:Option aX) (y:Nat) (hn:c.length≤1000) (S:eZ 213 6 (Z x c.length y) c.length (gF c) q) (t:JJ E mv q 0 j W):
  aF au 64 #[Z x c.length y,.func (.func 67) #[aK (R ⟨E.a,0,O⟩)] #[]] W fun k z=>∃g h e,k=av (Z g c.length h)∧eZ 4 1 (Z g c.length h) c.length ((jZ E.c E.x (E.d&&E.e) c j).2.map (aO)) e∧JJ E mv (e++q) 3000 (jZ E.c E.x (E.d&&E.e) c j).1 z:=by
 have T:=aj S;have V:=aj t;obtain⟨l,A⟩:=exq c.length;have u:=aj A;rw[A]at T hn⊢;clear t S A;go_enter func64,ntmps64;obtain⟨r,B⟩:=exq (jZ E.c E.x (E.d&&E.e) c j);rw[B];have HR:=aj B;have HP:Y (∀a m d X W,m≤9999→JJ E mv X m d W→aF au 67 #[aK (R ⟨E.a,0,O⟩),aS #[J U a.d,J U a.e,J U a.c,J U a.a,J U a.b,J U a.f]] W fun k z=>k=av (aO (kR E.c E.x (E.d&&E.e) a d).2)∧JJ E mv X (m+2) (kR E.c E.x (E.d&&E.e) a d).1 z):=aj fun a m d X W hm t=>Oi hE a hm t;clear B;go_upto_region 3 with fail;go_loopw [5,10] (fun bs C wr=>∃(b:Nat) (d:Jd) (n:List Bool) (g:Option aX) (h:Nat) (e:List Ow),b≤l∧C=J U b∧bs=Z g b h∧Y (r=((jZ E.c E.x (E.d&&E.e) (c.drop b) d).1,n++(jZ E.c E.x (E.d&&E.e) (c.drop b) d).2))∧Y (eZ 4 1 (Z g b h) b (n.map aO) e)∧Y (JJ E mv (e++q) (2*b) d wr)) (fun _ C _=>l- (intOf C).toNat);case atStart=>exact⟨0,j,[],O,0,[],aZ _,rfl,rfl,aj (by rw[←HR.o];simp),aj (eZ.d ..),aj V.o⟩
 case round=>
  obtain⟨b,d,n,g,h,e,hk,rfl,rfl,D,F,v⟩:=hrel;clear V;by_cases G:b<l
  ·obtain⟨a,w⟩:∃a,c[b]?=R a:=⟨_,aQ (by rw[u.o];exact G)⟩;have f:wr.ownsRow E.w.heap.size 213 6 (Z x l y) l (gF c):=JJ.i (L1:=e) (L3:=[]) (by rw[List.append_nil];exact v.o) T.o;have HO:=aj f;obtain⟨o,c',k⟩:=eu f Y0;injection k with e1 e2 e3;subst e1 e3;have i:=zu w;have H:wr.cell? ⟨o,b*6,O⟩=R (J U a.d):=dG f (i 0 Y2);have I:wr.cell? ⟨o,b*6+1,O⟩=R (J U a.e):=dG f (i 1 Y2);have K:wr.cell? ⟨o,b*6+2,O⟩=R (J U a.c):=dG f (i 2 Y2);have L:wr.cell? ⟨o,b*6+3,O⟩=R (J U a.a):=dG f (i 3 Y2);have M:wr.cell? ⟨o,b*6+4,O⟩=R (J U a.b):=dG f (i 4 Y2);have N:wr.cell? ⟨o,b*6+5,O⟩=R (J U a.f):=dG f (i 5 Y2);have HD:Y (c.drop b=a::c.drop (b+1)):=aj (by rw[List.drop_eq_getElem_cons (by rw[u.o];exact G)];congr 1;rw[aQ (by rw[u.o];exact G)]at w;exact Option.some.inj w);have s:=aj (v.o.d 213 #[J U a.d,J U a.e,J U a.c,J U a.a,J U a.b,J U a.f]);clear f i w e2;go_upto_region 5 with fail;generalize wr.alloc (.cells #[J U a.d,J U a.e,J U a.c,J U a.a,J U a.b,J U a.f] 213)=W1 at s⊢;generalize wr.heap.size=b7 at s⊢;clear H I K L M N HO v;have a0:bH W1 b7 213 #[J U a.d,J U a.e,J U a.c,J U a.a,J U a.b,J U a.f]:=s.o.b;obtain⟨H,I,K,L,M,N⟩:=bH.j a0;clear a0;obtain⟨p,P⟩:=exq (kR E.c E.x (E.d&&E.e) a d);have Q:Y (r=((jZ E.c E.x (E.d&&E.e) (c.drop (b+1)) p.1).1,(n++[p.2])++(jZ E.c E.x (E.d&&E.e) (c.drop (b+1)) p.1).2)):=aj (by rw[D.o,HD.o,←P];simp[jZ]);have HC:=aj (HP.o a (2*b) d _ W1 Y0 s.o);rw[P]at HC;clear P D HD s HP;go_wp2_with (first
    |(go_at_call 67;refine HC.o.mono ?_;rintro k W2 ⟨rfl,h2⟩;have c0:=aj h2.e;clear h2 H I K L M N)
    |(at_builtin;go_loud (refine Ak c0.o F.o rfl (.tmp 14) (.tmp 18) 25 rfl zah rfl underlying25 (aO p.2) rfl W2.heap.size rfl rfl rfl (by unfold maxLen;omega) Y0 ?_)))
   intro A5 C5 d0 W5 b0 h5;have e0:=aj b0;have f0:=aj h5;clear b0 h5 F;go_wp2;go_roundw;case rel=>exact⟨b+1,p.1,n++[p.2],A5,C5,d0,Y0,by go_num,rfl,Q,aj (by have:=e0.o;simpa using this),aj (f0.o.c Y0)⟩
   case measure=>simp[intOf];omega
  ·obtain rfl:b=l:=Y0;have Q:Y (r=(d,n)):=aj (by rw[D.o,List.drop_eq_nil_of_le (by rw[u.o];exact aD _)];simp[jZ]);have HF:Y (eZ 4 1 (Z g b h) b (r.2.map aO) e∧JJ E mv (e++q) 3000 r.1 wr):=aj (by rw[Q.o];exact⟨F.o,v.o.c Y0⟩);go_wp2;go_ret;exact⟨g,h,e,rfl,HF.o.1,HF.o.2⟩
def JJ.n (a:JJ E mv X m j W) (b:aI):JJ E b X m j (W.setCell ⟨E.a,12,O⟩ b):=by obtain⟨c,d,e,f,g,a⟩:=a;refine⟨c,d,e,f,g,a.c,a.e,a.f,a.h,a.i,a.l,?_,a.b,a.d,a.k,a.g⟩;have:=a.a;rw[←bD,←bD]at this⊢;exact this.o 12 [b]
def Lp (a c b d E:List Ow):(a++(c++(b++d++E))).Perm (b++(a++(c++(d++E)))):=by rw[bD b];exact(List.Perm.append_left a (bY ..)).trans (bY ..)
def JJ.o {d:List Ow} (a:JJ E mv (X++d) m j W):JJ E mv X m j W:=by obtain⟨g,e,f,b,c,a⟩:=a;refine⟨g,e,f,b,c,a.c,a.e,a.f,a.h,a.i,a.l,?_,a.b,a.d,a.k,a.g⟩;refine(a.a.l (L':=d++(b++(c++(X++(E.a,81,jA E j mv e f)::E.L)))) ?_).I;refine(Lp b c d X _).symm.trans (List.Perm.append_left b (List.Perm.append_left c (List.Perm.append_right _ List.perm_append_comm)))
def JJ.p (f:E.h) (b:Int) (a:JJ E mv X m j W):aF au 66 #[aK (R ⟨qS E.P b,0,O⟩)] W fun g h=>∃d e c,g=av (Z d (E.c.p b).q.a.length e)∧eZ 213 6 (Z d (E.c.p b).q.a.length e) (E.c.p b).q.a.length (gF (E.c.p b).q.a) c∧JJ E mv (c++X) m j h:=by obtain⟨l,n,o,i,k,a⟩:=a;refine(zaf a.a f.a f.k b).mono ?_;rintro g h ⟨d,e,c,rfl,b,f⟩;exact⟨d,e,c,rfl,b,l,n,o,i,k,a.c,a.e,a.f,a.h,a.i,a.l,f.l (Lp i k c X _),a.b,a.d,a.k,a.g⟩
def JJ.f (a:JJ E mv X m j W):bH W E.P.g 128 (sN E.c E.P):=by obtain⟨b,c,d,e,f,a⟩:=a;exact a.a.d
def JJ.g (a:JJ E mv X m j W):JJ E mv X m j W.drew:=a.h (ay _ _).drew
def Gu (q:E.h) (r:E.x.r.a=0∨E.x.r.a=1) (c:JJ E mv [] 0 j W):aF au 30 #[qp E.a] W fun g k=>g=av (aN #[])∧∃d e f,eZ 4 1 (Z d (E.c.p (1-E.x.r.a)).q.a.length e) (E.c.p (1-E.x.r.a)).q.a.length ((jZ E.c E.x (E.d&&E.e) (E.c.p (1-E.x.r.a)).q.a j).2.map aO) f∧JJ E (Z d (E.c.p (1-E.x.r.a)).q.a.length e) f 3000 (jZ E.c E.x (E.d&&E.e) (E.c.p (1-E.x.r.a)).q.a j).1 k:=by
 have x:ko (1-E.x.r.a)=true:=by rcases r with g|g<;>rw[g]<;>rfl
 have s:Y (∀W,JJ E mv [] 0 j W→aF au 65 #[qp E.P.g,J U (1-E.x.r.a)] W fun g k=>g=av (aK (R ⟨qS E.P (1-E.x.r.a),0,O⟩))∧JJ E mv [] 0 j k):=aj fun W c=>(BO _ x c.f).mono fun g k ⟨n,o⟩=>⟨n,by rw[o];exact c⟩;obtain⟨a,w⟩:=exq (1-E.x.r.a);have y:(E.c.p a).q.a.length≤1000:=by have:=(q.a.a a).q.d;have:=q.k;omega
 have p:Y (∀W,JJ E mv [] 0 j W→aF au 66 #[aK (R ⟨qS E.P a,0,O⟩)] W fun g k=>∃l,g=av (pY l)∧∃h i b,l=Z h (E.c.p a).q.a.length i∧eZ 213 6 (Z h (E.c.p a).q.a.length i) (E.c.p a).q.a.length (gF (E.c.p a).q.a) b∧JJ E mv b 0 j k):=aj fun W c=>(c.p q a).mono fun g k ⟨h,i,b,n,o,t⟩=>⟨_,n,h,i,b,rfl,o,by rw[List.append_nil]at t;exact t⟩;have u:Y (∀v W,(∃h i b,v=Z h (E.c.p a).q.a.length i∧eZ 213 6 (Z h (E.c.p a).q.a.length i) (E.c.p a).q.a.length (gF (E.c.p a).q.a) b∧JJ E mv b 0 j W)→aF au 64 #[v,.func (.func 67) #[qp E.a] #[]] W fun g k=>∃l,g=av (pY l)∧∃d e f b,l=Z d (E.c.p a).q.a.length e∧eZ 4 1 (Z d (E.c.p a).q.a.length e) (E.c.p a).q.a.length ((jZ E.c E.x (E.d&&E.e) (E.c.p a).q.a j).2.map aO) f∧JJ E mv (f++b) 3000 (jZ E.c E.x (E.d&&E.e) (E.c.p a).q.a j).1 k):=aj fun v W ⟨h,i,b,n,o,t⟩=>by subst n;exact(Xw q _ b h i y o t).mono fun g k ⟨d,e,f,n,o,q⟩=>⟨_,n,d,e,f,b,rfl,o,q⟩
 rw[w]at s⊢;obtain⟨g,q⟩:=exq ((E.c.p a).q.a.length);obtain⟨k,t⟩:=exq (jZ E.c E.x (E.d&&E.e) (E.c.p a).q.a j);obtain⟨A,z⟩:=exq (gF (E.c.p a).q.a);rw[q,t]at u⊢;rw[q]at p;rw[z]at p u;have a:=aj c.g;have B:=aj w;have r:=aj r;clear c y x q t z w;go_enter func30,ntmps30;go_upto_region 0 with fail;rw[←B.o]at s p;refine Xu (mv:=mv) (A0:=fun W=>JJ E mv [] 0 j W) (A1:=fun l W=>∃h i b,l=Z h g i∧eZ 213 6 (Z h g i) g A b∧JJ E mv b 0 j W) (A2:=fun l W=>∃d e f b,l=Z d g e∧eZ 4 1 (Z d g e) g (k.2.map aO) f∧JJ E mv (f++b) 3000 k.1 W) (B:=fun W=>∃d e f,eZ 4 1 (Z d g e) g (k.2.map aO) f∧JJ E (Z d g e) f 3000 k.1 W) a.o r.o (fun W c=>?_) s.o p.o u.o ?_ ?_
 ·rcases c with c|⟨_,_,_,_,_,_,c⟩|⟨_,_,_,_,_,_,_,c⟩<;>exact⟨c.a.1,c.a.2.1,c.a.2.2.2.2.2.2.2.1,c.a.2.2.2.2.2.2.2.2⟩
 ·rintro v W ⟨d,e,f,b,rfl,n,o⟩;exact⟨d,g,e,rfl,d,e,f,n,o.o.n _⟩
 intros;rename_i b a;have b:=aj a;clear a s p u;go_wp2_with fail;refine bodyPost_end (results_none rfl _ _ _) rfl ?_;exact⟨rfl,b.o⟩
end
structure Nw (w0:aB) (c:Co) (P:Pt) (D:List Nat) (cs:Array aI) (W:aB):Prop where
 f:∃F:Nat→List Nat,Yo W F∧(∀i,i∈D→Rr c P O i W (F i))∧(∀i,i∉D→i≠0→F i=[])∧F 0=[P.g]∧(∀i,∀b∈F i,w0.heap.size≤b)
 d:bH W P.g 128 cs
 a:aJ w0 w0 W
 e:0∉D
section
variable {w0 W W':aB} {c:Co} {P P':Pt} {D:List Nat} {cs:Array aI} {i:Nat} {L:List Nat}
def Nw.m (a:Nw w0 c P D cs W) (b:aJ W W W'):Nw w0 c P D cs W':=by obtain⟨d,e,f,h,j,g⟩:=a.f;exact⟨⟨d,e.d b.size,fun i d=>gL c P O i W W' _ [] (f i d) (bg.d b) (fun _ _=>Y1),h,j,g⟩,a.d.b b,a.a.trans (b.mono a.a.size),a.e⟩
def Nw.h (i:Nat) (b:Nw w0 c P D cs W) (e:i≠0) (a:i∉D) (f:aJ W W W') (o:Rr c P' O i W' L) (l:∀d∈L,W.heap.size≤d∧d<W'.heap.size) (n:P'.g=P.g)
  (p:∀a,a≠i→a≠0→Rr c P' O a=Rr c P O a:=by rintro(_|_|_|_|_|_|_|_|_|_|_|_|_|_|_|a) h m<;>first|rfl|exact absurd rfl h|exact absurd rfl m):Nw w0 c P' (i::D) cs W':=by
 obtain⟨k,q,r,j,s,g⟩:=b.f;refine⟨⟨GL k i L,?_,fun a h=>?_,fun a h m=>?_,by rw[dS (Ne.symm e),s,n],fun a d k=>?_⟩,by rw[n];exact b.d.b f,b.a.trans (f.mono b.a.size),by simp[b.e,Ne.symm e]⟩
 ·refine Yo.e q ⟨bg.d f,fun d f=>.inr (l d f).1⟩ (fun d f=>(l d f).2)
 ·by_cases e:a=i
  ·subst e;rw[fF];exact o
  ·have n:a∈D:=(bA.1 h).resolve_left e;rw[dS e,p a e (fun j=>b.e (by rw[←j];exact n))];exact gL c P O a W W' _ [] (r a n) (bg.d f) (fun _ _=>Y1)
 ·have e:a≠i:=fun j=>h (by rw[j];exact bM ..);rw[dS e];exact j a (fun b=>h (bJ _ b)) m
 ·by_cases e:a=i
  ·subst e;rw[fF]at k;exact aR b.a.size (l d k).1
  ·rw[dS e]at k;exact g a d k
def Nw.j (a:Nw w0 c P D cs W) (b:Nat) (d:aI):Nw w0 c P D (cs.setIfInBounds b d) (W.setCell ⟨P.g,b,O⟩ d):=by obtain⟨j,h,k,l,e,g⟩:=a.f;have f:bg [P.g] W (W.setCell ⟨P.g,b,O⟩ d):=bg.e (F:=[P.g]) W (p:=⟨P.g,b,O⟩) Y1 _;have m:=g 0 P.g (by rw[e];simp);refine⟨⟨j,h.d f.b,fun i j=>gL c P O i W _ _ [P.g] (k i j) f (fun o k n=>?_),l,e,g⟩,a.d.f b d,a.a.trans (f.c a.a.size (by simp;exact m)),a.e⟩;rw[aC.1 n]at k;have:=h.c i 0 P.g k (by rw[e];simp);exact a.e (by rw[←this];exact j)
def Nw.k (j:aJ w0 w0 W) (k:bH W P.g 128 cs) (n:w0.heap.size≤P.g) (l:Ro W P.c c.a.b c.l [P.c]) (o:w0.heap.size≤P.c) (m:P.c≠P.g):Nw w0 c P [13] cs W:=by
 obtain⟨f,hF⟩:∃f:Nat→List Nat,f=fun i=>if i=0 then [P.g]else if i=13 then [P.c]else []:=⟨_,rfl⟩
 have h:∀i b,b∈f i→(i=0∧b=P.g)∨(i=13∧b=P.c):=fun i b d=>by
  rw[hF]at d;dsimp only at d;by_cases e:i=0
  ·rw[aP e]at d;exact .inl ⟨e,aC.1 d⟩
  ·rw[aL e]at d;by_cases a:i=13
   ·rw[aP a]at d;exact .inr ⟨a,aC.1 d⟩
   ·rw[aL a]at d;cases d
 refine⟨⟨f,⟨fun i p b d q=>?_,fun i b d=>?_⟩,fun i d=>?_,fun i e a=>?_,by rw[hF];rfl,fun i b d=>?_⟩,k,j,Y1⟩
 ·rcases h i b d with⟨e,a⟩|⟨e,a⟩<;>rcases h p b q with⟨f,j⟩|⟨f,j⟩
  ·rw[e,f]
  ·exact absurd (j.symm.trans a) m
  ·exact absurd (a.symm.trans j) m
  ·rw[e,f]
 ·rcases h i b d with⟨_,a⟩|⟨_,a⟩
  ·rw[a];exact k.e
  ·rw[a];exact l.a _ Y1
 ·rw[aC.1 d,hF];exact l
 ·rw[hF];dsimp only;rw[aL a,aL (fun f=>e (by rw[f];simp))]
 ·rcases h i b d with⟨_,a⟩|⟨_,a⟩<;>rw[a]
  ·exact n
  ·exact o
def Nw.l {d:Cf} (f:Nw w0 (.g d) P D (sN (.g d) P) W) (a:∀i,i=1∨i=2∨i=3∨i=4∨i=5∨i=6∨i=9∨i=10∨i=11∨i=12∨i=13→i∈D) (j:7∉D∧8∉D∧14∉D∧∀i,15≤i→i∉D) (h:P.a.e=O∧P.a.g=0∧P.b.e=O∧P.b.g=0) (m:lg w0):∃e,lX W (.g d) P O e∧gG [] (Z6 e) w0 W:=by
 obtain⟨e,p,b,k,d,g⟩:=f.f;have n:∀{l:Option aX} {o:Nat},l=O→o=0→OT W l o [] []:=fun o l=>⟨fun _=>⟨rfl,l⟩,aZ _,fun q l=>by rw[o]at l;cases l⟩;refine⟨e,⟨p,fun i=>?_,m.a f.a,fun i l e=>aR m.b (g i l e)⟩,(bg.d f.a),fun l e=>?_⟩
 ·match i with
  |0=>exact⟨by rw[d];simp,f.d⟩
  |1=>exact b 1 (a 1 Y1)
  |2=>exact b 2 (a 2 Y1)
  |3=>exact b 3 (a 3 Y1)
  |4=>exact b 4 (a 4 Y1)
  |5=>exact b 5 (a 5 Y1)
  |6=>exact b 6 (a 6 Y1)
  |7=>rw[k 7 j.1 Y2];exact n h.1 h.2.1
  |8=>rw[k 8 j.2.1 Y2];exact n h.2.2.1 h.2.2.2
  |9=>exact b 9 (a 9 Y1)
  |10=>exact b 10 (a 10 Y1)
  |11=>exact b 11 (a 11 Y1)
  |12=>exact b 12 (a 12 Y1)
  |13=>exact b 13 (a 13 Y1)
  |14=>exact fun b a=>by cases a
  |i+15=>exact k (i+15) (j.2.2.2 _ Y0) Y0
 ·obtain⟨a,_,e⟩:=xD.1 e;exact .inr (g a l e)
def Jt.b {b:aB} {e f:Nat} {h:Int} {j:Pg} {d:List Nat} (a:Jt b e h j d f):∀e∈d,e<b.heap.size:=by obtain⟨b,a⟩:=a;exact a.f
def WH.d {a:aB} {g:Nat} {b:Int} (d:Es a g b):WH a g b .d [g]:=⟨rfl,fun _=>⟨rfl,d⟩,O,O,0,0,0,O,0,0,vS.l d⟩
structure Gq (w0:aB) (c:Co) (g:Nat) (P:Pt) (D:List Nat) (cs:Array aI) (W:aB):Prop where
 n:Nw w0 c P D cs W
 g:P.g=g
 f:cs.size=35
 t:P.a.e=O∧P.a.g=0∧P.b.e=O∧P.b.g=0
 b:P.d=O∧P.e=false
 a:jh P 0
section
variable {cf:Cf} {g:Nat}
def Gq.d (a:Gq w0 c g P D cs W) (b:Nat) (e:b<35) (f:aJ W W W'):∃d,W'.cell? ⟨g,b,O⟩=R d∧∀i,W'.frozen? ⟨g,i,O⟩=false:=by have d:=a.n.d.b f;rw[a.g]at d;exact⟨_,(d.a b).trans (dA (by rw[a.f];exact e)),d.c⟩
def Gq.e (i:Nat) (d:Gq w0 c g P D cs W) (e:Nat) (f:aI) (k:aJ W W W') (l:Rr c P' O i W' L) (m:∀a∈L,W.heap.size≤a∧a<W'.heap.size) (h:i≠0∧i∉D) (a:P'.g=P.g∧(P'.a.e=O∧P'.a.g=0∧P'.b.e=O∧P'.b.g=0)∧(P'.d=O∧P'.e=false)∧jh P' 0)
  (n:∀b,b≠i→b≠0→Rr c P' O b=Rr c P O b:=by rintro(_|_|_|_|_|_|_|_|_|_|_|_|_|_|_|b) o p<;>first|rfl|exact absurd rfl o|exact absurd rfl p):Gq w0 c g P' (i::D) (cs.setIfInBounds e f) (W'.setCell ⟨g,e,O⟩ f):=by have j:=(d.n.h i h.1 h.2 k l m a.1 n).j e f;rw[a.1,d.g]at j;exact⟨j,a.1.trans d.g,by rw[Array.size_setIfInBounds];exact d.f,a.2.1,a.2.2.1,a.2.2.2⟩
def TH (c:Cf) (a:Nat):Array aI:=#[c.a,c.b,c.c,c.e,J U c.d,c.f,false,false,aK O,aK O,J U 0,false,aK O,Z O 0 0,aK O,aK O,false,J U 0,false,false,aK O,aK O,J U 0,false,aK O,Z O 0 0,aK O,aK O,false,J U 0,aH aW 0 0,qp a,aK O,true,false]
def csR (cs:Array aI) (a:Nat) (b:Pq):Array aI:=((((cs.setIfInBounds (a+2) (aK (R ⟨b.f,0,O⟩))).setIfInBounds (a+3) (aK (R ⟨b.h,0,O⟩))).setIfInBounds (a+6) (aK (R ⟨b.d,0,O⟩))).setIfInBounds (a+8) (aK (R ⟨b.a,0,O⟩))).setIfInBounds (a+9) (aK (R ⟨b.c,0,O⟩))
def csN (c:Cf) (P:Pt):Nat→Array aI
 |0=>TH c P.c
 |1=>csR (TH c P.c) 6 P.a
 |_=>csR (csR (TH c P.c) 6 P.a) 18 P.b
def ndN:Nat→List Nat
 |0=>[13]
 |1=>[11,9,5,3,1,13]
 |_=>[12,10,6,4,2,11,9,5,3,1,13]
end
end
def Xx {A B:aB→Prop} {n:Exit→Act→aB→Prop} {wc:aB} {o e h p q:Nat} {d:Int} {r:Option aX} {s:Bool} 
  (f:A wc.drew) (t:d=0∨d=1)
  (i:∀a:Wd A,aF au 65 #[qp o,J U (1-d)] a.W fun b g=>b=av (aK (R ⟨h,0,O⟩))∧A g)
  (l:∀a:Wd A,aF au 68 #[qp h,Z r p q] a.W fun b g=>b=av s∧B g)
  (b:∀a:Wd A,a.W.cell? ⟨e,0,O⟩=R (aK (R ⟨o,0,O⟩)))
  (b:∀a:Wd A,a.W.cell? ⟨e,1,O⟩=R (J U d))
  (b:∀a:Wd A,a.W.cell? ⟨e,12,O⟩=R (Z r p q))
  (b:∀o p q r u v x y z C D G H I K M W,B W→n .normal ⟨#[qp e,u1,o,p,q,r,u,v,x,y,z,C,D,G,H,I,K,M,Q8,Q9,T0,T1,T2,T3,T4,T5,T6,T7,T8,T9,N0,N1,N2,N3,N4,N5,N6,N7,N8,N9,X0,X1,X2,X3,X4],[]⟩ W):
  Code.wp au (fu 0 (f31.body.getD .skip)) n ⟨#[qp e,u1,u2,u3,u4,u5,u6,u7,u8,u9,Q0,Q1,Q2,Q3,Q4,Q5,Q6,Q7,Q8,Q9,T0,T1,T2,T3,T4,T5,T6,T7,T8,T9,N0,N1,N2,N3,N4,N5,N6,N7,N8,N9,X0,X1,X2,X3,X4],[]⟩ wc:=by
 haveI:Nonempty (Wd A):=⟨⟨_,f⟩⟩;haveI:Nonempty (Wd fun w=>A w∨B w):=⟨⟨_,.inl f⟩⟩;replace i:=aj i;replace l:=aj l;have e:=aj b;have n:U.wrap (1-d)=1-d:=by rcases t with rfl|rfl<;>rfl
 clear b;conv=>arg 2;whnf
 refine jQ A B [10,15] 15 f ?_;clear f;repeat((first|refine WL.c (fun d b=>?_)|refine WL.d (fun d b=>?_));go_simp;refine b _ ?_;clear b d)
 refine WL.i (aK (R ⟨h,0,O⟩)) (fun a=>?_) ?_
 ·go_simp;exact i.o a
 repeat((first|refine WL.c (fun d b=>?_)|refine WL.d (fun d b=>?_));go_simp;refine b _ ?_;clear b d)
 refine WL.f (aO s) (fun a=>?_) ?_
 ·go_simp;exact l.o a
 exact WL.b fun g a=>by apply e.o;exact a
def Xy {A B:aB→Prop} {n:Exit→Act→aB→Prop} {wc:aB} {o e h:Nat} {d p:Int} {q:Bool} 
  (f:A wc.drew) (r:d=0∨d=1)
  (i:∀a:Wd A,aF au 28 #[qp o,J U (1-d)] a.W fun b g=>b=av (aK (R ⟨h,0,O⟩))∧A g)
  (l:∀a:Wd A,aF au 69 #[qp h,p] a.W fun b g=>b=av q∧B g)
  (b:∀a:Wd A,a.W.cell? ⟨e,0,O⟩=R (aK (R ⟨o,0,O⟩)))
  (b:∀a:Wd A,a.W.cell? ⟨e,1,O⟩=R (J U d))
  (b:∀a:Wd A,a.W.cell? ⟨e,7,O⟩=R (J U p))
  (b:∀o p s t u v x y z C D G H I K M W,B W→n .normal ⟨#[qp e,u1,u2,u3,u4,u5,u6,u7,u8,u9,Q0,Q1,Q2,Q3,Q4,Q5,Q6,Q7,Q8,Q9,T0,T1,T2,T3,T4,T5,T6,T7,T8,o,p,s,t,u,v,x,y,z,C,D,G,H,I,K,M],[]⟩ W):
  Code.wp au (fu 2 (f31.body.getD .skip)) n ⟨#[qp e,u1,u2,u3,u4,u5,u6,u7,u8,u9,Q0,Q1,Q2,Q3,Q4,Q5,Q6,Q7,Q8,Q9,T0,T1,T2,T3,T4,T5,T6,T7,T8,T9,N0,N1,N2,N3,N4,N5,N6,N7,N8,N9,X0,X1,X2,X3,X4],[]⟩ wc:=by
 haveI:Nonempty (Wd A):=⟨⟨_,f⟩⟩;haveI:Nonempty (Wd fun w=>A w∨B w):=⟨⟨_,.inl f⟩⟩;replace i:=aj i;replace l:=aj l;have e:=aj b;have n:U.wrap (1-d)=1-d:=by rcases r with rfl|rfl<;>rfl
 clear b;conv=>arg 2;whnf
 refine jQ A B [10,15] 15 f ?_;clear f;repeat((first|refine WL.c (fun d b=>?_)|refine WL.d (fun d b=>?_));go_simp;refine b _ ?_;clear b d)
 refine WL.i (aK (R ⟨h,0,O⟩)) (fun a=>?_) ?_
 ·go_simp;exact i.o a
 repeat((first|refine WL.c (fun d b=>?_)|refine WL.d (fun d b=>?_));go_simp;refine b _ ?_;clear b d)
 refine WL.f (aO q) (fun a=>?_) ?_
 ·go_simp;exact l.o a
 exact WL.b fun g a=>by apply e.o;exact a
section
variable {w W:aB} {c:Co} {P:Pt} {X:Option fq} {F:Nat→List Nat} {L:List Ow} {k:Nat}
def lX.q (d:lX w c P X F) (b:Int):Gr w (P.q b).a c.a.a (c.p b).a (F (if b=0 then 9 else 10)) (P.q b).b:=by
 unfold Pt.q Co.p;by_cases a:b=0
 ·rw[aP a,aP a,aP a];exact d.d 9
 ·rw[aL a,aL a,aL a];exact d.d 10
def zai (a b:Int) (d:St c P X F w L W) (h:dU c k) (e:k≤900) (i:(Lit.int U b).wf=true):aF au 29 #[aK (R ⟨(P.q a).a,0,O⟩),b] W fun e f=>e=av (aO ((c.p a).a.h c.a.a b))∧St c P X F w L f:=by obtain⟨l,d⟩:=d;have g:=h.a a;refine mB (Cq _ _ c.a.a b (c.p a).a _ W (by have:=g.b;omega) (aj g.a) (aj i) (aj (d.a.q a))) fun f a=>?_;exact⟨rfl,(show St c P X F w L W from⟨l,d⟩).a a⟩
def Oj (b:Int) (d:St c P X F w L W) (n:dU c k) (a:k≤900) (g:Option aX) (f h:Nat) (a:List Bool) (o:a.length=f) (p:f≤100000) (q:bU W g (a.map aO)):
  aF au 68 #[aK (R ⟨qS P b,0,O⟩),Z g f h] W fun i l=>i=av (aO (FM (c.p b).q a))∧St (c.b b {c.p b with q:=(c.p b).q.g a}) P X F w L l:=by
 obtain⟨e,d⟩:=d;have e:=(n.a b).q;refine(Jg W (d.a.n b) e.a (by have:=e.d;omega) e.c (by have:=e.b;have:=e.a;unfold Qu.b at*;omega) g f h a o p q).mono ?_;rintro i l ⟨f,rfl,a,e⟩;refine⟨rfl,d.d ?_⟩;unfold qS Pt.q Co.p at a;unfold Co.b Co.p;by_cases f:b=0
 ·rw[aP f]at e a⊢;rw[aP f]at a⊢;exact d.a.k 5 Y2 e a.a a
 ·rw[aL f]at e a⊢;rw[aL f]at a⊢;exact d.a.k 6 Y2 e a.a a
def Xz (a b:Int) (d:St c P X F w L W) (e:(c.p a).a.e∧(c.p a).a.a.length≤k) (o:(P.q a).b≤k) (f:k≤900) (f:(Lit.int U b).wf=true):
  aF au 69 #[aK (R ⟨(P.q a).a,0,O⟩),b] W fun i l=>i=av (aO ((c.p a).a.h c.a.a b))∧∃g,g≤k+1∧St (c.b a {c.p a with a:=(c.p a).a.f c.a.a b}) (P.f a g) X F w L l:=by
 have h:(c.p a).a.a.length≤1000:=by have:=e.2;omega
 have p:=e.1;clear e;cases hc:(c.p a).a.h c.a.a b with
 |false=>
  obtain⟨q,d⟩:=d;refine mB (Vr _ _ c.a.a b (c.p a).a _ W h p f hc (d.a.q a)) fun l g=>?_;refine⟨rfl,(P.q a).b,cZ o,?_⟩;have n:(c.p a).a.f c.a.a b=(c.p a).a:=by unfold nG.f;rw[aL (by rw[hc];decide)]
  have e:c.b a {c.p a with a:=(c.p a).a}=c:=by unfold Co.b Co.p;split<;>rfl
  have r:P.f a (P.q a).b=P:=by unfold Pt.f Pt.q;split<;>rfl
  rw[n,e,r];exact(show St c P X F w L W from⟨q,d⟩).a g
 |true=>
  obtain⟨e,r⟩:∃e,dY (c.p a).a.a b=R e:=by
   cases hq:dY (c.p a).a.a b with
   |none=>unfold nG.h at hc;rw[hq]at hc;cases hc
   |some e=>exact⟨e,rfl⟩
  obtain⟨q,d⟩:=d;refine mB (PN _ _ c.a.a b (c.p a).a _ e W h Y0 p f hc r (d.a.q a)) fun l ⟨f,h⟩=>?_;refine⟨rfl,(P.q a).b+1,Nat.succ_le_succ o,d.d ?_⟩;have n:(c.p a).a.f c.a.a b=⟨(c.p a).a.a,(c.p a).a.d.set e ((c.p a).a.a.length-e),tF ((c.p a).a.c e) (c.p a).a.b⟩:=by unfold nG.f;rw[aP hc,r]
  rw[n];unfold Pt.q Co.p at f;unfold Co.b Co.p Pt.f Pt.q;by_cases b:a=0
  ·simp only[aP b]at h f⊢;exact d.a.k 9 Y2 ⟨h,fun a g=>.inl g⟩ f.a f
  ·simp only[aL b]at h f⊢;exact d.a.k 10 Y2 ⟨h,fun a g=>.inl g⟩ f.a f
end
section
variable {E:JE} {mv:aI} {LB:List Ow} {m:Nat} {j:Jd} {W:aB}
abbrev JE.f (E:JE) (c:Co) (P:Pt):JE:={E with c:=c,P:=P}
def JJ.q (h:E.h) (b:Int) (f:Option aX) (d g:Nat) (e:List Bool) (n:e.length=d) (o:d≤100000) (p:eZ 4 1 (Z f d g) d (e.map aO) LB) (a:JJ E mv LB m j W):
  aF au 68 #[aK (R ⟨qS E.P b,0,O⟩),Z f d g] W fun i l=>i=av (aO (FM (E.c.p b).q e))∧JJ (E.f (E.c.b b {E.c.p b with q:=(E.c.p b).q.g e}) E.P) mv LB m j l:=by have q:=(jE (JJ.i (L1:=[]) (L3:=[]) (by rw[List.append_nil];exact a) p)).a;obtain⟨p,r,s,t,u,a⟩:=a;refine mB (Oj b a.a h.a h.k f d g e n o q) fun l b=>?_;exact⟨rfl,p,r,s,t,u,a.c,a.e,a.f,a.h,a.i,a.l,b,a.b,a.d,a.k,a.g⟩
def Pt.l (P:Pt) (a:Int) (b:Nat):(P.f a b).g=P.g:=by unfold Pt.f;split<;>rfl
def JJ.r {k:Nat} (a d:Int) (l:(E.c.p a).a.e∧(E.c.p a).a.a.length≤k) (n:(E.P.q a).b≤k) (o:k≤900) (p:(Lit.int U d).wf=true) (b:JJ E mv LB m j W):
  aF au 69 #[aK (R ⟨(E.P.q a).a,0,O⟩),d] W fun h i=>h=av (aO ((E.c.p a).a.h E.c.a.a d))∧∃e,e≤k+1∧JJ (E.f (E.c.b a {E.c.p a with a:=(E.c.p a).a.f E.c.a.a d}) (E.P.f a e)) mv LB m j i:=by
 obtain⟨q,f,g,r,s,b⟩:=b;refine mB (Xz a d b.a l n o p) fun i ⟨e,n,l⟩=>?_;have h:jA E j mv f g=jA (E.f (E.c.b a {E.c.p a with a:=(E.c.p a).a.f E.c.a.a d}) (E.P.f a e)) j mv f g:=by unfold jA;rw[Pt.l]
 rw[h]at l;exact⟨rfl,e,n,q,f,g,r,s,b.c,b.e,b.f,b.h,b.i,b.l,l,b.b,b.d,b.k,b.g⟩
def Co.n (c:Co) (a:Int) (b:yg):(c.b a b).p a=b:=by unfold Co.b Co.p;split<;>rfl
def Co.o (c:Co) (a:Int) (d b:yg):(c.b a d).b a b=c.b a b:=by unfold Co.b;split<;>rfl
def Co.q (c:Co) (a:Int) (b:yg):(c.b a b).a=c.a:=by unfold Co.b;split<;>rfl
def oH (c:Co) (a:Int) (b:List Bool) (d:Bool) (e:Int):Co:=c.b a {c.p a with q:=(c.p a).q.g b,a:=if d then(c.p a).a.f c.a.a e else(c.p a).a}
def Dt (E:JE) (mv:aI) (LB:List Ow) (m:Nat) (j:Jd) (d:List Bool) (a:Ending) (e:aB):Prop:=a=av (aN #[])∧∃a,(a=E.P∨∃b,b≤E.k+1∧a=E.P.f (1-E.x.r.a) b)∧JJ (E.f (oH E.c (1-E.x.r.a) d (E.d&& !j.d) E.g) a) mv LB m j e
def Ol (q:E.h) (p:∀a,(E.P.q a).b≤E.k) (n:E.x.r.a=0∨E.x.r.a=1) (y:(Lit.int U E.g).wf=true) (d:Option aX) (a e:Nat) (h:List Bool) (z:h.length=a) (A:a≤100000) (B:eZ 4 1 (Z d a e) a (h.map aO) LB) (f:JJ E (Z d a e) LB m j W):
  aF au 31 #[qp E.a] W (Dt E (Z d a e) LB m j h):=by
 have s:ko (1-E.x.r.a)=true:=by rcases n with g|g<;>rw[g]<;>rfl
 have C:Y (∀W,JJ E (Z d a e) LB m j W→aF au 65 #[qp E.P.g,J U (1-E.x.r.a)] W fun g l=>g=av (aK (R ⟨qS E.P (1-E.x.r.a),0,O⟩))∧JJ E (Z d a e) LB m j l):=aj fun W f=>(BO _ s f.f).mono fun g l ⟨i,r⟩=>⟨i,by rw[r];exact f⟩;obtain⟨b,o⟩:∃b,b=E.c.b (1-E.x.r.a) {E.c.p (1-E.x.r.a)with q:=(E.c.p (1-E.x.r.a)).q.g h}:=⟨_,rfl⟩;have D:Y (∀W,JJ E (Z d a e) LB m j W→aF au 68 #[aK (R ⟨qS E.P (1-E.x.r.a),0,O⟩),Z d a e] W fun g l=>g=av (aO (FM (E.c.p (1-E.x.r.a)).q h))∧JJ (E.f b E.P) (Z d a e) LB m j l):=aj fun W f=>by rw[o];exact f.q q _ d a e h z A B
 have G:(b.p (1-E.x.r.a)).a=(E.c.p (1-E.x.r.a)).a:=by rw[o,Co.n]
 have H:Y (∀W,JJ (E.f b E.P) (Z d a e) LB m j W→aF au 28 #[qp E.P.g,J U (1-E.x.r.a)] W fun g l=>g=av (aK (R ⟨(E.P.q (1-E.x.r.a)).a,0,O⟩))∧JJ (E.f b E.P) (Z d a e) LB m j l):=aj fun W f=>(xE _ s f.f).mono fun g l ⟨i,r⟩=>⟨i,by rw[r];exact f⟩;have t:Y (∀W,JJ (E.f b E.P) (Z d a e) LB m j W→aF au 69 #[aK (R ⟨(E.P.q (1-E.x.r.a)).a,0,O⟩),E.g] W fun g l=>g=av (aO ((b.p (1-E.x.r.a)).a.h b.a.a E.g))∧∃i,i≤E.k+1∧JJ (E.f (b.b (1-E.x.r.a) {b.p (1-E.x.r.a)with a:=(b.p (1-E.x.r.a)).a.f b.a.a E.g}) (E.P.f (1-E.x.r.a) i)) (Z d a e) LB m j l):=aj fun W f=>by have l:=q.a.a (1-E.x.r.a);exact f.r (E:=E.f b E.P) _ E.g (by show(b.p _).a.e∧(b.p _).a.a.length≤E.k;rw[G];exact⟨l.a,l.b⟩) (p _) q.k y
 have l:b.b (1-E.x.r.a) {b.p (1-E.x.r.a)with a:=(b.p (1-E.x.r.a)).a.f b.a.a E.g}=oH E.c (1-E.x.r.a) h true E.g:=by rw[o,Co.o,Co.n,Co.q];rfl
 have M:b=oH E.c (1-E.x.r.a) h false E.g:=by rw[o];rfl
 rw[l]at t;obtain⟨q,u⟩:=exq E.d;obtain⟨r,v⟩:=exq j.d;have I:Y (∀W,JJ (E.f b E.P) (Z d a e) LB m j W→W.cell? ⟨E.a,8,O⟩=R (aO q)∧W.cell? ⟨E.a,11,O⟩=R (aO r)):=aj fun W f=>by rw[←u,←v];exact⟨f.a.2.2.2.1,f.a.2.2.2.2.2.2.1⟩
 have x:Y (∀W l,(l=E.P∨∃i,i≤E.k+1∧l=E.P.f (1-E.x.r.a) i)→JJ (E.f (oH E.c (1-E.x.r.a) h (q&& !r) E.g) l) (Z d a e) LB m j W→Dt E (Z d a e) LB m j h (av (aN #[])) W):=aj fun W l K N=>⟨rfl,l,K,by rw[u,v];exact N⟩;have K:=aj f.g;have n:=aj n;clear f z A B y p G s o u v;go_enter func31,ntmps31;go_upto_region 0 with fail;refine Xx (A:=fun W=>JJ E (Z d a e) LB m j W) (B:=fun W=>JJ (E.f b E.P) (Z d a e) LB m j W) K.o n.o (fun f=>C.o _ f.a) (fun f=>D.o _ f.a) (fun f=>f.a.a.1) (fun f=>f.a.a.2.1) (fun f=>f.a.a.2.2.2.2.2.2.2.1) ?_;intros;rename_i s l;have o:=aj l;obtain⟨u,v⟩:=I.o _ l;clear l C D K I;dsimp only[Exit.then];have l:(q&& !r)=false→Dt E (Z d a e) LB m j h (av (aN #[])) s:=fun g=>x.o _ E.P (.inl rfl) (by rw[g,←M];exact o.o);cases q<;>cases r;case true.false=>go_upto_region 2 with fail;refine Xy (A:=fun W=>JJ (E.f b E.P) (Z d a e) LB m j W) (B:=fun W=>∃i,i≤E.k+1∧JJ (E.f (oH E.c (1-E.x.r.a) h true E.g) (E.P.f (1-E.x.r.a) i)) (Z d a e) LB m j W) o.o.g n.o (fun f=>H.o _ f.a) (fun f=>t.o _ f.a) (fun f=>f.a.a.1) (fun f=>f.a.a.2.1) (fun f=>f.a.a.2.2.1) ?_;intros;rename_i b a;have b:=aj a;clear a;go_wp2_with fail;refine bodyPost_end (results_none rfl _ _ _) rfl ?_;obtain⟨i,p,a⟩:=b.o;exact x.o _ _ (.inr ⟨i,p,rfl⟩) a
 all_goals
  have a:=aj (l rfl);clear l H t o x;go_wp2_with fail;refine bodyPost_end (results_none rfl _ _ _) rfl ?_;exact a.o
end
def zbd (d:Cf) (e:aB) (f:Ending) (b:aB):Prop:=∃a c,f=av (aN #[qp a.g,J U 0])∧lX b (.g d) a O c∧gG [] (Z6 c) e b∧a.d=O∧a.e=false∧jh a 0
def Xq (a:Cf) (b c d e f g h i j k l m n o p q:Nat):csN a ⟨b,⟨d,e,f,g,h,O,0,i,j⟩,⟨k,l,m,n,o,O,0,p,q⟩,c,O,false⟩ 2=sN (.g a) ⟨b,⟨d,e,f,g,h,O,0,i,j⟩,⟨k,l,m,n,o,O,0,p,q⟩,c,O,false⟩:=by unfold sN;rw[show fw (Co.g a).c=0 from gy,show fw (Co.g a).d=0 from gy];kernel_rfl
def TI {c:Cf} {a:Pt} (b:a.d=O∧a.e=false) (d:a.a.e=O∧a.a.g=0∧a.b.e=O∧a.b.g=0):csN c a 2=sN (.g c) a:=by obtain⟨_,⟨_,_,_,_,_,_,_,_,_⟩,⟨_,_,_,_,_,_,_,_,_⟩,_,_,_⟩:=a;dsimp only at b d;obtain⟨rfl,rfl⟩:=b;obtain⟨rfl,rfl,rfl,rfl⟩:=d;exact Xq ..
def TJ (a:Cf) (d:aB) (e:Fx a=true) (h:lg d):aF au 24 #[aS (jW a)] d (zbd a d):=by
 have c:0≤a.a∧1≤a.b∧0≤a.c∧0≤a.d:=by unfold Fx bV at e;simp at e;omega
 have j:Y (∀b,aF au 48 #[aS (jW a)] b fun g f=>g=av true∧aJ b b f):=aj fun b=>Js a b e;have m:Y (∀b,aF au 49 #[a.b] b fun g f=>g=av (aK (R ⟨b,0,O⟩))∧Ro f b.heap.size a.b [] [b.heap.size]∧aJ b b f):=aj fun b=>Vk a.b a.b b (aj (by rw[aL Y0]));have W:Y (∀b,aF au 50 #[a.c] b fun g f=>g=av (aK (R ⟨b,0,O⟩))∧Es f b.heap.size a.c∧aJ b b f):=aj fun b=>PV a.c a.c b (by rw[aL Y0]);have X:Y (∀b,aF au 51 #[J U 4096] b (zaW b)):=aj fun b=>RI b;have a0:Y (∀b,aF au 52 #[] b _):=aj fun b=>QE b;have b0:Y (∀b,aF au 53 #[a.a] b fun g f=>g=av (aK (R ⟨b,0,O⟩))∧Gr f b.heap.size a.a .k [b.heap.size] 0∧aJ b b f):=aj fun b=>Px a.a a.a b (aj (by rw[aL Y0]));have c0:Y (∀b,aF au 54 #[a.d] b _):=aj fun b=>RZ a.d b c.2.2.2;have i:=aj (gU d 23 (jW a));have HG:=aj h;clear h e c;go_enter func24,ntmps24;unfold jW at*;go_upto_region 3 with(go_at_call 48;refine(j.o _).mono ?_;rintro g h ⟨rfl,P⟩);have k:=aj (i.o.1.trans (P.mono i.o.1.size));have l:=aj (i.o.2.b P);have v:=l.o.e;clear P i j;go_cut [4] (fun r e=>∃i:Pt,r=aK (R ⟨i.g,0,O⟩)∧Y (Gq d (.g a) i.g i [13] (TH a i.c) e∧bH e d 23 (jW a)∧i.g≠d.heap.size));case first=>
  have n:Y (∀b,aJ h h b→b.cell? ⟨d,0,O⟩=R (J U a.a)∧b.cell? ⟨d,1,O⟩=R (J U a.b)∧b.cell? ⟨d,2,O⟩=R (J U a.c)∧b.cell? ⟨d,3,O⟩=R (J U a.e)∧b.cell? ⟨d,4,O⟩=R (J U a.d)∧b.cell? ⟨d,5,O⟩=R (J U a.f)):=aj fun b w=>bH.j (l.o.b w);have x:Y (aF au 49 #[a.b] h.drew fun g f=>g=av (aK (R ⟨h,0,O⟩))∧(f.cell? ⟨d,0,O⟩=R (J U a.a)∧f.cell? ⟨d,1,O⟩=R (J U a.b)∧f.cell? ⟨d,2,O⟩=R (J U a.c)∧f.cell? ⟨d,3,O⟩=R (J U a.e)∧f.cell? ⟨d,4,O⟩=R (J U a.d)∧f.cell? ⟨d,5,O⟩=R (J U a.f))∧Y (Ro f h.heap.size a.b [] [h.heap.size]∧aJ h h f)):=aj (by refine mB (m.o h.drew) fun f ⟨e,c⟩=>?_;exact⟨rfl,n.o _ (uo c),aj ⟨e,uo c⟩⟩)
  obtain⟨A,B,C,D,E,F⟩:=n.o _ (ay _ h);clear m W X a0 b0 c0 n;go_region_held3 (fun b=>b.cell? ⟨d,0,O⟩=R (J U a.a)∧b.cell? ⟨d,1,O⟩=R (J U a.b)∧b.cell? ⟨d,2,O⟩=R (J U a.c)∧b.cell? ⟨d,3,O⟩=R (J U a.e)∧b.cell? ⟨d,4,O⟩=R (J U a.d)∧b.cell? ⟨d,5,O⟩=R (J U a.f)) (go_keep) (first|(go_at_call 49;refine x.o.mono ?_;rintro g j ⟨rfl,G,o⟩));all_goals
   go_wp2;go_meet;refine⟨⟨j,⟨0,0,0,0,0,O,0,0,0⟩,⟨0,0,0,0,0,O,0,0,0⟩,h.heap.size,O,false⟩,rfl,aj ?_⟩;have p:=k.o.trans (o.o.2.mono k.o.size);have s:=o.o.1;have y:h.heap.size<j.heap.size:=s.a _ Y1;have q:∀(t:bB) (u:Array aI),aJ j j (j.alloc (.cells u t)):=fun t u=>(ay _ _).alloc (aD _) _;have z:=bH.b (w:=j) (g:=d.heap.size) (t:=23) (cs:=jW a) ?_ (q 128 (TH a h.heap.size));refine⟨⟨Nw.k (p.trans ((q _ _).mono (by have:=p.size;omega))) (bH.d _ _ _) (by have:=p.size;exact this) (s.e (q _ _)) (by have:=k.o.size;exact this) (Nat.ne_of_lt y),rfl,rfl,⟨rfl,rfl,rfl,rfl⟩,Y5,⟨aD 0,aD 0,aD 0,aD 0⟩⟩,z,by show j.heap.size≠d.heap.size;omega⟩;exact l.o.b o.o.2
 case rest=>
  obtain⟨i,rfl,h⟩:=hcut;obtain⟨b,j⟩:=exq i.g;rw[j]at h⊢;have t:=h.o.2.2;clear k l v m;go_wp2;go_loopw [16] (fun Q wr=>∃(f:Nat) (i:Pt),f≤2∧Q=J U f∧Y (Gq d (.g a) b i (ndN f) (csN a i f) wr)∧Y (bH wr d 23 (jW a))) (fun Q _=>2- (intOf Q).toNat);case atStart=>exact⟨0,i,Y2,rfl,aj h.o.1,aj h.o.2.1⟩
  case round=>
   clear h j;obtain⟨f,S,i,rfl,h,z⟩:=hrel;unfold jW at z;obtain rfl|rfl|rfl:f=0∨f=1∨f=2:=Y0
   ·unfold ndN csN at h;have s:=bH.j z.o;go_upto_region 9 with(go_at_call 50;refine(W.o _).mono ?_;rintro g U0 ⟨rfl,e,c⟩;obtain⟨r,i,j⟩:=h.o.d 8 Y2 c);obtain⟨A,B⟩:∃k:Pt,k={S with a:={S.a with f:=wr.heap.size}}:=⟨_,rfl⟩;have l:Y (Gq d (.g a) b A _ _ _):=aj (by rw[B];exact Gq.e 1 h.o 8 (aK (R ⟨wr,0,O⟩)) c (WH.d e) (fun o f=>by rw[aC.1 f];exact⟨aD _,e.e⟩) Y2 ⟨rfl,h.o.t,h.o.b,⟨h.o.a.a,h.o.a.b,h.o.a.c,h.o.a.d⟩⟩);have C:=aj ((z.o.b c).i (p:=⟨b,8,O⟩) (Ne.symm t) (aK (R ⟨wr,0,O⟩)));generalize U0.setCell ⟨b,8,O⟩ (aK (R ⟨wr,0,O⟩))=V1 at l C⊢;clear i j z s;go_upto_region 10 with(go_at_call 51;refine(X.o _).mono ?_;rintro g U1 ⟨m,d0,rfl,e,D,c⟩;obtain⟨r,i,j⟩:=l.o.d 9 Y2 c);obtain⟨E,F⟩:∃k:Pt,k={A with a:={A.a with h:=m}}:=⟨_,rfl⟩;have n:Y (Gq d (.g a) b E _ _ _):=aj (by rw[F];exact Gq.e 3 l.o 9 (aK (R ⟨m,0,O⟩)) c e (fun o f=>⟨D o f,e.a o f⟩) Y2 ⟨rfl,l.o.t,l.o.b,⟨l.o.a.a,l.o.a.b,l.o.a.c,l.o.a.d⟩⟩);have G:=aj ((C.o.b c).i (p:=⟨b,9,O⟩) (Ne.symm t) (aK (R ⟨m,0,O⟩)));generalize U1.setCell ⟨b,9,O⟩ (aK (R ⟨m,0,O⟩))=u at n G⊢;clear i j C;go_upto_region 11 with(go_at_call 52;refine(a0.o _).mono ?_;rintro g U2 ⟨rfl,e,c⟩;obtain⟨r,i,j⟩:=n.o.d 12 Y2 c);obtain⟨H,I⟩:∃k:Pt,k={E with a:={E.a with d:=u.heap.size}}:=⟨_,rfl⟩;have p:Y (Gq d (.g a) b H _ _ _):=aj (by rw[I];exact Gq.e 5 n.o 12 (aK (R ⟨u,0,O⟩)) c e (fun o f=>by rw[aC.1 f];exact⟨aD _,e.a _ Y1⟩) Y2 ⟨rfl,n.o.t,n.o.b,⟨n.o.a.a,n.o.a.b,n.o.a.c,n.o.a.d⟩⟩);have v:=aj ((G.o.b c).i (p:=⟨b,12,O⟩) (Ne.symm t) (aK (R ⟨u,0,O⟩)));generalize U2.setCell ⟨b,12,O⟩ (aK (R ⟨u,0,O⟩))=w at p v⊢;clear i j G;have s:=bH.j v.o;go_upto_region 12 with(go_at_call 53;refine(b0.o _).mono ?_;rintro g U3 ⟨rfl,e,c⟩;obtain⟨r,i,j⟩:=p.o.d 14 Y2 c);obtain⟨K,L⟩:∃k:Pt,k={H with a:={H.a with a:=w.heap.size,b:=0}}:=⟨_,rfl⟩;have q:Y (Gq d (.g a) b K _ _ _):=aj (by rw[L];exact Gq.e 9 p.o 14 (aK (R ⟨w,0,O⟩)) c e (fun o f=>by rw[aC.1 f];exact⟨aD _,e.a _ Y1⟩) Y2 ⟨rfl,p.o.t,p.o.b,⟨aD 0,p.o.a.b,p.o.a.c,p.o.a.d⟩⟩);have x:=aj ((v.o.b c).i (p:=⟨b,14,O⟩) (Ne.symm t) (aK (R ⟨w,0,O⟩)));generalize U3.setCell ⟨b,14,O⟩ (aK (R ⟨w,0,O⟩))=V4 at q x⊢;clear i j v s;have s:=bH.j x.o;go_upto_region 13 with(go_at_call 54;refine(c0.o _).mono ?_;rintro g U4 ⟨m,d0,rfl,e,D,c⟩;obtain⟨r,i,j⟩:=q.o.d 15 Y2 c);obtain⟨y,M⟩:∃k:Pt,k={K with a:={K.a with c:=m,i:=0}}:=⟨_,rfl⟩;have N:Y (Gq d (.g a) b y _ _ _):=aj (by rw[M];exact Gq.e 11 q.o 15 (aK (R ⟨m,0,O⟩)) c e (fun o f=>⟨D o f,e.b o f⟩) Y2 ⟨rfl,q.o.t,q.o.b,⟨q.o.a.a,q.o.a.b,aD 0,q.o.a.d⟩⟩);have T:=aj ((x.o.b c).i (p:=⟨b,15,O⟩) (Ne.symm t) (aK (R ⟨m,0,O⟩)));generalize U4.setCell ⟨b,15,O⟩ (aK (R ⟨m,0,O⟩))=V5 at N T⊢;clear i j x s;have V:Y (Gq d (.g a) b y (ndN 1) (csN a y 1) V5):=aj (by subst B F I L M;exact N.o);clear N B F I L M;go_wp2;go_roundw;case rel=>exact⟨1,y,Y2,rfl,V,T⟩
    case measure=>simp[intOf]
   ·unfold ndN csN at h;have s:=bH.j z.o;go_upto_region 9 with(go_at_call 50;refine(W.o _).mono ?_;rintro g U0 ⟨rfl,e,c⟩;obtain⟨r,i,j⟩:=h.o.d 20 Y2 c);obtain⟨A,B⟩:∃k:Pt,k={S with b:={S.b with f:=wr.heap.size}}:=⟨_,rfl⟩;have l:Y (Gq d (.g a) b A _ _ _):=aj (by rw[B];exact Gq.e 2 h.o 20 (aK (R ⟨wr,0,O⟩)) c (WH.d e) (fun o f=>by rw[aC.1 f];exact⟨aD _,e.e⟩) Y2 ⟨rfl,h.o.t,h.o.b,⟨h.o.a.a,h.o.a.b,h.o.a.c,h.o.a.d⟩⟩);have C:=aj ((z.o.b c).i (p:=⟨b,20,O⟩) (Ne.symm t) (aK (R ⟨wr,0,O⟩)));generalize U0.setCell ⟨b,20,O⟩ (aK (R ⟨wr,0,O⟩))=V1 at l C⊢;clear i j z s;go_upto_region 10 with(go_at_call 51;refine(X.o _).mono ?_;rintro g U1 ⟨m,d0,rfl,e,D,c⟩;obtain⟨r,i,j⟩:=l.o.d 21 Y2 c);obtain⟨E,F⟩:∃k:Pt,k={A with b:={A.b with h:=m}}:=⟨_,rfl⟩;have n:Y (Gq d (.g a) b E _ _ _):=aj (by rw[F];exact Gq.e 4 l.o 21 (aK (R ⟨m,0,O⟩)) c e (fun o f=>⟨D o f,e.a o f⟩) Y2 ⟨rfl,l.o.t,l.o.b,⟨l.o.a.a,l.o.a.b,l.o.a.c,l.o.a.d⟩⟩);have G:=aj ((C.o.b c).i (p:=⟨b,21,O⟩) (Ne.symm t) (aK (R ⟨m,0,O⟩)));generalize U1.setCell ⟨b,21,O⟩ (aK (R ⟨m,0,O⟩))=u at n G⊢;clear i j C;go_upto_region 11 with(go_at_call 52;refine(a0.o _).mono ?_;rintro g U2 ⟨rfl,e,c⟩;obtain⟨r,i,j⟩:=n.o.d 24 Y2 c);obtain⟨H,I⟩:∃k:Pt,k={E with b:={E.b with d:=u.heap.size}}:=⟨_,rfl⟩;have p:Y (Gq d (.g a) b H _ _ _):=aj (by rw[I];exact Gq.e 6 n.o 24 (aK (R ⟨u,0,O⟩)) c e (fun o f=>by rw[aC.1 f];exact⟨aD _,e.a _ Y1⟩) Y2 ⟨rfl,n.o.t,n.o.b,⟨n.o.a.a,n.o.a.b,n.o.a.c,n.o.a.d⟩⟩);have v:=aj ((G.o.b c).i (p:=⟨b,24,O⟩) (Ne.symm t) (aK (R ⟨u,0,O⟩)));generalize U2.setCell ⟨b,24,O⟩ (aK (R ⟨u,0,O⟩))=w at p v⊢;clear i j G;have s:=bH.j v.o;go_upto_region 12 with(go_at_call 53;refine(b0.o _).mono ?_;rintro g U3 ⟨rfl,e,c⟩;obtain⟨r,i,j⟩:=p.o.d 26 Y2 c);obtain⟨K,L⟩:∃k:Pt,k={H with b:={H.b with a:=w.heap.size,b:=0}}:=⟨_,rfl⟩;have q:Y (Gq d (.g a) b K _ _ _):=aj (by rw[L];exact Gq.e 10 p.o 26 (aK (R ⟨w,0,O⟩)) c e (fun o f=>by rw[aC.1 f];exact⟨aD _,e.a _ Y1⟩) Y2 ⟨rfl,p.o.t,p.o.b,⟨p.o.a.a,aD 0,p.o.a.c,p.o.a.d⟩⟩);have x:=aj ((v.o.b c).i (p:=⟨b,26,O⟩) (Ne.symm t) (aK (R ⟨w,0,O⟩)));generalize U3.setCell ⟨b,26,O⟩ (aK (R ⟨w,0,O⟩))=V4 at q x⊢;clear i j v s;have s:=bH.j x.o;go_upto_region 13 with(go_at_call 54;refine(c0.o _).mono ?_;rintro g U4 ⟨m,d0,rfl,e,D,c⟩;obtain⟨r,i,j⟩:=q.o.d 27 Y2 c);obtain⟨y,M⟩:∃k:Pt,k={K with b:={K.b with c:=m,i:=0}}:=⟨_,rfl⟩;have N:Y (Gq d (.g a) b y _ _ _):=aj (by rw[M];exact Gq.e 12 q.o 27 (aK (R ⟨m,0,O⟩)) c e (fun o f=>⟨D o f,e.b o f⟩) Y2 ⟨rfl,q.o.t,q.o.b,⟨q.o.a.a,q.o.a.b,q.o.a.c,aD 0⟩⟩);have T:=aj ((x.o.b c).i (p:=⟨b,27,O⟩) (Ne.symm t) (aK (R ⟨m,0,O⟩)));generalize U4.setCell ⟨b,27,O⟩ (aK (R ⟨m,0,O⟩))=V5 at N T⊢;clear i j x s;have V:Y (Gq d (.g a) b y (ndN 2) (csN a y 2) V5):=aj (by subst B F I L M;exact N.o);clear N B F I L M;go_wp2;go_roundw;case rel=>exact⟨2,y,Y2,rfl,V,T⟩
    case measure=>simp[intOf]
   ·have V:Y (zbd a d (av (aN #[qp b,J U 0])) wr):=aj (by have b:=h.o;have g:=TI (c:=a) b.b b.t;have a:=b.n;rw[g]at a;obtain⟨c,P,d⟩:=a.l (by unfold ndN;intro Q a;simp;omega) (by unfold ndN;refine⟨Y2,Y2,Y2,fun Q a f=>?_⟩;simp at f;omega) b.t HG.o;exact⟨S,c,by rw[b.g],P,d,b.b.1,b.b.2,b.a⟩)
    clear h z HG W X a0 b0 c0;go_wp2;go_ret2;exact V.o
structure Du (c:Co) (x:Lk):Prop where
 a:Gp c x
 d:x.r.c=4→iU x.r.c x.r.e=true→(jw x.f.i x.r.a).2=true
section
variable {c c':Co} {x:Lk} {v:Vl} {kept:Bool} {k:Nat} {j:Jd} {l:List Vl} {lc:Bool}
def TL (a:(dV c x v kept).1=1):Du c x:=by
 have d:x.r.c=4∨x.r.c=6→x.w=(0,0)∧(x.r.c=4→(jV c x).1=1):=fun b=>by
  unfold dV at a;have b:x.r.c≠ -1:=Y0;rw[aL b]at a;split at a
  ·cases a
  ·split at a
   ·cases a
   ·split at a
    ·cases a
    ·split at a
     ·cases a
     ·split at a
      ·cases a
      ·rename_i b;refine⟨Classical.not_not.1 b,fun b=>?_⟩;unfold iW at a;rw[aL Y0,aL Y0,aL Y0,aP b]at a;exact a
 refine⟨⟨fun b=>⟨(d (.inl b)).1,fun e=>?_⟩,fun a=>(d (.inr a)).1⟩,fun b e=>?_⟩
 ·have a:=(d (.inl b)).2 b;unfold jV at a;rw[aP e]at a;unfold jv at a;split at a
  ·rename_i f;exact of_decide_eq_true f
  ·cases a
 ·have a:=(d (.inl b)).2 b;unfold jV at a;rw[aL (by rw[e];decide)]at a;split at a
  ·cases a
  ·rename_i f;simpa using f
def BR (c:Co) (x:Lk) (j:Jd):Prop:=j.a=0∨∃v kept,(dV c x v kept).1=j.a∧(j.a=1∨j.a=2)
def Dv (a:BR c x j) (v:Vl) (kept:Bool):BR c x (pK c x v kept j).1:=by
 unfold pK;dsimp only;split
 ·exact a
 ·rename_i d;have b:sO (dV c x v kept):=wL ..;unfold sO at b;rcases b with a|a|a|a
  ·exact .inl a
  ·exact .inr ⟨v,kept,rfl,.inl a⟩
  ·exact .inr ⟨v,kept,rfl,.inr a⟩
  ·exact absurd a d
def TM (a:BR c x j) (v:Vl):BR c x (kR c x lc v j).1:=by
 unfold kR;dsimp only;split
 ·exact Dv (Dv a v false) v true
 ·exact Dv a v false
def Dw:∀(l:List Vl) {j:Jd},BR c x j→BR c x (jZ c x lc l j).1
 |[],_,a=>a
 |v::l,_,a=>Dw l (TM a v)
def Lr:∀(l:List Vl) (j:Jd),(jZ c x lc l j).2.length=l.length
 |[],_=>rfl
 |v::l,j=>by unfold jZ;simp[Lr l]
def zaj (a:(jZ c x lc l .e).1.a=1):Du c x:=by
 rcases Dw (lc:=lc) (c:=c) (x:=x) l (j:=.e) (.inl rfl)with b|⟨v,kept,d,_⟩
 ·rw[b]at a;cases a
 ·exact TL (d.trans a)
def TN {b d:Int} {a:nG}:(a.f b d).a=a.a:=by
 unfold nG.f;split
 ·split<;>rfl
 ·rfl
def XB (g:dU c k) (b:Int) (h:List Bool) (d:Bool) (e:Int):dU (oH c b h d e) k:=by
 have a:=g.a b;have f:=a.q.j h;have h:(if d then(c.p b).a.f c.a.a e else(c.p b).a).e∧(if d then(c.p b).a.f c.a.a e else(c.p b).a).a=(c.p b).a.a:=by
  split
  ·exact⟨Vp _ a.a,TN⟩
  ·exact⟨a.a,rfl⟩
 exact g.j ⟨a.e,a.f,a.t,f.1,by show((c.p b).c.length:Int)=_;rw[f.2.1,f.2.2];exact a.c,h.1,by show(if d then(c.p b).a.f c.a.a e else(c.p b).a).a.length≤k;rw[h.2];exact a.b,a.d,a.g,a.h⟩
def zak (c:Co) (d:Int) (e:List Bool) (b:Bool) (f:Int) (g:dU c k) (a:Int):((oH c d e b f).p a).q.c=(c.p a).q.c∧((oH c d e b f).p a).q.b=(c.p a).q.b:=by
 have b:=(g.a d).q.j e;unfold oH Co.b Co.p at*;by_cases e:d=0<;>by_cases f:a=0<;>simp only[e,f,if_true,if_false]at b⊢
 ·exact⟨b.2.2,b.2.1⟩
 ·exact⟨trivial,trivial⟩
 ·exact⟨trivial,trivial⟩
 ·exact⟨b.2.2,b.2.1⟩
def Du.b (a:Du c x) (d:∀b,(c'.p b).q.c=(c.p b).q.c∧(c'.p b).q.b=(c.p b).q.b):Du c' x:=
 ⟨⟨fun b=>⟨(a.a.a b).1,fun e=>by rw[(d _).1,(d _).2];exact(a.a.a b).2 e⟩,a.a.b⟩,a.d⟩
def TP (b:dU c k) (e:iZ x) (a:Du c x):dU (kQ c x).1 (k+2):=by
 unfold kQ;split
 ·exact b.s.b Y0
 ·split
  ·exact(b.o (lH b.e _) _).b Y0
  ·split
   ·rename_i d;exact(b.u (a.d d) (a.a.a d).2 e.a).b Y0
   ·split
    ·exact b.v.b Y0
    ·split
     ·have a:=b.a x.r.a;refine(b.j ?_).b Y0;split
      ·exact⟨a.e,a.f,a.t,a.q,a.c,a.a,a.b,a.d,a.g,a.h⟩
      ·exact⟨a.e,a.f,a.t,a.q,a.c,a.a,a.b,a.d,a.g,a.h⟩
     ·split
      ·exact b.w.b Y0
      ·split
       ·unfold lG;split
        ·exact b.b Y0
        ·split
         ·exact b.y.b Y0
         ·exact b.z
       ·exact b.b Y0
def YA {d:yg} {b:Int} (e:d.q=(c.p b).q) (a:Int):((c.b b d).p a).q.c=(c.p a).q.c∧((c.b b d).p a).q.b=(c.p a).q.b:=by
 unfold Co.b Co.p at*;by_cases d:b=0<;>by_cases f:a=0<;>simp only[d,f,if_true,if_false]at e⊢
 ·rw[e];exact Y5
 ·exact⟨trivial,trivial⟩
 ·exact⟨trivial,trivial⟩
 ·rw[e];exact Y5
def TQ (f:dU c k) (i:iZ x) {a:Int} (m:a≠2→Du c x):dU (nK c x a).1 (k+2):=by
 have d:=f.a x.r.a;obtain⟨a,g⟩:∃a,a=(if x.c then c.b x.r.a {c.p x.r.a with e:=false}else c):=⟨_,rfl⟩;have b:dU a k∧∀e,(a.p e).q.c=(c.p e).q.c∧(a.p e).q.b=(c.p e).q.b:=by
  rw[g];split
  ·exact⟨f.j ⟨d.e,d.f,d.t,d.q,d.c,d.a,d.b,d.d,d.g,d.h⟩,YA rfl⟩
  ·exact⟨f,fun _=>Y5⟩
 obtain⟨d,h⟩:∃d:Co,d=(if x.r.c=0 then{a with c:=(mh a.c a.d x.r.a x.r.b.length 65535).1,d:=(mh a.c a.d x.r.a x.r.b.length 65535).2.1}else a):=⟨_,rfl⟩;have a:dU d k∧∀e,(d.p e).q.c=(c.p e).q.c∧(d.p e).q.b=(c.p e).q.b:=by
  rw[h];split
  ·have d:=Df (side:=x.r.a) (n:=x.r.b.length) (i:=65535) b.1.f b.1.g;exact⟨⟨b.1.n,b.1.h,b.1.i,d.1,d.2,b.1.l,b.1.d,b.1.e⟩,b.2⟩
  ·exact b
 unfold nK;split
 ·exact f.b Y0
 ·rw[←g];dsimp only;split
  ·exact b.1.b Y0
  ·rw[←h];split
   ·exact a.1.b Y0
   ·rename_i b;exact TP a.1 i ((m b).b a.2)
def zal (b:dU c k) (d:iZ x) {a:Int} (e:a≠2→Du c x):dU (KL c x a).1 (k+2):=by have a:=b.a x.r.a;unfold KL;exact TQ (b.j (p:={c.p x.r.a with h:=true,d:=(c.p x.r.a).d||x.r.c != -1}) ⟨a.e,a.f,a.t,a.q,a.c,a.a,a.b,a.d,fun _=>rfl,a.h⟩) d (fun a=>(e a).b (YA rfl))
end
structure MoC (W:aB) (mb g:Nat) (c:Co) (k:Nat) (L:List Nat) (P:Pt) (F:Nat→List Nat):Prop where
 g:P.g=g
 j:lX W c P O F
 d:dU c k
 f:jh P k
 h:P.d=O
 e:P.e=false
 i:mb∉Z6 F
 a:∀b∈Z6 F,b∈L
structure MoG (W:aB) (mb g:Nat) (m:Mo) (k:Nat) (L:List Nat):Prop where
 c:bH W mb 77 #[qp g,m.a]
 a:mb∈L
 f:∀b∈L,b<W.heap.size
 d:∀b∈L,2≤b
 e:m.a=false→∃P F,MoC W mb g m.c k L P F
def Ay (W:aB) (mb:Nat) (m:Mo) (k:Nat) (L:List Nat):Prop:=∃a,MoG W mb a m k L
section
variable {W W':aB} {mb k n:Nat} {m:Mo} {L L':List Nat} {c:Co} {P:Pt} {X:Option fq} {F:Nat→List Nat}
def lX.A (a:lX W c P X F) {d:List Nat} (e:bg d W W') (f:∀b∈Z6 F,b∉d) (g:∀b∈d,2≤b):lX W' c P X F:=by
 refine⟨a.h.d e.b,fun d=>?_,a.j.d e g,a.l⟩;by_cases g:d<15
 ·exact gL c P X d W W' _ _ (a.d d) e (fun b e=>f b (iM g e))
 ·obtain⟨b,rfl⟩:∃b,d=b+15:=⟨d-15,Y0⟩;exact a.d (b+15)
def lX.u (d:lX W c P X F) {a:Nat} (b:a∈Z6 F):2≤a:=by obtain⟨e,_,b⟩:=xD.1 b;exact d.l e a b
def Ay.b (b:Ay W mb m k L) {G:List Nat} (e:bg G W W') (g:∀d∈L,d∉G) (h:∀d∈G,2≤d):Ay W' mb m k L:=by obtain⟨a,b⟩:=b;refine⟨a,b.c.g e (g _ b.a),b.a,fun d f=>aV (b.f d f) e.b,b.d,fun i=>?_⟩;obtain⟨P,F,a⟩:=b.e i;exact⟨P,F,a.g,a.j.A e (fun d f=>g d (a.a d f)) h,a.d,a.f,a.h,a.e,a.i,a.a⟩
def Ay.e (a:Ay W mb m k L) (b:aJ W W W'):Ay W' mb m k L:=a.b (G:=[]) (bg.d b) (by simp) (by simp)
def Ay.f (b:Ay W mb m k L) (d:k≤n):Ay W mb m n L:=by obtain⟨a,b⟩:=b;refine⟨a,b.c,b.a,b.f,b.d,fun e=>?_⟩;obtain⟨P,F,a⟩:=b.e e;exact⟨P,F,a.g,a.j,a.d.b d,a.f.e d,a.h,a.e,a.i,a.a⟩
def Ay.a (a:Ay W mb m k L):∀b∈L,b<W.heap.size:=by obtain⟨b,a⟩:=a;exact a.f
def TR (a:Ay W mb m k L):aF au 25 #[qp mb] W fun b d=>b=av m.a∧d=W:=by obtain⟨b,a⟩:=a;have b:=a.c;obtain⟨e,d⟩:=exq m.a;rw[d]at b⊢;obtain⟨e,f⟩:=bH.m b;clear a d b;go_enter func25,ntmps25;go_wp2;go_ret;exact Y5
def TS (a:Int) (b:aB):aF au 33 #[a] b fun d e=>d=av (J U (if a=2 then 2 else 1))∧e=b:=by
 by_cases b:a=2
 ·subst b;go_enter func33,ntmps33;go_wp2;go_ret;exact Y5
 ·rw[aL b];go_enter func33,ntmps33;go_wp2;go_ret;exact Y5
def XD (c:Cf) (b:aB) (d:Ending) (a:aB):Prop:=∃mb L,d=av (aN #[qp mb,J U 0])∧Ay a mb ⟨.g c,false⟩ 0 L∧gG [] L b a
def Gv (c:Cf) (a:aB) (b:Fx c=true) (d:lg a):aF au 11 #[aS (jW c)] a (XD c a):=by
 have e:aJ a a (a.alloc (.cells (jW c) 23)):=(ay _ _).alloc (aD _) _;have i:=aj (TJ c (a.alloc (.cells (jW c) 23)) b (d.a e));have f:=aj (gU a 23 (jW c));have h:=aj e;have j:=aj b;obtain⟨g,l,o,p,q,r⟩:=bH.j f.o.2;have l:=aj d;unfold jW at*;clear b d e;go_enter func11,ntmps11;go_wp2_with (go_at_call 24;refine i.o.mono ?_;rintro b d ⟨P,F,rfl,f,g,o,p,q⟩);have r:Y (XD c a (av (aN #[qp d.heap.size,J U 0])) (d.alloc (.cells #[qp P.g,false] 77))):=aj (by
  have e:aJ d d (d.alloc (.cells #[qp P.g,false] 77)):=(ay _ _).alloc (aD _) _;have i:=h.o.size;have b:=g.1.b;have s:∀b∈Z6 F,a.heap.size≤b:=fun b e=>aR i ((g.2 b e).elim (fun a=>by cases a) id);have i:∀b∈Z6 F,b<d.heap.size:=fun b e=>f.o e;have t:=l.o.b;refine⟨_,d.heap.size::Z6 F,rfl,⟨P.g,bH.d _ _ _,bM ..,fun b a=>?_,fun b a=>?_,fun _=>⟨P,F,rfl,f.a e,.t j.o,q,o,p,fun a=>by have:=i _ a;omega,fun b a=>bJ _ a⟩⟩,((bg.d h.o (F:=[])).a g.1 (fun b a=>.inl a)).a (bg.d e (F:=[])) (fun b a=>.inl a),fun b a=>?_⟩
  ·rcases bA.1 a with rfl|a
   ·exact(bH.d d 77 #[qp P.g,false]).e
   ·exact aV (i b a) e.size
  ·rcases bA.1 a with rfl|a
   ·omega
   ·exact f.u a
  ·rcases bA.1 a with rfl|a
   ·exact .inr Y0
   ·exact .inr (s b a))
 go_ret2;exact r.o
end
structure Cl (I:aB→List Nat→Prop):Prop where
 e:∀{W W':aB} {F G:List Nat},I W F→bg G W W'→(∀b∈F,b∉G)→(∀b∈G,2≤b)→I W' F
 c:∀{W:aB} {F:List Nat},I W F→∀b∈F,b<W.heap.size
structure BsF (I:aB→List Nat→Prop) (w:aB) (L:List Ow) (W:aB) (F:List Nat):Prop where
 f:Cl I
 c:I W F
 b:gG [] F w W
 a:∀x∈L,bH W x.1 x.2.1 x.2.2∧x.1∉F∧w.heap.size≤x.1
 e:(L.map (fun x=>x.1)).Nodup
 d:2≤w.heap.size
def Bs (I:aB→List Nat→Prop) (w:aB) (L:List Ow) (W:aB):Prop:=∃F,BsF I w L W F
def Cl.d (a c:Nat) (d:Mo):Cl (fun W F=>Ay W a d c F):=⟨fun a c d b=>a.b c d b,fun a=>a.a⟩
def Cl.f:Cl (fun _ F=>F=[]):=⟨fun a _ _ _=>a,fun a b c=>by rw[a]at c;cases c⟩
section
variable {I I':aB→List Nat→Prop} {w W W':aB} {L L' L1 L2:List Ow} {F:List Nat} {b:Nat} {t:bB} {cs cs':Array aI}
def BsF.h (a:BsF I w L W F) (c:aJ W W W'):BsF I w L W' F:=
 ⟨a.f,a.f.e a.c (G:=[]) (bg.d c) Y1 Y1,a.b.a (gG.d c),fun d f=>⟨(a.a d f).1.b c,(a.a d f).2⟩,a.e,a.d⟩
def Bs.h (a:Bs I w L W) (c:aJ W W W'):Bs I w L W':=by obtain⟨F,a⟩:=a;exact⟨F,a.h c⟩
def Bs.i (a:Bs I w L W):Bs I w L W.drew:=a.h (ay _ _).drew
def Bs.p (a:Bs I w L W) (c:aJ W W W') (g:bH W' b t cs) (h:W.heap.size≤b):Bs I w ((b,t,cs)::L) W':=by
 obtain⟨F,a⟩:=a;have d:=a.h c;refine⟨F,d.f,d.c,d.b,fun f c=>?_,?_,a.d⟩
 ·rcases bA.1 c with rfl|c
  ·exact⟨g,fun g=>by have:=a.f.c a.c _ g;dsimp only at this;omega,aR a.b.1.b h⟩
  ·exact d.a f c
 ·refine List.nodup_cons.2 ⟨fun g=>?_,a.e⟩;obtain⟨f,c,e⟩:=dI.1 g;have:=(a.a f c).1.e;dsimp only at e;omega
def Bs.d (a:Bs I w L W) (t:bB) (cs:Array aI):Bs I w ((W.heap.size,t,cs)::L) (W.alloc (.cells cs t)):=
 a.p ((ay _ _).alloc (aD _) _) (bH.d _ _ _) (aD _)
def Bs.u (a:Bs I w L W) (t:bB) (cs:Array aI):Bs I w ((W.heap.size,t,cs)::L) (W.drew.alloc (.cells cs t)):=a.i.d t cs
def Bs.a (a:Bs I w L W) {x:Ow} (c:x∈L):bH W x.1 x.2.1 x.2.2:=by obtain⟨F,a⟩:=a;exact(a.a x c).1
def Bs.q (a:Bs I w L W) {x:Ow} (c:x∈L):w.heap.size≤x.1:=by obtain⟨F,a⟩:=a;exact(a.a x c).2.2
def BsF.g (a:BsF I w L W F) (c:L'.Perm L):BsF I w L' W F:=⟨a.f,a.c,a.b,fun d f=>a.a d (c.mem_iff.1 f),(c.map _).nodup_iff.2 a.e,a.d⟩
def Bs.f (a:Bs I w L W) (c:L'.Perm L):Bs I w L' W:=by obtain⟨F,a⟩:=a;exact⟨F,a.g c⟩
def Bs.j {c:Ow} (a:Bs I w (c::L) W):Bs I w L W:=by obtain⟨F,a⟩:=a;exact⟨F,a.f,a.c,a.b,fun c d=>a.a c (bJ _ d),(List.nodup_cons.1 a.e).2,a.d⟩
def Bs.k:∀(L':List Ow),Bs I w (L'++L) W→Bs I w L W
 |[],a=>a
 |_::c,a=>Bs.k c a.j
def Bs.l (a:Bs I w (L1++(b,t,cs)::L2) W):bH W b t cs:=a.a (x:=(b,t,cs)) (by simp)
def BsF.i (c:BsF I w ((b,t,cs)::L) W F) (g:bg [b] W W') (h:bH W' b t cs'):BsF I w ((b,t,cs')::L) W' F:=by
 have f:=c.a _ (bM ..);have i:∀d∈L,d.1≠b:=fun d a e=>(List.nodup_cons.1 c.e).1 (dI.2 ⟨d,a,e⟩);refine⟨c.f,c.f.e c.c g (fun d a=>?_) (fun d a=>?_),⟨c.b.1.a g (fun d a=>.inr ?_),c.b.2⟩,fun d a=>?_,c.e,c.d⟩
 ·simp;exact fun e=>f.2.1 (by rw[←e];exact a)
 ·rw[aC.1 a];exact aR c.d f.2.2
 ·rw[aC.1 a];exact f.2.2
 ·rcases bA.1 a with rfl|a
  ·exact⟨h,f.2⟩
  ·have f:=c.a d (bJ _ a);exact⟨f.1.g g (by simpa using i d a),f.2⟩
def Bs.x (a:Bs I w ((b,t,cs)::L) W) (c:bg [b] W W') (d:bH W' b t cs'):Bs I w ((b,t,cs')::L) W':=by obtain⟨F,a⟩:=a;exact⟨F,a.i c d⟩
def Bs.y (a:Bs I w (L1++(b,t,cs)::L2) W) (g:bg [b] W W') (i:bH W' b t cs') (d:List Ow) (h:∀c∈d,bH W' c.1 c.2.1 c.2.2∧W.heap.size≤c.1) (j:(d.map (fun c=>c.1)).Nodup):Bs I w (d++(L1++(b,t,cs')::L2)) W':=by
 obtain⟨F,a⟩:=a;have f:=((a.g (L':=(b,t,cs)::(L1++L2)) List.perm_middle.symm).i g i).g (L':=L1++(b,t,cs')::L2) List.perm_middle;refine⟨F,f.f,f.c,f.b,fun c d=>?_,?_,a.d⟩
 ·rcases bK.1 d with d|d
  ·have g:=h c d;exact⟨g.1,fun i=>by have:=a.f.c a.c _ i;omega,aR a.b.1.b g.2⟩
  ·exact f.a c d
 ·rw[List.map_append,List.nodup_append];refine⟨j,f.e,fun c d i f e=>?_⟩;obtain⟨i,j,rfl⟩:=dI.1 d;obtain⟨d,c,rfl⟩:=dI.1 f;have g:=h i j;have f:d.1<W.heap.size:=by
   rcases bK.1 c with c|c
   ·exact(a.a d (List.mem_append_left _ c)).1.e
   ·rcases bA.1 c with rfl|c
    ·exact(a.a (b,t,cs) Y1).1.e
    ·exact(a.a d (by simp[c])).1.e
  omega
def Bs.r (a:Bs I w (L1++(b,t,cs)::L2) W) (c:bg [b] W W') (d:bH W' b t cs'):Bs I w (L1++(b,t,cs')::L2) W':=
 ((a.f (L':=(b,t,cs)::(L1++L2)) List.perm_middle.symm).x c d).f List.perm_middle
def Bs.m (d:Bs I w (L1++(b,t,cs)::L2) W) (a:Nat) (c:List aI):Bs I w (L1++(b,t,gV cs a c)::L2) (W.setCells b a c):=
 d.r (bg.f (F:=[b]) Y1 c a W) (bH.o c a W _ d.l)
def Bs.z (a:Bs I w (L1++(b,t,cs)::L2) W) (cs':Array aI):Bs I w (L1++(b,t,cs')::L2) (W.setRow b cs'):=
 a.r (bg.h W b cs' Y1) (a.l.p cs')
def Bs.A (a:Bs I w L W) (d:Cl I') (f:∀F,I W F→∃c,I' W' c∧gG F c W W'):Bs I' w L W':=by
 obtain⟨F,a⟩:=a;obtain⟨c,g,t⟩:=f F a.c;refine⟨c,d,g,a.b.a t,fun c d=>⟨(a.a c d).1.g t.1 (a.a c d).2.1,fun g=>?_,(a.a c d).2.2⟩,a.e,a.d⟩;rcases t.2 _ g with f|f
 ·exact(a.a c d).2.1 f
 ·have:=(a.a c d).1.e;omega
def Bs.c (a:Bs I w L W):aJ w w W:=by obtain⟨F,a⟩:=a;exact a.b.1.c (aD _) (by simp)
def Bs.B (a:Bs I w L W):w.heap.size≤W.heap.size:=by obtain⟨F,a⟩:=a;exact a.b.1.b
variable {e:bB} {sz n base:Nat} {v:aI} {xs:List aI} {LR LB:List Ow}
def Bs.o (c:Bs I w L W) (d:aJ W W W') (a:W'.ownsRow W e sz v n xs):∃LR,eZ e sz v n xs LR∧Bs I w (LR++L) W':=by
 obtain⟨LR,f,g⟩:=eZ.f a;refine⟨LR,f,?_⟩;rcases f.2 with⟨_,_,a⟩|⟨h,j,i,_,a,_⟩
 ·rw[a];exact c.h d
 ·rw[a]at g⊢;have a:=g (h,e,i) Y1;exact c.p d a.1 a.2
def Bs.g (a:Bs I w (L1++(LR++L2)) W) (c:eZ e sz v n xs LR):W.ownsRow w e sz v n xs:=c.a fun d f=>by
 have c:d∈L1++(LR++L2):=by simp[f]
 exact⟨a.a c,a.q c⟩
def Ue (c:Array aI) (n:Nat) (a:List aI) (f:n+a.length≤c.size):(gV c n a).toList.take (n+a.length)=c.toList.take n++a:=by
 apply List.ext_getElem?;intro d;by_cases g:d<n+a.length
 ·rw[List.getElem?_take_of_lt g,Array.getElem?_toList,qJ a n c d Y0];by_cases a:n≤d
  ·rw[aP ⟨a,g⟩,cB (by rw[dw];omega)];rw[dw,Nat.min_eq_left (by simp;omega)]
  ·rw[aL (fun f=>a f.1),dh (by simp;omega),List.getElem?_take_of_lt Y0,Array.getElem?_toList]
 ·rw[bQ (by rw[dw];omega),bQ (by rw[bL,dw];omega)]
def Oy {Pr:Program} (u:Bs I w (LB++L) W) (B:eZ e sz v n xs LB) (t i:bB)
  {q:aI} {r:Nat} (A:(Pr.info? e).map (fun a=>(a.zero,a.size,a.bytes))=R (R q,sz,r)) (G:q.cells.size=sz) (H:0<sz) (x:Pr.underlying t=R (.slice e))
  (d:aX) (a j:Nat) (c:List aI) (k:c.length=a*sz) (C:bU W (R d) c) (o:∀h∈c,h.oneCell'=true)
  (K:n+a≤maxLen) (M:(n+a)*r≤140737488355328):
  ∃g l m W',(Builtin.append_ #[t,t] i #[v,Z (R d) a j]).run Pr W=.ok (Z g (n+a) l) W'∧eZ e sz (Z g (n+a) l) (n+a) (xs++c) m∧Bs I w (m++L) W':=by
 have y:=u.k LB;have s:=B.1;have N:∀p W',(Builtin.append_ #[t,t] i #[v,Z (R d) a j]).run Pr W=.ok p W'→W'.ownsRow W e sz p (n+a) (xs++c)→aJ W W W'→∃g l m W',(Builtin.append_ #[t,t] i #[v,Z (R d) a j]).run Pr W=.ok (Z g (n+a) l) W'∧eZ e sz (Z g (n+a) l) (n+a) (xs++c) m∧Bs I w (m++L) W':=fun p W' f o z=>by obtain⟨g,l,rfl⟩:=dB o;obtain⟨m,g,l⟩:=y.o z o;exact⟨_,_,_,_,f,g,l⟩
 obtain⟨y,z,P,l,Q⟩:=info_parts A;have A:∀g h,c[g]?=R h→W.cell? (d.add g)=R h:=fun g h D=>by obtain⟨b,E,m,S⟩:=C g h D;injection m with m;subst m;rwa[Addr.add_lit]
 rcases B.2 with⟨rfl,rfl,rfl⟩|⟨b,m,S,rfl,rfl,C,V,X,T⟩
 ·obtain rfl:xs=[]:=dL (Y6 s);obtain⟨p,W1,f,B,C,_⟩:=run_append_own (P:=Pr) (w:=W) W.heap.size t i e y q sz r x z P l Q G H (Z O 0 0) 0 [] (aT ..) d a j c k A o K M (aD _);exact N _ _ f B (dZ (v:=aO true) (ay _ _) (aD _) (fun b e=>by cases e) C)
 ·have D:=Bs.l (L1:=[]) u;by_cases E:n+a≤m
  ·have h5:n*sz+c.length≤m*sz:=by rw[k,←Nat.add_mul];exact Nat.mul_le_mul_right _ E
   have f:=run_append_room_cells (P:=Pr) W t i e y x z b 0 n m d a j c (by rw[l];exact k) A o E (fun g o=>by rw[l,cK,D.a,dA Y0];rfl) (fun g o=>D.c _);rw[l,cK]at f;refine⟨_,_,[(b,e,gV S (n*sz) c)],_,f,⟨by simp[s,k,Nat.add_mul],.inr ⟨b,m,_,rfl,rfl,E,V,?_,?_⟩⟩,u.m (L1:=[]) (n*sz) c⟩
   ·rw[kV,X]
   ·rw[Nat.add_mul,←k,Ue _ _ _ Y0,T]
  ·obtain⟨p,W1,f,B,C⟩:=run_append_arg_grows (P:=Pr) W t i e y q sz r x z P l Q G H ⟨b,0,O⟩ n m xs s (fun g h o=>by rw[Addr.add_lit,cK,D.a g,←o,←T,List.getElem?_take_of_lt (by rw[←s];exact(aU.1 o).1),Array.getElem?_toList]) d a j c k A Y0 K M
   exact N _ _ f B (dZ (v:=aO true) (ay _ _) (aD _) (fun b e=>by cases e) C)
end
section
variable {w:aB} {c:Co} {P:Pt} {p:fq}
def NT {a:Nat} (C:Nat→List Nat) (d:lX w c P (R p) C) (D:P.d=R ⟨p.b,0,O⟩) (E:dU c a) (K:a≤900) (y:iZ p.x):
  aF au 27 #[qp P.g] w fun e g=>e=av (aN #[J U (kH c p.x.r).1,aO (kH c p.x.r).2])∧aJ w w g:=by
 have F:c.l.length≤1000:=by have:=E.d;omega
 obtain⟨r,j⟩:=exq P.g;obtain⟨o,z⟩:=exq P.c;obtain⟨k,s⟩:=exq p.b;obtain⟨l,u⟩:=exq p.x.r.a;obtain⟨h,v⟩:=exq p.x.r.c;obtain⟨f,A⟩:=exq p.x.r.d;obtain⟨m,n⟩:=exq (zN c l f);obtain⟨x,B⟩:=exq (gu c.l f);have G:ko l=true:=by rw[←u];exact y.a
 have H:h≠ -1→(Lit.int U f).wf=true:=fun b=>by have:=y.b (by rw[v];exact b);exact bX Y0
 have t:Y (∀a,aJ w w a→a.cell? ⟨r,31,O⟩=R (aK (R ⟨o,0,O⟩))∧a.cell? ⟨k,0,O⟩=R (J U l)∧a.cell? ⟨k,1,O⟩=R (J U h)∧a.cell? ⟨k,3,O⟩=R (J U f)):=aj fun a i=>⟨by rw[←j,←z];exact(d.a i).f.a 31,by rw[←u,←s];exact(d.a i).e.a.a 0,by rw[←v,←s];exact(d.a i).e.a.a 1,by rw[←A,←s];exact(d.a i).e.a.a 3⟩;have I:Y (aF au 59 #[qp r] w fun e g=>e=av (aK (R ⟨k,0,O⟩))∧g=w):=aj (by rw[←j,←s,←D];exact uh d.f)
 have L:Y (∀a,aJ w w a→aF au 60 #[qp r,l,f] a fun e g=>e=av m∧aJ a a g):=aj fun a i=>by rw[←n,←j];exact nM l f G (d.a i).f
 have q:Y (h≠ -1→∀a,aJ w w a→aF au 61 #[qp o,f] a fun e g=>e=av (aS x)∧aJ a a g):=aj fun b a i=>qO (M:=c.a.b) (F:=C 13) o f a (aj F) (aj (by rw[←z];exact(d.a i).d 13)) (aj (H b)) x (aj B);have i:Y (kH c p.x.r=if h= -1∨m=true∨x.k≠4 then(0,false)else(f,true)):=aj (by unfold kH;rw[v,u,A,n,B]);rw[j];clear d D E K y F j z s u v A n B G H;go_enter func27,ntmps27;go_wp2_with fail;refine mB I.o ?_;rintro j rfl;clear I;go_wp2;have a:=Dk;have s:∀a:Gw j,a.W.cell? ⟨r,31,O⟩=R (aK (R ⟨o,0,O⟩)):=fun a=>(t.o _ a.h).1;have s:∀a:Gw j,a.W.cell? ⟨k,0,O⟩=R (J U l):=fun a=>(t.o _ a.h).2.1;have s:∀a:Gw j,a.W.cell? ⟨k,1,O⟩=R (J U h):=fun a=>(t.o _ a.h).2.2.1;have s:∀a:Gw j,a.W.cell? ⟨k,3,O⟩=R (J U f):=fun a=>(t.o _ a.h).2.2.2;have u:Y (∀a:Gw j,aF au 60 #[qp r,l,f] a.W fun e g=>e=av m∧∃s:Gw j,g=s.W):=aj fun a=>Calls.gw (L.o _ a.h);obtain⟨r,y,z,A,B⟩:=x;have k:(h= -1∧kH c p.x.r=(0,false))∨(h≠ -1∧m=true∧kH c p.x.r=(0,false))∨(h≠ -1∧m=false∧r≠4∧kH c p.x.r=(0,false))∨(h≠ -1∧m=false∧r=4∧kH c p.x.r=(f,true)):=by
  by_cases b:h= -1
  ·exact .inl ⟨b,by rw[i.o,aP (.inl b)]⟩
  ·cases n:m
   ·by_cases m:r=4
    ·exact .inr (.inr (.inr ⟨b,rfl,m,by rw[i.o,aL (fun d=>d.elim b (fun d=>d.elim (fun d=>by rw[n]at d;cases d) (fun d=>d m)))]⟩))
    ·exact .inr (.inr (.inl ⟨b,rfl,m,by rw[i.o,aP (.inr (.inr m))]⟩))
   ·exact .inr (.inl ⟨b,rfl,by rw[i.o,aP (.inr (.inl n))]⟩)
 clear i;rcases k with⟨rfl,i⟩|⟨b,rfl,i⟩|⟨b,rfl,m,i⟩|⟨b,rfl,rfl,i⟩
 ·have n:=aj i;clear i q;refine dJ Y3 Y3 ?_;repeat(refine WQ.d (fun k d=>?_);go_simp;refine d _ ?_;clear d k)
  refine WQ.b ?_;rintro _ ⟨u3,rfl⟩;have l:=aj u3.h;go_wp2;go_ret2;exact⟨by rw[n.o];rfl,l.o⟩
 ·have n:=aj i;have x:=aM.2 b;clear i q b;refine dJ Y3 Y3 ?_;repeat(refine WQ.d (fun k d=>?_);go_simp;first|(refine d _ ?_;clear d k)|(apply Exists.intro;refine⟨fun _=>?_,d _ ?_⟩;(go_at_call 60;exact u.o _);clear d k))
  refine WQ.b ?_;rintro _ ⟨u3,rfl⟩;have l:=aj u3.h;go_wp2;go_ret2;exact⟨by rw[n.o];rfl,l.o⟩
 ·have n:=aj i;have x:=aM.2 b;have v:=aM.2 m;have v:Y (∀a:Gw j,aF au 61 #[qp o,f] a.W fun e g=>e=av (aS #[r,y,z,A,B])∧∃s:Gw j,g=s.W):=aj fun a=>Calls.gw (q.o b _ a.h);clear i q b m;refine dJ Y3 Y3 ?_;repeat(refine WQ.d (fun k d=>?_);go_simp;first|(refine d _ ?_;clear d k)|(apply Exists.intro;refine⟨fun _=>?_,d _ ?_⟩;(first|(go_at_call 60;exact u.o _)|(go_at_call 61;exact v.o _));clear d k))
  refine WQ.b ?_;rintro _ ⟨u3,rfl⟩;have l:=aj u3.h;go_wp2;go_ret2;exact⟨by rw[n.o];rfl,l.o⟩
 ·have n:=aj i;have x:=aM.2 b;have v:Y (∀a:Gw j,aF au 61 #[qp o,f] a.W fun e g=>e=av (aS #[J U 4,y,z,A,B])∧∃s:Gw j,g=s.W):=aj fun a=>Calls.gw (q.o b _ a.h);clear i q b;refine dJ Y3 Y3 ?_;repeat(refine WQ.d (fun k d=>?_);go_simp;first|(refine d _ ?_;clear d k)|(apply Exists.intro;refine⟨fun _=>?_,d _ ?_⟩;(first|(go_at_call 60;exact u.o _)|(go_at_call 61;exact v.o _));clear d k))
  refine WQ.b ?_;rintro _ ⟨u3,rfl⟩;have l:=aj u3.h;have a:=(t.o _ l.o).2.2.2;go_wp2;go_ret2;exact⟨by rw[n.o];rfl,l.o⟩
end
structure Fe where
 g:Nat
 o:Nat
 t:bB
 c:Array aI
 d:Int
 r:Rw
 b:Bool
 a:Nat
 W:aB
structure FeB (E:Fe) (q C:Nat) (w:aB):Prop where
 b:∃cs1,bH w E.g E.t cs1∧P8 E.c E.o (ptL 3 E.r.b.length (Z O 0 0) E.r.b.length E.r.c E.r.e E.r.d E.b) cs1
 a:bg [E.g] E.W w
 c:bU w (R ⟨E.a,q,O⟩) (dP E.r.b)
 d:E.r.b.length≤C
 e:C≤maxLen
structure YE (E:Fe) (z c:Nat) (w:aB):Prop where
 a:∃cs1 x3 x4 x5 x6 x7,bH w E.g E.t cs1∧P8 E.c E.o [J U 2,J U 9,Z O 0 0,x3,x4,x5,x6,x7] cs1
 b:bg [E.g] E.W w
 d:∃X D,w.ownsRow E.W.heap.size 30 6 (Z (R ⟨z,0,O⟩) 1 c) 1 [J U E.d,J U E.r.c,J U E.r.e,J U E.r.d,aO E.b,Z X E.r.b.length D]∧w.ownsRow E.W.heap.size 5 1 (Z X E.r.b.length D) E.r.b.length (dP E.r.b)
def FeW (E:Fe) (c d:aI) (e:aB):Prop:=
 (∃b a,c=Z (R ⟨E.a,b,O⟩) E.r.b.length a∧d=Z O 0 0∧Y (FeB E b a e))∨(∃b a f g,c=Z (R ⟨E.a,b,O⟩) 0 a∧a≤maxLen∧d=Z (R ⟨f,0,O⟩) 1 g∧Y (YE E f g e))
def FeJ (E:Fe) (c d:Nat) (e:Int):Act→aB→Prop:=fun f g=>∃(a b:aI) (u3 u4 u5 u6 u8 u9 u10 u11 u12 u13 u14 u15 u16 u17 u18 u19 u20 u21 u22 u23 u24 u25 u26 u27 u28 u29 u30 u31 u32 u33 u34 u35 u36 u37 u38 u39 u40 u41 u42 u43 u44 u45 u46 u47 u48 u49 u50 u51 u52 u53 u54 u55 u56 u57 u58 u59 u60 u61 u62 u63 u64 u65 u66 u67 u68 u69:aI),f=⟨#[aK (R ⟨c,d,O⟩),e,a,u3,u4,u5,u6,b,u8,u9,u10,u11,u12,u13,u14,u15,u16,u17,u18,u19,u20,u21,u22,u23,u24,u25,u26,u27,u28,u29,u30,u31,u32,u33,u34,u35,u36,u37,u38,u39,u40,u41,u42,u43,u44,u45,u46,u47,u48,u49,u50,u51,u52,u53,u54,u55,u56,u57,u58,u59,u60,u61,u62,u63,u64,u65,u66,u67,u68,u69],[]⟩∧FeW E a b g
def zbO (E:Fe) (c d:Nat) (e:Int):Act→aB→Prop:=fun f g=>∃(a b:aI) (u3 u4 u5 u6 u8 u9 u10 u11 u12 u13 u14 u15 u16 u17 u18 u19 u20 u21 u22 u23 u24 u25 u26 u27 u28 u29 u30 u31 u32 u33 u34 u35 u36 u37 u38 u39 u40 u41 u42 u43 u44 u45 u46 u47 u48 u49 u50 u51 u52 u53 u54 u55 u56 u57 u58 u59 u60 u61 u62 u63 u64 u65 u66 u67 u68 u69:aI),f=⟨#[aK (R ⟨c,d,O⟩),e,a,u3,u4,u5,u6,b,u8,u9,u10,u11,u12,u13,u14,u15,u16,u17,u18,u19,u20,u21,u22,u23,u24,u25,u26,u27,u28,u29,u30,u31,u32,u33,u34,u35,u36,u37,u38,u39,u40,u41,u42,u43,u44,u45,u46,u47,u48,u49,u50,u51,u52,u53,u54,u55,u56,u57,u58,u59,u60,u61,u62,u63,u64,u65,u66,u67,u68,u69],[]⟩∧∃f c d e,a=Z (R ⟨E.a,f,O⟩) 0 c∧c≤maxLen∧b=Z (R ⟨d,0,O⟩) 1 e∧Y (YE E d e g)
def zan:aI→Nat
 |Z _ a _=>a
 |_=>0
def FeP (E:Fe) (a:aB) (c:Ending) (d:aB):Prop:=∃a b,c=av (Z (R ⟨a,0,O⟩) 1 b)∧YE E a b d
section
variable {E:Fe}
structure FeH (E:Fe) (q' C z D:Nat) (w:aB):Prop where
 b:∃cs2 y3 y4 y5 y6 y7,bH w E.g E.t cs2∧P8 E.c E.o [J U 2,J U 9,Z (R ⟨z,0,O⟩) 9 D,y3,y4,y5,y6,y7] cs2
 c:bg [E.g] E.W w
 d:bU w (R ⟨z,0,O⟩) (dP (fA E.r.b.length E.r.c E.r.e E.r.d E.b))
 e:9≤D
 f:D≤maxLen
structure FeI (E:Fe) (q C:Nat):Prop where
 a:E.o+8≤E.c.size
 f:gK E.r.b.length E.r.c E.r.e E.r.d=true
 b:E.r.b.length≤300
 c:9+E.r.b.length≤C
 d:C≤maxLen
 g:E.g<E.W.heap.size
 e:∀W',bg [E.g] E.W W'→bU W' (R ⟨E.a,q,O⟩) (dP (fA E.r.b.length E.r.c E.r.e E.r.d E.b++E.r.b))
def XM {i b:Nat} (c:FeI E i b) {f:aB} {j:Array aI} (r:bH f E.g E.t j) {k l m n o:aI} (d:P8 E.c E.o [J U 2,J U 9,Z O 0 0,k,l,m,n,o] j) (p:bg [E.g] E.W f):
  aF au 117 #[aK (R ⟨E.g,E.o,O⟩),Z (R ⟨E.a,i,O⟩) (9+E.r.b.length) b] f fun q a=>∃e g h,q=av (aN #[Z (R ⟨E.a,e,O⟩) E.r.b.length (b-9),true])∧FeH E e b g h a∧∀a,bg [E.g] E.W a→bU a (R ⟨E.a,e,O⟩) (dP E.r.b):=by
 have s:(fA E.r.b.length E.r.c E.r.e E.r.d E.b++E.r.b).length=9+E.r.b.length:=by rw[bL,(eD _ _ _ _ _).1]
 have t:=c.b;refine(wN E.g E.o E.t j 9 (9+E.r.b.length) E.a i b _ f r (by rw[d.b];exact d.d) (d.a 1 _ rfl) (d.a 2 _ rfl) s c.c Y0 Y2 Y0 c.d (c.e _ p)).mono ?_;rintro q a ⟨e,f,h,rfl,i,b,j,r⟩;obtain⟨g,q,f⟩:=eu b Y2;injection f with f q q;subst f q;have f:(fA E.r.b.length E.r.c E.r.e E.r.d E.b++E.r.b).take 9=fA E.r.b.length E.r.c E.r.e E.r.d E.b:=by rw[List.take_append_of_le_length (by rw[(eD _ _ _ _ _).1];decide)];exact bW (by rw[(eD _ _ _ _ _).1];decide)
 have q:(fA E.r.b.length E.r.c E.r.e E.r.d E.b++E.r.b).drop 9=E.r.b:=by rw[List.drop_append_of_le_length (by rw[(eD _ _ _ _ _).1];decide),List.drop_of_length_le (by rw[(eD _ _ _ _ _).1];decide)];rfl
 rw[f]at b;rw[q]at i;have q:=fH b;have s:=(b.2.resolve_left (fun f=>by cases f.1));obtain⟨v,w,x,t,_,_,_,u,_⟩:=s;injection t with _ _ s;subst s;exact⟨e,g,h,by rw[Nat.add_sub_cancel_left],⟨⟨_,k,l,m,n,o,j,d.c 2 [Z (R ⟨g,0,O⟩) 9 h] Y1⟩,p.a r (fun d f=>.inl f),bU.e b,q.2,u⟩,fun a b=>i a (c.e a b)⟩
def FeH.g {d e f g:Nat} {b h:aB} (a:FeH E d e f g b) (c:aJ b b h):FeH E d e f g h:=by obtain⟨b,d,e,f,g,h,i,j⟩:=a.b;exact⟨⟨b,d,e,f,g,h,i.b c,j⟩,a.c.a (bg.d c (F:=[])) (fun b a=>.inl (by cases a)),a.d.a c,a.e,a.f⟩
def Ul {c f d a b:Nat} (i:FeI E c d) {e:aB} (c:FeH E f d a b e):aF au 118 #[Z (R ⟨a,0,O⟩) 9 b] e fun g h=>g=av (aN #[aS #[E.r.b.length,E.r.c,E.r.e,E.r.d,E.b],J U 0])∧FeH E f d a b h:=by refine mB (TY a 0 b _ _ _ _ E.b e i.f c.e c.f c.d) fun h a=>?_;exact⟨rfl,c.g a⟩
def FeH.a {d e b c:Nat} {a:aB} (h:FeH E d e b c a):a.cell? ⟨E.g,E.o,O⟩=R (J U 2)∧a.cell? ⟨E.g,E.o+2,O⟩=R (Z (R ⟨b,0,O⟩) 9 c)∧(∃c d e f g,a.cell? ⟨E.g,E.o+3,O⟩=R c∧a.cell? ⟨E.g,E.o+4,O⟩=R d∧a.cell? ⟨E.g,E.o+5,O⟩=R e∧a.cell? ⟨E.g,E.o+6,O⟩=R f∧a.cell? ⟨E.g,E.o+7,O⟩=R g)∧∀b,a.frozen? ⟨E.g,b,O⟩=false:=by obtain⟨i,c,d,e,f,g,a,b⟩:=h.b;exact⟨(a.a _).trans (b.a 0 _ rfl),(a.a _).trans (b.a 2 _ rfl),⟨c,d,e,f,g,(a.a _).trans (b.a 3 _ rfl),(a.a _).trans (b.a 4 _ rfl),(a.a _).trans (b.a 5 _ rfl),(a.a _).trans (b.a 6 _ rfl),(a.a _).trans (b.a 7 _ rfl)⟩,a.c⟩
def LG {a c d f g:Nat} (e:FeI E a d) {a:aB} (b:FeH E c d f g a) (h:∀a,bg [E.g] E.W a→bU a (R ⟨E.a,c,O⟩) (dP E.r.b)):aF au 119 #[aK (R ⟨E.g,E.o,O⟩),J U 3,E.r.b.length] (a.setCells E.g (E.o+3) [J U E.r.b.length,J U E.r.c,J U E.r.e,J U E.r.d,aO E.b]) fun f g=>f=av (aN #[])∧FeB E c (d-9) g:=by obtain⟨c,j,k,l,m,n,i,d⟩:=b.b;have c:=d.c 3 [J U E.r.b.length,J U E.r.c,J U E.r.e,J U E.r.d,aO E.b] Y1;have d:=bH.o [J U E.r.b.length,J U E.r.c,J U E.r.e,J U E.r.d,aO E.b] (E.o+3) _ _ i;have i:bg [E.g] a (a.setCells E.g (E.o+3) [J U E.r.b.length,J U E.r.c,J U E.r.e,J U E.r.d,aO E.b]):=bg.f Y1 _ _ _;refine mB (sG E.g E.o E.t _ 3 E.r.b.length _ d (by rw[c.b];exact c.d)) ?_;rintro g rfl;have f:=(b.c.a i (fun g b=>.inl b)).a (bg.f (F:=[E.g]) (g:=E.g) Y1 [J U 3,J U (E.r.b.length:Int),Z O 0 0] E.o (a.setCells E.g (E.o+3) [J U E.r.b.length,J U E.r.c,J U E.r.e,J U E.r.d,aO E.b])) (fun g b=>.inl b);exact⟨rfl,⟨_,bH.o _ _ _ _ d,c.c 0 [J U 3,J U (E.r.b.length:Int),Z O 0 0] Y1⟩,f,h _ f,by have:=e.c;omega,by have:=e.d;omega⟩
structure FeK (E:Fe) (X:Option aX) (D:Nat) (w:aB):Prop where
 b:∃cs1,bH w E.g E.t cs1∧P8 E.c E.o (ptL 3 E.r.b.length (Z X E.r.b.length D) E.r.b.length E.r.c E.r.e E.r.d E.b) cs1
 a:bg [E.g] E.W w
 c:w.ownsRow E.W.heap.size 5 1 (Z X E.r.b.length D) E.r.b.length (dP E.r.b)
def XO {e c:Nat} {f:aB} (a:FeB E e c f) (b:E.r.b.length≤300):aF au 117 #[aK (R ⟨E.g,E.o,O⟩),Z (R ⟨E.a,e,O⟩) E.r.b.length c] f fun k l=>∃d g h i,k=av (aN #[Z (R ⟨E.a,d,O⟩) 0 g,true])∧g≤maxLen∧FeK E h i l:=by
 obtain⟨m,p,b⟩:=a.b;have q:=a.e;by_cases j:E.r.b.length=0
 ·have r:=dL j;have:=BS E.g E.o E.t m 0 E.a e c f p (by rw[b.b];exact b.d) (by have:=b.a 1 _ rfl;rw[j]at this;exact this) (b.a 2 _ rfl) Y2 q;rw[j];refine this.mono ?_;rintro k l ⟨d,g,rfl,s,n,o⟩;refine⟨d,g,O,0,rfl,s,⟨m,n,?_⟩,a.a.a o (fun g a=>.inl a),?_⟩
  ·rw[j]at b⊢;exact b
  ·rw[r];exact aT ..
 ·refine(wN E.g E.o E.t m E.r.b.length E.r.b.length E.a e c E.r.b f p (by rw[b.b];exact b.d) (b.a 1 _ rfl) (b.a 2 _ rfl) rfl a.d Y0 Y0 (aD _) q a.c).mono ?_;rintro k l ⟨d,h,i,rfl,_,e,n,o⟩;rw[bW (aD _)]at e;exact⟨d,c-E.r.b.length,h,i,by rw[Nat.sub_self],Y0,⟨_,n,b.c 2 [Z h E.r.b.length i] Y1⟩,a.a.a o (fun g a=>.inl a),dz e a.a.b⟩
def Um {e:Option aX} {f:Nat} {g:aB} (a:FeK E e f g) (b:E.r.b.length≤300):aF au 120 #[aK (R ⟨E.g,E.o,O⟩),E.d] g fun b h=>∃c d,b=av (aS (qs E.d E.r.c E.r.e E.r.d E.b c E.r.b.length d))∧h.ownsRow E.W.heap.size 5 1 (Z c E.r.b.length d) E.r.b.length (dP E.r.b)∧FeK E e f h:=by obtain⟨i,j,k⟩:=a.b;refine(Oz E.g E.o E.t i E.d 3 E.r.b.length E.r.b.length E.r.c E.r.e E.r.d E.b e f E.r.b g j k.a Y0 (fun b=>(fH a.c).1 b |>.1) (dD a.c)).mono ?_;rintro b h ⟨c,d,rfl,f,e⟩;exact⟨c,d,rfl,dz f a.a.b,⟨i,j.b e,k⟩,a.a.a (bg.d e (F:=[])) (fun b a=>.inl (by cases a)),dF a.c e⟩
def zbZ:(Tryz.prog.info? 30).map (fun a=>(a.zero,a.size,a.bytes))=R (R (aS #[J U 0,J U 0,J U 0,J U 0,false,Z O 0 0]),6,64):=by kernel_rfl
def FeK.d {b:Option aX} {c:Nat} {a:aB} (d:FeK E b c a):a.cell? ⟨E.g,E.o,O⟩=R (J U 3):=by obtain⟨c,a,b⟩:=d.b;exact(a.a _).trans (b.a 0 _ rfl)
def XP {d e:Option aX} {i f g h:Nat} {c a:aB} (b:E.g<E.W.heap.size) (b:FeK E d i c) (i:c.ownsRow E.W.heap.size 5 1 (Z e E.r.b.length f) E.r.b.length (dP E.r.b)) (d:aJ c c a)
  (j:a.ownsRow E.W.heap.size 30 6 (Z (R ⟨g,0,O⟩) 1 h) 1 [J U E.d,J U E.r.c,J U E.r.e,J U E.r.d,aO E.b,Z e E.r.b.length f]):
  aF au 119 #[aK (R ⟨E.g,E.o,O⟩),J U 2,J U 9] a fun c k=>c=av (aN #[])∧YE E g h k:=by
 obtain⟨h,l,g⟩:=b.b;refine mB (sG E.g E.o E.t h 2 9 a (l.b d) (by rw[g.b];exact g.d)) ?_;rintro k rfl;have h:bg [E.g] a (a.setCells E.g E.o [J U 2,J U 9,Z O 0 0]):=bg.f Y1 _ _ _;refine⟨rfl,⟨_,_,_,_,_,_,bH.o _ _ _ _ (l.b d),g.c 0 [J U 2,J U 9,Z O 0 0] Y1⟩,(b.a.a (bg.d d (F:=[])) (fun a b=>.inl (by cases b))).a h (fun a b=>.inl b),e,f,bO j h (fun a c=>?_),bO (dF i d) h (fun a c=>?_)⟩
 ·have:=(j.lt a c).1;simp;omega
 ·have:=(i.lt a c).1;simp;omega
def LH {h d c i:Nat} {e:aB} (a:E.g<E.W.heap.size) (b:YE E c i e) (m:d≤maxLen):aF au 117 #[aK (R ⟨E.g,E.o,O⟩),Z (R ⟨E.a,h,O⟩) 0 d] e fun a j=>∃f g,a=av (aN #[Z (R ⟨E.a,f,O⟩) 0 g,false])∧YE E c i j:=by
 obtain⟨i,n,o,p,q,r,s,c⟩:=b.a;obtain⟨t,u,k,l⟩:=b.d;refine(BS E.g E.o E.t i 9 E.a h d e s (by rw[c.b];exact c.d) (c.a 1 _ rfl) (c.a 2 _ rfl) Y2 m).mono ?_;rintro a j ⟨f,g,rfl,_,e,d⟩;refine⟨f,g,rfl,⟨i,n,o,p,q,r,e,c⟩,b.b.a d (fun c b=>.inl b),t,u,bO k d (fun b a=>?_),bO l d (fun b a=>?_)⟩
 ·have:=(k.lt b a).1;simp;omega
 ·have:=(l.lt b a).1;simp;omega
def Un (a:Bool) (b c:Nat) (m:bH E.W E.g E.t E.c) (j:FeI E b c) (o:E.c[E.o]?=R (J U (if a then 0 else 2))) (p:a=false→E.c[E.o+1]?=R (J U 9)) (q:a=false→E.c[E.o+2]?=R (Z O 0 0)) (t:a=true→E.d=1):
  aF au 80 #[aK (R ⟨E.g,E.o,O⟩),E.d,Z (R ⟨E.a,b,O⟩) (9+E.r.b.length) c] E.W (FeP E E.W):=by
 have k:=aj j;have r:∃l:aB,(a=false∧l=E.W∨a=true∧l=E.W.setCells E.g E.o [J U 2,J U 9,Z O 0 0])∧∃b e f g h i,bH l E.g E.t b∧P8 E.c E.o [J U 2,J U 9,Z O 0 0,e,f,g,h,i] b∧bg [E.g] E.W l:=by
  cases a with
  |false=>obtain⟨e,f,g,h,i,c⟩:=P8.f j.a o (p rfl) (q rfl);exact⟨_,.inl Y5,_,e,f,g,h,i,m,c,bg.o _ _⟩
  |true=>have n:∀d,d<8→∃s,E.c[E.o+d]?=R s:=fun d s=>⟨_,dA (by have:=j.a;omega)⟩;obtain⟨s,d⟩:=n 1 Y2;obtain⟨u,s⟩:=n 2 Y2;obtain⟨e,f,g,h,i,c⟩:=P8.f j.a o d s;exact⟨_,.inr Y5,_,e,f,g,h,i,bH.o _ _ _ _ m,c.c 0 [J U 2,J U 9,Z O 0 0] Y1,bg.f Y1 _ _ _⟩
 obtain⟨l,n,b,e,f,g,h,i,u,v,B⟩:=r;have w:=aj (XM j u v B);have H:Y (E.d=1→aF au 116 #[aK (R ⟨E.g,E.o,O⟩),E.d] E.W fun b I=>b=av (aN #[])∧I=E.W.setCells E.g E.o [J U 2,J U 9,Z O 0 0]):=aj (fun c=>by have:=Ao E.g E.o E.t E.c E.d E.W m j.a;rw[c]at this⊢;exact this)
 have x:E.W.cell? ⟨E.g,E.o,O⟩=R (J U (if a then 0 else 2)):=by rw[m.a];exact o
 obtain⟨y,z,C,D,r,d,A,F,s⟩:=E;dsimp only at*;clear o p q m j u v B;have K:=aj t;clear t;have o:=aj (And.intro k.o.g k.o.b);dsimp only at o;go_enter func80,ntmps80;go_wp2_with fail;refine wp_scope_jumps 0 (FeJ ⟨y,z,C,D,r,d,A,F,s⟩ y z r) (fun L _=>2-zan (L.tmps.getD 7 bq)) rfl ?_ ?_
 ·cases a with
  |false=>
   obtain rfl:l=s:=by rcases n with c|c;exact c.2;cases c.1
   simp only[Bool.false_eq_true,if_false]at x;clear n;go_wp2;go_step3;go_wp2_with (first|(go_at_call 117;refine w.o.mono ?_;rintro b t ⟨j,u,M,rfl,a,p⟩;have B:=aj a;have C:=aj p;obtain⟨v,D,_,_⟩:=a.a;clear a p)|(go_at_call 118;refine(Ul k.o B.o).mono ?_;rintro b m ⟨rfl,a⟩;have F:=aj a;obtain⟨v,D,⟨e,f,g,h,i,N,P,Q,S,T⟩,V⟩:=a.a;clear a)|(go_at_call 119;refine(LG k.o F.o C.o).mono ?_;rintro b W ⟨rfl,q⟩;have G:=aj q;clear q));go_step3;exact⟨rfl,⟨_,_,_,_,_,_,_,_,_,_,_,_,_,_,_,_,_,_,_,_,_,_,_,_,_,_,_,_,_,_,_,_,_,_,_,_,_,_,_,_,_,_,_,_,_,_,_,_,_,_,_,_,_,_,_,_,_,_,_,_,_,_,_,_,_,_,_,_,rfl,.inl ⟨j,_,rfl,rfl,G⟩⟩⟩
  |true=>
   obtain rfl:l=s.setCells y z [J U 2,J U 9,Z O 0 0]:=by rcases n with c|c;cases c.1;exact c.2
   simp only[if_true]at x;clear n;go_wp2_with (go_at_call 116;refine(H.o (K.o rfl)).mono ?_;rintro b t ⟨rfl,rfl⟩);go_step3;go_wp2_with (first|(go_at_call 117;refine w.o.mono ?_;rintro b t ⟨j,u,M,rfl,a,p⟩;have B:=aj a;have C:=aj p;obtain⟨v,D,_,_⟩:=a.a;clear a p)|(go_at_call 118;refine(Ul k.o B.o).mono ?_;rintro b m ⟨rfl,a⟩;have F:=aj a;obtain⟨v,D,⟨e,f,g,h,i,N,P,Q,S,T⟩,V⟩:=a.a;clear a)|(go_at_call 119;refine(LG k.o F.o C.o).mono ?_;rintro b W ⟨rfl,q⟩;have G:=aj q;clear q));go_step3;exact⟨rfl,⟨_,_,_,_,_,_,_,_,_,_,_,_,_,_,_,_,_,_,_,_,_,_,_,_,_,_,_,_,_,_,_,_,_,_,_,_,_,_,_,_,_,_,_,_,_,_,_,_,_,_,_,_,_,_,_,_,_,_,_,_,_,_,_,_,_,_,_,_,rfl,.inl ⟨j,_,rfl,rfl,G⟩⟩⟩
 ·clear x w H K n k;rintro L I ⟨e,f,u3,u4,u5,u6,u8,u9,u10,u11,u12,u13,u14,u15,u16,u17,u18,u19,u20,u21,u22,u23,u24,u25,u26,u27,u28,u29,u30,u31,u32,u33,u34,u35,u36,u37,u38,u39,u40,u41,u42,u43,u44,u45,u46,u47,u48,u49,u50,u51,u52,u53,u54,u55,u56,u57,u58,u59,u60,u61,u62,u63,u64,u65,u66,u67,u68,u69,rfl,a⟩;rcases a with⟨e,f,rfl,rfl,q⟩|⟨e,f,u,w,rfl,x,rfl,y⟩
  ·go_wp2_with (first|(go_at_call 117;refine(XO q.o o.o.2).mono ?_;rintro b t ⟨j,z,N,M,rfl,h,a⟩;have B:=aj a;have v:=a.d;have C:=aj h;clear a h)|(go_at_call 120;refine(Um B.o o.o.2).mono ?_;rintro b m ⟨i,k,rfl,l,a⟩;have f:=aj (And.intro a l);clear l a)|(at_builtin;go_loud (refine fK rfl (.tmp 30) (.tmp 34) 24 rfl s.heap.size 30 6 zbZ rfl Y2 underlying24 (Z O 0 0) 0 [] rfl (aT _ _ _ _) (R ⟨m,0,O⟩) 1 1 [J U r,J U d.c,J U d.e,J U d.d,aO A,Z i d.b.length k] rfl rfl (fun c=>nomatch c) (bU.b (bH.d m 30 (qs r d.c d.e d.d A i d.b.length k))) (by simp[Value.oneCell']) (by unfold maxLen;omega) Y0 (by have:=f.o.1.a.b;simp;exact cZ this) ?_)));intro P Q D g n;obtain⟨u,S,F⟩:=eu g Y2;injection F with G T H;subst G H;have p:aJ m m D:=dZ (v:=Z O 0 0) ((ay _ _).alloc (aD _) _) (aD _) (fun V b=>by simp[Value.ownBlock]at b) n;have I:=aj (XP o.o.1 f.o.1 f.o.2 p g);clear g n p;go_wp2_with (go_at_call 119;refine I.o.mono ?_;rintro b W ⟨rfl,e⟩;have K:=aj e;clear e);go_step3;exact⟨rfl,⟨_,_,_,_,_,_,_,_,_,_,_,_,_,_,_,_,_,_,_,_,_,_,_,_,_,_,_,_,_,_,_,_,_,_,_,_,_,_,_,_,_,_,_,_,_,_,_,_,_,_,_,_,_,_,_,_,_,_,_,_,_,_,_,_,_,_,_,_,rfl,.inr ⟨j,_,_,_,rfl,C.o,rfl,K⟩⟩,by simp[zan]⟩
  ·go_wp2_with (go_at_call 117;refine(LH o.o.1 y.o x).mono ?_;rintro b t ⟨j,z,rfl,e⟩;have L:=aj e;clear e);simp only[Exit.jump];go_ret;exact⟨u,w,rfl,L.o⟩
structure FeQ (E:Fe) (z D:Nat) (w:aB):Prop where
 b:∃cs1 x3 x4 x5 x6 x7,bH w E.g E.t cs1∧P8 E.c E.o [J U 1,J U 24,Z (R ⟨z,0,O⟩) 24 D,x3,x4,x5,x6,x7] cs1
 a:bg [E.g] E.W w
 c:w.ownsRow E.W.heap.size 5 1 (Z (R ⟨z,0,O⟩) 24 D) 24 (dP E.r.b)
def Uo {b c:Nat} {a:aB} (d:FeQ E b c a):a.cell? ⟨E.g,E.o,O⟩=R (J U 1)∧a.cell? ⟨E.g,E.o+2,O⟩=R (Z (R ⟨b,0,O⟩) 24 c):=by obtain⟨c,e,f,g,h,i,a,b⟩:=d.b;exact⟨(a.a _).trans (b.a 0 _ rfl),(a.a _).trans (b.a 2 _ rfl)⟩
def Uq {b c:Nat} {g:aB} (a:FeQ E b c g) (i:E.r.b.length=24):aF au 34 #[Z (R ⟨b,0,O⟩) 24 c] g fun d h=>∃e f,d=av (Z e 24 f)∧FeQ E b c h∧h.ownsRow E.W.heap.size 5 1 (Z e 24 f) 24 (dP E.r.b):=by obtain⟨j,k,l,m,n,o,p,q⟩:=a.b;refine(jd (R ⟨b,0,O⟩) 24 c E.r.b g i Y2 (fun d=>nomatch d) (dD a.c)).mono ?_;rintro d h ⟨e,f,rfl,c,b⟩;exact⟨e,f,rfl,⟨⟨j,k,l,m,n,o,p.b b,q⟩,a.a.a (bg.d b (F:=[])) (fun d a=>.inl (by cases a)),dF a.c b⟩,dz c a.a.b⟩
def XQ {Y:Option aX} {D z C z' c:Nat} {w w5:aB} (g:E.r.b.length=24) (k:E.r.c= -1) (l:E.r.e=0) (m:E.r.d=0) (n:E.b=false) (a:E.g<E.W.heap.size) (a:FeQ E z D w) (h:w.ownsRow E.W.heap.size 5 1 (Z Y 24 C) 24 (dP E.r.b)) (d:aJ w w w5)
  (i:w5.ownsRow E.W.heap.size 30 6 (Z (R ⟨z',0,O⟩) 1 c) 1 [J U E.d,J U (-1),J U 0,J U 0,aO false,Z Y 24 C]):
  aF au 119 #[aK (R ⟨E.g,E.o,O⟩),J U 2,J U 9] w5 fun b f=>b=av (aN #[])∧YE E z' c f:=by
 obtain⟨o,p,q,r,s,t,j,e⟩:=a.b;refine mB (sG E.g E.o E.t o 2 9 w5 (j.b d) (by rw[e.b];exact e.d)) ?_;rintro f rfl;have f:bg [E.g] w5 (w5.setCells E.g E.o [J U 2,J U 9,Z O 0 0]):=bg.f Y1 _ _ _;refine⟨rfl,⟨_,_,_,_,_,_,bH.o _ _ _ _ (j.b d),e.c 0 [J U 2,J U 9,Z O 0 0] Y1⟩,(a.a.a (bg.d d (F:=[])) (fun e a=>.inl (by cases a))).a f (fun e a=>.inl a),Y,C,?_,?_⟩
 ·rw[k,l,m,n,g];exact bO i f (fun a b=>by have:=(i.lt a b).1;simp;omega)
 ·rw[g];exact bO (dF h d) f (fun a b=>by have:=(h.lt a b).1;simp;omega)
def Ur (h c:Nat) (g:bH E.W E.g E.t E.c) (i:E.o+8≤E.c.size) (l:E.c[E.o]?=R (J U 0)) (H:E.d=0) (j:E.r.b.length=24) (u:E.r.c= -1) (v:E.r.e=0) (w:E.r.d=0) (x:E.b=false) (p:24≤c) (m:c≤maxLen)
  (y:∀a,bg [E.g] E.W a→bU a (R ⟨E.a,h,O⟩) (dP E.r.b)):aF au 80 #[aK (R ⟨E.g,E.o,O⟩),J U 0,Z (R ⟨E.a,h,O⟩) 24 c] E.W (FeP E E.W):=by
 have n:=g.e;have z:Y (aF au 117 #[aK (R ⟨E.g,E.o,O⟩),Z (R ⟨E.a,h,O⟩) 24 c] (E.W.setCells E.g E.o [J U 1,J U 24,Z O 0 0]) fun a e=>∃f b d,a=av (aN #[Z (R ⟨E.a,f,O⟩) 0 (c-24),true])∧FeQ E b d e):=aj (by have o:∀k,k<8→∃q,E.c[E.o+k]?=R q:=fun k q=>⟨_,dA Y0⟩;obtain⟨q,k⟩:=o 1 Y2;obtain⟨r,q⟩:=o 2 Y2;obtain⟨r,s,t,A,B,o⟩:=P8.f i l k q;have k:=o.c 0 [J U 1,J U 24,Z O 0 0] Y1;have q:=bH.o [J U 1,J U 24,Z O 0 0] E.o _ _ g;have o:bg [E.g] E.W (E.W.setCells E.g E.o [J U 1,J U 24,Z O 0 0]):=bg.f Y1 _ _ _;refine(wN E.g E.o E.t _ 24 24 E.a h c E.r.b _ q (by rw[kV];exact i) (k.a 1 _ rfl) (k.a 2 _ rfl) j p Y2 Y2 (aD _) m (y _ o)).mono ?_;rintro a e ⟨f,q,d,rfl,_,p,h,t⟩;obtain⟨b,r,q⟩:=eu p Y2;injection q with r I s;subst r s;rw[bW Y0]at p;exact⟨f,b,d,rfl,⟨_,_,_,_,_,_,h,k.c 2 [Z (R ⟨b,0,O⟩) 24 d] Y1⟩,o.a t (fun k h=>.inl h),dz p o.b⟩)
 have A:=aj (Ao E.g E.o E.t E.c 0 E.W g i);have K:E.W.cell? ⟨E.g,E.o,O⟩=R (J U 0):=by rw[g.a];exact l
 have o:=fun(k:Option aX) (d b c C p:Nat) (e t:aB)=>aj (XQ (E:=E) (Y:=k) (D:=d) (z:=b) (C:=c) (z':=C) (c:=p) (w:=e) (w5:=t) j u v w x n);have C:=fun(b d:Nat) (e:aB) (h:FeQ E b d e)=>aj (Uq h j);have D:=aj (And.intro n m);obtain⟨e,F,L,M,S,N,P,Q,G⟩:=E;dsimp only at*;subst H;clear l g i j u v w x y n m;go_enter func80,ntmps80;go_wp2_with fail;refine wp_scope_jumps 0 (zbO ⟨e,F,L,M,0,N,P,Q,G⟩ e F 0) (fun l _=>2-zan (l.tmps.getD 7 bq)) rfl ?_ ?_
 ·go_wp2_with (go_at_call 116;refine A.o.mono ?_;rintro a m ⟨rfl,rfl⟩);go_step3;go_wp2_with (first|(go_at_call 117;refine z.o.mono ?_;rintro a m ⟨f,b,d,rfl,g⟩;have w:=aj g;obtain⟨x,y⟩:=Uo g;clear g)|(go_at_call 34;refine(C _ _ _ w.o).o.mono ?_;rintro a e ⟨k,n,rfl,u⟩;have i:=aj u;clear u)|(at_builtin;go_loud (refine fK rfl (.tmp 58) (.tmp 66) 24 rfl G.heap.size 30 6 zbZ rfl Y2 underlying24 (Z O 0 0) 0 [] rfl (aT _ _ _ _) (R ⟨e,0,O⟩) 1 1 [J U 0,J U (-1),J U 0,J U 0,aO false,Z k 24 n] rfl rfl (fun h=>nomatch h) (bU.b (bH.d e 30 #[J U 0,J U (-1),J U 0,J U 0,false,Z k 24 n])) (by simp[Value.oneCell']) (by unfold maxLen;omega) Y0 (by have:=i.o.1.a.b;simp;exact cZ this) ?_)));intro F H t j v;obtain⟨d,g,q⟩:=eu j Y2;injection q with r I s;subst r s;have d:aJ e e t:=dZ (v:=Z O 0 0) ((ay _ _).alloc (aD _) _) (aD _) (fun e a=>by simp[Value.ownBlock]at a) v;have e:=aj ((o _ _ _ _ _ _ _ _).o i.o.1 i.o.2 d j);have g:Y (c-24≤maxLen):=aj (by have:=D.o.2;omega);clear j v d o;go_wp2_with (go_at_call 119;refine e.o.mono ?_;rintro a h ⟨rfl,c⟩;have d:=aj c;clear c);go_step3;exact⟨rfl,⟨_,_,_,_,_,_,_,_,_,_,_,_,_,_,_,_,_,_,_,_,_,_,_,_,_,_,_,_,_,_,_,_,_,_,_,_,_,_,_,_,_,_,_,_,_,_,_,_,_,_,_,_,_,_,_,_,_,_,_,_,_,_,_,_,_,_,_,_,rfl,f,_,_,_,rfl,g.o,rfl,d⟩⟩
 ·clear K z A o C;rintro l B ⟨g,h,u3,u4,u5,u6,u8,u9,u10,u11,u12,u13,u14,u15,u16,u17,u18,u19,u20,u21,u22,u23,u24,u25,u26,u27,u28,u29,u30,u31,u32,u33,u34,u35,u36,u37,u38,u39,u40,u41,u42,u43,u44,u45,u46,u47,u48,u49,u50,u51,u52,u53,u54,u55,u56,u57,u58,u59,u60,u61,u62,u63,u64,u65,u66,u67,u68,u69,rfl,i,j,b,p,rfl,d,rfl,e⟩;go_wp2_with (go_at_call 117;refine(LH D.o.1 e.o d).mono ?_;rintro a m ⟨f,h,rfl,c⟩;have g:=aj c;clear c);simp only[Exit.jump];go_ret;exact⟨b,p,rfl,g.o⟩
end
def zO:Array aI:=qu
def xI (m:Mo) (r:Rw) (mb k:Nat) (L:List Nat) (b:aB) (g:Ending) (a:aB):Prop:=∃d e f c,
 g=av (aN #[aS #[J U (dH m r).2.1.k,d,e,f],J U (dH m r).2.2])∧Ay a mb (dH m r).1 (k+5) c∧gG L c b a∧((dH m r).1.a=true→c=[mb])∧
 a.ownsRow b 91 2 d (dH m r).2.1.a.length (bN (dH m r).2.1.a)∧a.ownsRow b 3 1 e (dH m r).2.1.b.length ((dH m r).2.1.b.map (J U))∧a.ownsRow b 93 3 f (dH m r).2.1.c.length (dx (dH m r).2.1.c)
section
variable {W:aB} {mb k:Nat} {m:Mo} {L:List Nat} {r:Rw} {res:Bool} {A:Option aX} {C:Nat}
def zch {c:Nat} {a:Bool} (b:bH W mb 77 #[qp c,a]):aF au 25 #[qp mb] W fun c d=>c=av a∧d=W:=by obtain⟨a,c⟩:=bH.m b;clear b;go_enter func25,ntmps25;go_wp2;go_ret;exact Y5
def iO (a:aB) (b:Nat) (c:bB) (d:Nat):a.ownsRow b c d (Z O 0 0) 0 []:=aT ..
def Oq (a:Ay W mb m k L) (e:m.a=true):aF au 13 #[qp mb,fO r.a r.c r.e r.d res A r.b.length C] W (xI m r mb k L W):=by
 obtain⟨h,a⟩:=a;have g:=a.c;have i:=a.c.e;rw[e]at g;have c:dH m r=(m,.d,8):=by unfold dH;rw[aP e]
 have j:Y (∀d,bg [] W d→xI m r mb k L W (av (aN #[aS qu,J U 8])) d):=aj fun d b=>by refine⟨Z O 0 0,Z O 0 0,Z O 0 0,[mb],by rw[c];rfl,?_,⟨⟨b.p,b.q,b.r,b.b,fun d f _=>b.m d f Y1⟩,fun f d=>.inl (by rw[aC.1 d];exact a.a)⟩,fun _=>rfl,by rw[c];exact iO ..,by rw[c];exact iO ..,by rw[c];exact iO ..⟩;rw[c];exact⟨h,a.c.g b Y1,Y1,fun f d=>by rw[aC.1 d];exact aV i b.b,fun f d=>by rw[aC.1 d];exact a.d _ a.a,fun h=>by rw[e]at h;cases h⟩
 have b:=aj (gU W 30 (qr r res A r.b.length C));have d:=aj (gU (W.alloc (.cells (qr r res A r.b.length C) 30)) 52 zO);have l:=aj (zch (W:=(W.alloc (.cells (qr r res A r.b.length C) 30)).alloc (.cells zO 52)) (g.b (b.o.1.trans (d.o.1.mono b.o.1.size))));have f:=aj (And.intro b.o.1 d.o.1);unfold fO zO at*;have n:Y (bH ((W.alloc (.cells (qr r res A r.b.length C) 30)).alloc (.cells qu 52)) (W.heap.size+1) 52 qu):=aj (by have:=d.o.2;rwa[show(W.alloc (.cells (qr r res A r.b.length C) 30)).heap.size=W.heap.size+1 by simp]at this)
 have o:=aj (j.o _ (bg.d (f.o.1.trans (f.o.2.mono f.o.1.size))));clear a g e c i b j f d;go_enter func13,ntmps13;go_wp2_with (go_at_call 25;refine l.o.mono ?_;rintro h a ⟨rfl,rfl⟩);exact aG (v:=aN #[aS qu,J U 8]) (eH results13 (W.heap.size+1) rfl n.o underlying52 rfl Y3) rfl o.o
end
structure PtR (cs:Array aI) (o:Nat) (f:Bool):Prop where
 w:cs[o]?=R (J U (if f then 0 else 2))
 n:f=false→cs[o+1]?=R (J U 9)
 h:cs[o+2]?=R (Z O 0 0)
structure LJ (cs:Array aI) (f0 f1:Bool):Prop where
 c:cs.size=16
 a:PtR cs 0 f0
 b:PtR cs 8 f1
def Z8:Array aI:=#[J U 0,J U 0,Z O 0 0,J U 0,J U 0,J U 0,J U 0,false,J U 0,J U 0,Z O 0 0,J U 0,J U 0,J U 0,J U 0,false]
def OA (a:aB):aF au 39 #[] a fun c b=>c=av (aK (R ⟨a,0,O⟩))∧bH b a 178 Z8∧aJ a a b:=by have b:=aj (gU a 178 Z8);unfold Z8 at*;go_enter func39,ntmps39;go_wp2;go_ret;exact⟨rfl,b.o.2,b.o.1⟩
def zbh:LJ Z8 true true:=⟨rfl,⟨rfl,fun a=>(by cases a),rfl⟩,⟨rfl,fun a=>(by cases a),rfl⟩⟩
def Ap (b:Nat) (h:Array aI) (e f:Bool) (g:Int) (i:g=0∨g=1) (a:aB) (c:bH a b 178 h) (d:LJ h e f):aF au 47 #[qp b,g] a fun g h=>g=av (J U 0)∧h=a:=by
 have g:a.cell? ⟨b,0,O⟩=R (J U (if e then 0 else 2)):=(c.a _).trans d.a.w;have h:a.cell? ⟨b,2,O⟩=R (Z O 0 0):=(c.a _).trans d.a.h;have h:a.cell? ⟨b,8,O⟩=R (J U (if f then 0 else 2)):=(c.a _).trans d.b.w;have j:a.cell? ⟨b,10,O⟩=R (Z O 0 0):=(c.a _).trans d.b.h;clear c d;rcases i with rfl|rfl<;>cases e<;>cases f
 all_goals
  simp only[Bool.false_eq_true,if_false,if_true]at g h;go_enter func47,ntmps47;go_wp2;go_ret;exact Y5
structure CkB (f0 f1:Bool) (r:Rw):Prop where
 b:r.a=0∨r.a=1
 d:r.c= -1→r.a=0∧f0=true∧r.b.length=24∧r.e=0∧r.d=0
 e:r.c≠ -1→gK r.b.length r.c r.e r.d=true∧(r.a=0→f0=false)
 a:r.b.length≤300
 c:gZ r.b
structure CfQ (cb:Nat) (f0 f1:Bool) (r:Rw) (res:Bool) (base:Nat) (z c:Nat) (w w':aB):Prop where
 a:∃cs',bH w' cb 178 cs'∧LJ cs' (f0&&r.a !=0) (f1&&r.a !=1)
 b:bg [cb] w w'
 d:∃X D,w'.ownsRow base 30 6 (Z (R ⟨z,0,O⟩) 1 c) 1 [J U r.a,J U r.c,J U r.e,J U r.d,aO (res&&r.c != -1),Z X r.b.length D]∧w'.ownsRow base 5 1 (Z X r.b.length D) r.b.length (dP r.b)
def zbi {h c i j:Nat} {d e:Bool} {a:Rw} {k:Bool} {n:Nat} {l:Array aI} {f m:aB} (b:LJ l d e) (o:a.a=0∧c=0∨a.a=1∧c=8) (g:YE ⟨h,c,178,l,a.a,a,k&&a.c != -1,n,f⟩ i j m):CfQ h d e a k f.heap.size i j f m:=by
 obtain⟨f,i,j,k,l,m,h,a⟩:=g.a;refine⟨⟨f,h,?_⟩,g.b,g.d⟩;have g:PtR f c false:=⟨a.a 0 _ rfl,fun _=>a.a 1 _ rfl,a.a 2 _ rfl⟩;rcases o with⟨c,rfl⟩|⟨c,rfl⟩
 ·rw[c];refine⟨a.b.trans b.c,Y6 g,?_⟩;have:(e&&(0:Int) !=1)=e:=Y1;rw[this];exact⟨(a.e 8 (.inr (by show 0+8≤8;decide))).trans b.b.w,fun e=>(a.e 9 (.inr (by show 0+8≤9;decide))).trans (b.b.n e),(a.e 10 (.inr (by show 0+8≤10;decide))).trans b.b.h⟩
 ·rw[c];refine⟨a.b.trans b.c,?_,Y6 g⟩;have:(d&&(1:Int) !=0)=d:=Y1;rw[this];exact⟨(a.e 0 (.inl (by show 0<8;decide))).trans b.a.w,fun e=>(a.e 1 (.inl (by show 1<8;decide))).trans (b.a.n e),(a.e 2 (.inl (by show 2<8;decide))).trans b.a.h⟩
def OB {f g l m h:Nat} {n o:Bool} {a:Rw} {b:Bool} {j:Array aI} {c:aB} (v:bH c f 178 j) (k:LJ j n o) (w:CkB n o a) (p:a.a=0∧g=0∨a.a=1∧g=8) (x:(eY a b).length≤h) (C:h≤maxLen)
  (y:∀d,bg [f] c d→bU d (R ⟨l,m,O⟩) (dP (eY a b))):
  aF au 80 #[aK (R ⟨f,g,O⟩),a.a,Z (R ⟨l,m,O⟩) (eY a b).length h] c fun q r=>∃d e,q=av (Z (R ⟨d,0,O⟩) 1 e)∧CfQ f n o a b c.heap.size d e c r:=by
 have i:=k.c;have D:g+8≤j.size:=by rcases p with⟨_,rfl⟩|⟨_,rfl⟩<;>omega
 by_cases i:a.c= -1
 ·obtain⟨s,z,B,E,F⟩:=w.d i;obtain rfl:g=0:=by rcases p with t|t;exact t.2;omega
  have u:eY a b=a.b:=by unfold eY;rw[aP i]
  have A:(b&&a.c != -1)=false:=by rw[i];simp
  rw[u]at y x⊢;rw[B]at x⊢;have:=Ur (E:=⟨f,0,178,j,a.a,a,b&&a.c != -1,l,c⟩) m h v D (by have:=k.a.w;rw[z]at this;exact this) s B i E F A x C y;dsimp only at this;rw[s]at this⊢;refine this.mono ?_;rintro q r ⟨d,e,rfl,x⟩;exact⟨d,e,rfl,zbi k p (by rw[s];exact x)⟩
 ·obtain⟨s,z⟩:=w.e i;have u:eY a b=fA a.b.length a.c a.e a.d b++a.b:=by unfold eY;rw[aL i]
  have F:(eY a b).length=9+a.b.length:=by rw[u,bL,(eD _ _ _ _ _).1]
  have A:(b&&a.c != -1)=b:=by simp[i]
  have E:∀i,PtR j g i→(i=true→a.a=1)→aF au 80 #[aK (R ⟨f,g,O⟩),a.a,Z (R ⟨l,m,O⟩) (eY a b).length h] c fun q r=>∃d e,q=av (Z (R ⟨d,0,O⟩) 1 e)∧CfQ f n o a b c.heap.size d e c r:=fun i B G=>by rw[F];have:=Un (E:=⟨f,g,178,j,a.a,a,b&&a.c != -1,l,c⟩) i m h v ⟨D,s,w.a,by show 9+a.b.length≤h;omega,C,v.e,by dsimp only;rw[A,←u];exact y⟩ B.w B.n (fun _=>B.h) G;refine this.mono ?_;rintro q r ⟨d,e,rfl,x⟩;exact⟨d,e,rfl,zbi k p x⟩
  rcases p with⟨a,rfl⟩|⟨b,rfl⟩
  ·exact E n k.a (fun t=>by rw[z a]at t;cases t)
  ·exact E o k.b (fun _=>b)
def XR (c b:aB) (f:Nat) (g h:Bool) (i:Rw) (j:Bool):Nat→List Kg→aB→Prop
 |0,_,a=>aJ b b a
 |1,[k],a=>∃d e b,k=(R ⟨d,0,O⟩,1,e)∧aJ c c b∧CfQ f g h i j b.heap.size d e b a
 |_,_,_=>False
def CfP (d:Nat) (e f:Bool) (g:Rw) (h:Bool) (a:aB) (i:Ending) (j:aB):Prop:=∃b c,i=av (aN #[Z (R ⟨b,0,O⟩) 1 c,J U 0])∧CfQ d e f g h a.heap.size b c a j
def JH {h n o j:Nat} {k l:Bool} {a:Rw} {e:Bool} {b:Array aI} {f:aB} (y:bH f h 178 b) (z:LJ b k l) (w:CkB k l a) (A:(eY a e).length≤j) (B:j≤maxLen)
  (C:∀c,bg [h] f c→bU c (R ⟨n,o,O⟩) (dP (eY a e))):
  aF au 42 #[qp h,aS #[a.a,Z (R ⟨n,o,O⟩) (eY a e).length j]] f (CfP h k l a e f):=by
 have g:=aj (gU f 63 #[a.a,Z (R ⟨n,o,O⟩) (eY a e).length j]);obtain⟨d,q⟩:=exq (f.alloc (.cells #[a.a,Z (R ⟨n,o,O⟩) (eY a e).length j] 63));rw[q]at g;have p:Y (∀m b,aJ f f m→(a.a=0∧b=0∨a.a=1∧b=8)→aF au 80 #[aK (R ⟨h,b,O⟩),a.a,Z (R ⟨n,o,O⟩) (eY a e).length j] m fun v x=>∃r,v=av (kg r)∧XR f d h k l a e 1 [r] x):=aj (fun m b i s=>by refine(OB (y.b i) z w s A B (fun c b=>C c ((bg.d i (F:=[h])).a b (fun D b=>.inl b)))).mono ?_;rintro v x ⟨t,u,rfl,s⟩;exact⟨(R ⟨t,0,O⟩,1,u),rfl,t,u,m,rfl,i,s⟩)
 have v:Y (∀r m,XR f d h k l a e 1 [r] m→CfP h k l a e f (av (aN #[kg r,J U 0])) m):=aj (fun r m b=>by obtain⟨t,u,m,rfl,i,s⟩:=b;obtain⟨m,r,x,E⟩:=s.d;exact⟨t,u,rfl,s.a,(bg.d i (F:=[h])).a s.b (fun D b=>.inl b),m,r,dz x i.size,dz E i.size⟩)
 obtain⟨D,m⟩:=exq ((eY a e).length);rw[m]at g p⊢;have s:=w.b;have r:=aj s;clear y z w A B C;rw[m]at q;clear m;obtain⟨r,y⟩:=bH.m g.o.2;rcases s with m|x
 ·rw[m]at r g q p⊢;go_enter func42,ntmps42;go_upto_region 5 with fail;try rw[q]
  refine Ui (Ph:=XR f d h k l a e) (A:=R ⟨n,o,O⟩) (n:=D) (C:=j) ((ay _ d).drew) (fun c b=>?_) (fun c b=>?_) ?_
  ·obtain⟨s,z,_,A,b⟩:=b;obtain rfl:s=0:=Y0;have i:=b;exact bH.m (g.o.2.b i)
  ·exact p.o c 0 (g.o.1.trans (Below.mono (show aJ d d c from b) g.o.1.size)) (.inl Y5)
  ·intros;rename_i t u m;have w:=aj (v.o t u m);clear m g p v r y;dsimp only[Exit.then];go_wp2;go_ret2;exact w.o
 ·rw[x]at r g q p⊢;go_enter func42,ntmps42;go_upto_region 5 with fail;try rw[q]
  refine Uj (Ph:=XR f d h k l a e) (A:=R ⟨n,o,O⟩) (n:=D) (C:=j) ((ay _ d).drew) (fun c b=>?_) (fun c b=>?_) ?_
  ·obtain⟨s,z,_,A,b⟩:=b;obtain rfl:s=0:=Y0;have i:=b;exact bH.m (g.o.2.b i)
  ·exact p.o c 8 (g.o.1.trans (Below.mono (show aJ d d c from b) g.o.1.size)) (.inr Y5)
  ·intros;rename_i t u m;have w:=aj (v.o t u m);clear m g p v r y;dsimp only[Exit.then];go_wp2;go_ret2;exact w.o
end Go.Proofs.YtdcacpeaimjdlaaGreatDoor
