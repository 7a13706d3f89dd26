/- Part of the proof. -/
import Derived.Test.YtdcacpeaimjdlaaGreatDoorPar
import Derived.Lib.AppendZeros
namespace Go.Proofs.YtdcacpeaimjdlaaGreatDoor
open Go.RowKit Go.Maps Go.Proofs.Tryz Mq MFr MRw
open Go.Value renaming int→J,slice→Z,string→aA,pointer→aK,bool→aO,tuple→aN,agg→aS,complex→aH
open Go.IntKind renaming i64→U
open Option renaming none→O,some→R
open Go.Ending renaming returned→av
open Go renaming World→aB,Value→aI,Calls→aF,Addr→aX,TypeId→bB,undef→bq
open Go.RowKit renaming Below→aJ
open Go.Proofs.Tryz renaming prog→au
open Go.FloatKind renaming f64→aW
set_option maxRecDepth 20000
set_option maxHeartbeats 0
set_option linter.all false
variable {J0 J1 J2 J3 J4 J5 J6 J7 J8 J9 M0 M1 M2 M3 M4 M5 N0 N1 N2 N3 N4 N5 N6 N7 N8 N9 O0 O1 O2 O3 O4 O5 O6 O7 O8 O9 Q0 Q1 Q2 Q3 Q4 Q5 Q6 Q7 Q8 Q9 R0 R1 R2 R3 R4 R5 R6 R7 R8 R9 T0 T1 T2 T3 T4 T5 T6 T7 T8 T9 X0 X1 X2 X3 X4 X5 X6 X7 X8 X9 u4 u5 u6 u7 u8 u9:aI}
def qm {P:Program} {n:Array Oper} {a:Oper} {b:Act} {w:aB} {m:Act→aB→Prop} {o:Exit→Act→aB→Prop} {q:Prop} (r:a.guard=O) (d e:Operand) (f g:bB) (s:a.op=.call {callee:=.builtin .append,args:=#[d,e],argTypes:=#[f,g]})
  (h i:aI) (t:b.eval d=h) (u:b.eval e=i) (j:aI) (l:aB) (v:(Builtin.append_ #[f,g] a.type #[h,i]).run P w=.ok j l) (x:m (b.put a.dst j) l):if Region.wanted a (yielded n b.tmps)=true then Oper.wp P a b w m o else q:=by rw[aP (by simp[Region.wanted,r])];exact Go.Lib.wp_append_run w d e f g s h i t u j l v x
def SY (a b c d e f:Int) (w:aB):(Instr.field 213 (aS #[a,b,c,d,e,f]) 0).run au w=.ok (J U a) w:=by kernel_rfl
def Xg (c:Co) (P:Pt) (a:Int):gV (sN c P) 10 [J U a,aO true]=sN (c.b 0 {c.p 0 with i:=a,e:=true}) P:=by kernel_rfl
def Xh (c:Co) (P:Pt) (a:Int):gV (sN c P) 22 [J U a,aO true]=sN (c.b 1 {c.p 1 with i:=a,e:=true}) P:=by kernel_rfl
def Oa {W:aB} {c:Co} {P:Pt} {d:Option fq} {F:Nat→List Nat} {e:Nat} {b:Int} (a:Int) (g:oF b e) (f:lX W c P d F):Cp (c.b b {c.p b with i:=a,e:=true}) P d F W (W.setCells P.g (e+4) [J U a,aO true]):=by
 rcases g with⟨rfl,rfl⟩|⟨rfl,rfl⟩
 ·exact f.m _ 10 (Xg c P a) rfl
 ·exact f.m _ 22 (Xh c P a) rfl
section
variable {w W:aB} {c:Co} {P:Pt} {F:Nat→List Nat} {L:List Ow} {p:fq} {k:Nat}
def Ob (b:St c P (R p) F w L W) (ho:dU c k) (hp:jh P k) (hk:k≤900) (h:iZ p.x) (V:p.x.r.c=4) (G:p.x.w=(0,0)) (n:iU p.x.r.c p.x.r.e=false→(c.p (1-p.x.r.a)).q.c<(c.p (1-p.x.r.a)).q.b):
  aF au 107 #[qp P.g,qp p.b] W (Lh (jf c p.x) P (R p) F w L k):=by
 have I:=dN h.a;have o:p.x.r.c≠ -1:=Y0;have z:=h.c G o;have K:=h.b o;have g0:=z.d;obtain⟨a,i⟩:=exq p.x.r.a;obtain⟨t,j⟩:=exq (iU p.x.r.c p.x.r.e);rw[i]at I n;obtain⟨u,E⟩:=oF.a I;have q:1-a=0∨1-a=1:=Y0;obtain⟨D,v⟩:=oF.a q;have l:Y (∀W,St c P (R p) F w L W→W.cell? ⟨p.b,0,O⟩=R (J U a)∧W.cell? ⟨p.b,1,O⟩=R (J U p.x.r.c)∧W.cell? ⟨p.b,2,O⟩=R (J U p.x.r.e)∧W.cell? ⟨p.b,3,O⟩=R (J U p.x.r.d)∧W.cell? ⟨p.b,4,O⟩=R (aO p.m)∧W.cell? ⟨p.b,5,O⟩=R (Z p.h p.x.r.b.length p.i)):=aj fun W d=>by obtain⟨F',A⟩:=d.f;have A:=A.a;exact⟨by rw[←i];exact A.a 0,A.a 1,A.a 2,A.a 3,A.a 4,A.a 5⟩
 have x:Y (∀W,aF au 89 #[aS (qs a p.x.r.c p.x.r.e p.x.r.d p.m p.h p.x.r.b.length p.i)] W fun e g=>e=av t∧aJ W W g):=aj fun W=>by rw[←j];exact sj a _ _ _ _ _ _ _ W Y0
 have f:=aj (And.intro ho (And.intro hp (And.intro hk (And.intro g0 (And.intro (fun e=>n (j.trans e)) (And.intro I q))))));have X:Y (jf c p.x=if t then(if(c.p a).q.b- (c.p a).q.c≥c.a.e then(c,false)else(c.b a {c.p a with q:=(c.p a).q.f p.x.f.i,c:=(c.p a).c++[((c.p a).q.f p.x.f.i).e.d]},true))
  else(let r:=c.p (1-a);let N:=r.c.headD 0;let s:=c.b (1-a) {r with q:=r.q.h,c:=r.c.drop 1};let m:=s.p a;(if N<m.t.a∧(m.e=false∨N<m.i)then s.b a {m with i:=N,e:=true}else s,true))):=aj (by unfold jf;rw[j,i])
 have m:=aj b;obtain⟨y,B,C,H,M,Q⟩:=l.o _ b;clear b ho hp hk h V G n o z K g0 i j;go_enter func107,ntmps107;go_upto_region 1 with fail;go_cut [5,6] (fun a0 h G=>a0=aK (R ⟨P.g,u,O⟩)∧h=aK (R ⟨P.g,D,O⟩)∧Y (St c P (R p) F w L G));case first=>
  clear l x f X;rcases E with⟨rfl,rfl⟩|⟨rfl,rfl⟩
  ·obtain rfl:D=18:=by rcases v with⟨b,_⟩|⟨_,b⟩;omega;exact b
   have h:U.wrap (1-0)=1:=rfl;have i:U.wrap 1=1:=rfl;clear v I q;go_quiet (fail);go_wp2;go_meet;exact⟨rfl,rfl,aj (m.o.n nq)⟩
  ·obtain rfl:D=6:=by rcases v with⟨_,b⟩|⟨b,_⟩;exact b;omega
   have h:U.wrap (1-1)=0:=rfl;have i:U.wrap 0=0:=rfl;clear v I q;go_quiet (fail);go_wp2_with fail;go_meet;exact⟨rfl,rfl,aj (m.o.n nq)⟩
 case rest=>
  obtain⟨rfl,rfl,h⟩:=hcut;clear m y B C H M Q;obtain⟨y,B,C,H,M,Q⟩:=l.o _ h.o;go_wp2_with fail;refine mB (x.o _) fun w2 hb=>?_;have K:=aj (h.o.a hb);clear hb h x l y B C H M Q I q;cases t
  ·obtain⟨h,hu⟩:=exq (1-a);rw[hu]at v;obtain⟨B,t⟩:=exq ((c.p h).c);obtain⟨m,y⟩:=exq B.length;obtain⟨l,hC⟩:=exq ((P.q h).g);obtain⟨n,i0⟩:=exq (B.headD 0);have q:h=0∨h=1:=by rw[←hu];exact f.o.2.2.2.2.2.2
   have i:1≤m:=by have i:=f.o.2.2.2.2.1 rfl;have j:=(f.o.1.a (1-a)).c;rw[←y,←t,←hu];omega
   have l0:B[0]?=R n:=by
    cases B with
    |nil=>rw[←y]at i;simp at i
    |cons j0 o=>rw[←i0];rfl
   obtain⟨Q,S,C⟩:∃M r,(P.q h).e=R ⟨M,r,O⟩:=by
    obtain⟨F2,j⟩:=K.o;have o:=j.a.r q;cases C:(P.q h).e with
    |none=>have:=(o.c C).1;rw[t]at this;rw[←y,this]at i;simp at i
    |some j0=>obtain⟨M,r,x⟩:=j0;have x:=(o.b _ C).1;dsimp only at x;exact⟨M,r,by rw[x]⟩
   obtain⟨H,h0⟩:=exq (c.b h {c.p h with q:=(c.p h).q.h});have m0:ko h=true:=by rcases q with b|b<;>rw[b]<;>rfl
   have b0:H.p h={c.p h with q:=(c.p h).q.h}:=by rw[←h0];exact Sc c m0 _
   have c0:Y (aF au 155 #[aK (R ⟨(P.q h).d,0,O⟩)] w2 fun e g=>(∃d0,e=av d0)∧St H P (R p) F w L g):=aj (by rw[←h0];exact ZW q K.o f.o.1 f.o.2.2.1);have T:Y (∀W,St H P (R p) F w L W→(W.cell? ⟨P.g,D+7,O⟩=R (Z (R ⟨Q,S,O⟩) m l)∧W.cell? ⟨Q,S,O⟩=R (J U n))∧m≤l∧∀e0,W.frozen? ⟨P.g,e0,O⟩=false):=aj fun W d=>by have j:=(ql v d.d).2.2.1;rw[b0]at j;dsimp only at j;rw[C,t,y,hC]at j;obtain⟨F2,x⟩:=id d;have o:=x.a.r q;rw[b0]at o;dsimp only at o;rw[t,hC,C]at o;obtain⟨_,_,cs,k1,k2,k3⟩:=o.b _ rfl;refine⟨⟨j,?_⟩,by have:=o.d;omega,d.d.c⟩;have:=k3 0 n l0;rw[k1.a];exact this
   have f0:Y (∀W A',St H P (R p) F w L W→(if l=1 then(R ⟨Q,S,O⟩:Option aX)else R ⟨Q,S+1,O⟩)=A'→xU (c.b h {c.p h with q:=(c.p h).q.h,c:=B.drop 1}) P (R p) F w L k (W.setCell ⟨P.g,D+7,O⟩ (Z A' (m-1) (l-1)))):=aj fun W A' d H=>by
    obtain⟨F2,x⟩:=d;have o:=x.a.r q;rw[b0]at o;dsimp only at o;rw[t,hC,C]at o;have n0:=o.d;obtain⟨_,k0,cs,k1,k2,k3⟩:=o.b _ rfl;dsimp only at k0 k1 k2 k3;have e1:(B.drop 1).length=m-1:=by rw[bT,y]
    have o0:OT W A' (l-1) (B.drop 1) (F2 (iT h)):=by
     refine⟨(fun b=>by rw[←H]at b;split at b<;>cases b),by rw[e1];omega,fun j0 o=>?_⟩;rw[←H]at o;by_cases H:l=1
     ·rw[aP H]at o;injection o with o;subst o;refine⟨rfl,k0,cs,k1,by dsimp only;omega,fun j0 d0 hj=>?_⟩;rw[bQ (by rw[e1];omega)]at hj;cases hj
     ·rw[aL H]at o;injection o with o;subst o;refine⟨rfl,k0,cs,k1,by dsimp only;omega,fun j0 d0 hj=>?_⟩;rw[List.getElem?_drop]at hj;have:=k3 (1+j0) d0 hj;rw[←this];congr 1;dsimp only;omega
    have:=x.d (Li v x.a (gG.e _ _) (x.a.h.a _) o0);rw[e1,b0,←h0,Dn]at this;exact⟨_,.f q _ _,f.o.2.1.f q _ _,this⟩
   have y6:w2.cell? ⟨P.g,D+6,O⟩=R (aK (R ⟨(P.q h).d,0,O⟩)):=(ql v K.o.d).2.1;obtain⟨o,D⟩:=exq (c.b h {c.p h with q:=(c.p h).q.h,c:=B.drop 1});have q:Y (jf c p.x=(if n<(o.p a).t.a∧((o.p a).e=false∨n<(o.p a).i)then o.b a {o.p a with i:=n,e:=true}else o,true)):=aj (by rw[X.o,aL Y2];dsimp only;rw[hu,t,i0,D])
   rw[D]at f0;clear X K t y hC i0 C h0 b0 m0 D l0 hu;go_wp2_with fail;refine c0.o.mono ?_;rintro e C ⟨⟨d0,rfl⟩,h⟩;have C:=aj h;obtain⟨⟨y7,y0⟩,b0,yf⟩:=T.o _ h;clear h c0 T y6;have d0:(1:Int)≤m:=Y0;have h0:(m:Int)≤l:=Y0;go_upto_region 10 with fail;go_cut [7] (fun a0 G=>a0=J U n∧Y (xU o P (R p) F w L k G));case first=>
    clear f q;go_wp2_with fail;all_goals
     go_meet;first|(have H:l=1:=(by assumption);have:=f0.o _ (R ⟨Q,S,O⟩) C.o (aP H);rw[show l-1=0 by omega]at this;exact⟨rfl,aj this⟩)|exact⟨rfl,aj (f0.o _ (R ⟨Q,S+1,O⟩) C.o (aL (by assumption)))⟩|exact⟨rfl,hide (f0.out _ _ C.out rfl)⟩
   case rest=>
    obtain⟨rfl,D⟩:=hcut;clear f0 C y7 y0 b0 yf d0 h0;obtain⟨P1,Q,S,h⟩:=D.o;have f0:=aj (And.intro Q (And.intro S h));have h5:=(ql E h.d).1;rw[Q.g]at h5;obtain⟨_,_,_,y3,y4,y5⟩:=h5;have yf:=h.d.c;rw[Q.g]at yf;have b0:Y (∀W,W=wc→aF au 156 #[aK (R ⟨(P1.q a).h,0,O⟩)] W fun e g=>e=av (J U (o.p a).t.a)∧g=W):=aj fun W d=>by rw[d];exact ZX f.o.2.2.2.2.2.1 h
    have HB:Y (xU (o.b a {o.p a with i:=n,e:=true}) P (R p) F w L k ((wc.setCell ⟨P.g,u+4,O⟩ (J U n)).setCell ⟨P.g,u+5,O⟩ (aO true))):=aj (by obtain⟨F3,h6⟩:=h;have:=h6.d (Oa n E h6.a);rw[Q.g]at this;exact⟨P1,Q,S,this⟩)
    clear Q S h f0;obtain⟨mx,h⟩:=exq ((o.p a).t.a);obtain⟨Q,S⟩:=exq ((o.p a).e);obtain⟨bo,d0⟩:=exq ((o.p a).i);rw[h,S,d0]at q;rw[h]at b0;rw[d0]at y4;rw[S]at y5;clear h S d0;go_wp2_with fail;refine mB (b0.o _ rfl) ?_;rintro S rfl;clear b0;by_cases i:n<mx
    ·have o:(Q=false∨n<bo)→Lh (jf c p.x) P (R p) F w L k (av true) ((S.setCell ⟨P.g,u+4,O⟩ (J U n)).setCell ⟨P.g,u+5,O⟩ (aO true)):=fun j=>by refine⟨by rw[q.o],?_⟩;rw[q.o,aP ⟨i,j⟩];exact HB.o
     have b0:¬(Q=false∨n<bo)→Lh (jf c p.x) P (R p) F w L k (av true) S:=fun j=>by refine⟨by rw[q.o],?_⟩;rw[q.o,aL (fun b=>j b.2)];exact D.o
     have h:=aj (And.intro o b0);clear o b0 HB D q f;cases Q
     ·go_wp2;go_ret;exact h.o.1 Y1
     ·by_cases j:n<bo
      ·go_wp2;go_ret;exact h.o.1 (.inr j)
      ·go_wp2;go_ret;exact h.o.2 (by simp;omega)
    ·have h:Y (Lh (jf c p.x) P (R p) F w L k (av true) S):=aj ⟨by rw[q.o],by rw[q.o,aL (fun b=>i b.1)];exact D.o⟩;clear HB D q f;go_wp2;go_ret;exact h.o
  ·have q:=aj (X.o.trans (aP rfl));clear X v;obtain⟨n,b0⟩:=exq ((c.p a).q.b);obtain⟨ak,d0⟩:=exq ((c.p a).q.c);obtain⟨o,h0⟩:=exq c.a.e;obtain⟨Q,i0⟩:∃Q:Bool,Q=decide (o≤n-ak):=⟨_,rfl⟩;obtain⟨h,z⟩:∃h:aB→Prop,∀W,jB h W=(W.cell? ⟨P.g,u+6,O⟩=R (aK (R ⟨(P.q a).d,0,O⟩))∧W.cell? ⟨P.g,3,O⟩=R (J U o)):=⟨_,fun _=>rfl⟩;have o:Y (∀W,St c P (R p) F w L W→jB h W):=aj fun W d=>by rw[z,←h0];exact⟨(ql E d.d).2.1,d.d.a 3⟩
   have l0:Y (∀W,St c P (R p) F w L W→aF au 151 #[aK (R ⟨(P.q a).d,0,O⟩)] W fun e g=>e=av n∧jB h g∧Y (St c P (R p) F w L g)):=aj fun W d=>by rw[←b0];refine mB (Le d f.o.1 f.o.2.2.1 a) fun g b=>?_;exact⟨rfl,o.o _ b,aj b⟩
   have c0:Y (∀W,St c P (R p) F w L W→aF au 152 #[aK (R ⟨(P.q a).d,0,O⟩)] W fun e g=>e=av ak∧jB h g∧Y (St c P (R p) F w L g)):=aj fun W d=>by rw[←d0];refine mB (Gi d a) ?_;rintro g rfl;exact⟨rfl,o.o _ d,aj d⟩
   have X:Y ((Q=true→jf c p.x=(c,false))∧(Q=false→jf c p.x=(c.b a {c.p a with q:=(c.p a).q.f p.x.f.i,c:=(c.p a).c++[((c.p a).q.f p.x.f.i).e.d]},true))):=aj (by rw[q.o,b0,d0,h0,i0];exact⟨fun b=>aP (Y6 b),fun b=>aL (Y6 b)⟩)
   have o0:U.wrap (n-ak)=n-ak:=by have i:=(f.o.1.a a).q;have j:=i.b;have x:=i.e;have V:=i.f;have h5:=f.o.2.2.1;rw[b0]at j V;rw[d0]at x V;rw[IntKind.wrap_i64];omega
   have j0:=fun W (b:jB h W)=>by rw[z]at b;exact b
   have k0:=o.o _ K.o.e;have m0:=aj i0;clear z o q b0 d0 h0 i0;go_upto_region 3 with fail;go_cut [48] (fun a0 G=>a0=aO Q∧Y (St c P (R p) F w L G));case first=>
    clear X f;go_region_held3 (jB h) (with_reducible assumption) (first|(go_at_call 151;refine(l0.o _ (by first|exact n.out|exact K.o.e)).mono ?_;rintro e w4 ⟨rfl,b0,n⟩)|(go_at_call 152;refine(c0.o _ (by first|exact n.o|exact K.out.drew)).mono ?_;rintro e w4 ⟨rfl,b0,n⟩));all_goals
     go_wp2;go_meet;exact⟨by rw[m0.o],n⟩
   case rest=>
    obtain⟨rfl,C⟩:=hcut;clear l0 c0 o0 k0 j0 m0 K;cases Q
    ·have q:=aj (X.o.2 rfl);clear X;obtain⟨N,Q⟩:=exq p.x.f.i.length;obtain⟨K,a0⟩:=exq ((c.p a).q.f p.x.f.i);rw[a0]at q;obtain⟨h,z⟩:∃h:aB→Prop,∀W,jB h W=(W.cell? ⟨P.g,u+6,O⟩=R (aK (R ⟨(P.q a).d,0,O⟩))∧W.cell? ⟨p.b,11,O⟩=R (Z p.d N p.e)):=⟨_,fun _=>rfl⟩;have o:Y (∀c' W,St c' P (R p) F w L W→jB h W):=aj fun c' W d=>by rw[z,←Q];obtain⟨F',A⟩:=d.f;exact⟨(ql E d.d).2.1,A.a.a 11⟩
     have c0:Y (aF au 153 #[aK (R ⟨(P.q a).d,0,O⟩),Z p.d N p.e] wc.drew fun e g=>e=av (aN #[])∧jB h g∧Y (St (c.b a {c.p a with q:=K}) P (R p) F w L g)):=aj (by obtain⟨ho,hp,hk,g0,_,I,_⟩:=f.o;have:=Xf I C.o.e ho hk g0;rw[Q,a0]at this;refine mB this fun g b=>?_;exact⟨rfl,o.o _ _ b,aj b⟩)
     have j0:=fun W (b:jB h W)=>by rw[z]at b;exact b
     have k0:=o.o _ _ C.o.e;have A:=aj (And.intro a0 Q);clear z o a0 Q;go_upto_region 5 with fail;go_cut [] (fun G=>Y (St (c.b a {c.p a with q:=K}) P (R p) F w L G));case first=>
      clear f q C A;go_region_held3 (jB h) (with_reducible assumption) (first|(go_at_call 153;refine c0.o.mono ?_;rintro e w4 ⟨rfl,b0,n⟩));all_goals
       go_wp2;go_meet;exact n
     case rest=>
      have D:=hcut;clear c0 C k0 j0;obtain⟨s,H⟩:=exq (c.b a {c.p a with q:=K});rw[H]at D;have h:s.p a={c.p a with q:=K}:=by rw[←H];exact Sc c (by rcases f.o.2.2.2.2.2.1 with b|b<;>rw[b]<;>rfl) _
      obtain⟨z,I⟩:=exq K.e;obtain⟨B,t⟩:=exq ((c.p a).c);obtain⟨m,y⟩:=exq B.length;have B:Y (∀W,St s P (R p) F w L W→aF au 154 #[aK (R ⟨(P.q a).d,0,O⟩)] W fun e g=>e=av (aS z)∧Y (St s P (R p) F w L g)):=aj fun W d=>by
       obtain⟨F',hF⟩:=d;have o:=(f.o.1.a a).q;have b:(s.p a).q.a.length=(c.p a).q.a.length+1:=by rw[h,←A.o.1];unfold Qu.f;simp
       refine(tO W (hF.a.n a) Y0 (by have:=o.d;have:=f.o.2.2.1;omega)).mono ?_;rintro e g ⟨K,rfl,i,b,_⟩;exact⟨by rw[←I,h];rfl,aj (hF.d (hF.a.p a b i))⟩
      have T:Y (∀W,St s P (R p) F w L W→(W.cell? ⟨P.g,u+6,O⟩=R (aK (R ⟨(P.q a).d,0,O⟩))∧W.cell? ⟨P.g,u+7,O⟩=R (Z (P.q a).e m (P.q a).g))∧(∀r,(W.alloc r).cell? ⟨P.g,u+7,O⟩=R (Z (P.q a).e m (P.q a).g))∧∀e0,W.frozen? ⟨P.g,e0,O⟩=false):=aj fun W d=>by
       have i:=(ql E d.d).2;have e:(s.p a).c.length=m:=by rw[h];dsimp only;rw[t,y]
       rw[e]at i;refine⟨⟨i.1,i.2.1⟩,fun r=>?_,d.d.c⟩;have j:=(ql (W:=W.alloc r) E (d.d.h r)).2.2.1;rw[e]at j;exact j
      have K:Y (∀W M,St s P (R p) F w ((M,3,#[z.d])::L) W→∃b l g,(Builtin.append_ #[37,37] 37 #[Z (P.q a).e m (P.q a).g,Z (R ⟨M,0,O⟩) 1 1]).run au W=.ok (Z b (m+1) l) g∧(g.cell? ⟨P.g,u+7,O⟩=R (Z (P.q a).e m (P.q a).g)∧∀e0,g.frozen? ⟨P.g,e0,O⟩=false)∧Y (xU (jf c p.x).1 P (R p) F w L k (g.setCell ⟨P.g,u+7,O⟩ (Z b (m+1) l)))):=aj fun W M d=>by
       have r:(s.p a).c.length=m:=by rw[h];dsimp only;rw[t,y]
       have o:=(f.o.1.a a);have n0:(s.p a).c.length≤1000:=by have i:=o.c;have j:=o.q.b;have x:=o.q.e;have V:=f.o.2.2.1;rw[r,←y,←t];omega
       obtain⟨b,l,g,v,hb,i⟩:=Jz E d n0;rw[r]at v i;refine⟨b,l,g,v,⟨?_,hb.c⟩,aj ⟨P.h a b l,.f f.o.2.2.2.2.2.1 b l,f.o.2.1.f f.o.2.2.2.2.2.1 b l,?_⟩⟩
       ·have:=(ql E hb).2.2.1;rw[r]at this;exact this
       ·rw[q.o,←I,←t]at*;rw[h,←H,Dn]at i;exact i.g
      have mixed:Tryz.prog.follows .mixedOrders=true:=Y3;obtain⟨⟨y6,y7⟩,_,yf⟩:=T.o _ D.o.e;have a:=SY;have a:Y ((jf c p.x).2=true):=aj (by rw[q.o]);clear f q A H h I t y;go_upto_region 6 with fail;go_cut [] (fun G=>Y (xU (jf c p.x).1 P (R p) F w L k G));case first=>
       go_region_law (first|(go_simp;go_at_call 154;refine(B.o _ D.o.e).mono ?_;rintro e w4 ⟨rfl,n⟩;have g:=T.o _ n.o;try dsimp only)|(obtain⟨A',h,S,b,i,d⟩:=K.o _ _ (n.o.i 3 #[z.d]);refine qm rfl (.tmp 63) (.tmp 70) 37 37 rfl _ _ (by simp[Act.eval,Act.put]) (by simp[Act.eval,Act.put]) _ S b ?_));all_goals
        go_wp2;go_meet;exact d
      case rest=>have f0:=hcut;clear B T K y6 y7 yf D;go_wp2;go_ret;exact⟨by rw[a.o];rfl,f0.o⟩
    ·have q:=aj (X.o.1 rfl);clear X;go_wp2;go_ret;exact⟨by rw[q.o];rfl,by rw[q.o];exact .a C.o f.o.2.1⟩
end
section
variable {w W W':aB} {c:Co} {P:Pt} {X:Option fq} {F:Nat→List Nat} {L:List Ow}
def zaZ (c:Co) (P:Pt) (X:Option fq) (F:Nat→List Nat) (w:aB) (L:List Ow) (a:Nat) (b:Ending) (e:aB):Prop:=b=av (aN #[])∧∃b d,b≤a+1∧d≤a+1∧St c ((P.f 0 b).f 1 d) X F w L e
def Jv {o:Nat} (d:Sm) (a:mR) (g:St c P X F w L W) (p:dU c o) (q:jh P o) (b:o≤800) (A:(Lit.int U d.c).wf=true):
  aF au 105 #[qp P.g,pV d,aS a] W (zaZ (qC c d a) P X F w L o):=by
 have G:c.l.length≤1000:=by have:=p.d;omega
 obtain⟨i,u⟩:=exq P.g;obtain⟨s,C⟩:=exq P.c;obtain⟨h,f⟩:∃t:Bool,t=(d.k !=4&&a.k==4):=⟨_,rfl⟩;have m:Y (h=false→qC c d a=c.i (d.v a)):=aj fun g=>by unfold qC Co.i;dsimp only;rw[aL (fun v=>by rw[f]at g;simp at g;exact g v.1 v.2)]
 have r:Y (h=true→qC c d a=((c.i (d.v a)).h 0 d.c).h 1 d.c):=aj fun g=>by unfold qC Co.i Co.h;dsimp only;rw[aP (by rw[f]at g;simpa using g)];rfl
 have e:Y (St c P X F w ((W.heap.size,211,d)::(W.heap.size+1,151,a)::L) ((W.alloc (.cells d 211)).alloc (.cells a 151))):=aj (by have:=(g.i 211 d).i 151 a;simp only[World.size_alloc]at this;exact this.v)
 obtain⟨b,j⟩:=exq W.heap.size;rw[u];unfold pV fD;go_enter func105,ntmps105;go_upto_region 1 with fail;generalize l:(W.alloc (.cells d 211)).alloc (.cells a 151)=x at e⊢;rw[j]at e;have j:=e.o.h (x:=(b,211,d)) Y1;have k:=e.o.h (x:=(b+1,151,a)) Y1;obtain⟨z,B,D,E,H,I,K,M,N,Q,S,T,V,a0,b0,c0,d0⟩:=bH.t j;obtain⟨t0,t1,t2,t3,t4⟩:=bH.k k;have f4:=j.c;clear l;go_cut [6] (fun l n=>l=aO h∧n=x);case first=>
  have l:((d.k !=4)=true∧h=(a.k==4))∨((d.k !=4)=false∧h=false):=by
   rw[f];cases h1:(d.k !=4)
   ·exact .inr Y5
   ·exact .inl Y5
  clear m r f;rcases l with⟨x,rfl⟩|⟨x,rfl⟩
  ·go_wp2;go_meet;exact Y5
  ·go_wp2;go_meet;exact Y5
 case rest=>
  obtain⟨rfl,rfl⟩:=hcut;clear f;go_upto_region 3 with fail;have l:(((((wc.setCell ⟨b,1,O⟩ (J U a.k)).setCell ⟨b,2,O⟩ (J U a.o)).setCell ⟨b,3,O⟩ (aO a.a)).setCell ⟨b,4,O⟩ (aO a.b)).setCell ⟨b,5,O⟩ (J U a.y))=wc.setCells b 1 [J U a.k,J U a.o,aO a.a,aO a.b,J U a.y]:=rfl;rw[l];have f:Y (St c P X F w ((b,211,fD (d.v a))::(b+1,151,a)::L) (wc.setCells b 1 [J U a.k,J U a.o,aO a.a,aO a.b,J U a.y])):=aj (e.o.k (bg.f (F:=[b]) Y1 _ 1 wc) (bH.o [J U a.k,J U a.o,aO a.a,aO a.b,J U a.y] 1 wc _ j));generalize x:wc.setCells b 1 [J U a.k,J U a.o,aO a.a,aO a.b,J U a.y]=y at f⊢;clear l x e j k z B D E H I K M N Q S T V a0 b0 c0 d0 t0 t1 t2 t3 t4 f4;obtain⟨e,j⟩:=exq (d.v a);have x:e.c=d.c:=by rw[←j];rfl
  rw[j]at f m r;have z:Y (∀L W,St c P X F w L W→W.cell? ⟨i,31,O⟩=R (aK (R ⟨s,0,O⟩))):=aj fun L W k=>by rw[←u,←C];exact k.d.a 31
  have B:Y (aF au 148 #[qp s,pV e] y.drew fun l j=>l=av (aO (Hg c.l e))∧(j.cell? ⟨i,31,O⟩=R (aK (R ⟨s,0,O⟩))∧Gl j b e)∧Y (St (c.i e) P X F w ((b,211,fD e)::(b+1,151,a)::L) j)):=aj (by rw[←C];refine mB (Lf e f.o.e G (by rw[x];exact A)) fun j g=>?_;exact⟨rfl,⟨by rw[←u];exact g.d.a 31,bH.t g.b⟩,aj g⟩)
  have H:y.drew.cell? ⟨i,31,O⟩=R (aK (R ⟨s,0,O⟩))∧Gl y.drew b e:=⟨z.o _ _ f.o.e,bH.t f.o.e.b⟩;unfold pV fD at B;go_cut [] (fun n=>Y (St (c.i e) P X F w ((b,211,fD e)::(b+1,151,a)::L) n));case first=>
   clear m r z f x;go_region_held3 (fun W=>W.cell? ⟨i,31,O⟩=R (aK (R ⟨s,0,O⟩))∧Gl W b e) (assumption) (first|(go_at_call 148;refine B.o.mono ?_;rintro l I ⟨rfl,K,n⟩));all_goals
    go_wp2;go_meet;exact n
  case rest=>
   have C:=hcut;clear f B z;cases h
   ·have B:=aj (m.o rfl);clear m r;go_wp2_with fail;refine aG (results_none rfl _ _ _) rfl ?_;exact⟨rfl,P.a.b,P.b.b,cZ q.a,cZ q.b,by rw[B.o];exact C.o.g.g⟩
   have B:=aj (r.o rfl);clear m r;have D:Y (∀f r m h W,(f=0∧r=14)∨(f=1∧r=26)→(m.p f).a=(c.p f).a→(h.q f).b=(P.q f).b→h.g=P.g→St m h X F w ((b,211,fD e)::(b+1,151,a)::L) W→(W.cell? ⟨i,r,O⟩=R (aK (R ⟨(h.q f).a,0,O⟩))∧W.cell? ⟨b,0,O⟩=R (J U d.c))∧aF au 149 #[aK (R ⟨(h.q f).a,0,O⟩),d.c] W fun l j=>(∃t:Bool,l=av t)∧(j.cell? ⟨i,r,O⟩=R (aK (R ⟨(h.q f).a,0,O⟩))∧j.cell? ⟨b,0,O⟩=R (J U d.c))∧Y (∃s,s≤o+1∧St (m.h f d.c) (h.f f s) X F w ((b,211,fD e)::(b+1,151,a)::L) j)):=aj fun f r m h W E N Q y k=>by
    have z:=E.imp And.left And.left;have M:∀m h W,h.g=P.g→St m h X F w ((b,211,fD e)::(b+1,151,a)::L) W→(W.cell? ⟨i,r,O⟩=R (aK (R ⟨(h.q f).a,0,O⟩))∧W.cell? ⟨b,0,O⟩=R (J U d.c)):=fun m h W y k=>by
     refine⟨?_,by rw[←x];exact k.b.a 0⟩;rw[←u,←y];rcases E with⟨rfl,rfl⟩|⟨rfl,rfl⟩
     ·exact k.d.a 14
     ·exact k.d.a 26
    refine⟨M m h W y k,(WU f d.c z k (by rw[N];rcases z with rfl|rfl;exact⟨p.h.a,p.h.b⟩;exact⟨p.i.a,p.i.b⟩) (by rw[Q];rcases z with rfl|rfl;exact q.a;exact q.b) Y0 A).mono ?_⟩;rintro l j ⟨a,s,f,g⟩;have v:=M _ _ _ (by rcases z with rfl|rfl<;>exact y) g;refine⟨a,?_,aj ⟨s,f,g⟩⟩;rcases E with⟨rfl,rfl⟩|⟨rfl,rfl⟩<;>exact v
   have a:=aj q;clear x p q A G;go_wp2_with fail;refine wp_loop_rounds 3 ?_;rw[rounds_succ];go_upto_region 8 with fail;obtain⟨H,a⟩:=D.o 0 14 (c.i e) P wc.drew (.inl Y5) rfl rfl rfl C.o.e;have f:=aj a;clear a;clear C;go_region_held3 (fun W=>W.cell? ⟨i,14,O⟩=R (aK (R ⟨(P.q 0).a,0,O⟩))∧W.cell? ⟨b,0,O⟩=R (J U d.c)) (assumption) (first|(go_at_call 149;refine f.o.mono ?_;rintro l I ⟨⟨t,rfl⟩,K,n⟩));obtain⟨h,k,g⟩:=n.o;have j:=aj g;clear g n K f;go_wp2;rw[rounds_succ];go_upto_region 8 with fail;obtain⟨H,a⟩:=D.o 1 26 ((c.i e).h 0 d.c) (P.f 0 h) I.drew (.inr Y5) rfl rfl rfl j.o.e;have f:=aj a;clear a D j;go_region_held3 (fun W=>W.cell? ⟨i,26,O⟩=R (aK (R ⟨((P.f 0 h).q 1).a,0,O⟩))∧W.cell? ⟨b,0,O⟩=R (J U d.c)) (assumption) (first|(go_at_call 149;refine f.o.mono ?_;rintro l m ⟨⟨t,rfl⟩,g,n⟩));obtain⟨e,j,a⟩:=n.o;have b:=aj a;clear a n g f;go_wp2;rw[rounds_succ];go_wp2_with fail;refine bodyPost_end (results_none rfl _ _ _) rfl ?_;exact⟨rfl,h,e,k,j,by rw[B.o];exact b.o.g.g⟩
end
def zcD (b d c a e f:Int) (w:aB):(Instr.field 213 (aS #[b,d,c,a,e,f]) 3).run au w=.ok (J U a) w:=by kernel_rfl
section
variable {w W:aB} {c:Co} {P:Pt} {F:Nat→List Nat} {L:List Ow} {p:fq} {k:Nat}
def Xi (c:Co) (P:Pt) (a b:Int):gV (sN c P) 30 [aH aW (fw a) (fw b)]=sN {c with c:=a,d:=b} P:=by kernel_rfl
def Lj {e:Option fq} (a b:Int) (d:St c P e F w L W):St {c with c:=a,d:=b} P e F w L (W.setCell ⟨P.g,30,O⟩ (aH aW (fw a) (fw b))):=by obtain⟨e,d⟩:=d;exact d.d (d.a.m [aH aW (fw a) (fw b)] 30 (Xi c P a b) rfl)
def Yy (a:Co) (P:Pt) (b:Option fq) (F:Nat→List Nat) (w:aB) (L:List Ow) (k:Nat) (d:Ending) (e:aB):Prop:=d=av (aN #[])∧xU a P b F w L k e
structure ZY (A:List Ow→aB→Prop):Prop where
 d:∀L W t cs,A L W→A ((W.heap.size,t,cs)::L) (W.alloc (.cells cs t))
 e:∀x y W,A [x,y] W→A [y,x] W
 a:∀x L W,A (x::L) W→bH W x.1 x.2.1 x.2.2
 c:∀b t cs xs L W,A ((b,t,cs)::L) W→cs.size=xs.length→A ((b,t,xs.toArray)::L) (W.setCells b 0 xs)
def St.s {a:Option fq}:ZY (fun b W=>St c P a F w (b++L) W):=⟨fun b W d e a=>a.i d e,fun f g W a=>a.v,fun f b W a=>a.h (by simp),fun f d e g b W a h=>a.k (bg.f (F:=[f]) (by simp) g 0 W) ((a.h (x:=(f,d,e)) (by simp)).y g h.symm)⟩
def lY (a d:Nat) (e:bB) (f g:Array aI):(Nat→Nat)→(Nat→Bool)→List Ow:=fun h b=>if b a then [(h a,e,if b d then g else f)]else []
def Ag (j:List Ow→aB→Prop) (a b:Nat) (e:bB) (f g:Array aI) (i:List Nat) (l:b∈i):Mf (fun h d W=>j (lY a b e f g h d) W) [a] i:=fun h j d m w i n o=>by
 have q:=i a (.inl Y1);have r:=i b (.inr l);have i:=n a Y1
 have:lY a b e f g j m=lY a b e f g h d:=by
  unfold lY
  rw[←q,←r]
  cases hi:d a
  ·rfl
  ·rw[i hi]
 dsimp only
 rw[this]
 exact o
def Ah {a b k:Nat} {d:bB} {e f:Array aI} {g:Nat→Nat} {h:Nat→Bool} (i:k≠a∧k≠b):lY a b d e f g (fI h k)=lY a b d e f g h:=by unfold lY fI;rw[beq_false_of_ne (Ne.symm i.1),beq_false_of_ne (Ne.symm i.2)];rfl
def Dp {a b:Nat} {e:bB} {f g:Array aI} {h:Nat→Nat} {d:Nat→Bool} {i:Nat} (j:d a=false) (l:d b=false) (m:b≠a):lY a b e f g (lU h a i) (fI d a)=(i,e,f)::lY a b e f g h d:=by unfold lY fI lU;simp[j,l,m]
def Dq {a b:Nat} {t:bB} {z cs:Array aI} {β:Nat→Nat} {d:Nat→Bool} (e:d a=true) (f:d b=false):lY a b t z cs β d=[(β a,t,z)]∧lY a b t z cs β (fI d b)=[(β a,t,cs)]:=by unfold lY fI;simp[e,f]
end
abbrev zbb (a:aB) (b:Nat) (c:mR):Prop:=a.cell? ⟨b,0,O⟩=R (J U c.k)∧a.cell? ⟨b,1,O⟩=R (J U c.o)∧a.cell? ⟨b,2,O⟩=R (aO c.a)∧a.cell? ⟨b,3,O⟩=R (aO c.b)∧a.cell? ⟨b,4,O⟩=R (J U c.y)
def Tc {A:List Ow→aB→Prop} {x:Exit→Act→aB→Prop} {wc:aB} {m n q:Nat} {r:Int} {e:Sm} {s:Bool} (t:A [] wc.drew) (u:ZY A)
  (o:∀a b,A a b→aF au 104 #[qp q,r] b fun v y=>v=av (aN #[pV e,s])∧A a y)
  (z:∀a b,A a b→b.cell? ⟨m,31,O⟩=R (aK (R ⟨q,0,O⟩))) (B:∀a b,A a b→b.cell? ⟨n,3,O⟩=R (J U r))
  (d:∀F G H I K L M N P Q S T V W C b,A [(C,211,fD e)] b→x .normal ⟨#[qp m,qp n,bq,bq,qp C,F,u6,G,H,I,K,L,M,N,P,Q,S,T,V,W,T0,T1,T2,T3,T4,T5,T6,T7,T8,T9,N0,N1,N2,N3,N4,N5,N6,N7,N8,N9,X0,X1,X2,X3,X4,X5,X6,X7,X8,X9,O0,O1,O2,O3,O4,O5,O6,O7,O8,O9,J0,J1,J2,J3,J4,J5,J6,J7,J8,J9,R0,R1,R2,R3,R4,R5,R6,R7,R8,R9],[]⟩ b):
  Code.wp au (fu 0 (f103.body.getD .skip)) x ⟨#[qp m,qp n,bq,bq,u4,u5,u6,u7,u8,u9,Q0,Q1,Q2,Q3,Q4,Q5,Q6,Q7,Q8,Q9,T0,T1,T2,T3,T4,T5,T6,T7,T8,T9,N0,N1,N2,N3,N4,N5,N6,N7,N8,N9,X0,X1,X2,X3,X4,X5,X6,X7,X8,X9,O0,O1,O2,O3,O4,O5,O6,O7,O8,O9,J0,J1,J2,J3,J4,J5,J6,J7,J8,J9,R0,R1,R2,R3,R4,R5,R6,R7,R8,R9],[]⟩ wc:=by
 obtain⟨h,D⟩:∃h:Array aI,h=qv:=⟨_,rfl⟩;have w:=aj D;haveI:Nonempty (Wd fun c=>∃a,A a c):=⟨⟨_,_,t⟩⟩;have f0:∀i:Wd (fun c=>∃a,A a c),i.W.cell? ⟨m,31,O⟩=R (aK (R ⟨q,0,O⟩)):=fun i=>z _ _ i.a.choose_spec;have Y3:∀i:Wd (fun c=>∃a,A a c),i.W.cell? ⟨n,3,O⟩=R (J U r):=fun i=>B _ _ i.a.choose_spec;have X:=aj d;replace o:=aj o;clear d z B D;unfold pV fD at o;conv=>arg 2;whnf
 refine mE [13] [9,14] uJ (fun j f b=>A (lY 13 14 211 h (fD e) j f) b) (fun a0=>if a0=9 then aN #[aS e,s]else bq) (by kernel_rfl) (by kernel_rfl) (by intro g0 hs;simp at hs;simp;omega) (Ag A _ _ _ _ _ _ (by simp)) t (fun j=>WL.h ?_);clear t;have h0:∀f:Nat→Bool,lY 13 14 211 h (fD e) j (fI f 9)=lY 13 14 211 h (fD e) j f:=fun f=>Ah (by decide);have p:∀(b0:Array Oper) (c0:Nat) f c,uI .any b0 c0 f→A (lY 13 14 211 h (fD e) j f) c→∃a,A a c:=fun _ _ _ _ _ g=>⟨_,g⟩;repeat(refine WL.e (A:=fun c=>∃a,A a c) (p _ _) (fun k d=>?_);go_simp;refine d _ ?_;clear d k)
 refine WL.g (aN #[aS e,s]) (fun f b l g=>?_) ?_ (fun _=>rfl)
 ·go_simp;exact o.o _ _ g
 repeat(refine WL.e (A:=fun c=>∃a,A a c) (p _ _) (fun k d=>?_);go_simp;refine d _ ?_;clear d k)
 refine WL.t (fun f b l g=>⟨b.alloc (.cells h 211),by rw[w.o];kernel_rfl,?_⟩) ?_
 ·rw[Dp l.b (l.a 14 (by decide+kernel)) (by decide)];exact u.d _ _ _ _ g
 dsimp only[Act.put];repeat(refine WL.e (A:=fun c=>∃a,A a c) (p _ _) (fun k d=>?_);go_simp;refine d _ ?_;clear d k)
 refine WL.g bq (fun f b l g=>?_) ?_ (fun _=>rfl)
 ·obtain⟨e0,v⟩:=Dq (t:=211) (z:=h) (cs:=fD e) (β:=j) (l.c 13 (by decide+kernel)) l.b;rw[e0]at g;rw[v];have E:=u.a _ _ _ g;rw[w.o]at E;exact lI 211 (.tmp 4) (.tmp 18) (j 13) 0 (fD e) (E.D 0 17 (aD _)) dW (u.c _ _ _ (eU e) _ _ g (by rw[w.o];rfl))
 repeat(refine WL.e (A:=fun c=>∃a,A a c) (p _ _) (fun k d=>?_);go_simp;refine d _ ?_;clear d k)
 exact WL.b fun y d0=>by apply X.o;exact d0
def Td {A:List Ow→aB→Prop} {x:Exit→Act→aB→Prop} {wc:aB} {m n q:Nat} {r:Int} {e:Sm} {s:Bool} (t:A [] wc.drew) (u:ZY A)
  (o:∀a b,A a b→aF au 104 #[qp q,r] b fun v y=>v=av (aN #[pV e,s])∧A a y)
  (z:∀a b,A a b→b.cell? ⟨m,31,O⟩=R (aK (R ⟨q,0,O⟩))) (B:∀a b,A a b→b.cell? ⟨n,3,O⟩=R (J U r))
  (d:∀F G H I K L M N P Q S T V W C b,A [(C,211,fD e)] b→x .normal ⟨#[qp m,qp n,bq,bq,qp C,F,u6,u7,u8,u9,Q0,Q1,Q2,Q3,Q4,Q5,Q6,Q7,Q8,Q9,T0,T1,T2,T3,T4,T5,T6,T7,T8,T9,N0,N1,N2,N3,G,H,I,K,L,M,N,P,Q,S,T,V,W,X7,X8,X9,O0,O1,O2,O3,O4,O5,O6,O7,O8,O9,J0,J1,J2,J3,J4,J5,J6,J7,J8,J9,R0,R1,R2,R3,R4,R5,R6,R7,R8,R9,M0,M1,M2,M3],[]⟩ b):
  Code.wp au (fu 2 (f110.body.getD .skip)) x ⟨#[qp m,qp n,bq,bq,u4,u5,u6,u7,u8,u9,Q0,Q1,Q2,Q3,Q4,Q5,Q6,Q7,Q8,Q9,T0,T1,T2,T3,T4,T5,T6,T7,T8,T9,N0,N1,N2,N3,N4,N5,N6,N7,N8,N9,X0,X1,X2,X3,X4,X5,X6,X7,X8,X9,O0,O1,O2,O3,O4,O5,O6,O7,O8,O9,J0,J1,J2,J3,J4,J5,J6,J7,J8,J9,R0,R1,R2,R3,R4,R5,R6,R7,R8,R9,M0,M1,M2,M3],[]⟩ wc:=by
 obtain⟨h,D⟩:∃h:Array aI,h=qv:=⟨_,rfl⟩;have w:=aj D;haveI:Nonempty (Wd fun c=>∃a,A a c):=⟨⟨_,_,t⟩⟩;have f0:∀i:Wd (fun c=>∃a,A a c),i.W.cell? ⟨m,31,O⟩=R (aK (R ⟨q,0,O⟩)):=fun i=>z _ _ i.a.choose_spec;have Y3:∀i:Wd (fun c=>∃a,A a c),i.W.cell? ⟨n,3,O⟩=R (J U r):=fun i=>B _ _ i.a.choose_spec;have X:=aj d;replace o:=aj o;clear d z B D;unfold pV fD at o;conv=>arg 2;whnf
 refine mE [13] [9,14] uJ (fun j f b=>A (lY 13 14 211 h (fD e) j f) b) (fun a0=>if a0=9 then aN #[aS e,s]else bq) (by kernel_rfl) (by kernel_rfl) (by intro g0 hs;simp at hs;simp;omega) (Ag A _ _ _ _ _ _ (by simp)) t (fun j=>WL.h ?_);clear t;have h0:∀f:Nat→Bool,lY 13 14 211 h (fD e) j (fI f 9)=lY 13 14 211 h (fD e) j f:=fun f=>Ah (by decide);have p:∀(b0:Array Oper) (c0:Nat) f c,uI .any b0 c0 f→A (lY 13 14 211 h (fD e) j f) c→∃a,A a c:=fun _ _ _ _ _ g=>⟨_,g⟩;repeat(refine WL.e (A:=fun c=>∃a,A a c) (p _ _) (fun k d=>?_);go_simp;refine d _ ?_;clear d k)
 refine WL.g (aN #[aS e,s]) (fun f b l g=>?_) ?_ (fun _=>rfl)
 ·go_simp;exact o.o _ _ g
 repeat(refine WL.e (A:=fun c=>∃a,A a c) (p _ _) (fun k d=>?_);go_simp;refine d _ ?_;clear d k)
 refine WL.t (fun f b l g=>⟨b.alloc (.cells h 211),by rw[w.o];kernel_rfl,?_⟩) ?_
 ·rw[Dp l.b (l.a 14 (by decide+kernel)) (by decide)];exact u.d _ _ _ _ g
 dsimp only[Act.put];repeat(refine WL.e (A:=fun c=>∃a,A a c) (p _ _) (fun k d=>?_);go_simp;refine d _ ?_;clear d k)
 refine WL.g bq (fun f b l g=>?_) ?_ (fun _=>rfl)
 ·obtain⟨e0,v⟩:=Dq (t:=211) (z:=h) (cs:=fD e) (β:=j) (l.c 13 (by decide+kernel)) l.b;rw[e0]at g;rw[v];have E:=u.a _ _ _ g;rw[w.o]at E;exact lI 211 (.tmp 4) (.tmp 45) (j 13) 0 (fD e) (E.D 0 17 (aD _)) dW (u.c _ _ _ (eU e) _ _ g (by rw[w.o];rfl))
 repeat(refine WL.e (A:=fun c=>∃a,A a c) (p _ _) (fun k d=>?_);go_simp;refine d _ ?_;clear d k)
 exact WL.b fun y d0=>by apply X.o;exact d0
def Te {A B:aB→Prop} {k:Exit→Act→aB→Prop} {wc:aB} {d e:Nat} {c b g h l m:Int} {n:Bool} 
  (f:A wc.drew) (o:c=0∨c=1)
  (i:∀a:Wd A,aF au 160 #[aS #[aH aW (fw l) (fw m)],J U (1-c),b,J U 65535] a.W fun j p=>j=av (aN #[aS #[aH aW (fw g) (fw h)],n])∧A p)
  (j:∀a:Wd A,B (a.W.setCell ⟨d,30,O⟩ (aH aW (fw g) (fw h))))
  (q:∀a:Wd A,a.W.cell? ⟨e,0,O⟩=R (J U c))
  (q:∀a:Wd A,a.W.cell? ⟨e,18,O⟩=R (J U b))
  (b:∀a:Wd A,a.W.cell? ⟨d,30,O⟩=R (aH aW (fw l) (fw m)))
  (b:∀(a:Wd A) b,a.W.frozen? ⟨d,b,O⟩=false)
  (b:∀m q r s t u v w x y z C D E F G H I K L M N l,B l→k .normal ⟨#[qp d,qp e,bq,bq,u4,u5,u6,u7,u8,u9,Q0,Q1,m,q,r,s,t,u,v,w,x,y,z,C,D,E,F,G,H,I,K,L,M,N,N4,N5,N6,N7,N8,N9,X0,X1,X2,X3,X4,X5,X6,X7,X8,X9,O0,O1,O2,O3,O4,O5,O6,O7,O8,O9,J0,J1,J2,J3,J4,J5,J6,J7,J8,J9,R0,R1,R2,R3,R4,R5,R6,R7,R8,R9,M0,M1,M2,M3],[]⟩ l):
  Code.wp au (fu 1 (f110.body.getD .skip)) k ⟨#[qp d,qp e,bq,bq,u4,u5,u6,u7,u8,u9,Q0,Q1,Q2,Q3,Q4,Q5,Q6,Q7,Q8,Q9,T0,T1,T2,T3,T4,T5,T6,T7,T8,T9,N0,N1,N2,N3,N4,N5,N6,N7,N8,N9,X0,X1,X2,X3,X4,X5,X6,X7,X8,X9,O0,O1,O2,O3,O4,O5,O6,O7,O8,O9,J0,J1,J2,J3,J4,J5,J6,J7,J8,J9,R0,R1,R2,R3,R4,R5,R6,R7,R8,R9,M0,M1,M2,M3],[]⟩ wc:=by
 haveI:Nonempty (Wd A):=⟨⟨_,f⟩⟩;haveI:Nonempty (Wd fun d=>A d∨B d):=⟨⟨_,.inl f⟩⟩;replace i:=aj i;replace j:=aj j;have d:=aj b;have e:=ku;have e:U.wrap (1-c)=1-c:=by rcases o with rfl|rfl<;>rfl
 clear o;clear b;conv=>arg 2;whnf
 refine jQ A B [16,22] 22 f ?_;clear f;repeat((first|refine WL.c (fun c b=>?_)|refine WL.d (fun c b=>?_));go_simp;refine b _ ?_;clear b c)
 refine WL.i (aN #[aS #[aH aW (fw g) (fw h)],n]) (fun a=>?_) ?_
 ·go_simp;exact i.o a
 repeat((first|refine WL.c (fun c b=>?_)|refine WL.d (fun c b=>?_));go_simp;refine b _ ?_;clear b c)
 refine WL.f bq (fun a=>?_) ?_
 ·go_simp;exact j.o a
 exact WL.b fun p a=>by apply d.o;exact a
def Tf {A B:aB→Prop} {o:Exit→Act→aB→Prop} {wc:aB} {h e d p b:Nat} {c q i j:Int} {r s:Nat} {t:Bool} {u v w k x y:Int} 
  (f:A wc.drew) (z:(c=0∧b=12)∨(c=1∧b=24))
  (l:∀a:Wd A,aF au 154 #[qp p] a.W fun m g=>m=av (aS #[u,v,w,k,x,y])∧A g)
  (n:∀a:Wd A,aF au 160 #[aS #[aH aW r s],J U (1-c),q,k] a.W fun m g=>m=av (aN #[aS #[aH aW (fw i) (fw j)],t])∧A g)
  (m:∀a:Wd A,B (a.W.setCell ⟨d,6,O⟩ (aH aW (fw i) (fw j))))
  (C:∀a:Wd A,a.W.cell? ⟨e,0,O⟩=R (J U c))
  (C:∀a:Wd A,a.W.cell? ⟨e,18,O⟩=R (J U q))
  (q:∀a:Wd A,a.W.cell? ⟨h,b,O⟩=R (aK (R ⟨p,0,O⟩)))
  (b:∀a:Wd A,a.W.cell? ⟨d,6,O⟩=R (aH aW r s))
  (b:∀(a:Wd A) b,a.W.frozen? ⟨d,b,O⟩=false)
  (b:∀q r s C D E F G H I K L M N P Q S T V W X a0 b0 c0 d0 e0 f0 g0 h0 i0 j0 p,B p→o .normal ⟨#[qp h,qp e,bq,bq,qp d,u5,u6,u7,u8,u9,Q0,Q1,Q2,Q3,Q4,Q5,Q6,Q7,Q8,Q9,T0,T1,T2,T3,T4,T5,T6,T7,T8,T9,N0,N1,N2,N3,N4,N5,N6,N7,N8,N9,X0,X1,X2,X3,X4,X5,X6,q,r,s,C,D,E,F,G,H,I,K,L,M,N,P,Q,S,T,V,W,X,a0,b0,c0,d0,e0,f0,g0,h0,i0,j0,R8,R9,M0,M1,M2,M3],[]⟩ p):
  Code.wp au (fu 3 (f110.body.getD .skip)) o ⟨#[qp h,qp e,bq,bq,qp d,u5,u6,u7,u8,u9,Q0,Q1,Q2,Q3,Q4,Q5,Q6,Q7,Q8,Q9,T0,T1,T2,T3,T4,T5,T6,T7,T8,T9,N0,N1,N2,N3,N4,N5,N6,N7,N8,N9,X0,X1,X2,X3,X4,X5,X6,X7,X8,X9,O0,O1,O2,O3,O4,O5,O6,O7,O8,O9,J0,J1,J2,J3,J4,J5,J6,J7,J8,J9,R0,R1,R2,R3,R4,R5,R6,R7,R8,R9,M0,M1,M2,M3],[]⟩ wc:=by
 haveI:Nonempty (Wd A):=⟨⟨_,f⟩⟩;haveI:Nonempty (Wd fun d=>A d∨B d):=⟨⟨_,.inl f⟩⟩;replace l:=aj l;replace n:=aj n;replace m:=aj m;have d:=aj b;have e:=zcD;have e:=ku;have e:U.wrap (1-c)=1-c:=by rcases z with⟨rfl,_⟩|⟨rfl,_⟩<;>rfl
 clear b;conv=>arg 2;whnf
 refine jQ A B [24,26,31] 31 f ?_;clear f;rcases z with⟨rfl,rfl⟩|⟨rfl,rfl⟩
 all_goals
  repeat((first|refine WL.c (fun c b=>?_)|refine WL.d (fun c b=>?_));go_simp;refine b _ ?_;clear b c)
  refine WL.i (aS #[u,v,w,k,x,y]) (fun a=>?_) ?_
  ·go_simp;exact l.o a
  repeat((first|refine WL.c (fun c b=>?_)|refine WL.d (fun c b=>?_));go_simp;refine b _ ?_;clear b c)
  refine WL.i (aN #[aS #[aH aW (fw i) (fw j)],t]) (fun a=>?_) ?_
  ·go_simp;exact n.o a
  repeat((first|refine WL.c (fun c b=>?_)|refine WL.d (fun c b=>?_));go_simp;refine b _ ?_;clear b c)
  refine WL.f bq (fun a=>?_) ?_
  ·go_simp;exact m.o a
  exact WL.b fun g e=>by apply d.o;exact e
def Tg {A B:aB→Prop} {g:Exit→Act→aB→Prop} {wc:aB} {f h c b:Nat} {m:Sm} {q:Bool} 
  (d:A wc.drew) (e:∀a:Wd A,aF au 148 #[qp b,pV m] a.W fun j i=>j=av q∧B i)
  (j:∀a:Wd A,a.W.cell? ⟨f,31,O⟩=R (aK (R ⟨b,0,O⟩)))
  (k:∀a:Wd A,bH a.W c 211 (fD m))
  (b:∀l n o p r s j,B j→g .normal ⟨#[qp f,qp h,bq,bq,qp c,u5,u6,u7,u8,u9,Q0,Q1,Q2,Q3,Q4,Q5,Q6,Q7,Q8,Q9,T0,T1,T2,T3,T4,T5,T6,T7,T8,T9,N0,N1,N2,N3,N4,N5,N6,N7,N8,N9,X0,X1,X2,X3,X4,X5,X6,X7,X8,X9,O0,O1,O2,O3,O4,O5,O6,O7,O8,O9,J0,J1,J2,J3,J4,J5,J6,J7,J8,J9,R0,R1,R2,R3,R4,R5,R6,R7,l,n,o,p,r,s],[]⟩ j):
  Code.wp au (fu 4 (f110.body.getD .skip)) g ⟨#[qp f,qp h,bq,bq,qp c,u5,u6,u7,u8,u9,Q0,Q1,Q2,Q3,Q4,Q5,Q6,Q7,Q8,Q9,T0,T1,T2,T3,T4,T5,T6,T7,T8,T9,N0,N1,N2,N3,N4,N5,N6,N7,N8,N9,X0,X1,X2,X3,X4,X5,X6,X7,X8,X9,O0,O1,O2,O3,O4,O5,O6,O7,O8,O9,J0,J1,J2,J3,J4,J5,J6,J7,J8,J9,R0,R1,R2,R3,R4,R5,R6,R7,R8,R9,M0,M1,M2,M3],[]⟩ wc:=by
 haveI:Nonempty (Wd A):=⟨⟨_,d⟩⟩;haveI:Nonempty (Wd fun f=>A f∨B f):=⟨⟨_,.inl d⟩⟩;replace e:=aj e;have f:=aj b;unfold pV at e;clear b;conv=>arg 2;whnf
 refine jQ A B [5] 5 d ?_;clear d;iterate 4 ((first|refine WL.c (fun d b=>?_)|refine WL.rb (fun d b=>?_));go_simp;refine b _ ?_;clear b d)
 refine WL.v 211 (.tmp 4) c 0 (fD m) (fun a=>(k a).v) underlying211 dW ?_;dsimp only[Act.put];refine WL.f (aO q) (fun a=>?_) ?_
 ·go_simp;exact e.o a
 exact WL.b fun i a=>by apply f.o;exact a
def Ti {A B:aB→Prop} {j:Exit→Act→aB→Prop} {wc:aB} {k d c b:Nat} {l f g:Int} {m n:Nat} {o:Bool} {q:Option aX} {r:Nat} 
  (e:A wc.drew) (h:∀a:Wd A,aF au 102 #[aS #[aH aW m n],l,b,J U 2147483647] a.W fun i p=>i=av (aN #[aS #[aH aW (fw f) (fw g)],o])∧A p)
  (i:∀a:Wd A,B (a.W.setCell ⟨c,6,O⟩ (aH aW (fw f) (fw g))))
  (s:∀a:Wd A,a.W.cell? ⟨d,0,O⟩=R (J U l))
  (l:∀a:Wd A,a.W.cell? ⟨d,5,O⟩=R (Z q b r))
  (b:∀a:Wd A,a.W.cell? ⟨c,6,O⟩=R (aH aW m n))
  (b:∀(a:Wd A) b,a.W.frozen? ⟨c,b,O⟩=false)
  (b:∀m n q r s t u v w x y z C D E F G H l,B l→j .normal ⟨#[qp k,qp d,bq,bq,qp c,u5,u6,u7,u8,u9,Q0,Q1,Q2,Q3,Q4,Q5,Q6,Q7,Q8,Q9,m,n,q,r,s,t,u,v,w,x,y,z,C,D,E,F,G,H,N8,N9,X0,X1,X2,X3,X4,X5,X6,X7,X8,X9,O0,O1,O2,O3,O4,O5,O6,O7,O8,O9,J0,J1,J2,J3,J4,J5,J6,J7,J8,J9,R0,R1,R2,R3,R4,R5,R6,R7,R8,R9],[]⟩ l):
  Code.wp au (fu 1 (f103.body.getD .skip)) j ⟨#[qp k,qp d,bq,bq,qp c,u5,u6,u7,u8,u9,Q0,Q1,Q2,Q3,Q4,Q5,Q6,Q7,Q8,Q9,T0,T1,T2,T3,T4,T5,T6,T7,T8,T9,N0,N1,N2,N3,N4,N5,N6,N7,N8,N9,X0,X1,X2,X3,X4,X5,X6,X7,X8,X9,O0,O1,O2,O3,O4,O5,O6,O7,O8,O9,J0,J1,J2,J3,J4,J5,J6,J7,J8,J9,R0,R1,R2,R3,R4,R5,R6,R7,R8,R9],[]⟩ wc:=by
 haveI:Nonempty (Wd A):=⟨⟨_,e⟩⟩;haveI:Nonempty (Wd fun c=>A c∨B c):=⟨⟨_,.inl e⟩⟩;replace h:=aj h;replace i:=aj i;have d:=aj b;have c:=ku;clear b;conv=>arg 2;whnf
 refine jQ A B [13,18] 18 e ?_;clear e;repeat((first|refine WL.c (fun c b=>?_)|refine WL.d (fun c b=>?_));go_simp;refine b _ ?_;clear b c)
 refine WL.i (aN #[aS #[aH aW (fw f) (fw g)],o]) (fun a=>?_) ?_
 ·go_simp;exact h.o a
 repeat((first|refine WL.c (fun c b=>?_)|refine WL.d (fun c b=>?_));go_simp;refine b _ ?_;clear b c)
 refine WL.f bq (fun a=>?_) ?_
 ·go_simp;exact i.o a
 exact WL.b fun p a=>by apply d.o;exact a
def Tj {A B:aB→Prop} {n:Exit→Act→aB→Prop} {wc:aB} {o f e p:Nat} {c q:Int} {b:Sm} {i d:Ta} {j:Bool} {s:Option aX} {t:Nat} 
  (g:A wc.drew) (u:c=0∨c=1)
  (r:(c=0→i=⟨b.f,b.g,b.h,b.i,b.j⟩)∧(c=1→i=⟨b.l,b.m,b.n,b.p,b.q⟩))
  (k:∀a:Wd A,aF au 146 #[qp f] a.W fun l h=>l=av j∧A h)
  (m:∀a:Wd A,aF au 145 #[aS i,p,j] a.W fun l h=>l=av (aN #[aS d,q])∧A h)
  (i:∀a:Wd A,(c=0→B (a.W.setCells e 7 [aO d.a,aA d.m,J U d.p,J U d.d,J U d.l]))∧(c=1→B (a.W.setCells e 12 [aO d.a,aA d.m,J U d.p,J U d.d,J U d.l])))
  (l:∀a:Wd A,a.W.cell? ⟨f,0,O⟩=R (J U c))
  (c:∀a:Wd A,a.W.cell? ⟨f,10,O⟩=R (Z s p t))
  (c:∀a:Wd A,Gl a.W e b)
  (b:∀(a:Wd A) b,a.W.frozen? ⟨e,b,O⟩=false)
  (b:∀l p s t v w x y z C D E F G H I K L M N P Q S T V W X c,B c→n .normal ⟨#[qp o,qp f,bq,bq,qp e,u5,u6,u7,u8,u9,Q0,Q1,Q2,Q3,Q4,Q5,Q6,Q7,Q8,Q9,T0,T1,T2,T3,T4,T5,T6,T7,T8,T9,N0,N1,N2,N3,N4,N5,N6,N7,l,p,s,t,v,w,x,y,z,C,D,E,F,G,H,I,K,L,M,N,P,Q,S,T,V,W,X,J5,J6,J7,J8,J9,R0,R1,R2,R3,R4,R5,R6,R7,R8,R9],[]⟩ c):
  Code.wp au (fu 2 (f103.body.getD .skip)) n ⟨#[qp o,qp f,bq,bq,qp e,u5,u6,u7,u8,u9,Q0,Q1,Q2,Q3,Q4,Q5,Q6,Q7,Q8,Q9,T0,T1,T2,T3,T4,T5,T6,T7,T8,T9,N0,N1,N2,N3,N4,N5,N6,N7,N8,N9,X0,X1,X2,X3,X4,X5,X6,X7,X8,X9,O0,O1,O2,O3,O4,O5,O6,O7,O8,O9,J0,J1,J2,J3,J4,J5,J6,J7,J8,J9,R0,R1,R2,R3,R4,R5,R6,R7,R8,R9],[]⟩ wc:=by
 haveI:Nonempty (Wd A):=⟨⟨_,g⟩⟩;haveI:Nonempty (Wd fun c=>A c∨B c):=⟨⟨_,.inl g⟩⟩;replace k:=aj k;replace m:=aj m;replace i:=aj i;have f:=aj b;have e:=aj r;clear r;clear b;conv=>arg 2;whnf
 refine jQ A B [20,21,27] 27 g ?_;clear g;rcases u with rfl|rfl<;>first|(obtain rfl:=e.o.1 rfl)|(obtain rfl:=e.o.2 rfl)
 all_goals
  repeat((first|refine WL.c (fun c b=>?_)|refine WL.d (fun c b=>?_));go_simp;refine b _ ?_;clear b c)
  refine WL.i (aO j) (fun a=>?_) ?_
  ·go_simp;exact k.o a
  refine WL.i (aN #[aS d,q]) (fun a=>?_) ?_
  ·go_simp;exact m.o a
  repeat((first|refine WL.c (fun c b=>?_)|refine WL.d (fun c b=>?_));go_simp;refine b _ ?_;clear b c)
  refine WL.f bq (fun a=>?_) ?_
  ·go_simp;first|exact(i.o a).1 rfl|exact(i.o a).2 rfl
  exact WL.b fun h g=>by apply f.o;exact g
def Tk {A B:aB→Prop} {i:Exit→Act→aB→Prop} {wc:aB} {j f k d:Nat} {c:Int} {l b:mR} 
  (e:A wc.drew) (g:∀a:Wd A,aF au 147 #[aS l,c] a.W fun h m=>h=av (aS b)∧A m)
  (h:∀a:Wd A,B (a.W.setCells d 0 [J U b.k,J U b.o,aO b.a,aO b.b,J U b.y]))
  (n:∀a:Wd A,a.W.cell? ⟨f,0,O⟩=R (J U c))
  (c:∀a:Wd A,zbb a.W d l)
  (c:∀(a:Wd A) c,a.W.frozen? ⟨d,c,O⟩=false)
  (c:∀n o p q r s t l,B l→i .normal ⟨#[qp j,qp f,bq,bq,qp k,u5,qp d,u7,u8,u9,Q0,Q1,Q2,Q3,Q4,Q5,Q6,Q7,Q8,Q9,T0,T1,T2,T3,T4,T5,T6,T7,T8,T9,N0,N1,N2,N3,N4,N5,N6,N7,N8,N9,X0,X1,X2,X3,X4,X5,X6,X7,X8,X9,O0,O1,O2,O3,O4,O5,O6,O7,O8,O9,J0,J1,J2,J3,J4,J5,J6,J7,J8,n,o,p,q,r,s,t,R6,R7,R8,R9],[]⟩ l):
  Code.wp au (fu 5 (f103.body.getD .skip)) i ⟨#[qp j,qp f,bq,bq,qp k,u5,qp d,u7,u8,u9,Q0,Q1,Q2,Q3,Q4,Q5,Q6,Q7,Q8,Q9,T0,T1,T2,T3,T4,T5,T6,T7,T8,T9,N0,N1,N2,N3,N4,N5,N6,N7,N8,N9,X0,X1,X2,X3,X4,X5,X6,X7,X8,X9,O0,O1,O2,O3,O4,O5,O6,O7,O8,O9,J0,J1,J2,J3,J4,J5,J6,J7,J8,J9,R0,R1,R2,R3,R4,R5,R6,R7,R8,R9],[]⟩ wc:=by
 haveI:Nonempty (Wd A):=⟨⟨_,e⟩⟩;haveI:Nonempty (Wd fun d=>A d∨B d):=⟨⟨_,.inl e⟩⟩;replace g:=aj g;replace h:=aj h;have f:=aj c;clear c;conv=>arg 2;whnf
 refine jQ A B [6,7] 7 e ?_;clear e;repeat((first|refine WL.c (fun d c=>?_)|refine WL.d (fun d c=>?_));go_simp;refine c _ ?_;clear c d)
 refine WL.i (aS b) (fun a=>?_) ?_
 ·go_simp;exact g.o a
 refine WL.f bq (fun a=>?_) ?_
 ·go_simp;exact h.o a
 exact WL.b fun m a=>by apply f.o;exact a
section
variable {w W:aB} {c c':Co} {P:Pt} {X:Option fq} {F:Nat→List Nat} {L:List Ow} {p:fq} {k:Nat}
def St.j:∀(a:List Ow),St c P X F w (a++L) W→St c P X F w L W
 |[],a=>a
 |_::b,a=>St.j b a.g
def zaZ.a {b:Ending} (d:jh P k) (a:zaZ c' P X F w L k b W):Yy c' P X F w L (k+1) b W:=by obtain⟨b,e,f,g,h,a⟩:=a;exact⟨b,(P.f 0 e).f 1 f,⟨rfl,rfl,rfl,rfl,⟨rfl,rfl,rfl,rfl,rfl⟩,⟨rfl,rfl,rfl,rfl,rfl⟩⟩,{a:=g,b:=h,c:=cZ d.c,d:=cZ d.d},a⟩
def Dr {l:List Sm} {st:Int} (a:0≤st∧st≤2147483647):(Lit.int U (fG l st).1.c).wf=true:=by
 have:(fG l st).1.c=st∨(fG l st).1.c=0:=by
  unfold fG;split
  ·rename_i b a;left;have:=kr a;unfold lu at this;rw[bS]at this;obtain⟨d,a,b⟩:=Option.map_eq_some_iff.1 this;rw[aY,a];exact b
  ·exact .inr rfl
 rcases this with a|a<;>rw[a]<;>exact bX Y0
def iZ.m {a:Lk} (b:iZ a) (e:a.r.c≠ -1):a.f.c.length≤300:=by
 by_cases d:a.w=(0,0)
 ·exact(b.c d e).b
 ·rw[b.e (.inl d)];decide
abbrev Gn (a:mR):Array aI:=a
def BQ (b:Sm) (a:Ta):gV (fD b) 7 [aO a.a,aA a.m,J U a.p,J U a.d,J U a.l]=fD (b.t 0 a):=by kernel_rfl
def sw (b:Sm) (a:Ta):gV (fD b) 12 [aO a.a,aA a.m,J U a.p,J U a.d,J U a.l]=fD (b.t 1 a):=by kernel_rfl
def sD (a:Sm) (b:Int) (d:Ta):(a.t b d).c=a.c∧(a.t b d).r=a.r:=by unfold Sm.t Sm.r;split<;>exact⟨rfl,rfl⟩
def Xj {A:List Ow→aB→Prop} {D:aB→Prop} {wc:aB} {d a g:Nat} {fr:Int} {en:Bool} {m:Sm} {nw:mR} (j:A [(g,211,fD m)] wc) (e:ZY A) (s:∀L W b,A L W→aJ W W b→A L b)
  (u:nw=if en then .c (gI m.k m.o m.a m.b m.y fr)else m.r)
  (q:∀L W,A L W→aF au 146 #[qp a] W fun b f=>b=av en∧A L f)
  (h:∀L W,A L W→aF au 105 #[qp d,pV m,aS nw] W fun b f=>b=av (aN #[])∧D f)
  (v:∀L W,A L W→W.cell? ⟨a,0,O⟩=R (J U fr)):
  Code.wp au (Ht 3 (f103.body.getD .skip)) (bodyPost au f103 fun b f=>b=av (aN #[])∧D f) ⟨#[qp d,qp a,bq,bq,qp g,u5,u6,u7,u8,u9,Q0,Q1,Q2,Q3,Q4,Q5,Q6,Q7,Q8,Q9,T0,T1,T2,T3,T4,T5,T6,T7,T8,T9,N0,N1,N2,N3,N4,N5,N6,N7,N8,N9,X0,X1,X2,X3,X4,X5,X6,X7,X8,X9,O0,O1,O2,O3,O4,O5,O6,O7,O8,O9,J0,J1,J2,J3,J4,J5,J6,J7,J8,J9,R0,R1,R2,R3,R4,R5,R6,R7,R8,R9],[]⟩ wc:=by
 have x:=e.a _ _ _ j;have i:=bH.t x;have l:=aj (e.d _ _ 151 (Gn m.r) j);have n:Y ((en=false→nw=m.r)∧(en=true→nw=.c (gI m.r.k m.r.o m.r.a m.r.b m.r.y fr))):=aj (by rw[u];exact⟨fun d=>by rw[d];rfl,fun d=>by rw[d];rfl⟩);obtain⟨a,o⟩:∃r,r=m.r:=⟨_,rfl⟩;have y:#[J U m.k,m.o,m.a,m.b,m.y]=Gn a:=by rw[o];rfl
 rw[←o]at l n;replace q:=aj q;replace h:=aj h;have r:=aj s;have t:=aj v;unfold pV at h;clear j u o s v;conv=>arg 2;whnf
 go_upto_region 4 with fail;generalize wc.alloc (.cells (Gn a) 151)=j at l⊢;generalize wc.heap.size=s at l⊢;clear i y x;go_wp2_with fail;go_at_call 146;refine mB (q.o _ _ l.o) fun o u=>?_;have j:=aj u;clear u l q;have l:∀o,A [(s,151,Gn nw),(g,211,fD m)] o→bH o g 211 (fD m)∧bH o s 151 (Gn nw):=fun o d=>⟨e.a _ _ _ (e.e _ _ _ d),e.a _ _ _ d⟩;obtain rfl|rfl:en=false∨en=true:=by cases en<;>simp
 ·obtain rfl:=n.o.1 rfl;have i:=aj (l _ j.o).1;have u:=bH.k (l _ j.o).2;have o:=aj (h.o _ _ j.o);clear n t r h j l e;go_upto_region 6 with fail;go_wp2_with (first|refine eT rfl 211 (.tmp 4) rfl g 0 rfl (eU m) (jl i.o) underlying211 rfl dW (fD m) rfl ?_);go_at_call 105;refine mB o.o fun B q=>?_;have v:=aj q;clear q o i u;go_wp2_with fail;refine bodyPost_end (results_none rfl _ _ _) rfl ?_;exact⟨rfl,v.o⟩
 ·have x:Y (∀W,aF au 147 #[aS a,fr] W fun b f=>b=av (aS nw)∧aJ W W f):=aj fun W=>by obtain⟨z,y⟩:=exq (gI a.k a.o a.a a.b a.y fr);have z:=n.o.2 rfl;rw[y]at z;refine mB (DY a.k a.o a.a a.b a.y fr W) fun f d=>?_;exact⟨by rw[y,z];rfl,d⟩
  go_upto_region 5 with fail;refine Tk (A:=fun W=>A [(s,151,Gn a),(g,211,fD m)] W) (B:=fun W=>A [(s,151,Gn nw),(g,211,fD m)] W) (r.o _ _ _ j.o (ay _ _).drew) (fun a=>(x.o _).mono fun b f d=>⟨d.1,r.o _ _ _ a.a d.2⟩) (fun a=>e.c _ _ _ _ _ _ a.a rfl) (fun a=>t.o _ _ a.a) (fun a=>bH.k (e.a _ _ _ a.a)) (fun a=>(e.a _ _ _ a.a).c) ?_;intros;rename_i d a;have i:=aj (l _ a).1;have u:=bH.k (l _ a).2;have o:=aj (h.o _ _ a);clear a n t r h j x l e;dsimp only[Exit.then];go_upto_region 6 with fail;go_wp2_with (first|refine eT rfl 211 (.tmp 4) rfl g 0 rfl (eU m) (jl i.o) underlying211 rfl dW (fD m) rfl ?_);go_at_call 105;refine mB o.o fun B q=>?_;have v:=aj q;clear q o i u;go_wp2_with fail;refine bodyPost_end (results_none rfl _ _ _) rfl ?_;exact⟨rfl,v.o⟩
def zco (d:St c P (R p) F w L W) (x:dU c k) (H:jh P k) (hk:k≤800) (y:iZ p.x) (I:p.x.r.c≠ -1):
  aF au 103 #[qp P.g,qp p.b] W (Yy (pI c p.x) P (R p) F w L (k+1)):=by
 have hs:=dN y.a;have d0:=y.b I;have hl:c.l.length≤1000:=by have:=x.d;omega
 have h0:=y.m I;obtain⟨g,z⟩:=exq p.x.r.a;obtain⟨j,A⟩:=exq p.x.r.d;obtain⟨q,K⟩:=exq p.x.r.b.length;obtain⟨B,M⟩:=exq p.x.f.c.length;obtain⟨o,N⟩:=exq (tY p.x.r);rw[z]at hs;rw[A]at d0;have e0:(Lit.int U j).wf=true:=bX (by omega);have s:=lH x.e j;have Q:=Dr (l:=c.l) (st:=j) ⟨Y0,Y0⟩;obtain⟨a,C⟩:=exq ((fG c.l j).1);obtain⟨S,hq⟩:=exq ((fG c.l j).2);rw[C]at s Q;have T:=lF s.x;have V:=lF s.y;obtain⟨t,u,q1,a0⟩:∃b e S,mh (fM a.d) (fM a.e) g q 2147483647=(b,e,S):=⟨_,_,_,rfl⟩;obtain⟨f,D⟩:∃f:Sm,f={a with d:=fw t,e:=fw u}:=⟨_,rfl⟩;obtain⟨l,v⟩:=exq (a.u g);have b0:nD l:=by rw[←v];exact s.f g
 obtain⟨E,hd⟩:=exq (l.f B o);obtain⟨e,G⟩:∃e:Sm,e=f.t g E.1:=⟨_,rfl⟩;obtain⟨m,c0⟩:∃m:mR,m=if o then .c (gI a.k a.o a.a a.b a.y g)else a.r:=⟨_,rfl⟩
 have e2:e.c=a.c∧e.r=a.r:=by rw[G,(sD ..).1,(sD ..).2,D];exact Y5
 have HZ:Y (pI c p.x=qC c e m):=aj (by unfold pI;dsimp only;rw[A,C,z,K,a0,v,M,N,hd,G,D,c0])
 have r:Y (∀c' L W,St c' P (R p) F w L W→W.cell? ⟨p.b,0,O⟩=R (J U g)∧W.cell? ⟨p.b,3,O⟩=R (J U j)∧W.cell? ⟨p.b,5,O⟩=R (Z p.h q p.i)∧W.cell? ⟨p.b,10,O⟩=R (Z p.a B p.c)):=aj fun c' L W b=>by obtain⟨F',n⟩:=b.f;have n:=n.a;exact⟨by rw[←z];exact n.a 0,by rw[←A];exact n.a 3,by rw[←K];exact n.a 5,by rw[←M];exact n.a 10⟩
 have f0:Y (∀L W,St c P (R p) F w L W→aF au 146 #[qp p.b] W fun h i=>h=av o∧St c P (R p) F w L i):=aj fun L W b=>by obtain⟨F',n⟩:=b.f;refine mB (BP n.a Y0) ?_;rintro i ⟨q,rfl⟩;exact⟨by rw[N],b.n q⟩
 have HG:Y (∀L W,St c P (R p) F w L W→aF au 104 #[qp P.c,j] W fun h i=>h=av (aN #[pV a,S])∧St c P (R p) F w L i):=aj fun L W b=>by obtain⟨F',hF⟩:=id b;refine mB (nu (M:=c.a.b) (F:=F' 13) P.c j W hl (hF.a.d 13) (aj e0)) fun i n=>?_;exact⟨by rw[C,hq],b.a n⟩
 have S:Y (∀L W,St c P (R p) F w L W→aF au 102 #[aS #[aH aW a.d a.e],g,q,J U 2147483647] W fun h i=>h=av (aN #[aS #[aH aW (fw t) (fw u)],q1])∧St c P (R p) F w L i):=aj fun L W b=>by have:=Cz (fM a.d) (fM a.e) g q 2147483647 t u q1 W (aj T.1) (aj V.1) (aj a0);rw[T.2,V.2]at this;refine mB this fun i n=>?_;exact⟨rfl,b.a n⟩
 have g0:Y (∀L W,St c P (R p) F w L W→aF au 145 #[aS l,B,o] W fun h i=>h=av (aN #[lS E.1,E.2])∧St c P (R p) F w L i):=aj fun L W b=>by have:=Fa l B o W Y0 Y0 b0.a (by have:=b0.b;omega);rw[hd]at this;refine mB this fun i n=>?_;exact⟨rfl,b.a n⟩
 have i0:Y (∀L W,St c P (R p) F w L W→aF au 105 #[qp P.g,pV e,aS m] W (Yy (qC c e m) P (R p) F w L (k+1))):=aj fun L W b=>(Jv e m b x H hk (by rw[e2.1];exact Q)).mono fun h i d=>d.a H
 have j0:Y ((g=0→l=⟨a.f,a.g,a.h,a.i,a.j⟩)∧(g=1→l=⟨a.l,a.m,a.n,a.p,a.q⟩)):=aj ⟨fun d=>by rw[←v,d];rfl,fun d=>by rw[←v,d];rfl⟩;have q:=aj (And.intro D (And.intro G (And.intro c0 e2)));have B:=aj d;have j:=ku;unfold lS at g0;clear d x H hk y I d0 hl h0 z A K M N e0 s Q C hq T V a0 D v b0 hd G c0 e2;go_enter func103,ntmps103;go_upto_region 0 with fail;refine Tc (A:=fun j W=>St c P (R p) F w (j++L) W) B.o.e St.s (fun j W b=>HG.o _ _ b) (fun j W b=>b.d.a 31) (fun j W b=>(r.o _ _ _ b).2.1) ?_;intros;rename_i b x s;have v:=aj s;clear s B HG;dsimp only[Exit.then];go_upto_region 1 with fail;refine Ti (A:=fun W=>St c P (R p) F w ((b,211,fD a)::L) W) (B:=fun W=>St c P (R p) F w ((b,211,fD f)::L) W) v.o.e (fun a=>S.o _ _ a.a) (fun a=>by rw[q.o.1];exact a.a.k (bg.f (F:=[b]) Y1 [aH aW (fw t) (fw u)] 6 a.W) (bH.o [aH aW (fw t) (fw u)] 6 a.W _ a.a.b)) (fun a=>(r.o _ _ _ a.a).1) (fun a=>(r.o _ _ _ a.a).2.2.1) (fun a=>a.a.b.a 6) (fun a=>a.a.b.c) ?_;intros;rename_i t s;have t:=aj s;clear s S v;have s:Y ((g=0→l=⟨f.f,f.g,f.h,f.i,f.j⟩)∧(g=1→l=⟨f.l,f.m,f.n,f.p,f.q⟩)):=aj (by rw[q.o.1];exact j0.o);dsimp only[Exit.then];go_upto_region 2 with fail;refine Tj (A:=fun W=>St c P (R p) F w ((b,211,fD f)::L) W) (B:=fun W=>St c P (R p) F w ((b,211,fD e)::L) W) (d:=E.1) t.o.e hs s.o (fun a=>f0.o _ _ a.a) (fun a=>g0.o _ _ a.a) (fun a=>⟨fun f=>by
  rw[q.o.2.1,f,←BQ];exact a.a.k (bg.f (F:=[b]) Y1 _ 7 a.W) (bH.o _ 7 a.W _ a.a.b),fun f=>by
  rw[q.o.2.1,f,←sw];exact a.a.k (bg.f (F:=[b]) Y1 _ 12 a.W) (bH.o _ 12 a.W _ a.a.b)⟩) (fun a=>(r.o _ _ _ a.a).1) (fun a=>(r.o _ _ _ a.a).2.2.2) (fun a=>bH.t a.a.b) (fun a=>a.a.b.c) ?_
 intros;rename_i b a;dsimp only[Exit.then];apply_assumption;refine Xj (D:=xU (pI c p.x) P (R p) F w L (k+1)) (A:=fun j W=>St c P (R p) F w (j++L) W) (m:=e) (nw:=m) (en:=o) (fr:=g) a St.s (fun j W a d n=>d.a n) (by show m=if o then .c (gI e.r.k e.r.o e.r.a e.r.b e.r.y g)else e.r;rw[q.o.2.2.2.2];exact q.o.2.2.1) (fun j W d=>f0.o _ _ d) (fun j W d=>?_) (fun j W d=>(r.o _ _ _ d).1);exact(i0.o _ _ (d.j _)).mono fun h i a=>⟨a.1,by rw[HZ.o];exact a.2⟩
end
section
variable {w:aB} {c:Co} {P:Pt} {p:fq}
def Gh (Q:Nat→List Nat) (f:lX w c P (R p) Q) (o:Ok c.l) (hl:c.l.length≤1000) (F:iZ p.x) (k:Vl) (l:Bool):
  aF au 279 #[qp P.g,qp p.b,aS k,l] w (rC (lN c p.x k l) c P p Q w):=by
 have hw:=F.i;have e0:(Lit.int U p.x.a.b).wf=true:=bX (by have:=hw.b;omega);obtain⟨i,b0⟩:=exq p.x.r.a;obtain⟨q,c0⟩:=exq p.x.a.b;obtain⟨S,T⟩:=exq P.g;obtain⟨z,d0⟩:=exq P.c;obtain⟨V,hn⟩:=exq p.x.b.length;obtain⟨f0,hq⟩:=exq (zN c i q);obtain⟨g,G⟩:=exq (gu c.l q);obtain⟨r,ha⟩:=exq (Fy c q i 1 l);obtain⟨A,g0⟩:=exq (ji c.l i);obtain⟨H,ht⟩:=exq (sZ c p.x);obtain⟨I,u⟩:=exq (mI p.x);obtain⟨m,hy⟩:=exq (H.h p.x.b I);have hr:=wG o q;have h0:ko i=true:=by rw[←b0];exact F.a
 rw[G]at hr;have W:Y (∀b,aJ w w b→b.cell? ⟨S,31,O⟩=R (aK (R ⟨z,0,O⟩))∧b.cell? ⟨p.b,0,O⟩=R (J U i)∧b.cell? ⟨p.b,26,O⟩=R (J U q)∧b.cell? ⟨p.b,37,O⟩=R (Z p.f V p.g)):=aj fun b h=>⟨by rw[←T,←d0];exact(f.a h).f.a 31,by rw[←b0];exact(f.a h).e.a.a 0,by rw[←c0];exact(f.a h).e.a.a 26,by rw[←hn];exact(f.a h).e.a.a 37⟩;have k0:Y (∀b,aJ w w b→aF au 60 #[qp S,i,q] b fun d e=>d=av f0∧aJ b b e):=aj fun b h=>by rw[←hq,←T];exact nM i q h0 (f.a h).f
 have r0:Y (∀b,aJ w w b→aF au 61 #[qp z,q] b fun d e=>d=av (aS g)∧aJ b b e):=aj fun b h=>qO (M:=c.a.b) (F:=Q 13) z q b (aj hl) (aj (by rw[←d0];exact(f.a h).d 13)) (aj (by rw[←c0];exact e0)) g (aj G);have s0:Y (∀b,aF au 276 #[aS g,i,J U 1,l] b fun d e=>d=av (aN #[r.1,r.2])∧aJ b b e):=aj fun b=>by have:=vN g.k g.o g.y i 1 g.a g.b l b hr h0;rw[←G]at this;rw[←ha,←G];exact this
 have t0:Y (∀b,aJ w w b→aF au 311 #[qp z,i] b fun d e=>d=av (J U (A:Nat))∧aJ b b e):=aj fun b h=>by rw[←g0];exact MK (M:=c.a.b) (F:=Q 13) z i b (aj hl) (aj (by rw[←d0];exact(f.a h).d 13))
 have l0:Y (∀b,aJ w w b→aF au 201 #[qp S,qp p.b] b fun d e=>d=av (lS H)∧aJ b b e):=aj fun b h=>by rw[←ht,←T];exact Gg Q (f.a h) hl F.a e0
 have u0:Y (∀b,aJ w w b→aF au 203 #[qp p.b] b fun d e=>d=av I∧aJ b b e):=aj fun b h=>by refine(Ac (f.a h).e.a (by have:=hw.d;omega)).mono ?_;rintro d e ⟨rfl,v0,rfl⟩;exact⟨by rw[u],bI (ay _ _) v0⟩
 have x0:Y (∀b,aJ w w b→aF au 202 #[aS H,Z p.f V p.g,I] b fun d e=>d=av (aN #[lS m.1,uV m.2.1,m.2.2])∧aJ b b e):=aj fun b h=>by rw[←hy];exact Fg H p.f V p.g p.x.b I b hn (by have:=F.d;omega) (f.a h).e.c.d F.f
 have HZ:Y (lN c p.x k l=if f0 then(2,0)else if r.1≠1 then r else if g.k≠3∧(A:Int)≥k.c then(3,24)else nC m.2.2):=aj (by unfold lN;rw[b0,c0,hq,ha,G,g0,ht,u,hy]);have HC:=aj f;have v:=aj (gU w 213 k);obtain⟨m0,I0,K0,L0⟩:=W.o _ v.o.1;rw[T];unfold lS at l0;clear f o hl F hw e0 b0 c0 T d0 hn hq G ha g0 ht u hy hr h0;cases f0
 ·go_enter func279,ntmps279;go_wp2_with fail;refine(k0.o _ v.o.1).mono ?_;rintro d w1 ⟨rfl,n⟩;have X:=aj (v.o.1.trans (n.mono v.o.1.size));have y0:=aj (v.o.2.b n);have m0:=cb n m0;clear n;go_wp2_with fail;refine(r0.o _ X.o).mono ?_;rintro d w2 ⟨rfl,n⟩;have n0:=aj (X.o.trans (n.mono X.o.size));have z0:=aj (y0.o.b n);clear n;go_wp2_with fail;have a0:=aj (gU w2 151 g);generalize A0:w2.alloc (.cells g 151)=x at a0⊢;clear A0;have o0:=aj (n0.o.trans (a0.o.1.mono n0.o.size));have B0:=aj (z0.o.b a0.o.1);have B:=aj a0.o.2;generalize C0:w2.heap.size=K at B⊢;clear a0 C0;have D0:∀a:Gw x,a.W.cell? ⟨K,0,O⟩=R (J U g.k):=fun a=>(B.o.b a.h).a 0;have z1:∀a:Gw x,a.W.cell? ⟨K,1,O⟩=R (J U g.o):=fun a=>(B.o.b a.h).a 1;have z2:∀a:Gw x,a.W.cell? ⟨K,2,O⟩=R (aO g.a):=fun a=>(B.o.b a.h).a 2;have z3:∀a:Gw x,a.W.cell? ⟨K,3,O⟩=R (aO g.b):=fun a=>(B.o.b a.h).a 3;have z4:∀a:Gw x,a.W.cell? ⟨K,4,O⟩=R (J U g.y):=fun a=>(B.o.b a.h).a 4;have E0:∀a:Gw x,a.W.cell? ⟨p.b,0,O⟩=R (J U i):=fun a=>(W.o _ (a.a o0.o)).2.1;have G1:Y (∀a:Gw x,aF au 276 #[aS g,i,J U 1,l] a.W fun d e=>d=av (aN #[r.1,r.2])∧∃s:Gw x,e=s.W):=aj fun a=>Calls.gw (s0.o _);refine dJ (by kernel_rfl) (by kernel_rfl) ?_;repeat(refine WQ.d (fun y j=>?_);go_simp;first|(refine j _ ?_;clear j y)|(apply Exists.intro;refine⟨fun _=>?_,j _ ?_⟩;(first|(go_at_call 276;exact G1.o _));clear j y))
  refine WQ.b ?_;rintro _ ⟨u5,rfl⟩;have L:=aj (u5.a o0.o);have p0:=aj (B0.o.b u5.h);have i0:=aj (B.o.b u5.h);generalize F0:u5.W=M at L p0 i0⊢;clear D0 z1 z2 z3 z4 E0 G1 F0 u5;by_cases h1:r.1=1
  ·obtain⟨a1,a2⟩:=r;dsimp only at h1⊢;subst h1;have N:Y (lN c p.x k l=if g.k≠3∧(A:Int)≥k.c then(3,24)else nC m.2.2):=aj (by rw[HZ.o,aL (by decide),aL (fun f=>f rfl)]);obtain⟨C,so,sa,sb,sy⟩:=g;obtain⟨vs,j0⟩:=exq k.c;dsimp only at i0 N;have w0:∀a:Gw M,a.W.cell? ⟨K,0,O⟩=R (J U C):=fun a=>(i0.o.b a.h).a 0;have w1:∀a:Gw M,a.W.cell? ⟨w,2,O⟩=R (J U vs):=fun a=>by rw[←j0];exact(p0.o.b a.h).a 2
   have w2:∀a:Gw M,a.W.cell? ⟨S,31,O⟩=R (aK (R ⟨z,0,O⟩)):=fun a=>(W.o _ (a.a L.o)).1;have w3:∀a:Gw M,a.W.cell? ⟨p.b,0,O⟩=R (J U i):=fun a=>(W.o _ (a.a L.o)).2.1;have G2:Y (∀a:Gw M,aF au 311 #[qp z,i] a.W fun d e=>d=av (J U (A:Nat))∧∃s:Gw M,e=s.W):=aj fun a=>Calls.gw (t0.o _ (a.a L.o));rw[j0]at N;clear j0;have t:(∃f:C=3,lN c p.x k l=nC m.2.2)∨(¬C=3∧(C==3)=false∧(A:Int)≥vs∧lN c p.x k l=(3,24))∨(¬C=3∧(C==3)=false∧¬(A:Int)≥vs∧lN c p.x k l=nC m.2.2):=by
    by_cases t:C=3
    ·exact .inl ⟨t,by rw[N.o,aL (fun f=>f.1 t)]⟩
    ·by_cases o:(A:Int)≥vs
     ·exact .inr (.inl ⟨t,aM.2 t,o,by rw[N.o,aP ⟨t,o⟩]⟩)
     ·exact .inr (.inr ⟨t,aM.2 t,o,by rw[N.o,aL (fun f=>o f.2)]⟩)
   clear N HZ;rcases t with⟨rfl,u⟩|⟨n3,b3,o,u⟩|⟨n3,b3,o,u⟩
   all_goals
    have q0:=aj u;clear u;go_wp2_with fail;refine dJ (by kernel_rfl) (by kernel_rfl) ?_;repeat(refine WQ.d (fun y j=>?_);go_simp;first|(refine j _ ?_;clear j y)|(apply Exists.intro;refine⟨fun _=>?_,j _ ?_⟩;(first|(go_at_call 311;exact G2.o _));clear j y))
    refine WQ.b ?_;rintro _ ⟨u8,rfl⟩;have D:=aj (u8.a L.o);generalize G0:u8.W=E at D⊢;clear w0 w1 w2 w3 G0 u8;go_wp2_with fail;first
     |(go_at_call 213;refine(dR 24 _).mono ?_;rintro d w9 ⟨rfl,rfl⟩;go_wp2_with fail;go_ret2;exact⟨by rw[q0.o];rfl,HC.o.g D.o⟩)
     |skip
   all_goals
    have w0:∀a:Gw E,a.W.cell? ⟨p.b,37,O⟩=R (Z p.f V p.g):=fun a=>(W.o _ (a.a D.o)).2.2.2;have G4:Y (∀a:Gw E,aF au 201 #[qp S,qp p.b] a.W fun d e=>d=av (aS H)∧∃s:Gw E,e=s.W):=aj fun a=>Calls.gw (l0.o _ (a.a D.o));have G5:Y (∀a:Gw E,aF au 203 #[qp p.b] a.W fun d e=>d=av I∧∃s:Gw E,e=s.W):=aj fun a=>Calls.gw (u0.o _ (a.a D.o));have G6:Y (∀a:Gw E,aF au 202 #[aS H,Z p.f V p.g,I] a.W fun d e=>d=av (aN #[lS m.1,uV m.2.1,m.2.2])∧∃s:Gw E,e=s.W):=aj fun a=>Calls.gw (x0.o _ (a.a D.o));refine dJ (by kernel_rfl) (by kernel_rfl) ?_;repeat(refine WQ.d (fun y j=>?_);go_simp;first|(refine j _ ?_;clear j y)|(apply Exists.intro;refine⟨fun _=>?_,j _ ?_⟩;(first|(go_at_call 201;exact G4.o _)|(go_at_call 203;exact G5.o _)|(go_at_call 202;exact G6.o _));clear j y))
    refine WQ.b ?_;rintro _ ⟨u9,rfl⟩;have H0:=aj (u9.a D.o);go_wp2_with fail;refine(uj m.2.2 _).mono ?_;rintro d w9 ⟨rfl,rfl⟩;go_wp2_with fail;go_ret2;exact⟨by rw[q0.o];rfl,HC.o.g H0.o⟩
  ·have HN:=aj h1;have b1:(r.1==1)=false:=aM.2 h1;clear h1;go_wp2_with fail;go_ret2;exact⟨by rw[HZ.o,aL (by decide),aP HN.o];rfl,HC.o.g L.o⟩
 ·go_enter func279,ntmps279;go_wp2_with fail;refine(k0.o _ v.o.1).mono ?_;rintro d w1 ⟨rfl,n⟩;have X:=aj (v.o.1.trans (n.mono v.o.1.size));clear n;go_wp2_with fail;go_ret2;exact⟨by rw[HZ.o];rfl,HC.o.g X.o⟩
end
def Tp {A B:aB→Prop} {j:Exit→Act→aB→Prop} {wc:aB} {g l e a:Nat} {h:Sm} {i:Int} 
  (d:A wc.drew) (f:∀b:Wd A,aF au 200 #[qp a,pV h] b.W fun n m=>n=av i∧B m)
  (n:∀b:Wd A,b.W.cell? ⟨g,31,O⟩=R (aK (R ⟨a,0,O⟩)))
  (n:∀b:Wd A,bH b.W e 211 (fD h))
  (a:∀o q r s t u v W,B W→j .normal ⟨#[qp g,qp l,bq,bq,aO (i==0),u5,u6,qp e,u8,u9,Q0,Q1,Q2,Q3,Q4,Q5,Q6,Q7,Q8,Q9,T0,T1,T2,T3,T4,T5,T6,T7,T8,o,q,r,s,t,u,v],[]⟩ W):
  Code.wp au (fu 4 (f161.body.getD .skip)) j ⟨#[qp g,qp l,bq,bq,aO false,u5,u6,qp e,u8,u9,Q0,Q1,Q2,Q3,Q4,Q5,Q6,Q7,Q8,Q9,T0,T1,T2,T3,T4,T5,T6,T7,T8,T9,N0,N1,N2,N3,N4,N5],[]⟩ wc:=by
 haveI:Nonempty (Wd A):=⟨⟨_,d⟩⟩;haveI:Nonempty (Wd fun w=>A w∨B w):=⟨⟨_,.inl d⟩⟩;replace f:=aj f;have g:=aj a;unfold pV at f;clear a;conv=>arg 2;whnf
 refine jQ A B [5] 5 d ?_;clear d;iterate 4 ((first|refine WL.c (fun d a=>?_)|refine WL.rb (fun d a=>?_));go_simp;refine a _ ?_;clear a d)
 refine WL.v 211 (.tmp 7) e 0 (fD h) (fun b=>(n b).v) underlying211 dW ?_;dsimp only[Act.put];refine WL.f (J U i) (fun b=>?_) ?_
 ·go_simp;exact f.o b
 repeat((first|refine WL.c (fun d a=>?_)|refine WL.d (fun d a=>?_));go_simp;refine a _ ?_;clear a d)
 exact WL.b fun m a=>by apply g.o;exact a
section
variable {w W:aB} {c:Co} {P:Pt} {X:Option fq} {F:Nat→List Nat} {L:List Ow} {p:fq} {k:Nat}
def Tq (a:Sm) (b:St c P X F w L W) (f:c.l.length≤1000) (g:(Lit.int U a.c).wf=true):aF au 200 #[qp P.c,pV a] W fun d e=>d=av (J U (Cj c.l a c.a.b))∧St {c with l:=nP c.l a c.a.b} P X F w L e:=by obtain⟨h,b⟩:=b;refine mB (Zn (M:=c.a.b) (F:=h 13) P.c a W (aj f) (aj (b.a.d 13)) (aj g)) fun e ⟨h,a,f,g⟩=>?_;exact⟨rfl,b.d (b.a.k 13 Y2 ⟨f,g⟩ a.a a)⟩
def Od (g:St c P (R p) F w L W) (x:dU c k) (y:jh P k) (H:k≤900) (m:iZ p.x):
  aF au 161 #[qp P.g,qp p.b] W (Lh (pJ c p.x) P (R p) F w L k):=by
 have z:=m.i.c;have A:c.l.length≤1000:=by have:=x.d;omega
 have I:=m.d;obtain⟨r,n⟩:=exq p.x.a.e;obtain⟨s,t⟩:=exq p.x.b.length;obtain⟨a,u⟩:=exq (gD 3 p.x.b);obtain⟨d,v⟩:=exq (Ta.i a.1.m);obtain⟨h,o⟩:∃e:Sm,e={Sm.s with c:=r,k:=2,o:=1}:=⟨_,rfl⟩;obtain⟨b,q⟩:∃e:Sm,e=h.t 1 d:=⟨_,rfl⟩;rw[n]at z;have B:(Lit.int U b.c).wf=true:=by rw[q,(sD ..).1,o];exact bX (by dsimp only;omega)
 have C:Y (pJ c p.x=({c with l:=nP c.l b c.a.b},Cj c.l b c.a.b==0)):=aj (by unfold pJ;rw[n,u,v,←o,←q]);have i:Y (∀e L W,St e P (R p) F w L W→W.cell? ⟨p.b,33,O⟩=R (J U r)∧W.cell? ⟨p.b,37,O⟩=R (Z p.f s p.g)):=aj fun e L W j=>by obtain⟨E,f⟩:=j.f;have f:=f.a;exact⟨by rw[←n];exact f.a 33,by rw[←t];exact f.a 37⟩
 have D:Y (aF au 198 #[J U 3,Z p.f s p.g] W fun e l=>e=av (aN #[aS #[aA a.1.m,a.1.t,a.1.n,a.1.b],a.2])∧St c P (R p) F w L l):=aj (by obtain⟨E,f⟩:=g.f;have:=rT 3 p.f s p.g p.x.b W t Y0 f.c.d m.f;rw[u]at this;refine mB this fun l f=>?_;exact⟨rfl,g.a f⟩)
 have E:Y (∀L W,St c P (R p) F w L W→aF au 199 #[aA a.1.m] W fun e l=>e=av (aS d)∧St c P (R p) F w L l):=aj fun L W j=>by have:=xk a.1.m W;rw[v]at this;refine mB this fun l f=>?_;exact⟨rfl,j.a f⟩
 have G:Y (∀L W,St c P (R p) F w L W→_):=aj fun L W j=>Tq b j A B;have l:=aj (And.intro o (And.intro q y));have s:=(i.o _ _ _ g).1;have K:=(i.o _ _ _ g).2;clear g x y H m z A I n t u v o q B;go_enter func161,ntmps161;go_wp2_with fail;refine mB D.o fun j g=>?_;have s:=(i.o _ _ _ g).1;have f:=aj (g.i 314 (qW a.1));unfold qW at f;clear g D K;go_upto_region 2 with fail;generalize j.alloc (.cells #[aA a.1.m,a.1.t,a.1.n,a.1.b] 314)=g at f⊢;generalize j.heap.size=n at f⊢;have s:=(i.o _ _ _ f.o).1;have j:=aj (f.o.i 211 (fD h));have m:Y (#[J U r,J U 2,J U 1,false,false,J U 0,aH aW 0 0,false,aA {data:=#[]},J U 0,J U 0,J U 0,false,aA {data:=#[]},J U 0,J U 0,J U 0]=fD h):=aj (by rw[l.o.1];rfl);go_upto_region 3 with(first|refine dO rfl 211 (.tmp 7) (.tmp 23) rfl _ (fD h) _ rfl rfl (by rw[←m.o];rfl) dW rfl Y3 ?_);generalize g.alloc (.cells (fD h) 211)=h at j⊢;generalize g.heap.size=g at j⊢;clear m f s;have m:=j.o.g.b.H 0;go_wp2_with fail;refine mB (E.o _ _ j.o) fun f a=>?_;have e:Y (St c P (R p) F w ((g,211,fD b)::L) (f.setCells g 12 [aO d.a,aA d.m,J U d.p,J U d.d,J U d.l])):=aj (by rw[l.o.2.1,←sw];exact(a.k (bg.f (F:=[g]) Y1 _ 12 f) (bH.o _ 12 f _ a.b)).v.g)
 have d:=bH.t a.b;have h:=a.b.c;clear a j m;go_upto_region 4 with fail;refine Tp (A:=fun W=>St c P (R p) F w ((g,211,fD b)::L) W) (B:=fun W=>St {c with l:=nP c.l b c.a.b} P (R p) F w ((g,211,fD b)::L) W) e.o.e (fun a=>G.o _ _ a.a) (fun a=>a.a.d.a 31) (fun a=>a.a.b) ?_;intros;rename_i b a;have f:Y (xU (pJ c p.x).1 P (R p) F w L k b):=aj (by rw[C.o];exact .a a.g l.o.2.2);clear a e G l i E d h;dsimp only[Exit.then];go_wp2;go_ret;exact⟨by rw[C.o];rfl,f.o⟩
end
def Dk (a b:Int) (d e:Bool) (f:Int) (w:aB):(Instr.field 151 (aS #[a,b,d,e,f]) 0).run au w=.ok (J U a) w:=by kernel_rfl
section
variable {w:aB} {c:Co} {P:Pt} {p:fq}
def Dl (t:Nat→List Nat) (d:lX w c P (R p) t) (x:Ok c.l) (M:c.l.length≤1000) (y:iZ p.x) (e:Vl) (f:Bool):
  aF au 278 #[qp P.g,qp p.b,aS e,f] w (rC (je c p.x e f) c P p t w):=by
 have N:=y.i;have d0:(Lit.int U p.x.a.b).wf=true:=bX (by have:=N.b;omega);have e0:(Lit.int U p.x.a.e).wf=true:=bX (by have:=N.c;omega);obtain⟨j,D⟩:=exq p.x.r.a;obtain⟨q,E⟩:=exq p.x.a.b;obtain⟨i,F⟩:=exq p.x.a.e;obtain⟨Q,G⟩:=exq P.g;obtain⟨s,H⟩:=exq P.c;obtain⟨u,S⟩:=exq p.x.b.length;obtain⟨v,T⟩:=exq (zN c j i);obtain⟨k,z⟩:=exq (gu c.l q);obtain⟨l,V⟩:=exq (gu c.l i);obtain⟨m,W⟩:=exq (Fy c q j 5 f);obtain⟨n,X⟩:=exq (iw i);obtain⟨o,a0⟩:=exq (oL i);obtain⟨r,hy⟩:=exq (gD 3 p.x.b);obtain⟨A,I⟩:=exq e.e;have hr:=wG x q;have b0:ko j=true:=by rw[←D];exact y.a
 rw[z]at hr;have B:Y (∀a,aJ w w a→a.cell? ⟨Q,31,O⟩=R (aK (R ⟨s,0,O⟩))∧a.cell? ⟨p.b,0,O⟩=R (J U j)∧a.cell? ⟨p.b,26,O⟩=R (J U q)∧a.cell? ⟨p.b,37,O⟩=R (Z p.f u p.g)∧a.cell? ⟨p.b,33,O⟩=R (J U i)):=aj fun a h=>⟨by rw[←G,←H];exact(d.a h).f.a 31,by rw[←D];exact(d.a h).e.a.a 0,by rw[←E];exact(d.a h).e.a.a 26,by rw[←S];exact(d.a h).e.a.a 37,by rw[←F];exact(d.a h).e.a.a 33⟩;have i0:Y (∀a,aJ w w a→aF au 60 #[qp Q,j,i] a fun b g=>b=av v∧aJ a a g):=aj fun a h=>by rw[←T,←G];exact nM j i b0 (d.a h).f
 have f0:Y (∀a,aJ w w a→aF au 61 #[qp s,q] a fun b g=>b=av (aS k)∧aJ a a g):=aj fun a h=>qO (M:=c.a.b) (F:=t 13) s q a (aj M) (aj (by rw[←H];exact(d.a h).d 13)) (aj (by rw[←E];exact d0)) k (aj z);have K:Y (∀a,aJ w w a→aF au 61 #[qp s,i] a fun b g=>b=av (aS l)∧aJ a a g):=aj fun a h=>qO (M:=c.a.b) (F:=t 13) s i a (aj M) (aj (by rw[←H];exact(d.a h).d 13)) (aj (by rw[←F];exact e0)) l (aj V);have g0:Y (∀a,aF au 276 #[aS k,j,J U 5,f] a fun b g=>b=av (aN #[m.1,m.2])∧aJ a a g):=aj fun a=>by have:=vN k.k k.o k.y j 5 k.a k.b f a hr b0;rw[←z]at this;rw[←W,←z];exact this
 have j0:Y (∀a,aF au 92 #[i] a fun b g=>b=av (aN #[n,o])∧a=g):=aj fun a=>xX i n o a X a0;have k0:Y (∀a,aJ w w a→aF au 198 #[J U 3,Z p.f u p.g] a fun b g=>b=av (aN #[uV r.1,r.2])∧aJ a a g):=aj fun a h=>by rw[←hy];exact rT 3 p.f u p.g p.x.b a S (by have:=y.d;omega) (d.a h).e.c.d y.f
 have L:Y (je c p.x e f=if m.1=3 then m else if A=0 then(3,21)else if o=false∨n≠1∨l.k≠0 then(3,23)else if v then(2,0)else nC r.2):=aj (by unfold je;rw[D,E,F,W,I,a0,X,V,T,hy]);have t:=aj d;have h:=aj (gU w 213 e);rw[I]at h;obtain⟨c0,C,a,u,h0⟩:=B.o _ h.o.1;rw[G,I];clear d x M y N d0 e0 D E F G H S T z V W X a0 hy hr b0 I;go_enter func278,ntmps278;go_wp2_with fail;generalize y:w.alloc (.cells #[e.d,A,e.c,e.a,e.b,e.f] 213)=i at h c0 C a u h0⊢;clear y c0 C a u h0;have D:∀a:Gw i,a.W.cell? ⟨Q,31,O⟩=R (aK (R ⟨s,0,O⟩)):=fun a=>(B.o _ (a.a h.o.1)).1;have E:∀a:Gw i,a.W.cell? ⟨p.b,0,O⟩=R (J U j):=fun a=>(B.o _ (a.a h.o.1)).2.1;have F:∀a:Gw i,a.W.cell? ⟨p.b,26,O⟩=R (J U q):=fun a=>(B.o _ (a.a h.o.1)).2.2.1;have z:Y (∀a:Gw i,aF au 276 #[aS k,j,J U 5,f] a.W fun b g=>b=av (aN #[m.1,m.2])∧∃y:Gw i,g=y.W):=aj fun a=>Calls.gw (g0.o _);have j:Y (∀a:Gw i,aF au 61 #[qp s,q] a.W fun b g=>b=av (aS k)∧∃y:Gw i,g=y.W):=aj fun a=>Calls.gw (f0.o _ (a.a h.o.1));refine dJ Y3 Y3 ?_;repeat(refine WQ.d (fun g a=>?_);go_simp;first|(refine a _ ?_;clear a g)|(apply Exists.intro;refine⟨fun _=>?_,a _ ?_⟩;(first|(go_at_call 276;exact z.o _)|(go_at_call 61;exact j.o _));clear a g))
 refine WQ.b ?_;rintro _ ⟨u2,rfl⟩;have g:=aj (u2.a h.o.1);have i:=aj (h.o.2.b u2.h);generalize a:u2.W=k at g i⊢;clear D E F z j a u2 h f0 g0;go_wp2_with fail;refine mB (j0.o _) ?_;rintro a rfl;by_cases a:m.1=3
 ·have h:Y (je c p.x e f=m):=aj (by rw[L.o,aP a]);clear L;obtain⟨j,k⟩:=m;dsimp only at a⊢;subst a;go_wp2;go_ret2;exact⟨by rw[h.o];rfl,t.o.g g.o⟩
 ·have h:Y (je c p.x e f=if A=0 then(3,21)else if o=false∨n≠1∨l.k≠0 then(3,23)else if v then(2,0)else nC r.2):=aj (by rw[L.o,aL a]);have j:=aM.2 a;have j:=i.o.a 1;clear a L;by_cases i:A=0
  ·have a:Y (je c p.x e f=(3,21)):=aj (by rw[h.o,aP i]);subst i;clear h;go_wp2_with fail;refine mB (dR 21 _) ?_;rintro k rfl;go_wp2;go_ret2;exact⟨by rw[a.o];rfl,t.o.g g.o⟩
  ·have a:Y (je c p.x e f=if o=false∨n≠1∨l.k≠0 then(3,23)else if v then(2,0)else nC r.2):=aj (by rw[h.o,aL i]);have j:=aM.2 i;clear i h;obtain⟨c0,C,_,u,_⟩:=B.o _ g.o;have i:(o=false∧je c p.x e f=(3,23))∨(o=true∧¬n=1∧je c p.x e f=(3,23))∨(o=true∧n=1∧¬l.k=0∧je c p.x e f=(3,23))∨(o=true∧n=1∧l.k=0∧je c p.x e f=if v then(2,0)else nC r.2):=by
    cases x:o
    ·exact .inl ⟨rfl,by rw[a.o,aP (.inl x)]⟩
    ·by_cases j:n=1
     ·by_cases h:l.k=0
      ·exact .inr (.inr (.inr ⟨rfl,j,h,by rw[a.o,aL (fun d=>d.elim (fun d=>by rw[x]at d;cases d) (fun d=>d.elim (fun d=>d j) (fun d=>d h)))]⟩))
      ·exact .inr (.inr (.inl ⟨rfl,j,h,by rw[a.o,aP (.inr (.inr h))]⟩))
     ·exact .inr (.inl ⟨rfl,j,by rw[a.o,aP (.inr (.inl j))]⟩)
   clear a;rcases i with⟨rfl,d⟩|⟨rfl,j,d⟩|⟨rfl,rfl,h,d⟩|⟨rfl,rfl,h,d⟩
   ·have i:=aj d;clear d;go_wp2_with fail;refine mB (dR 23 _) ?_;rintro k rfl;go_wp2;go_ret2;exact⟨by rw[i.o];rfl,t.o.g g.o⟩
   ·have i:=aj d;have a:=aM.2 j;clear d;go_wp2_with fail;refine mB (dR 23 _) ?_;rintro k rfl;go_wp2;go_ret2;exact⟨by rw[i.o];rfl,t.o.g g.o⟩
   ·have i:=aj d;obtain⟨m,n,o,q,s⟩:=l;have x:=Dk;dsimp only at h K;have a:=aM.2 h;clear d;go_wp2_with fail;refine mB (K.o _ g.o) fun k a=>?_;have j:=aj (g.o.trans (a.mono g.o.size));clear a;go_wp2_with fail;refine mB (dR 23 _) ?_;rintro y rfl;go_wp2;go_ret2;exact⟨by rw[i.o];rfl,t.o.g j.o⟩
   ·have i:=aj d;obtain⟨m,n,o,q,s⟩:=l;have x:=Dk;dsimp only at h K;subst h;clear d;go_wp2_with fail;refine mB (K.o _ g.o) fun k a=>?_;have j:=aj (g.o.trans (a.mono g.o.size));have C:=cb a C;have u:=cb a u;clear a;go_wp2_with fail;refine mB (i0.o _ j.o) fun y a=>?_;have d:=aj (j.o.trans (a.mono j.o.size));have u:=cb a u;clear a;cases v
    ·have g:Y (je c p.x e f=nC r.2):=aj (by rw[i.o,aL Y2]);clear i;go_wp2_with fail;refine mB (k0.o _ d.o) fun h a=>?_;have h:=aj (d.o.trans (a.mono d.o.size));clear a;go_wp2_with fail;refine mB (uj r.2 _) ?_;rintro a rfl;go_wp2;go_ret2;exact⟨by rw[g.o];rfl,t.o.g h.o⟩
    ·have g:Y (je c p.x e f=(2,0)):=aj (by rw[i.o,aP rfl]);clear i;go_wp2;go_ret2;exact⟨by rw[g.o];rfl,t.o.g d.o⟩
end
abbrev GU (a:Ta):Array aI:=a
def lq (c d:Array aI) (e:Ta) (f:Ms):(Nat→Nat)→(Nat→Bool)→List Ow:=fun b a=>(if a 15 then [(b 15,208,if a 17 then GU e else c)]else [])++(if a 16 then [(b 16,314,if a 18 then qW f else d)]else [])
def Tt (i:List Ow→aB→Prop) (c d:Array aI) (e:Ta) (f:Ms) (b:List Nat) (h:17∈b∧18∈b):Mf (fun g a j=>i (lq c d e f g a) j) [15,16] b:=fun g j a k m b i l=>by
 have m:=b 15 (.inl Y1);have n:=b 16 (.inl Y1);have o:=b 17 (.inr h.1);have p:=b 18 (.inr h.2)
 have b:=i 15 Y1;have h:=i 16 Y1
 have:lq c d e f j k=lq c d e f g a:=by
  unfold lq
  rw[←m,←n,←o,←p]
  cases h15:a 15<;>cases h16:a 16<;>simp<;>simp[h15]at b<;>simp[h16]at h<;>simp[b,h]
 dsimp only
 rw[this]
 exact l
def Tv {A:List Ow→aB→Prop} {Q:Exit→Act→aB→Prop} {wc:aB} {g pb n:Nat} {st rule:Int} {t t1:Ta} {m1:Ms} {z:Bool} {FA:Option aX} {FC:Nat} 
  (hA:A [] wc.drew)
  (hC:ZY A)
  (G0:∀L W,A L W→aF au 201 #[aK (R ⟨g,0,O⟩),aK (R ⟨pb,0,O⟩)] W fun e w'=>e=av (aS #[aO t.a,aA t.m,J U t.p,J U t.d,J U t.l])∧A L w')
  (G1:∀L W,A L W→aF au 203 #[aK (R ⟨pb,0,O⟩)] W fun e w'=>e=av (aO z)∧A L w')
  (G2:∀L W,A L W→aF au 202 #[aS #[aO t.a,aA t.m,J U t.p,J U t.d,J U t.l],Z FA n FC,aO z] W fun e w'=>e=av (aN #[lS t1,uV m1,J U rule])∧A L w')
  (y37:∀L W,A L W→W.cell? ⟨pb,37,O⟩=R (Z FA n FC))
  (hK:∀v8 v17 v18 v19 v20 v21 v22 v23 v24 v25 v26 v27 v28 v29 v30 v31 b6 b7 W,A [(b6,208,GU t1),(b7,314,qW m1)] W→Q .normal ⟨#[aK (R ⟨g,0,O⟩),aK (R ⟨pb,0,O⟩),bq,bq,aO false,J U st,aK (R ⟨b6,0,O⟩),aK (R ⟨b7,0,O⟩),v8,u9,Q0,Q1,Q2,Q3,Q4,Q5,Q6,v17,v18,v19,v20,v21,v22,v23,v24,v25,v26,v27,v28,v29,v30,v31,N2,N3,N4,N5,N6,N7,N8,N9,X0,X1,X2,X3,X4,X5,X6,X7,X8,X9,O0,O1,O2,O3,O4,O5,O6,O7,O8,O9,J0,J1,J2,J3,J4,J5,J6,J7,J8,J9,R0,R1,R2,R3,R4,R5,R6,R7,R8,R9,M0,M1,M2,M3,M4,M5],[]⟩ W):
  Code.wp au (fu 2 (f162.body.getD .skip)) Q ⟨#[aK (R ⟨g,0,O⟩),aK (R ⟨pb,0,O⟩),bq,bq,aO false,J U st,u6,u7,u8,u9,Q0,Q1,Q2,Q3,Q4,Q5,Q6,Q7,Q8,Q9,T0,T1,T2,T3,T4,T5,T6,T7,T8,T9,N0,N1,N2,N3,N4,N5,N6,N7,N8,N9,X0,X1,X2,X3,X4,X5,X6,X7,X8,X9,O0,O1,O2,O3,O4,O5,O6,O7,O8,O9,J0,J1,J2,J3,J4,J5,J6,J7,J8,J9,R0,R1,R2,R3,R4,R5,R6,R7,R8,R9,M0,M1,M2,M3,M4,M5],[]⟩ wc:=by
 obtain⟨z1,hz1⟩:∃z:Array aI,z=#[aO false,aA {data:=#[]},J U 0,J U 0,J U 0]:=⟨_,rfl⟩
 obtain⟨z2,hz2⟩:∃z:Array aI,z=#[aA {data:=#[]},J U 0,J U 0,aO false]:=⟨_,rfl⟩
 haveI:Nonempty (Wd fun w=>∃L,A L w):=⟨⟨_,_,hA⟩⟩
 have Y37:∀u:Wd (fun w=>∃L,A L w),u.W.cell? ⟨pb,37,O⟩=R (Z FA n FC):=fun u=>y37 _ _ u.a.choose_spec
 have HK:=aj hK
 replace G0:=aj G0
 replace G1:=aj G1
 replace G2:=aj G2
 have HZ1:=aj hz1
 have HZ2:=aj hz2
 clear hK y37 hz1 hz2
 unfold lS uV at G2
 conv=>arg 2;whnf
 refine mE [15,16] [2,9,10,17,18] uJ (fun β d W=>A (lq z1 z2 t1 m1 β d) W) (fun i=>if i=2 then aS #[aO t.a,aA t.m,J U t.p,J U t.d,J U t.l]else if i=9 then aO z else if i=10 then aN #[lS t1,uV m1,J U rule]else bq) (by kernel_rfl) (by kernel_rfl) (by intro s hs;simp at hs;simp;omega) (Tt A z1 z2 t1 m1 _ (by simp)) hA (fun β=>WL.h ?_)
 clear hA
 have oth:∀(k:Nat) (d:Nat→Bool),k<15→lq z1 z2 t1 m1 β (fI d k)=lq z1 z2 t1 m1 β d:=fun k d hk=>by
  unfold lq fI
  simp[show(15==k)=false by simp;omega,show(16==k)=false by simp;omega,show(17==k)=false by simp;omega,show(18==k)=false by simp;omega]
 have rd:∀(ops:Array Oper) (k:Nat) d w,uI .any ops k d→A (lq z1 z2 t1 m1 β d) w→∃L,A L w:=fun _ _ _ _ _ h=>⟨_,h⟩
 repeat(refine WL.e (A:=fun w=>∃L,A L w) (rd _ _) (fun K hK=>?_);go_simp;refine hK _ ?_;clear hK K)
 refine WL.g (aS #[aO t.a,aA t.m,J U t.p,J U t.d,J U t.l]) (fun d W hd h=>?_) ?_ (fun _=>rfl)
 ·go_simp
  exact G0.o _ _ h
 repeat(refine WL.e (A:=fun w=>∃L,A L w) (rd _ _) (fun K hK=>?_);go_simp;refine hK _ ?_;clear hK K)
 refine WL.g (aO z) (fun d W hd h=>?_) ?_ (fun _=>rfl)
 ·go_simp
  exact G1.o _ _ h
 repeat(refine WL.e (A:=fun w=>∃L,A L w) (rd _ _) (fun K hK=>?_);go_simp;refine hK _ ?_;clear hK K)
 refine WL.g (aN #[aS #[aO t1.a,aA t1.m,J U t1.p,J U t1.d,J U t1.l],aS #[aA m1.m,J U m1.t,J U m1.n,aO m1.b],J U rule]) (fun d W hd h=>?_) ?_ (fun _=>rfl)
 ·go_simp
  exact G2.o _ _ h
 repeat(refine WL.e (A:=fun w=>∃L,A L w) (rd _ _) (fun K hK=>?_);go_simp;refine hK _ ?_;clear hK K)
 refine WL.t (fun d W hd h=>⟨W.alloc (.cells z1 208),by rw[HZ1.o];kernel_rfl,?_⟩) ?_
 ·have d15:=hd.b
  have d17:=hd.a 17 (by decide+kernel)
  have:=hC.d _ _ 208 z1 h
  have e:lq z1 z2 t1 m1 (lU β 15 W.heap.size) (fI d 15)=(W.heap.size,208,z1)::lq z1 z2 t1 m1 β d:=by
   unfold lq lU fI
   simp[d15,d17]
  rw[e]
  exact this
 dsimp only[Act.put]
 refine WL.t (fun d W hd h=>⟨W.alloc (.cells z2 314),by rw[HZ2.o];kernel_rfl,?_⟩) ?_
 ·have d16:=hd.b
  have d18:=hd.a 18 (by decide+kernel)
  have:=hC.d _ _ 314 z2 h
  cases d15:d 15
  ·have e:lq z1 z2 t1 m1 (lU β 16 W.heap.size) (fI d 16)=(W.heap.size,314,z2)::lq z1 z2 t1 m1 β d:=by
    unfold lq lU fI
    simp[d15,d16,d18]
   rw[e]
   exact this
  ·have e0:lq z1 z2 t1 m1 β d=[(β 15,208,if d 17 then GU t1 else z1)]:=by unfold lq;simp[d15,d16]
   have e:lq z1 z2 t1 m1 (lU β 16 W.heap.size) (fI d 16)=[(β 15,208,if d 17 then GU t1 else z1),(W.heap.size,314,z2)]:=by
    unfold lq lU fI
    simp[d15,d16,d18]
   rw[e0]at this
   rw[e]
   exact hC.e _ _ _ this
 dsimp only[Act.put]
 refine WL.g bq (fun d W hd h=>?_) ?_ (fun _=>rfl)
 ·have d17:=hd.b
  have d15:=hd.c 15 (by decide+kernel)
  have e0:lq z1 z2 t1 m1 β d=(β 15,208,z1)::(if d 16 then [(β 16,314,if d 18 then qW m1 else z2)]else []):=by unfold lq;simp[d15,d17]
  have e:lq z1 z2 t1 m1 β (fI d 17)=(β 15,208,GU t1)::(if d 16 then [(β 16,314,if d 18 then qW m1 else z2)]else []):=by unfold lq fI;simp[d15,d17]
  rw[e0]at h
  have hb:=hC.a _ _ _ h
  have hp:=aj (hC.c _ _ _ [aO t1.a,aA t1.m,J U t1.p,J U t1.d,J U t1.l] _ _ h (by rw[HZ1.o];rfl))
  rw[e]
  rw[HZ1.o]at hb
  have hc:=bH.k hb
  have hf:=hb.c
  dsimp only at hf
  clear hb h e0 e d15 d17
  go_simp
  exact hp.o
 repeat(refine WL.e (A:=fun w=>∃L,A L w) (rd _ _) (fun K hK=>?_);go_simp;refine hK _ ?_;clear hK K)
 refine WL.g bq (fun d W hd h=>?_) ?_ (fun _=>rfl)
 ·have d18:=hd.b
  have d16:=hd.c 16 (by decide+kernel)
  have hx:∃L0:List Ow,(L0=[]∨∃x,L0=[x])∧lq z1 z2 t1 m1 β d=L0++[(β 16,314,z2)]∧lq z1 z2 t1 m1 β (fI d 18)=L0++[(β 16,314,qW m1)]:=by
   refine⟨if d 15 then [(β 15,208,if d 17 then GU t1 else z1)]else [],?_,?_,?_⟩
   ·cases d 15
    ·exact .inl rfl
    ·exact .inr ⟨_,rfl⟩
   ·unfold lq;simp[d16,d18]
   ·unfold lq fI;simp[d16,d18]
  obtain⟨L0,hL,e0,e⟩:=hx
  rw[e0]at h
  have h2:A ((β 16,314,z2)::L0) W:=by
   rcases hL with rfl|⟨x,rfl⟩
   ·exact h
   ·exact hC.e _ _ _ h
  have hb:=hC.a _ _ _ h2
  have hp:Y (A (L0++[(β 16,314,qW m1)]) (W.setCells (β 16) 0 [aA m1.m,J U m1.t,J U m1.n,aO m1.b])):=aj (by
   have h3:=hC.c _ _ _ [aA m1.m,J U m1.t,J U m1.n,aO m1.b] _ _ h2 (by rw[HZ2.o];rfl)
   rcases hL with rfl|⟨x,rfl⟩
   ·exact h3
   ·exact hC.e _ _ _ h3)
  rw[e]
  rw[HZ2.o]at hb
  have hc:=bH.l hb
  have hf:=hb.c
  dsimp only at hf
  clear hb h h2 e0 e d16 d18 hL
  go_simp
  exact hp.o
 repeat(refine WL.e (A:=fun w=>∃L,A L w) (rd _ _) (fun K hK=>?_);go_simp;refine hK _ ?_;clear hK K)
 exact WL.b fun w' hw'=>by apply HK.o;exact hw'
def Tw {A B:aB→Prop} {i:Exit→Act→aB→Prop} {wc:aB} {f j a k l d:Nat} {m g:Int} {h:Sm} 
  (c:A wc.drew) (e:∀b:Wd A,aF au 200 #[qp a,pV h] b.W fun o n=>o=av g∧B n)
  (o:∀b:Wd A,b.W.cell? ⟨f,31,O⟩=R (aK (R ⟨a,0,O⟩)))
  (p:∀b:Wd A,bH b.W d 211 (fD h))
  (a:∀q r s t u v o,B o→i .normal ⟨#[qp f,qp j,bq,bq,u4,J U m,qp k,qp l,u8,qp d,Q0,Q1,Q2,Q3,Q4,Q5,Q6,Q7,Q8,Q9,T0,T1,T2,T3,T4,T5,T6,T7,T8,T9,N0,N1,N2,N3,N4,N5,N6,N7,N8,N9,X0,X1,X2,X3,X4,X5,X6,X7,X8,X9,O0,q,r,s,t,u,v,aO (!(g==0)),O8,O9,J0,J1,J2,J3,J4,J5,J6,J7,J8,J9,R0,R1,R2,R3,R4,R5,R6,R7,R8,R9,M0,M1,M2,M3,M4,M5],[]⟩ o):
  Code.wp au (fu 7 (f162.body.getD .skip)) i ⟨#[qp f,qp j,bq,bq,u4,J U m,qp k,qp l,u8,qp d,Q0,Q1,Q2,Q3,Q4,Q5,Q6,Q7,Q8,Q9,T0,T1,T2,T3,T4,T5,T6,T7,T8,T9,N0,N1,N2,N3,N4,N5,N6,N7,N8,N9,X0,X1,X2,X3,X4,X5,X6,X7,X8,X9,O0,O1,O2,O3,O4,O5,O6,O7,O8,O9,J0,J1,J2,J3,J4,J5,J6,J7,J8,J9,R0,R1,R2,R3,R4,R5,R6,R7,R8,R9,M0,M1,M2,M3,M4,M5],[]⟩ wc:=by
 haveI:Nonempty (Wd A):=⟨⟨_,c⟩⟩;haveI:Nonempty (Wd fun f=>A f∨B f):=⟨⟨_,.inl c⟩⟩;replace e:=aj e;have f:=aj a;unfold pV at e;clear a;conv=>arg 2;whnf
 refine jQ A B [5] 5 c ?_;clear c;iterate 4 ((first|refine WL.c (fun c a=>?_)|refine WL.rb (fun c a=>?_));go_simp;refine a _ ?_;clear a c)
 refine WL.v 211 (.tmp 9) d 0 (fD h) (fun b=>(p b).v) underlying211 dW ?_;dsimp only[Act.put];refine WL.f (J U g) (fun b=>?_) ?_
 ·go_simp;exact e.o b
 repeat((first|refine WL.c (fun c a=>?_)|refine WL.d (fun c a=>?_));go_simp;refine a _ ?_;clear a c)
 exact WL.b fun n a=>by apply f.o;exact a
abbrev zbH (a:aB) (b:Nat) (c:Ta):Prop:=a.cell? ⟨b,0,O⟩=R (aO c.a)∧a.cell? ⟨b,1,O⟩=R (aA c.m)∧a.cell? ⟨b,2,O⟩=R (J U c.p)∧a.cell? ⟨b,3,O⟩=R (J U c.d)∧a.cell? ⟨b,4,O⟩=R (J U c.l)
def Tx {A B:aB→Prop} {i:Exit→Act→aB→Prop} {wc:aB} {j g h k b:Nat} {l c:Int} {m:Sm} {d:Ta} 
  (e:A wc.drew) (n:c=0∨c=1)
  (f:∀a:Wd A,(c=0→B (a.W.setCells b 7 [aO d.a,aA d.m,J U d.p,J U d.d,J U d.l]))∧(c=1→B (a.W.setCells b 12 [aO d.a,aA d.m,J U d.p,J U d.d,J U d.l])))
  (o:∀a:Wd A,a.W.cell? ⟨g,0,O⟩=R (J U c))
  (c:∀a:Wd A,zbH a.W h d)
  (c:∀a:Wd A,Gl a.W b m)
  (c:∀(a:Wd A) c,a.W.frozen? ⟨b,c,O⟩=false)
  (c:∀o p q r s t u v m,B m→i .normal ⟨#[qp j,qp g,bq,bq,u4,J U l,qp h,qp k,u8,qp b,Q0,Q1,Q2,Q3,Q4,Q5,Q6,Q7,Q8,Q9,T0,T1,T2,T3,T4,T5,T6,T7,T8,T9,N0,N1,N2,N3,N4,N5,N6,N7,N8,N9,X0,X1,X2,X3,X4,X5,X6,X7,X8,X9,O0,O1,O2,O3,O4,O5,O6,O7,o,p,q,r,s,t,u,v,J6,J7,J8,J9,R0,R1,R2,R3,R4,R5,R6,R7,R8,R9,M0,M1,M2,M3,M4,M5],[]⟩ m):
  Code.wp au (fu 9 (f162.body.getD .skip)) i ⟨#[qp j,qp g,bq,bq,u4,J U l,qp h,qp k,u8,qp b,Q0,Q1,Q2,Q3,Q4,Q5,Q6,Q7,Q8,Q9,T0,T1,T2,T3,T4,T5,T6,T7,T8,T9,N0,N1,N2,N3,N4,N5,N6,N7,N8,N9,X0,X1,X2,X3,X4,X5,X6,X7,X8,X9,O0,O1,O2,O3,O4,O5,O6,O7,O8,O9,J0,J1,J2,J3,J4,J5,J6,J7,J8,J9,R0,R1,R2,R3,R4,R5,R6,R7,R8,R9,M0,M1,M2,M3,M4,M5],[]⟩ wc:=by
 haveI:Nonempty (Wd A):=⟨⟨_,e⟩⟩;haveI:Nonempty (Wd fun b=>A b∨B b):=⟨⟨_,.inl e⟩⟩;replace f:=aj f;have g:=aj c;clear c;conv=>arg 2;whnf
 refine jQ A B [8] 8 e ?_;clear e;rcases n with rfl|rfl
 all_goals
  repeat((first|refine WL.c (fun b c=>?_)|refine WL.d (fun b c=>?_));go_simp;refine c _ ?_;clear c b)
  refine WL.f bq (fun a=>?_) ?_
  ·go_simp;first|exact(f.o a).1 rfl|exact(f.o a).2 rfl
  exact WL.b fun h e=>by apply g.o;exact e
def Oe {A B:aB→Prop} {i:Exit→Act→aB→Prop} {wc:aB} {j f d k l m:Nat} {c n:Int} {o b:mR} 
  (e:A wc.drew) (g:∀a:Wd A,aF au 147 #[aS o,c] a.W fun h p=>h=av (aS b)∧A p)
  (h:∀a:Wd A,B (a.W.setCells d 0 [J U b.k,J U b.o,aO b.a,aO b.b,J U b.y]))
  (q:∀a:Wd A,a.W.cell? ⟨f,0,O⟩=R (J U c))
  (c:∀a:Wd A,zbb a.W d o)
  (c:∀(a:Wd A) c,a.W.frozen? ⟨d,c,O⟩=false)
  (c:∀q r s t u v w o,B o→i .normal ⟨#[qp j,qp f,bq,bq,u4,J U n,qp k,qp l,u8,qp m,Q0,qp d,Q2,Q3,Q4,Q5,Q6,Q7,Q8,Q9,T0,T1,T2,T3,T4,T5,T6,T7,T8,T9,N0,N1,N2,N3,N4,N5,N6,N7,N8,N9,X0,X1,X2,X3,X4,X5,X6,X7,X8,X9,O0,O1,O2,O3,O4,O5,O6,O7,O8,O9,J0,J1,J2,J3,J4,J5,J6,J7,J8,J9,R0,R1,R2,R3,R4,q,r,s,t,u,v,w,M2,M3,M4,M5],[]⟩ o):
  Code.wp au (fu 14 (f162.body.getD .skip)) i ⟨#[qp j,qp f,bq,bq,u4,J U n,qp k,qp l,u8,qp m,Q0,qp d,Q2,Q3,Q4,Q5,Q6,Q7,Q8,Q9,T0,T1,T2,T3,T4,T5,T6,T7,T8,T9,N0,N1,N2,N3,N4,N5,N6,N7,N8,N9,X0,X1,X2,X3,X4,X5,X6,X7,X8,X9,O0,O1,O2,O3,O4,O5,O6,O7,O8,O9,J0,J1,J2,J3,J4,J5,J6,J7,J8,J9,R0,R1,R2,R3,R4,R5,R6,R7,R8,R9,M0,M1,M2,M3,M4,M5],[]⟩ wc:=by
 haveI:Nonempty (Wd A):=⟨⟨_,e⟩⟩;haveI:Nonempty (Wd fun d=>A d∨B d):=⟨⟨_,.inl e⟩⟩;replace g:=aj g;replace h:=aj h;have f:=aj c;clear c;conv=>arg 2;whnf
 refine jQ A B [6,7] 7 e ?_;clear e;repeat((first|refine WL.c (fun d c=>?_)|refine WL.d (fun d c=>?_));go_simp;refine c _ ?_;clear c d)
 refine WL.i (aS b) (fun a=>?_) ?_
 ·go_simp;exact g.o a
 refine WL.f bq (fun a=>?_) ?_
 ·go_simp;exact h.o a
 exact WL.b fun p a=>by apply f.o;exact a
def Xk {A:List Ow→aB→Prop} {D:aB→Prop} {wc:aB} {i f j l e:Nat} {n fr:Int} {z:Bool} {m:Sm} {n1 nw:mR} (q:A [(e,211,fD m)] wc) (c:ZY A) (u:∀b a d,A b a→aJ a a d→A b d)
  (t:n1=if m.k=2 then⟨3,1,true,false,0⟩else m.r) (v:nw=if z then .c (gI n1.k n1.o n1.a n1.b n1.y fr)else n1)
  (k:∀b a,A b a→aF au 203 #[qp f] a fun d g=>d=av z∧A b g)
  (h:∀b a,A b a→aF au 105 #[qp i,pV m,aS nw] a fun d g=>d=av (aN #[])∧D g)
  (w:∀b a,A b a→a.cell? ⟨f,0,O⟩=R (J U fr)):
  Code.wp au (Ht 10 (f162.body.getD .skip)) (bodyPost au f162 fun d g=>d=av true∧D g) ⟨#[qp i,qp f,bq,bq,u4,J U n,qp j,qp l,u8,qp e,Q0,Q1,Q2,Q3,Q4,Q5,Q6,Q7,Q8,Q9,T0,T1,T2,T3,T4,T5,T6,T7,T8,T9,N0,N1,N2,N3,N4,N5,N6,N7,N8,N9,X0,X1,X2,X3,X4,X5,X6,X7,X8,X9,O0,O1,O2,O3,O4,O5,O6,O7,O8,O9,J0,J1,J2,J3,J4,J5,J6,J7,J8,J9,R0,R1,R2,R3,R4,R5,R6,R7,R8,R9,M0,M1,M2,M3,M4,M5],[]⟩ wc:=by
 have x:=c.a _ _ _ q;have j:=bH.t x;have f:=aj (c.d _ _ 151 (Gn m.r) q);have r:Y (m.k=2→n1=⟨3,1,true,false,0⟩):=aj fun b=>by rw[t,aP b]
 have l:Y (m.k≠2→n1=m.r):=aj fun b=>by rw[t,aL b]
 have n:Y ((z=false→nw=n1)∧(z=true→nw=.c (gI n1.k n1.o n1.a n1.b n1.y fr))):=aj (by rw[v];exact⟨fun b=>by rw[b];rfl,fun b=>by rw[b];rfl⟩);obtain⟨o,i⟩:∃p,p=m.r:=⟨_,rfl⟩;have B:#[J U m.k,m.o,m.a,m.b,m.y]=Gn o:=by rw[i];rfl
 have y:o.k=m.k:=by rw[i];rfl
 rw[←i]at f l;rw[←y]at r l;replace k:=aj k;replace h:=aj h;have p:=aj u;have s:=aj w;unfold pV at h;clear q v t i u w y;conv=>arg 2;whnf
 go_upto_region 11 with fail;generalize wc.alloc (.cells (Gn o) 151)=u at f⊢;generalize wc.heap.size=i at f⊢;clear j B x;have t:=bH.k (c.a _ _ _ f.o);have w:∀q,u.frozen? ⟨i,q,O⟩=false:=(c.a _ _ _ f.o).c;go_upto_if 70 with fail;go_cut [] (fun q=>Y (A [(i,151,Gn n1),(e,211,fD m)] q));case first=>
  by_cases q:o.k=2
  ·have x:(o.k==2)=true:=by rw[q];rfl
   have v:Y (A [(i,151,Gn n1),(e,211,fD m)] (u.setCells i 0 [J U 3,J U 1,aO true,aO false,J U 0])):=aj (by have:=c.c _ _ _ [J U 3,J U 1,aO true,aO false,J U 0] _ _ f.o rfl;rw[r.o q];exact this)
   clear q r l k h n f p s;go_wp2;go_meet;exact v
  ·have x:=aM.2 q;have v:Y (A [(i,151,Gn n1),(e,211,fD m)] u):=aj (by rw[l.o q];exact f.o);clear q r l k h n f p s;go_wp2;go_meet;exact v
 case rest=>
  have o:=hcut;clear f r l t w hcut;go_wp2_with fail;go_at_call 203;refine mB (k.o _ _ o.o) fun l q=>?_;have f:=aj q;clear q o k;have k:∀l,A [(i,151,Gn nw),(e,211,fD m)] l→bH l e 211 (fD m)∧bH l i 151 (Gn nw):=fun l b=>⟨c.a _ _ _ (c.e _ _ _ b),c.a _ _ _ b⟩;obtain rfl|rfl:z=false∨z=true:=by cases z<;>simp
  ·obtain rfl:=n.o.1 rfl;have j:=aj (k _ f.o).1;have t:=bH.k (k _ f.o).2;have l:=aj (h.o _ _ f.o);clear n s p h f k c;go_upto_region 15 with fail;go_wp2_with (first|refine eT rfl 211 (.tmp 9) rfl e 0 rfl (eU m) (jl j.o) underlying211 rfl dW (fD m) rfl ?_);go_at_call 105;refine mB l.o fun w o=>?_;have q:=aj o;clear o l j t;go_wp2;go_ret;exact⟨rfl,q.o⟩
  ·have r:Y (∀a,aF au 147 #[aS n1,fr] a fun d g=>d=av (aS nw)∧aJ a a g):=aj fun a=>by obtain⟨v,u⟩:=exq (gI n1.k n1.o n1.a n1.b n1.y fr);have v:=n.o.2 rfl;rw[u]at v;refine mB (DY n1.k n1.o n1.a n1.b n1.y fr a) fun g b=>?_;exact⟨by rw[u,v];rfl,b⟩
   go_upto_region 14 with fail;refine Oe (A:=fun a=>A [(i,151,Gn n1),(e,211,fD m)] a) (B:=fun a=>A [(i,151,Gn nw),(e,211,fD m)] a) (p.o _ _ _ f.o (ay _ _).drew) (fun a=>(r.o _).mono fun d g b=>⟨b.1,p.o _ _ _ a.a b.2⟩) (fun a=>c.c _ _ _ _ _ _ a.a rfl) (fun a=>s.o _ _ a.a) (fun a=>bH.k (c.a _ _ _ a.a)) (fun a=>(c.a _ _ _ a.a).c) ?_;intros;rename_i b a;have j:=aj (k _ a).1;have t:=bH.k (k _ a).2;have l:=aj (h.o _ _ a);clear a n s p h f r k c;dsimp only[Exit.then];go_upto_region 15 with fail;go_wp2_with (first|refine eT rfl 211 (.tmp 9) rfl e 0 rfl (eU m) (jl j.o) underlying211 rfl dW (fD m) rfl ?_);go_at_call 105;refine mB l.o fun w o=>?_;have q:=aj o;clear o l j t;go_wp2;go_ret;exact⟨rfl,q.o⟩
end Go.Proofs.YtdcacpeaimjdlaaGreatDoor
