/- Part of the proof. -/
import Derived.Test.YtdcacpeaimjdlaaGreatDoorPab
import Derived.BigQuiet
import Derived.Deep.Cut
import Derived.Deep.RegionHeld
namespace Go.Proofs.YtdcacpeaimjdlaaGreatDoor
open Go.RowKit Go.Maps Go.Proofs.Tryz Mq
open Go.Value renaming int→J,slice→Z,string→aA,pointer→aK,bool→aO,tuple→aN,agg→aS,complex→aH
open Go.IntKind renaming i64→U
open Option renaming none→O,some→R
open Go.Ending renaming returned→av
open Go renaming World→aB,Value→aI,Calls→aF,Addr→aX,TypeId→bB,undef→bq
open Go.RowKit renaming Below→aJ
open Go.Proofs.Tryz renaming prog→au
open Go.FloatKind renaming f64→aW
set_option maxRecDepth 20000
set_option maxHeartbeats 0
set_option linter.all false
def Hw {j:Program} {f:aB} {k:Array Oper} {a:Oper} {b:Act} {l:Act→aB→Prop} {m:Exit→Act→aB→Prop} {n:Prop} (o:a.guard=O) (g:bB) (h i:Operand) (p:a.op=.store g h i)
  (d e:Nat) (c:Array aI) (q:b.eval h=aK (R ⟨d,e,O⟩)) (r:b.eval i=aS c)
  (s:f.there d e c.size) (t:(j.info? g).map (·.size)=R c.size) (u:c.all (·.oneCell')=true)
  (v:l (b.put a.dst bq) (f.setCells d e c.toList)):if Region.wanted a (yielded k b.tmps)=true then Oper.wp j a b f l m else n:=by
 have f:Region.wanted a (yielded k b.tmps)=true:=by simp[Region.wanted,o]
 rw[aP f];exact wp_store_mid g h i p d e c q r s t u v
def En {c:Oper} {d:Act} {j:Act→aB→Prop} {m:Exit→Act→aB→Prop} {e:aB} (a:bB) (f:Operand) (n:c.op=.load a f) (g h:Nat) (o:d.eval f=aK (R ⟨g,h,O⟩)) (b:List aI) {i:TypeDesc}
  (p:∀k l,b[k]?=R l→e.cell? ⟨g,h+k,O⟩=R l) (l:Tryz.prog.underlying a=R i) (q:i.isRow=true) (r:(Tryz.prog.info? a).map (·.size)=R b.length) (k:Array aI) (s:b.toArray=k)
  (t:j (d.put c.dst (aS k)) e):Oper.wp au c d e j m:=
 wp_load_mid a f n g h o b i p l q r (by rw[s];exact t)
def eT {e:Array Oper} {k:List Oper} {a:Oper} {b:Act} {l:Exit→Act→aB→Prop} {f:aB} (o:Region.wanted a (yielded e b.tmps)=true) (c:bB) (g:Operand) (p:a.op=.load c g) (h i:Nat) (q:b.eval g=aK (R ⟨h,i,O⟩)) (d:List aI) {j:TypeDesc}
  (r:∀m n,d[m]?=R n→f.cell? ⟨h,i+m,O⟩=R n) (m:Tryz.prog.underlying c=R j) (n:j.isRow=true) (s:(Tryz.prog.info? c).map (·.size)=R d.length) (j:Array aI) (t:d.toArray=j)
  (u:wpList au e l k (b.put a.dst (aS j)) f):wpList au e l (a::k) b f:=
 wpList_step fun b a=>by
  rw[aP o]
  exact En c g p h i q d r m n s j t (a _ _ u)
def jl {c:aB} {d:Nat} {a:bB} {e:List aI} (f:bH c d a e.toArray):∀a b,e[a]?=R b→c.cell? ⟨d,0+a,O⟩=R b:=fun a b c=>by
 rw[cK,f.a a,←c];exact List.getElem?_toArray
def iI {b:aB} {e f c g h:Nat} {a:bB} {d:aI} {i:List aI} {j:Int→Option Int} (k:b.ownsRow e a h d f i) (e:iF b c g j):∀b,d.ownBlock=R b→b≠c:=by
 intro b c;rcases k.2 with⟨a,_⟩|⟨d,g,h,a,_,f,_⟩
 ·subst a;cases c
 ·subst a;have a:d=b:=by simpa[Value.ownBlock]using c
  subst a;exact e.c f
def jR {m:Program} {b:aB} {ops:Array Oper} {d:Oper} {h:Act} {K:Act→aB→Prop} {Q:Exit→Act→aB→Prop} {E:Prop} (V:d.guard=O) (D F:Operand) (n:bB)
  (G:d.op=.call {callee:=.builtin .append,args:=#[D,F],argTypes:=#[n,n]})
  (o:Nat) (i:bB) (e:Nat) {v:aI} {w:Nat} (W:(m.info? i).map (fun x=>(x.zero,x.size,x.bytes))=R (R v,e,w)) (X:v.cells.size=e) (a0:0<e) (H:m.underlying n=R (.slice i))
  (j:aI) (c:Nat) (q:List aI) (I:h.eval D=j) (r:b.ownsRow o i e j c q)
  (s:Option aX) (a y:Nat) (k:List aI) (L:h.eval F=Z s a y) (z:k.length=a*e) (hA:s=O→a=0∧y=0) (b0:bU b s k) (h1:∀l∈k,l.oneCell'=true)
  (c0:c+a≤maxLen) (d0:(c+a)*w≤140737488355328) (e0:o≤b.heap.size)
  (M:∀f g p,p.ownsRow o i e (Z f (c+a) g) (c+a) (q++k)→b.grownBy p j.ownBlock→((Z f (c+a) g).ownBlock=j.ownBlock∨(Z f (c+a) g).ownBlock=R b.heap.size)→K (h.put d.dst (Z f (c+a) g)) p):
  if Region.wanted d (yielded ops h.tmps)=true then Oper.wp m d h b K Q else E:=by
 have hw:Region.wanted d (yielded ops h.tmps)=true:=by simp[Region.wanted,V]
 rw[aP hw];obtain⟨N,P,f0,g0,h0⟩:=info_parts W;cases hAe:s with
 |none=>obtain⟨t,A⟩:=hA hAe;subst t A hAe;rw[Nat.zero_mul]at z;have i0:=dL z;subst i0;obtain⟨f,g,B⟩:=dB r;have S:=M f g b (by rw[List.append_nil,dQ,←B];exact r) (yG _ _) (by rw[dQ,B];exact .inl rfl);rw[dQ,←B]at S;have j0:=run_append_owned_none (P:=m) (w:=b) o n d.type i N e H P j c q r;unfold Oper.wp;simp[execOp,G,resolve,invoke,builtin,I,L,j0,Result.andThen];exact S
 |some T=>
  subst hAe;have k0:∀u l,k[u]?=R l→b.cell? (T.add u)=R l:=fun u l hu=>by obtain⟨l0,d,C,e2⟩:=b0 u l hu;injection C with C;subst C;rwa[Addr.add_lit]
  obtain⟨v',p,hr,t,A,_,h5⟩:=run_append_own_at (P:=m) b o n d.type i N v e w H P f0 g0 h0 X a0 j c q r T a y k z k0 h1 c0 d0 e0;obtain⟨f,g,rfl⟩:=dB t;unfold Oper.wp execOp;simp only[G,resolve,invoke,builtin,Sem.run_bind,Sem.run_pure,Result.andThen_ok,List.map_toArray,List.map_cons,List.map_nil,I,L,hr];exact M f g p t A h5
structure nG where
 a:List Int
 d:List Nat
 b:List Nat
def nG.c (s:nG) (a:Nat):Nat:=a+s.d.getD a 0
def vP (a:Nat→Bool):Nat→Nat
 |0=>0
 |b+1=>vP a b+if a b then 1 else 0
def Kh (b:Nat→Bool):∀a,vP b a≤a
 |0=>aD _
 |a+1=>by unfold vP;have:=Kh b a;split<;>omega
def oQ {c d:Nat→Bool}:∀a,(∀b,b<a→c b=d b)→vP c a=vP d a
 |0,_=>rfl
 |a+1,c=>by unfold vP;rw[oQ a (fun b d=>c b Y0),c a Y0]
def Bj {d e:Nat→Bool} {b:Nat} (h:d b=false) (i:e b=true) (f:∀c,c≠b→d c=e c):∀a,b<a→vP e a=vP d a+1
 |0,d=>Y0
 |a+1,d=>by
  unfold vP
  by_cases d:a=b
  ·subst d
   rw[h,i,oQ a (fun c b=>(f c Y0).symm)];simp
  ·rw[Bj h i f a Y0,f a d];omega
def Bl {c:Nat→Bool}:∀a,(∀b,b<a→c b=false)→vP c a=0
 |0,_=>rfl
 |a+1,c=>by unfold vP;rw[Bl a (fun b d=>c b Y0),c a Y0];rfl
def nG.i (s:nG) (a b:Nat):Bool:=decide (b≤a∧a<s.c b)
def nG.l (s:nG) (a:Nat):Nat:=vP (s.i a) s.a.length
structure nG.e (s:nG):Prop where
 e:s.a.Nodup
 b:s.d.length=s.a.length
 a:s.b.length=s.a.length
 c:∀i,i<s.a.length→s.c i≤s.a.length
 d:∀j,j<s.a.length→s.b[j]?=R (s.l j)
def nG.e.f {s:nG} (b:s.e):∀a∈s.b,a≤s.a.length:=by intro a c;obtain⟨d,a⟩:=List.getElem?_of_mem c;have c:=(aU.1 a).1;rw[b.a]at c;rw[b.d d c]at a;rw[←Option.some.inj a];exact Kh _ _
def nG.k:nG:=⟨[],[],[]⟩
def nG.j (s:nG) (a:Int):nG:=if(dY s.a a).isSome then s else⟨s.a++[a],s.d++[0],s.b++[0]⟩
def nG.h (M:Int) (s:nG) (a:Int):Bool:=match dY s.a a with
 |none=>false
 |some a=> !(M==0)&&(s.b.drop (s.c a)).all (fun a=>decide ((a:Int)<M))
def tF (a:Nat) (b:List Nat):List Nat:=b.take a++(b.drop a).map (·+1)
def nG.f (M:Int) (s:nG) (a:Int):nG:=if s.h M a then match dY s.a a with
 |none=>s
 |some a=>⟨s.a,s.d.set a (s.a.length-a),tF (s.c a) s.b⟩else s
def wX (b:Nat) (a:List Nat):(tF b a).length=a.length:=by unfold tF;simp<;>omega
def Ki (a:Nat) (b:List Nat) (c:Nat):(tF a b)[c]?=(b[c]?).map fun e=>if a≤c then e+1 else e:=by
 unfold tF;by_cases d:c<(b.take a).length
 ·rw[dh d];have f:c<a:=by simp at d;omega
  rw[List.getElem?_take,aP f];cases b[c]? with
  |none=>rfl
  |some e=>simp<;>omega
 ·rw[cB Y0];simp only[dw]at d⊢;rw[bS,List.getElem?_drop];by_cases f:a≤b.length
  ·have f:min a b.length=a:=Y0;rw[f]at d⊢;rw[show a+(c-a)=c from Y0];cases b[c]? with
   |none=>rfl
   |some e=>simp<;>omega
  ·have f:min a b.length=b.length:=Y0;rw[f]at d⊢;rw[bQ Y0,bQ Y0];rfl
def zcs:nG.k.e:=⟨List.nodup_nil,rfl,rfl,(fun b a=>by cases a),(fun b a=>by cases a)⟩
def Mh {s:nG} (b:Int) (a:s.d.length=s.a.length) (a:Nat):(nG.mk (s.a++[b]) (s.d++[0]) (s.b++[0])).c a=s.c a:=by
 unfold nG.c;dsimp only;rw[aY,aY];by_cases b:a<s.d.length
 ·rw[dh b]
 ·rw[cB Y0,bQ (l:=s.d) Y0];cases a-s.d.length with
  |zero=>rfl
  |succ a=>rfl
def zct {s:nG} (d:Int) (a:s.e) (c:dY s.a d=O):(nG.mk (s.a++[d]) (s.d++[0]) (s.b++[0])).e:=by
 have h:=Mh (s:=s) d a.b;have i:s.c s.a.length=s.a.length:=by unfold nG.c;rw[aY,bQ (by rw[a.b];exact aD _)];rfl
 refine⟨?_,by simp[a.b],by simp[a.a],?_,?_⟩
 ·rw[List.nodup_append];refine⟨a.e,Y1,?_⟩;intro f e j b;simp at b;subst b;rintro rfl;exact Bc.1 c e
 ·intro b f;rw[h];simp only[bL,List.length_singleton]at f⊢;by_cases e:b<s.a.length
  ·have:=a.c b e;omega
  ·have:b=s.a.length:=Y0;rw[this,i];omega
 ·intro c j;simp only[bL,List.length_singleton]at j;have j:∀b,(nG.mk (s.a++[d]) (s.d++[0]) (s.b++[0])).i c b=s.i c b:=fun b=>by unfold nG.i;rw[h]
  have h:(nG.mk (s.a++[d]) (s.d++[0]) (s.b++[0])).l c=vP (s.i c) s.a.length+if s.i c s.a.length then 1 else 0:=by unfold nG.l;simp only[bL,List.length_singleton];rw[oQ _ (fun b _=>j b)];rfl
  have d:s.i c s.a.length=false:=by unfold nG.i;rw[i];simp<;>omega
  rw[h,d];by_cases e:c<s.a.length
  ·rw[dh (by rw[a.a];exact e),a.d c e];rfl
  ·have d:c=s.a.length:=Y0;subst d;rw[cB (by rw[a.a];exact aD _),a.a,Nat.sub_self];rw[Bl _ (fun b f=>by unfold nG.i;have:=a.c b f;simp<;>omega)];rfl
def Pv {s:nG} (a:Int) (b:s.e):(s.j a).e:=by
 unfold nG.j;split
 ·exact b
 ·rename_i c;exact zct a b (by cases b:dY s.a a with
   |none=>rfl
   |some a=>rw[b]at c;exact absurd rfl c)
def Vo {s:nG} {n:Int} {a:Nat} (d:s.e) (o:dY s.a n=R a):(nG.mk s.a (s.d.set a (s.a.length-a)) (tF (s.c a) s.b)).e:=by
 have h:=iV o;have r:=d.c a h;have i:(nG.mk s.a (s.d.set a (s.a.length-a)) (tF (s.c a) s.b)).c a=s.a.length:=by unfold nG.c;dsimp only;rw[aY,List.getElem?_set_self (by rw[d.b];exact h)];simp<;>omega
 have j:∀b,b≠a→(nG.mk s.a (s.d.set a (s.a.length-a)) (tF (s.c a) s.b)).c b=s.c b:=fun b f=>by unfold nG.c;dsimp only;rw[aY,List.getElem?_set_ne (fun e=>f e.symm),←aY]
 refine⟨d.e,by simp[d.b],by simp[wX,d.a],?_,?_⟩
 ·intro b f;by_cases e:b=a
  ·subst e;rw[i];exact aD _
  ·rw[j b e];exact d.c b f
 ·intro c k;dsimp only at k;rw[Ki,d.d c k];simp only[Option.map_some];congr 1;have l:∀b,b≠a→s.i c b=(nG.mk s.a (s.d.set a (s.a.length-a)) (tF (s.c a) s.b)).i c b:=fun b f=>by unfold nG.i;rw[j b f]
  by_cases m:s.c a≤c
  ·rw[aP m];have p:s.i c a=false:=by unfold nG.i;simp<;>omega
   have q:(nG.mk s.a (s.d.set a (s.a.length-a)) (tF (s.c a) s.b)).i c a=true:=by
    unfold nG.i;rw[i];have:a≤s.c a:=by unfold nG.c;omega
    simp<;>omega
   exact(Bj p q l _ h).symm
  ·rw[aL m];refine oQ _ fun b f=>?_;by_cases e:b=a
   ·subst e;unfold nG.i;rw[i];have:(b≤c∧c<s.c b)↔(b≤c∧c<s.a.length):=Y0;simp only[this]
   ·exact l b e
def Vp {M:Int} {s:nG} (b:Int) (a:s.e):(s.f M b).e:=by
 unfold nG.f;split
 ·cases hp:dY s.a b with
  |none=>exact a
  |some b=>exact Vo a hp
 ·exact a
def qx (a:List Nat):List aI:=a.map fun a=>J U (a:Nat)
def Tryz.info3:(Tryz.prog.info? 3).map (fun a=>(a.zero,a.size,a.bytes))=R (R (J U 0),1,8):=by kernel_rfl
def sJ (s:nG) (a:Int):Int:=match dY s.a a with
 |some a=>(s.d.getD a 0:Nat)
 |none=>0
def Mps (w:aB) (s:nG) (F:List Nat) (T:Nat) (c d:Option Nat):Prop:=
 (s.a=[]∧c=O∧d=O)∨∃a b e,c=R a∧d=R b∧a∈F∧b∈F∧a≠b∧iF w a T (qF s.a)∧iF w b T e∧∀a,(e a).getD 0=sJ s a
structure Pw (w:aB) (g:Nat) (M:Int) (s:nG) (F:List Nat) (T:Nat) (A:Option aX) (C:Nat) (am km:Option Nat):Prop where
 a:bH w g 157 #[M,.map am,.map km,Z A s.b.length C]
 c:w.ownsRow 0 3 1 (Z A s.b.length C) s.b.length (qx s.b)
 d:∀b,(Z A s.b.length C).ownBlock=R b→b∈F∧b≠g
 e:Mps w s F T am km
 f:g∈F
 h:∀b∈F,b<w.heap.size
def Gr (w:aB) (g:Nat) (M:Int) (s:nG) (F:List Nat) (T:Nat):Prop:=∃a b c d,Pw w g M s F T a b c d
section
variable {w w':aB} {g T:Nat} {M:Int} {s:nG} {F F1:List Nat}
def Mps.a {b c:Option Nat} (a:Mps w s F T b c) (d:bg F1 w w') (hF:∀e∈F,e∉F1):Mps w' s F T b c:=by
 rcases a with a|⟨b,c,h,i,j,e,f,k,l,m,n⟩
 ·exact .inl a
 ·exact .inr ⟨b,c,h,i,j,e,f,k,l.a d (hF b e),m.a d (hF c f),n⟩
def Pw.i {d:Option aX} {e:Nat} {f h:Option Nat} (a:Pw w g M s F T d e f h) (c:bg F1 w w') (hF:∀b∈F,b∉F1):Pw w' g M s F T d e f h:=
 ⟨a.a.g c (hF g a.f),bO a.c c (fun b d=>hF b (a.d b d).1),a.d,a.e.a c hF,a.f,fun b d=>aV (a.h b d) c.b⟩
def Pw.k {a:Option aX} {b:Nat} {c d:Option Nat} (e:Pw w g M s F T a b c d) (f:aJ w w w'):Pw w' g M s F T a b c d:=e.i (F1:=[]) (bg.d f) (fun _ _=>by simp)
def Gr.b (a:Gr w g M s F T) (b:bg F1 w w') (hF:∀c∈F,c∉F1):Gr w' g M s F T:=by obtain⟨c,d,e,f,a⟩:=a;exact⟨c,d,e,f,a.i b hF⟩
def Pw.j {b:Option aX} {a:Nat} {c d:Option Nat} (e:Pw w g M s F T b a c d):s.b.length≤a∧a≤9223372036854775807:=by
 rcases e.c.2 with⟨a,b⟩|⟨f,h,i,a,_,_,c,d,_⟩
 ·injection a with e f b;subst b;exact⟨Y0,Y0⟩
 ·injection a with e f b;subst b;exact⟨c,by unfold maxLen at d;omega⟩
def Gr.c (a:Gr w g M s F T) (b:aJ w w w'):Gr w' g M s F T:=a.b (F1:=[]) (bg.d b) (fun _ _=>by simp)
end
def Px (a M:Int) (w:aB) (c:Y (M=if a<0 then 0 else a)):aF au 53 #[a] w fun b w'=>b=av (aK (R ⟨w,0,O⟩))∧Gr w' w.heap.size M .k [w.heap.size] 0∧aJ w w w':=by
 have d:Y (Gr (w.alloc (.cells #[M,.map O,.map O,Z O 0 0] 157)) w.heap.size M .k [w.heap.size] 0):=
  aj ⟨O,0,O,O,⟨bH.d _ _ _,aT _ _ _ _,(fun e b=>by cases b),.inl ⟨rfl,rfl,rfl⟩,aC.2 rfl,fun e b=>by rw[aC.1 b];simp⟩⟩
 by_cases b:a<0
 ·obtain rfl:M=0:=by rw[c.o,aP b]
  go_enter func53,ntmps53;go_wp2;go_ret;exact⟨rfl,d.o,(ay _ _).alloc (aD _) _⟩
 ·obtain rfl:M=a:=by rw[c.o,aL b]
  go_enter func53,ntmps53;go_wp2;go_ret;exact⟨rfl,d.o,(ay _ _).alloc (aD _) _⟩
def Mi (g T:Nat) (M a:Int) (s:nG) (F:List Nat) (w:aB) (c:Y ((Lit.int U a).wf=true)) (e:Y (dY s.a a=O)) (d:Y (Gr w g M s F T)):aF au 63 #[qp g,a] w fun b w'=>b=av (aN #[Z O 0 0,false])∧w=w':=by
 obtain⟨h,i,f,j,b⟩:=d.o;have d:=b.a.H 1;have d:=b.e;clear b;rcases d with⟨_,rfl,_⟩|⟨f,h,i,rfl,_,_,_,_,b,_⟩
 ·have d:=Maps.look_nil (P:=au) (w:=w) (t:=155) (k:=3) (e:=3) true kk underlying155 (qH w) (keyOf_int_mk underlying3 c.o);go_enter func63,ntmps63;go_wp2;go_ret2;exact Y5
 ·have f:=aj b;have d:Y ((qF s.a a).getD 0=0∧(qF s.a a).isSome=false):=aj (by unfold qF;rw[e.o];exact Y5);clear b;go_enter func63,ntmps63;go_wp2_with (at_lookup;go_loud (refine jF rfl (.tmp 14) (.tmp 15) rfl f.o rfl a rfl c.o 0 false d.o.1 d.o.2 ?_));go_wp2;go_ret2;exact Y5
def sub (a:Option aX) (c b:Nat):Option aX:=if c=b then a else a.map (·.add b)
def vQ (g T:Nat) (M a:Int) (s:nG) (F:List Nat) (b e:Nat) (d:Option aX) (f:Nat) (o p:Option Nat) (w:aB) (c:s.a.length≤1000) (q:Y s.e) (k:Y ((Lit.int U a).wf=true)) (i:Y (dY s.a a=R b)) (r:Y (s.c b=e)) (h:Y (Pw w g M s F T d f o p)):
  aF au 63 #[qp g,a] w fun c w'=>c=av (aN #[Z (sub d f e) (s.b.length-e) (f-e),true])∧w.drew=w':=by
 have l:=iV i.o;obtain⟨c,j⟩:=exq (s.d.getD b 0);have m:=q.o.c b l;have n:=r.o;unfold nG.c at m n;rw[j]at m n;subst n;have n:=q.o.a;obtain⟨q,r⟩:=h.o.j;have r:=h.o.a.H 1;have o:=h.o.a.H 2;have o:=h.o.a.H 3;have p:=h.o.e;obtain⟨r,h⟩:=exq s.b.length;rw[h]at o n q⊢;have o:b+c≤r:=Y0;clear h n m;rcases p with⟨o,_⟩|⟨q,e,r,rfl,rfl,_,_,_,n,h,m⟩
 ·rw[o]at l;simp at l
 ·have o:=aj n;have l:Y ((qF s.a a).getD 0=(b:Nat)∧(qF s.a a).isSome=true):=aj (by unfold qF;rw[i.o];exact Y5);have p:=h.g a k.o;rw[m a,show sJ s a=(c:Nat)from by unfold sJ;rw[i.o];exact bE _ j]at p;have p:(Instr.lookup 155 (.map (R e)) (J U a) false).run au w.drew=.ok (J U (c:Nat)) w.drew:=by have:=(h.a (F:=[]) (bg.l w) Y1).g a k.o;rw[m a,show sJ s a=(c:Nat)from by unfold sJ;rw[i.o];exact bE _ j]at this;exact this
  clear n h m j;have e:b<1000:=Y0;go_enter func63,ntmps63;go_wp2_with (at_lookup;go_loud (refine jF rfl (.tmp 14) (.tmp 15) rfl o.o rfl a rfl k.o (b:Nat) true l.o.1 l.o.2 ?_));go_wp2;go_region;go_wp2;all_goals
   go_ret2;refine⟨?_,rfl⟩;first
    |(rw[show sub d (b+c) (b+c)=d from aP rfl];try rfl)
    |(rw[show sub d f (b+c)=d.map (·.add (b+c))from aL (by assumption)];try rfl)
def Py (g T:Nat) (M a:Int) (s:nG) (F:List Nat) (w:aB) (c:Y ((Lit.int U a).wf=true)) (d:Y (dY s.a a=O)) (e:Y (Gr w g M s F T)):aF au 29 #[qp g,a] w fun b w'=>b=av false∧aJ w w w':=by go_enter func29,ntmps29;go_wp2_with fail;refine mB (Mi g T M a s F _ c d e) ?_;rintro a rfl;go_wp2;go_ret;exact⟨rfl,ay _ _⟩
def Pz (g T:Nat) (a:Int) (s:nG) (F:List Nat) (c:Nat) (w:aB) (e:s.a.length≤1000) (f:Y s.e) (h:Y ((Lit.int U a).wf=true)) (i:Y (dY s.a a=R c)) (j:Y (Gr w g 0 s F T)):aF au 29 #[qp g,a] w fun d w'=>d=av false∧aJ w w w':=by obtain⟨k,l,m,n,b⟩:=j.o;have j:=aj b;have o:=b.a.H 0;clear b;go_enter func29,ntmps29;go_wp2_with fail;refine mB (vQ g T 0 a s F c _ k l m n _ e f h i (aj rfl) j) ?_;rintro a rfl;go_wp2;go_ret;exact⟨rfl,(ay _ _).drew⟩
def Kj (a:List Nat) {b c:Nat} (d:a[b]?=R c):(qx a)[b]?=R (J U (c:Nat)):=by unfold qx;rw[bS,d];rfl
def PD (a:List Nat):(qx a).length=a.length:=by unfold qx;simp
def PE (g T:Nat) (M e:Int) (s:nG) (F:List Nat) (f:Nat) (w:aB) (r:s.a.length≤1000) (l:Y s.e) (a:(M==0)=false) (t:Y ((Lit.int U e).wf=true)) (u:Y (dY s.a e=R f)) (a:Y (Gr w g M s F T)):
  aF au 29 #[qp g,e] w fun m w'=>m=av (aO ((s.b.drop (s.c f)).all (fun b=>decide ((b:Int)<M))))∧aJ w w w':=by
 obtain⟨n,o,v,x,d⟩:=a.o;have y:=aj d;have a:=d.a.H 0;obtain⟨c,i⟩:=exq (s.c f);have z:=aj i;have j:=(bU.e d.c).d (k:=c) (PD _) d.j.1;have p:bU w (sub n o c) (qx (s.b.drop c)):=by unfold qx at j⊢;rw[List.map_drop];exact j
 have q:=aj p;have A:=l.o.a;obtain⟨a,h⟩:=exq (s.b.drop c);have k:s.b.length-c=a.length:=by rw[←h];simp
 have B:a.length≤1000:=by rw[←k];omega
 have B:=aj k;rw[i,h];rw[h]at q;clear d i j p A k h;go_enter func29,ntmps29;go_wp2_with fail;refine mB (vQ g T M e s F f c n o v x _ r l t u z y) ?_;rintro c rfl;rw[B.o];go_wp2;go_loop [26] (fun d=>∃c:Nat,d=J U (c:Nat)∧c≤a.length∧Y (a.all (fun b=>decide ((b:Int)<M))=(a.drop c).all (fun b=>decide ((b:Int)<M)))) (fun d=>a.length- (intOf d).toNat);case atStart=>exact⟨0,rfl,aZ _,aj rfl⟩
 case round=>
  obtain⟨c,rfl,d,h⟩:=hrel;by_cases e:c<a.length
  ·have d:(c:Int)<(a.length:Int):=Y0;obtain⟨d,f⟩:∃d,a[c]?=R d:=⟨_,aQ e⟩;obtain⟨j,k,i,l⟩:=q.o c _ (Kj _ f);rw[i];have j:a.drop c=d::a.drop (c+1):=by
    have k:a[c]=d:=by rw[aQ e]at f;exact Option.some.inj f
    rw[List.drop_eq_getElem_cons e,k]
   have e:=h.o;rw[j,List.all_cons]at e;clear f i j;by_cases f:(d:Int)<M
   ·have d:Y (a.all (fun b=>decide ((b:Int)<M))=(a.drop (c+1)).all (fun b=>decide ((b:Int)<M))):=aj (by rw[e];simp[f]);clear e;go_wp2;go_round;case rel=>exact⟨c+1,by go_num,Y0,d⟩
    case measure=>simp[intOf];omega
   ·have d:Y (a.all (fun b=>decide ((b:Int)<M))=false):=aj (by rw[e];simp[f]);clear e;go_wp2;go_ret;exact⟨fB d.o.symm,(ay _ _).drew⟩
  ·have d:Y (a.all (fun b=>decide ((b:Int)<M))=true):=aj (by rw[h.o,List.drop_eq_nil_of_le Y0];rfl);go_wp2;go_ret;exact⟨fB d.o.symm,(ay _ _).drew⟩
def Cq (g T:Nat) (M a:Int) (s:nG) (F:List Nat) (w:aB) (d:s.a.length≤1000) (e:Y s.e) (b:Y ((Lit.int U a).wf=true)) (c:Y (Gr w g M s F T)):aF au 29 #[qp g,a] w fun f w'=>f=av (aO (s.h M a))∧aJ w w w':=by
 unfold nG.h;cases hp:dY s.a a with
 |none=>exact Py g T M a s F w b (aj hp) c
 |some f=>
  by_cases h:M=0
  ·subst h;exact Pz g T a s F f w d e b (aj hp) c
  ·have i:(M==0)=false:=Y6 h;dsimp only;rw[i];exact PE g T M a s F f w d e i b (aj hp) c
def iF.f {w:aB} {d e:Nat} {b c:Int→Option Int} (f:iF w d e b) (h:∀a,b a=c a):iF w d e c:=by rw[show c=b from funext fun a=>(h a).symm];exact f
def iF.b {w:aB} {a b c:Nat} {d:Int→Option Int} (e:iF w a b d) (f:b≤c):iF w a c d:=by obtain⟨a,b,c⟩:=e;exact⟨a,b.mono f,c⟩
def Bn (g T:Nat) (M a:Int) (s:nG) (F:List Nat) (b:Nat) (w:aB) (f:Y ((Lit.int U a).wf=true)) (d:Y (dY s.a a=R b)) (h:Y (Gr w g M s F T)):aF au 149 #[qp g,a] w fun c w'=>c=av false∧w=w':=by
 have e:=iV d.o;obtain⟨j,k,i,l,c⟩:=h.o;have h:=c.a.H 1;have h:=c.e;clear c;rcases h with⟨i,_⟩|⟨j,k,l,rfl,rfl,_,_,_,c,_⟩
 ·rw[i]at e;simp at e
 ·have h:=aj c;have e:Y ((qF s.a a).getD 0=(b:Nat)∧(qF s.a a).isSome=true):=aj (by unfold qF;rw[d.o];exact Y5);clear c;go_enter func149,ntmps149;go_wp2_with (at_lookup;go_loud (refine jF rfl (.tmp 13) (.tmp 14) rfl h.o rfl a rfl f.o (b:Nat) true e.o.1 e.o.2 ?_));go_wp2;go_ret;exact Y5
def Kk (g T:Nat) (M b:Int) (s:nG) (F:List Nat) (w:aB) (a:Ending) (w':aB):Prop:=
 a=av true∧∃a,Gr w' g M ⟨s.a++[b],s.d++[0],s.b++[0]⟩ a (T+1)∧bg F w w'∧∀b∈a,b∈F∨w.heap.size≤b
structure Pre (w w0:aB) (g T:Nat) (M:Int) (s:nG) (F:List Nat) (A:Option aX) (C a k:Nat) (f:Int→Option Int) (F0:List Nat):Prop where
 c:bH w0 g 157 #[M,.map (R a),.map (R k),Z A s.b.length C]
 e:w0.ownsRow 0 3 1 (Z A s.b.length C) s.b.length (qx s.b)
 h:∀b,(Z A s.b.length C).ownBlock=R b→b∈F0∧b≠g
 l:g∈F0
 p:∀b∈F0,b<w0.heap.size
 m:a∈F0
 q:k∈F0
 n:a≠k
 d:iF w0 a T (qF s.a)
 i:iF w0 k T f
 r:∀x,(f x).getD 0=sJ s x
 o:bg F w w0
 j:∀b∈F0,b∈F∨w.heap.size≤b
def PG {s:nG} {b:Int} {c:Nat} (d:dY s.a b=O) (e:s.a.length=c) (a:Int):(if a=b then R (c:Int)else qF s.a a)=qF (s.a++[b]) a:=by
 unfold qF;rw[rJ];by_cases c:a=b
 ·subst c;rw[aP rfl,d,e];simp
 ·rw[aL c];have:¬b=a:=fun b=>c b.symm;cases hq:dY s.a a with
  |some a=>rfl
  |none=>simp[this]
def Vq {s:nG} {b:Int} (a:dY s.a b=O) (c:s.d.length=s.a.length) (a:Int):sJ s a=sJ ⟨s.a++[b],s.d++[0],s.b++[0]⟩ a:=by
 unfold sJ;dsimp only;rw[rJ];cases hq:dY s.a a with
 |some d=>dsimp only;rw[aY,aY,dh (by rw[c];exact iV hq)]
 |none=>
  dsimp only;by_cases d:b=a
  ·rw[aP d];dsimp only;rw[aY,←c,cB (aD _)];simp
  ·rw[aL d]
def Bo {w c f j:aB} {g T p h k a e l:Nat} {M d:Int} {s:nG} {F n:List Nat} {q:Option aX} {u:Int→Option Int} (v:s.e) (x:dY s.a d=O) (m:s.b.length=a) (b:Pre w c g T M s F q p h k u n)
  (E:iF f h (T+1) (fun r=>if r=d then R (a:Int)else qF s.a r)) (i:c.drew.grownBy f (R h))
  (y:j.ownsRow 0 3 1 (Z (R ⟨e,0,O⟩) (a+1) l) (a+1) (qx s.b++[J U 0])) (z:(f.alloc (.cells #[J U 0] 3)).grownBy j (Z q a p).ownBlock)
  (A:(Z (R ⟨e,0,O⟩) (a+1) l).ownBlock=(Z q a p).ownBlock∨(Z (R ⟨e,0,O⟩) (a+1) l).ownBlock=R (f.heap.size+1)):
  Kk g T M d s F w (av true) (j.setCell ⟨g,3,O⟩ (Z (R ⟨e,0,O⟩) (a+1) l)):=by
 subst m;have G:c.heap.size≤f.heap.size:=i.size;have t:bg [h] c f:=(bg.l c).a (bg.k (F:=[h]) i (fun c i=>by injection i with i;subst i;exact .inl (aC.2 rfl))) (fun c d=>.inl d);have B:g≠h:=b.d.c b.c;have H:g≠k:=b.i.c b.c;have C:=iI b.e b.d;have I:=iI b.e b.i;have D:bH f g 157 _:=b.c.g t (by simpa using B);have K:iF f k T u:=b.i.a t (by simpa using b.n.symm);have a:=bO b.e t (fun c d=>by simpa using C c d);obtain⟨o,m⟩:∃o:List Nat,(∀c,(Z q s.b.length p).ownBlock=R c↔c∈o):=by
  cases a:(Z q s.b.length p).ownBlock with
  |none=>exact⟨[],by simp⟩
  |some c=>exact⟨[c],by intro p;simp[eq_comm]⟩
 have q:bg (g::o) f j:=(bg.n f (.cells #[J U 0] 3)).a (F1:=o) (bg.k z (fun c i=>.inl ((m c).1 i))) (fun c d=>.inl (bJ _ d));have p:bg (g::o) f (j.setCell ⟨g,3,O⟩ (Z (R ⟨e,0,O⟩) (s.b.length+1) l)):=q.a (bg.e (F:=[g]) j (aC.2 rfl) _) (fun c d=>.inl (by rw[aC.1 d];exact bM));have q:g∉o:=fun a=>(b.h g ((m g).2 a)).2 rfl;have L:bH j g 157 _:=(D.h (.cells #[J U 0] 3)).u z (fun i=>q ((m g).1 i.symm));have o:e≠g:=by
  rcases A with a|a
  ·rintro rfl;exact q ((m _).1 a.symm)
  ·have q:e=f.heap.size+1:=by simpa[Value.ownBlock]using a
   have j:=D.e;omega
 have z:e∈n∨w.heap.size≤e:=by
  rcases A with a|a
  ·exact .inl (b.h e a.symm).1
  ·have q:e=f.heap.size+1:=by simpa[Value.ownBlock]using a
   have j:=b.o.b;exact .inr (by omega)
 have q:∀c∈e::n,c∈F∨w.heap.size≤c:=by
  intro c d;rcases bA.1 d with rfl|d
  ·rcases z with a|a
   ·exact b.j _ a
   ·exact .inr a
  ·exact b.j c d
 have f:(s.b++[0]).length=s.b.length+1:=Y1;refine⟨rfl,e::n,⟨R ⟨e,0,O⟩,l,R h,R k,?_,?_,?_,?_,bJ _ b.l,?_⟩,?_,q⟩
 ·dsimp only;rw[f];exact L.f 3 _
 ·dsimp only;rw[f];have:=ownsRow_setCell_other y (a:=⟨g,3,O⟩) (fun i=>o (by simpa[Value.ownBlock]using i)) (Z (R ⟨e,0,O⟩) (s.b.length+1) l);unfold qx at this⊢;rw[List.map_append];exact this
 ·intro c d;have:e=c:=by simpa[Value.ownBlock]using d
  subst this;exact⟨bM,o⟩
 ·refine .inr ⟨h,k,u,rfl,rfl,bJ _ b.m,bJ _ b.q,b.n,?_,?_,?_⟩
  ·exact(E.a p (by
    intro a;rcases bA.1 a with a|a
    ·exact B a.symm
    ·exact C h ((m h).2 a) rfl)).f (PG x v.a.symm)
  ·exact(K.a p (by
    intro a;rcases bA.1 a with a|a
    ·exact H a.symm
    ·exact I k ((m k).2 a) rfl)).b (Nat.le_succ _)
  ·intro r;rw[b.r r];exact Vq x v.b r
 ·intro c d;have j:=p.b;rcases bA.1 d with rfl|d
  ·have:=YI y;simpa using this
  ·exact aV (b.p c d) (aR G j)
 ·exact b.o.a (F1:=n) ((t.g (F1:=n) (fun c d=>.inl (by rw[aC.1 d];exact b.m))).a p (fun c d=>.inl (by
   rcases bA.1 d with a|a
   ·rw[a];exact b.l
   ·exact(b.h c ((m c).2 a)).1))) b.j
def Hy (g T:Nat) (M a:Int) (s:nG) (F:List Nat) (f:Option aX) (h b i:Nat) (w:aB) (c:s.a.length≤1000) (c:T≤1000000) (o:Y s.e) (p:Y ((Lit.int U a).wf=true)) (q:Y (dY s.a a=O)) (d:Y (Pw w g M s F T f h (R b) (R i))):
  aF au 149 #[qp g,a] w (Kk g T M a s F w):=by
 obtain⟨e,r,t,u,l,v,x⟩:∃e,b∈F∧i∈F∧b≠i∧iF w b T (qF s.a)∧iF w i T e∧∀a,(e a).getD 0=sJ s a:=by
  rcases d.o.e with⟨_,k,_⟩|⟨n,y,e,c,j,m⟩
  ·cases k
  ·injection c with c;injection j with j;subst c j;exact⟨e,m⟩
 have c:Y (Pre w w g T M s F f h b i e F):=aj ⟨d.o.a,d.o.c,d.o.d,d.o.f,d.o.h,r,t,u,l,v,x,bg.o _ _,fun j i=>.inl i⟩;have z:=aj l;have y:Y ((qF s.a a).getD 0=0∧(qF s.a a).isSome=false):=aj (by unfold qF;rw[q.o];exact Y5);have A:=o.o.a;obtain⟨e,m⟩:=exq s.b.length;have n:=aj m;have k:e≤1000:=Y0;have B:=d.o.a.H 1;have k:w.cell? ⟨g,3,O⟩=R (Z f e h):=by rw[←m];exact d.o.a.a 3
 have d:=fun w=>run_eql_map_nil (P:=au) w 155 3 3 (R b) underlying155;clear r t u l v x A m;go_enter func149,ntmps149;go_wp2_with (at_lookup;go_loud (refine jF rfl (.tmp 13) (.tmp 14) rfl z.o rfl a rfl p.o 0 false y.o.1 y.o.2 ?_));go_wp2;go_still_tail 10,Y3;go_wp2_with (at_mapUpdate;go_loud (refine oK rfl (.tmp 35) (.tmp 36) (.tmp 41) rfl (c.o.d.a (F:=[]) (bg.l _) Y1) (by unfold maxLen;omega) rfl a (e:Nat) rfl rfl p.o (bX Y0) ?_));intro d m l;have t:=aj m;have u:=aj l;have p:Y (bg [b] w d):=aj ((bg.l _).a (bg.k (F:=[b]) l (fun j a=>by injection a with a;subst a;exact .inl (aC.2 rfl))) (fun j i=>.inl i));have r:=c.o.d.c c.o.c;have b:=c.o.c.g p.o (Y6 r);have r:=aj (bO c.o.e p.o (fun j i=>by simpa using iI c.o.e c.o.d j i));rw[n.o]at b r;clear m l B k;have k:=b.H 3;obtain⟨p,v,x,y,z⟩:=info_parts Tryz.info3;go_wp2_with (at_builtin;go_loud (refine wpList_append_own_at _ rfl (.tmp 46) (.tmp 47) 37 rfl 0 3 p (J U 0) 1 8 underlying37 v x y z rfl Y2 _ e _ rfl (r.o.alloc _) ⟨d,0,O⟩ 1 1 [J U 0] rfl rfl (uq _ _ _) (uw rfl) (by unfold maxLen;omega) Y0 (aZ _) ?_));intro A l i j _ m;obtain⟨d,p,rfl⟩:=eu i Y0;have d:=(b.h (.cells #[J U 0] 3)).u j (fun a=>(c.o.h g (by rw[n.o];exact a.symm)).2 rfl);have a:=aj (Bo o.o q.o n.o c.o t.o u.o i j m);clear i j m k b;have k:=d.H 3;have b:=d.c 3;go_wp2;go_ret;exact a.o
def Eo (g T:Nat) (M k:Int) (s:nG) (F:List Nat) (f:Option aX) (h:Nat) (w:aB) (a:s.a.length≤1000) (a:T≤1000000) (p:Y s.e) (q:Y ((Lit.int U k).wf=true)) (v:Y (dY s.a k=O)) (d:Y (Pw w g M s F T f h O O)) (u:Y (s.a=[])):
  aF au 149 #[qp g,k] w (Kk g T M k s F w):=by
 have x:=Maps.look_nil (P:=au) (w:=w) (t:=155) (k:=3) (e:=3) true kk underlying155 (qH w) (keyOf_int_mk underlying3 q.o);have y:=fun w=>run_eql_map_nil (P:=au) w 155 3 3 O underlying155;have z:= @run_makeMap au;have A:=p.o.a;obtain⟨i,n⟩:=exq s.b.length;have l:=aj n;have a:i≤1000:=Y0;have o:=d.o.a.H 1;have B:=d.o.a.H 2;have C:=d.o.a.c 1;have D:=d.o.a.c 2;have j:w.cell? ⟨g,3,O⟩=R (Z f i h):=by rw[←n];exact d.o.a.a 3
 have a:=d.o.a.e;have E:¬g=w.heap.size:=Y0;have G:¬g=w.heap.size+1:=Y0;have c:Y (Pre w ((((w.setCell ⟨g,1,O⟩ (.map (R w.heap.size))).setCell ⟨g,2,O⟩ (.map (R (w.heap.size+1)))).alloc (.map #[] 0)).alloc (.map #[] 0)) g T M s F f h w.heap.size (w.heap.size+1) (fun _=>O) (w.heap.size::(w.heap.size+1)::F)):=aj (by
  have m:((w.setCell ⟨g,1,O⟩ (.map (R w.heap.size))).setCell ⟨g,2,O⟩ (.map (R (w.heap.size+1)))).heap.size=w.heap.size:=Y1;have e:bg [g] w ((w.setCell ⟨g,1,O⟩ (.map (R w.heap.size))).setCell ⟨g,2,O⟩ (.map (R (w.heap.size+1)))):=(bg.e (F:=[g]) (p:=⟨g,1,O⟩) w (aC.2 rfl) _).a (bg.e (F:=[g]) (p:=⟨g,2,O⟩) _ (aC.2 rfl) _) (fun a b=>.inl b);have t:bg ([]:List Nat) ((w.setCell ⟨g,1,O⟩ (.map (R w.heap.size))).setCell ⟨g,2,O⟩ (.map (R (w.heap.size+1)))) ((((w.setCell ⟨g,1,O⟩ (.map (R w.heap.size))).setCell ⟨g,2,O⟩ (.map (R (w.heap.size+1)))).alloc (.map #[] 0)).alloc (.map #[] 0)):=(bg.n _ _).a (bg.n (F:=[]) _ _) Y1;have r:=e.a t Y1;have e:=d.o.d;have H:∀a,(Z f s.b.length h).ownBlock=R a→a∉[g]:=fun a b=>by simpa using(e a b).2
  have t:iF (((w.setCell ⟨g,1,O⟩ (.map (R w.heap.size))).setCell ⟨g,2,O⟩ (.map (R (w.heap.size+1)))).alloc (.map #[] 0)) w.heap.size 0 (fun _=>O):=by have:=iF.d ((w.setCell ⟨g,1,O⟩ (.map (R w.heap.size))).setCell ⟨g,2,O⟩ (.map (R (w.heap.size+1))));rwa[m]at this
  have I:iF ((((w.setCell ⟨g,1,O⟩ (.map (R w.heap.size))).setCell ⟨g,2,O⟩ (.map (R (w.heap.size+1)))).alloc (.map #[] 0)).alloc (.map #[] 0)) (w.heap.size+1) 0 (fun _=>O):=by have:=iF.d (((w.setCell ⟨g,1,O⟩ (.map (R w.heap.size))).setCell ⟨g,2,O⟩ (.map (R (w.heap.size+1)))).alloc (.map #[] 0));rwa[World.size_alloc,m]at this
  have K:iF ((((w.setCell ⟨g,1,O⟩ (.map (R w.heap.size))).setCell ⟨g,2,O⟩ (.map (R (w.heap.size+1)))).alloc (.map #[] 0)).alloc (.map #[] 0)) w.heap.size 0 (fun _=>O):=t.a (F:=[]) (bg.n _ _) Y1;have t:=u.o;have L:∀m,(fun _=>O:Int→Option Int) m=qF s.a m:=fun m=>by unfold qF;rw[t];rfl
  have b:=((d.o.a.f 1 (.map (R w.heap.size))).f 2 (.map (R (w.heap.size+1))));refine⟨(b.h _).h _,bO d.o.c r H,fun a u=>⟨bJ _ (bJ _ (e a u).1),(e a u).2⟩,bJ _ (bJ _ d.o.f),?_,bM,bJ _ bM,Y0,(K.f L).b (aZ _),I.b (aZ _),?_,r.g (fun a b=>.inl (by rw[aC.1 b];exact d.o.f)),?_⟩
  ·intro a b;have e:((((w.setCell ⟨g,1,O⟩ (.map (R w.heap.size))).setCell ⟨g,2,O⟩ (.map (R (w.heap.size+1)))).alloc (.map #[] 0)).alloc (.map #[] 0)).heap.size=w.heap.size+2:=Y1;rw[e];rcases bA.1 b with e|e
   ·omega
   ·rcases bA.1 e with e|e
    ·omega
    ·have:=d.o.h a e;omega
  ·intro m;unfold sJ;rw[t];rfl
  ·intro a b;rcases bA.1 b with e|e
   ·exact .inr Y0
   ·rcases bA.1 e with e|e
    ·exact .inr Y0
    ·exact .inl e)
 clear A n;go_enter func149,ntmps149;go_wp2;obtain⟨d,m⟩:∃d,d=w.heap.size:=⟨_,rfl⟩;obtain⟨e,n⟩:∃e,e=w.heap.size+1:=⟨_,rfl⟩;obtain⟨e,r⟩:∃e,e=((((w.setCell ⟨g,1,O⟩ (.map (R w.heap.size))).setCell ⟨g,2,O⟩ (.map (R (w.heap.size+1)))).alloc (.map #[] 0)).alloc (.map #[] 0)):=⟨_,rfl⟩;rw[←r]at c⊢;clear r o B C D j x y z;rw[←n,←m]at c⊢;clear m n E G;have o:=c.o.c.H 1;have j:e.cell? ⟨g,3,O⟩=R (Z f i h):=by rw[←l.o];exact c.o.c.a 3
 go_still_tail 10,Y3;go_wp2_with (at_mapUpdate;go_loud (refine oK rfl (.tmp 35) (.tmp 36) (.tmp 41) rfl (c.o.d.a (F:=[]) (bg.l _) Y1) (by unfold maxLen;omega) rfl k (i:Nat) rfl rfl q.o (bX Y0) ?_));intro m r n;have t:=aj r;have u:=aj n;have k:Y (bg [d] e m):=aj ((bg.l _).a (bg.k (F:=[d]) n (fun a e=>by injection e with e;subst e;exact .inl (aC.2 rfl))) (fun a b=>.inl b));have q:=c.o.d.c c.o.c;have d:=c.o.c.g k.o (Y6 q);have q:=aj (bO c.o.e k.o (fun a b=>by simpa using iI c.o.e c.o.d a b));rw[l.o]at d q;clear r n o j;have j:=d.H 3;obtain⟨o,r,x,y,z⟩:=info_parts Tryz.info3;go_wp2_with (at_builtin;go_loud (refine wpList_append_own_at _ rfl (.tmp 46) (.tmp 47) 37 rfl 0 3 o (J U 0) 1 8 underlying37 r x y z rfl Y2 _ i _ rfl (q.o.alloc _) ⟨m,0,O⟩ 1 1 [J U 0] rfl rfl (uq _ _ _) (uw rfl) (by unfold maxLen;omega) Y0 (aZ _) ?_));intro A k a b _ n;obtain⟨m,o,rfl⟩:=eu a Y0;have m:=(d.h (.cells #[J U 0] 3)).u b (fun e=>(c.o.h g (by rw[l.o];exact e.symm)).2 rfl);have e:=aj (Bo p.o v.o l.o c.o t.o u.o a b n);clear a b n j d;have j:=m.H 3;have a:=m.c 3;go_wp2;go_ret;exact e.o
def Bp (g T:Nat) (M a:Int) (s:nG) (F:List Nat) (w:aB) (c:s.a.length≤1000) (d:T≤1000000) (e:s.e) (f:(Lit.int U a).wf=true) (h:dY s.a a=O) (k:Gr w g M s F T):
  aF au 149 #[qp g,a] w (Kk g T M a s F w):=by
 obtain⟨i,j,l,m,b⟩:=k;rcases b.e with⟨k,rfl,rfl⟩|⟨l,m,n,rfl,rfl,o⟩
 ·exact Eo g T M a s F i j w c d (aj e) (aj f) (aj h) (aj b) (aj k)
 ·exact Hy g T M a s F i j l m w c d (aj e) (aj f) (aj h) (aj b)
def mX (a d:Nat) (b:List Nat):List Nat:=b.mapIdx fun b c=>if a≤b∧b<a+d then c+1 else c
def og (b c:Nat) (d:List Nat) (a:Nat):(mX b c d)[a]?=(d[a]?).map fun d=>if b≤a∧a<b+c then d+1 else d:=by unfold mX;rw[List.getElem?_mapIdx]
def Hz (b c:Nat) (a:List Nat):(mX b c a).length=a.length:=by unfold mX;simp
def Ep (b:Nat) (a:List Nat):mX b 0 a=a:=by
 apply List.ext_getElem?;intro b;rw[og];cases a[b]? with
 |none=>rfl
 |some a=>simp only[Option.map_some];rw[aL Y0]
def Ia (a:Nat) (b:List Nat):mX a (b.length-a) b=tF a b:=by
 apply List.ext_getElem?;intro c;rw[og,Ki];by_cases d:c<b.length
 ·rw[aQ d];simp only[Option.map_some];by_cases b:a≤c
  ·rw[aP ⟨b,Y0⟩,aP b]
  ·rw[aL (fun a=>b a.1),aL b]
 ·rw[bQ Y0];rfl
def Er (a b:Nat) (c:List Nat) {d:Nat} (e:c[a+b]?=R d):qx (mX a (b+1) c)=(qx (mX a b c)).set (a+b) (J U ((d+1:Nat):Int)):=by
 apply List.ext_getElem?;intro d;have h:=(aU.1 e).1;rw[List.getElem?_set];unfold qx;rw[bS,bS,og,og];by_cases f:a+b=d
 ·subst f;rw[aP rfl,aP (by rw[List.length_map,Hz];exact h),e];simp only[Option.map_some];rw[aP ⟨Y0,Y0⟩]
 ·rw[aL f];cases c[d]? with
  |none=>rfl
  |some c=>
   simp only[Option.map_some];by_cases c:a≤d∧d<a+b
   ·rw[aP c,aP ⟨c.1,Y0⟩]
   ·rw[aL c,aL Y0]
def PI {a:List Int} {b c:Int} {d:Nat} (e:dY a b=R d) (f:dY a c=R d):b=c:=by have b:=kr e;have a:=kr f;rw[b]at a;exact Option.some.inj a
def PK (g T:Nat) (M:Int) (a:nG) (F:List Nat) (w:aB) (b:Ending) (w':aB):Prop:=b=av true∧Gr w' g M a F (T+1)∧bg F w w'
def PL {w h j:aB} {g T k a b i c:Nat} {M o:Int} {s:nG} {F l:List Nat} {m:Option aX} {f:Int→Option Int} {n:List Nat} (z:s.e) (p:dY s.a o=R i) (d:s.d.getD i 0=c)
  (q:n.length=s.b.length) (c:Pw w g M s F T m k (R a) (R b)) (A:a∈F) (v:b∈F) (x:a≠b) (r:iF w a T (qF s.a)) (B:∀e,(f e).getD 0=sJ s e)
  (t:bg l w h) (u:∀d∈l,(Z m s.b.length k).ownBlock=R d) (C:h.ownsRow 0 3 1 (Z m s.b.length k) s.b.length (qx n))
  (y:iF w b T f) (D:iF j b (T+1) (fun e=>if e=o then R ((s.a.length-i:Nat):Int)else f e)) (f:h.grownBy j (R b)):
  PK g T M ⟨s.a,s.d.set i (s.a.length-i),n⟩ F w (av true) j:=by
 have E:=iV p;have G:=iI c.c r;have H:=iI c.c y;have n:=r.c c.a;have I:=y.c c.a;have n:=bg.k f (fun d f=>by injection f with f;subst f;exact .inl (aC.2 rfl));have K:=t.g (fun d h=>.inl (c.d d (u d h)).1);have y:=K.a n (fun d h=>.inl (by rw[aC.1 h];exact v));have K:g∉l:=fun j=>(c.d g (u g j)).2 rfl;have L:a∉l:=fun j=>G a (u a j) rfl;refine⟨rfl,⟨m,k,R a,R b,?_,?_,?_,?_,c.f,fun d h=>aV (c.h d h) y.b⟩,y⟩
 ·dsimp only;rw[q];exact(c.a.g t K).g n (Y6 I)
 ·dsimp only;rw[q];exact bO C n (fun d h=>by simpa using H d h)
 ·dsimp only;rw[q];exact c.d
 ·refine .inr ⟨a,b,_,rfl,rfl,A,v,x,((r.a t L).a n (Y6 x)).b (Nat.le_succ _),D,?_⟩;intro e;unfold sJ;dsimp only;by_cases f:e=o
  ·subst f;rw[aP rfl,p];dsimp only;rw[aY,List.getElem?_set_self (by rw[z.b];exact E)];rfl
  ·rw[aL f,B e];unfold sJ;cases hpy:dY s.a e with
   |none=>rfl
   |some a=>dsimp only;have b:i≠a:=fun a=>f (PI (by rw[hpy]) (by rw[p,a]));rw[aY,aY,List.getElem?_set_ne b]
def Vr (g T:Nat) (M a:Int) (s:nG) (F:List Nat) (w:aB) (h:s.a.length≤1000) (b:s.e) (c:(Lit.int U a).wf=true) (d:s.h M a=false) (e:Gr w g M s F T):
  aF au 69 #[qp g,a] w fun f w'=>f=av false∧aJ w w w':=by have i:=aj (Cq g T M a s F w h (aj b) (aj c) (aj e));have h:=aj d;clear b c d e;go_enter func69,ntmps69;go_wp2_with fail;refine mB i.o fun b a=>?_;rw[h.o];have b:=aj a;clear a;go_wp2;go_ret;exact⟨rfl,b.o⟩
def PN (g T:Nat) (M i:Int) (s:nG) (F:List Nat) (f:Nat) (w:aB) (z:s.a.length≤1000) (a:T≤1000000) (c:s.e) (A:(Lit.int U i).wf=true) (G:s.h M i=true) (r:dY s.a i=R f) (a:Gr w g M s F T):
  aF au 69 #[qp g,i] w (PK g T M ⟨s.a,s.d.set f (s.a.length-f),tF (s.c f) s.b⟩ F w):=by
 have H:=aj (Cq g T M i s F w z (aj c) (aj A) (aj a));have X:=aj G;obtain⟨a0,m,p,km,l⟩:=a;have I:=aj l;have K:=aj c;have B:=aj A;have u:=aj r;have t:=iV r;obtain⟨q,v⟩:=exq (s.d.getD f 0);have L:=c.c f t;obtain⟨a,h⟩:=exq (s.c f);have x:=h;unfold nG.c at x;rw[h]at L;rw[v]at x;have HQ:=aj v;have HK:=aj h;obtain⟨b,y⟩:=exq s.b.length;have C:=c.a;rw[y]at C;have o:=aj y;have d:a≤b:=Y0;have b0:b≤1000:=Y0;have d:f+q≤b:=Y0;have D:=aj C;have N:=aj x;have d:=l.j;rw[y]at d;obtain⟨e,j⟩:=d;have c0:Y (∀n∈s.b,n≤1000):=aj (fun n e=>aR (c.f n e) z);rw[h];obtain⟨d,j,k,rfl,rfl,P,Q,S,V,W,E⟩:∃d j k,p=R d∧km=R j∧d∈F∧j∈F∧d≠j∧iF w d T (qF s.a)∧iF w j T k∧∀p,(k p).getD 0=sJ s p:=by
  rcases l.e with⟨p,_⟩|d0
  ·rw[p]at t;simp at t
  ·exact d0
 have p:=aj (And.intro P (And.intro Q (And.intro S (And.intro V (And.intro W E)))));have d0:Y ((k i).getD 0=(q:Nat)):=aj (by rw[E i];unfold sJ;rw[r];exact bE _ v);clear c A G r t v L h x y C P Q S V W E l z;go_enter func69,ntmps69;go_wp2_with fail;refine mB H.o fun h e=>?_;rw[X.o];have t:=aj e;have x:=aj (I.o.k e);clear e;have c:Y (s.a.length≤1000):=aj (by rw[←D.o];exact b0);go_wp2_with fail;refine mB (vQ g T M i s F f a a0 m (R d) (R j) _ c.o K B u HK x) ?_;rintro c rfl;rw[o.o];have v:0<b:=by have:=iV u.o;have:=D.o;omega
 obtain⟨c,z,r⟩:=eu (n:=b) (by have:=I.o.c;rwa[o.o]at this) v;injection r with r _ _;subst r;obtain⟨r,v⟩:=exq (sub (R ⟨c,0,O⟩) m a);have C:Y (a<b→r=R ⟨c,a,O⟩):=aj (fun l=>by rw[←v];unfold sub;rw[aL Y0];simp[Addr.add_lit])
 rw[v];have E:Y (bg F w h.drew):=aj ((bg.d t.o).a (bg.l h) (fun n e=>.inl e) (F1:=F));have r:=aj (x.o.i (F1:=[]) (bg.l h) Y1);have x:Y (bg ([]:List Nat) w h.drew):=aj ((bg.d (F:=[]) t.o).a (bg.l h) (F1:=[]) Y1);have G:=aj (p.o.2.2.2.1.a x.o Y1);have z:=aj (p.o.2.2.2.2.1.a x.o Y1);have A:Y (h.drew.ownsRow 0 3 1 (Z (R ⟨c,0,O⟩) b m) b (qx (mX a 0 s.b))):=aj (by rw[Ep];have:=r.o.c;rwa[o.o]at this);have I:c≠g:=(r.o.d c rfl).2;have L:=iI r.o.c z.o c rfl;clear v x H t;go_wp2;go_loopw [20] (fun k wr=>∃d:Nat,k=J U (d:Nat)∧d≤b-a∧Y (wr.ownsRow 0 3 1 (Z (R ⟨c,0,O⟩) b m) b (qx (mX a d s.b)))∧Y (bg [c] h.drew wr)) (fun k _=>b-a- (intOf k).toNat);case atStart=>exact⟨0,rfl,aZ _,A,aj (bg.o _ _)⟩
 case round=>
  clear A;obtain⟨d,rfl,k,t,v⟩:=hrel;by_cases k:d<b-a
  ·obtain rfl:=C.o Y0;have A:(d:Int)<((b-a:Nat):Int):=Y0;obtain⟨k,x⟩:∃k,s.b[a+d]?=R k:=⟨_,aQ (by rw[o.o];omega)⟩;have C:=c0.o k (bP x);have C:wr.cell? ⟨c,a+d,O⟩=R (J U (k:Nat)):=by rw[t.o.cellAt _ Y0];refine Kj _ ?_;rw[og,x];simp only[Option.map_some];rw[aL Y0]
   have C:wr.frozen? ⟨c,a+d,O⟩=false:=t.o.frozenAt _;have C:Y ((wr.setCell ⟨c,a+d,O⟩ (J U ((k:Int)+1))).ownsRow 0 3 1 (Z (R ⟨c,0,O⟩) b m) b (qx (mX a (d+1) s.b))):=aj (by rw[Er a d s.b x];have:=(t.o.stored (a+d) (J U ((k+1:Nat):Int))).1;rwa[show((k+1:Nat):Int)=(k:Int)+1 from Y0]at this⊢)
   have H:Y (bg [c] h.drew (wr.setCell ⟨c,a+d,O⟩ (J U ((k:Int)+1)))):=aj (v.o.a (bg.e (F:=[c]) (p:=⟨c,a+d,O⟩) wr (aC.2 rfl) _) (fun n e=>.inl e));clear x;go_wp2;go_roundw;case rel=>exact⟨d+1,by go_num,Y0,C,H⟩
   case measure=>simp[intOf];omega
  ·have A:¬(d:Int)<((b-a:Nat):Int):=Y0;have k:Y (wr.ownsRow 0 3 1 (Z (R ⟨c,0,O⟩) b m) b (qx (tF a s.b))):=aj (by rw[←Ia,o.o,←show d=b-a from Y0];exact t.o)
   have c:=(r.o.a.g v.o (Y6 I.symm)).H 2;have d:=aj (z.o.a v.o (Y6 L.symm));have c:q≤1000:=by have:=N.o;omega
   clear t;go_wp2_with (first
    |(at_lookup;go_loud (refine He rfl (.tmp 33) (.tmp 34) rfl d.o rfl i rfl B.o (q:Nat) d0.o ?_))
    |(at_mapUpdate;go_loud (refine oK rfl (.tmp 33) (.tmp 34) (.tmp 38) rfl d.o (by unfold maxLen;omega) rfl i _ rfl rfl B.o (bX Y0) ?_)))
   intro j c h;have d:Y (PK g T M ⟨s.a,s.d.set f (s.a.length-f),tF a s.b⟩ F w (av true) j):=aj (by
    have y:(((q:Nat):Int)+((b-a:Nat):Int))=((s.a.length-f:Nat):Int):=by have:=N.o;have:=D.o;have:=iV u.o;omega
    rw[y]at c;have l:=PL K.o u.o HQ.o (wX a s.b) r.o p.o.1 p.o.2.1 p.o.2.2.1 G.o p.o.2.2.2.2.2 v.o (fun n e=>by rw[aC.1 e];rfl) (by rw[o.o];exact k.o) z.o c h;exact⟨l.1,l.2.1,E.o.a l.2.2 (fun n e=>.inl e)⟩)
   clear c h;go_wp2;go_ret;exact d.o
def ten (a:Int):a=0∨a=1∨a=2∨a=3∨a=4∨a=5∨a=6∨a=7∨a=8∨a=9∨((a==0)=false∧(a==1)=false∧(a==2)=false∧(a==3)=false∧(a==4)=false∧(a==5)=false∧(a==6)=false∧(a==7)=false∧(a==8)=false∧(a==9)=false):=by simp only[aM,ne_eq];omega
def mY (a:Int):Nat:=if a==0 then 9 else if a==1 then 45 else if a==4||a==6 then 1 else if a==5 then 12 else if a==9 then 4 else 0
def sV (a b:Int):Bool:=if b==1 then a==0||a==1||a==4||a==6 else if b==4 then a==1||a==5||a==9 else if b==8 then a==0||a==1||a==5 else if b==32 then a==1 else false
def zbX (c a b:Int):Bool:=sV c b&&(decide (0≤a)&&(a/b%2==1))
def oh (a:Int):Int:=if a==4||a==6||a==7 then 0 else if a==0||a==1||a==2||a==3||a==5||a==9 then 1 else 2
def zcF (b c a:Nat):(((b&&&c)&&&2^a) !=0)=(b.testBit a&&c.testBit a):=by
 rw[←Nat.testBit_and];generalize b&&&c=d;cases h:d.testBit a with
 |true=>
  refine bne_iff_ne.2 fun b=>?_;have c:(d&&&2^a).testBit a=true:=by rw[Nat.testBit_and,h,Nat.testBit_two_pow];simp
  rw[b]at c;simp at c
 |false=>
  have c:d&&&2^a=0:=by
   apply Nat.eq_of_testBit_eq;intro d;rw[Nat.testBit_and,Nat.testBit_two_pow];by_cases b:a=d
   ·subst b;rw[h];simp
   ·simp[b]
  rw[c];rfl
def PO (a b c:Nat) (g:a<2^63) (e:b<2^63) (h:c<63):(bits .and U (bits .and U (a:Int) (b:Int)) ((2^c:Nat):Int) !=0)=(a.testBit c&&b.testBit c):=by
 have f:∀d:Int,0≤d→d<2^63→U.wrap d=d:=fun d i j=>by rw[IntKind.wrap_i64];omega
 rw[(bits_nat U 63 Y2 f a b g e).1,(bits_nat U 63 Y2 f (a&&&b) (2^c) (Nat.and_lt_two_pow _ e) (Nat.pow_lt_pow_right Y2 h)).1,←zcF];rw[Bool.eq_iff_iff];simp
def Zc (b c:Int) (a:Nat) (e:0≤c) (k:c≤9223372036854775807) (f:a<63) (g:(mY b).testBit a=sV b ((2^a:Nat):Int)):
  (bits .and U (bits .and U (mY b:Nat) c) ((2^a:Nat):Int) !=0)=zbX b c ((2^a:Nat):Int):=by
 obtain⟨d,rfl⟩:=bR e;have h:mY b<2^63:=by unfold mY;split<;>first|decide|(split<;>first|decide|(split<;>first|decide|(split<;>first|decide|(split<;>decide))))
 have i:=PO (mY b) d a h Y0 f;rw[i,g];unfold zbX;congr 1;have j:(d:Int)/((2^a:Nat):Int)%2=((d/2^a%2:Nat):Int):=by rw[Int.natCast_emod,Int.natCast_ediv];rfl
 rw[j,Nat.testBit_eq_decide_div_mod_eq,Bool.eq_iff_iff];simp only[decide_eq_true_eq,Bool.and_eq_true,dX];omega
def Mj (a:Int):(mY a).testBit 0=sV a 1∧(mY a).testBit 2=sV a 4∧(mY a).testBit 3=sV a 8∧(mY a).testBit 5=sV a 32:=by
 rcases ten a with rfl|rfl|rfl|rfl|rfl|rfl|rfl|rfl|rfl|rfl|⟨b,c,d,e,f,g,h,i,j,k⟩
 all_goals first|decide|simp[mY,sV,b,c,d,e,f,g,h,i,j,k]
def PS (a:Int) (b:aB):aF au 166 #[a] b fun c d=>c=av (J U (mY a:Nat))∧b=d:=by
 rcases ten a with rfl|rfl|rfl|rfl|rfl|rfl|rfl|rfl|rfl|rfl|⟨b,c,d,e,f,g,h,i,j,k⟩
 case inr.inr.inr.inr.inr.inr.inr.inr.inr.inr=>have l:Y (mY a=0):=aj (by simp[mY,b,c,d,e,f,g,h,i,j,k]);go_enter func166,ntmps166;go_wp2;go_ret;exact⟨by rw[l.o];rfl,rfl⟩
 all_goals
  go_enter func166,ntmps166;go_wp2;go_ret;exact Y5
def zbq (a:Int):a=1∨a=4∨a=8∨a=32∨((a==1)=false∧(a==4)=false∧(a==8)=false∧(a==32)=false):=by simp only[aM,ne_eq];omega
def mF (a b c:Int) (d:aB) (m:b≤9223372036854775807):aF au 123 #[a,b,c] d fun n e=>n=av (aO (zbX a b c))∧d=e:=by
 obtain⟨e,f,g,h⟩:=Mj a;have k:=PS a d;rcases zbq c with rfl|rfl|rfl|rfl|⟨d,i,j,o⟩
 case inr.inr.inr.inr=>have l:Y (zbX a b c=false):=aj (by simp[zbX,sV,d,i,j,o]);clear k e f g h;go_enter func123,ntmps123;go_wp2;go_ret;exact⟨by rw[l.o];rfl,rfl⟩
 all_goals
  by_cases i:0≤b
  ·have j:∀d:Nat,d<63→(mY a).testBit d=sV a ((2^d:Nat):Int)→Y ((bits .and U (bits .and U (mY a:Nat) b) ((2^d:Nat):Int) !=0)=zbX a b ((2^d:Nat):Int)):=fun d o p=>aj (Zc a b d i m o p);have q:=aj (And.intro e (And.intro f (And.intro g h)));have r:=i;clear m e f g h;go_enter func123,ntmps123;go_wp2_with (go_at_call 166;refine k.mono ?_;rintro n s ⟨rfl,rfl⟩);go_wp2;go_ret;refine⟨?_,rfl⟩;obtain⟨e,f,g,h⟩:=q.o;first
    |exact fB (j 0 Y2 e).o
    |exact fB (j 2 Y2 f).o
    |exact fB (j 3 Y2 g).o
    |exact fB (j 5 Y2 h).o
  ·have l:∀c,Y (zbX a b c=false):=fun c=>aj (by simp[zbX,i]);have t:b<0:=Y0;clear k e f g h i;go_enter func123,ntmps123;go_wp2;go_ret;exact⟨by rw[(l _).o];rfl,rfl⟩
end Go.Proofs.YtdcacpeaimjdlaaGreatDoor
