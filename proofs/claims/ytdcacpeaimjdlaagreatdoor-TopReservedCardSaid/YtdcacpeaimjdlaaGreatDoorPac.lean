/- Part of the proof. -/
import Derived.Test.YtdcacpeaimjdlaaGreatDoorPaa
import Derived.Deep.MidRow
namespace Go.Proofs.YtdcacpeaimjdlaaGreatDoor
open Go.RowKit Go.Maps Go.Proofs.Tryz Mq
open Go.Value renaming int→J,slice→Z,string→aA,pointer→aK,bool→aO,tuple→aN,agg→aS,complex→aH
open Go.IntKind renaming i64→U
open Option renaming none→O,some→R
open Go.Ending renaming returned→av
open Go renaming World→aB,Value→aI,Calls→aF,Addr→aX,TypeId→bB,undef→bq
open Go.RowKit renaming Below→aJ
open Go.Proofs.Tryz renaming prog→au
open Go.FloatKind renaming f64→aW
set_option maxRecDepth 20000
set_option maxHeartbeats 0
set_option linter.all false
section
variable {P:Program} {ops:Array Oper} {md:Region.Mode}
def kC (c:aB) (d:aI):Result Next→Prop
 |.ok (.value e) b=>b=c∧e=d
 |.ok .skip b=>b=c∧d=bq
 |_=>False
def gJ (P:Program) (c:aB→Prop) (d:aI):Result Next→Prop
 |.ok (.value e) b=>e=d∧c b
 |.ok .skip b=>d=bq∧c b
 |.ok (.enter e f) b=>aF P e f b (fun b e=>b=av d∧c e)
 |_=>False
@[simp] theorem Eh (b c : aB) (d e : aI) : kC b e (.ok (.value d) c) = (c = b ∧ d = e) := rfl
@[simp] theorem YX (b c : aB) (d : aI) : kC b d (.ok .skip c) = (c = b ∧ d = bq) := rfl
@[simp] theorem Yh (b : aB → Prop) (c : aB) (d e : aI) : gJ P b e (.ok (.value d) c) = (d = e ∧ b c) := rfl
@[simp] theorem Ho (b : aB → Prop) (c : aB) (d : aI) : gJ P b d (.ok .skip c) = (d = bq ∧ b c) := rfl
@[simp] theorem Yi (b : aB → Prop) (c : aB) (d : aI) (e : FuncId) (f : Array aI) : gJ P b d (.ok (.enter e f) c) = aF P e f c (fun c e => c = av d ∧ b e) := rfl
def oO (md:Region.Mode) (d:Nat):List Oper→Array Bool→Array Bool
 |[],b=>b
 |o::c,b=>oO md d c (b.push (o.after.toList.any fun c=>Region.binds md c&&(c.on==d||b.getD c.on false)))
def jc (md:Region.Mode) (ops:Array Oper) (b c:Nat):Bool:=(oO md c ops.toList #[]).getD b false
def wU {d:Nat}:∀(e:List Oper) (c:Array Bool) (b:Nat),c.getD b false=true→(oO md d e c).getD b false=true
 |[],_,_,d=>d
 |o::e,c,b,d=>by
  refine wU e _ b ?_
  have f:b<c.size:=by
   rcases Nat.lt_or_ge b c.size with e|e
   ·exact e
   ·simp[Array.getElem?_eq_none e]at d
  simp[Array.getElem?_push,f,Nat.ne_of_lt f]at d⊢
  exact d
def wV {f:Nat}:∀(e:List Oper) (b:Array Bool) (d:Nat),(oO md f e b).getD d false=true→
  b.getD d false=true∨∃h o,e[h]?=R o∧d=b.size+h∧∃c∈o.after.toList,Region.binds md c=true∧(c.on=f∨c.on<d∧(oO md f e b).getD c.on false=true)
 |[],_,_,g=>.inl g
 |o::e,b,d,g=>by
  obtain⟨j,i⟩:=exq ((o.after.toList.any fun c=>Region.binds md c&&(c.on==f||b.getD c.on false)))
  have l:oO md f (o::e) b=oO md f e (b.push j):=by rw[←i];rfl
  rw[l]at g⊢
  rcases wV e _ d g with f|⟨h,l,f,m,p⟩
  ·by_cases g:d<b.size
   ·left
    simp[Array.getElem?_push,g,Nat.ne_of_lt g]at f⊢
    exact f
   ·right
    have q:d=b.size:=by
     rcases Nat.lt_or_ge d (b.size+1)with g|g
     ·omega
     ·rw[Array.getD_eq_getD_getElem?,Array.getElem?_eq_none (Y6 g)]at f;cases f
    subst q
    have d:j=true:=by simpa[Array.getElem?_push]using f
    rw[d]at i
    obtain⟨c,j,d⟩:=List.any_eq_true.1 i
    simp only[Bool.and_eq_true,Bool.or_eq_true,dX]at d
    refine⟨0,o,rfl,rfl,c,j,d.1,d.2.imp id fun d=>?_⟩
    have i:c.on<b.size:=by
     rcases Nat.lt_or_ge c.on b.size with g|g
     ·exact g
     ·rw[Array.getD_eq_getD_getElem?,Array.getElem?_eq_none g]at d;cases d
    refine⟨i,wU e _ _ ?_⟩
    simp[Array.getElem?_push,i,Nat.ne_of_lt i]at d⊢
    exact d
  ·exact .inr ⟨h+1,l,Y6 f,by simp at m;omega,p⟩
def yM {c d:Nat} (e:jc md ops c d=true):∃o,ops[c]?=R o∧∃b∈o.after,Region.binds md b=true∧(b.on=d∨b.on<c∧jc md ops b.on d=true):=by
 rcases wV _ _ _ e with d|⟨f,o,d,g,b,h,i,j⟩
 ·simp at d
 ·have:c=f:=Y6 g;subst this;exact⟨o,Y6 d,b,Array.mem_toList_iff.1 h,i,j⟩
def Inv (md:Region.Mode) (ops:Array Oper) (b:Array Bool):Prop:=∀c o,ops[c]?=R o→b.getD c false=true→∀c∈o.after,Region.binds md c=true→b.getD c.on false=true
def tC {b:Array Bool} {c:Nat} (d:b.getD c true=false):b.getD c false=false∧c<b.size:=by
 rcases Nat.lt_or_ge c b.size with e|e
 ·simp[e]at d⊢;exact d
 ·simp[Array.getElem?_eq_none e]at d
def sS {c:Array Bool} {b:Nat} (d:b<c.size):(c.setIfInBounds b true).getD b false=true:=by simp[d]
def Inv.b {b:Array Bool} {c:Nat} (j:Inv md ops b) (i:c∈Region.ready md ops b):Inv md ops (b.setIfInBounds c true):=fun d o b e f g h=>by
 obtain⟨p,q,l,m⟩:=mem_ready.1 i
 by_cases i:c=d
 ·subst i
  rw[l]at b
  injection b with b
  subst b
  exact getD_set_true (m f g h)
 ·rw[getD_set_ne false i]at e
  exact getD_set_true (j d o b e f g h)
def Ei {c:Array Bool} (e:Inv md ops c) {d:Nat} (b:Nat) (f:c.getD b false=true) (g:jc md ops b d=true):c.getD d false=true:=by
 induction b using Nat.strongRecOn with
 |_ b h=>
  obtain⟨o,i,c,j,l,m⟩:=yM g;have d:=e b o i f c j l;rcases m with b|⟨b,e⟩
  ·rw[←b];exact d
  ·exact h c.on b d e
def Ej {b:Array Bool} (e:Inv md ops b) {c d:Nat} (f:c∈Region.ready md ops b) (g:jc md ops c d=true):b.getD d false=true:=by
 obtain⟨b,o,d,h⟩:=mem_ready.1 f;obtain⟨l,b,c,f,i,j⟩:=yM g;rw[d]at b;injection b with b;subst b;have b:=h c f i;rcases j with d|⟨d,f⟩
 ·rw[←d];exact b
 ·exact Ei e c.on b f
variable {S:Nat→Oper→Act→aI→Prop} {N:Nat→Prop}
def Kin (S:Nat→Oper→Act→aI→Prop):Prop:=∀b o a c d,S b o a d→execOp c.eval o=execOp a.eval o→S b o c d
def Ke (ops:Array Oper) (S:Nat→Oper→Act→aI→Prop) (N:Nat→Prop) (b:Nat) (c:Act→Prop) (a:Act):Prop:=
 match ops[b]? with
 |none=>c a
 |some o=>if Region.wanted o (yielded ops a.tmps)then∃d,S b o a d∧c (a.put o.dst d)else N b∧c (a.put o.dst bq)
def Pm {d:Nat} {a:Act} {e f:Act→Prop} (c:∀a,e a→f a) (b:Ke ops S N d e a):Ke ops S N d f a:=by
 unfold Ke at*;split
 ·exact c _ (by simpa[*]using b)
 ·rename_i o d;simp only[d]at b;split
  ·rename_i d;simp only[d,if_true]at b;obtain⟨e,f,g⟩:=b;exact⟨e,f,c _ g⟩
  ·rename_i d;simp only[d]at b;exact⟨b.1,c _ b.2⟩
def yN (md:Region.Mode) (ops:Array Oper) (S:Nat→Oper→Act→aI→Prop) (N:Nat→Prop) (Q:Array Bool→Act→Prop):Nat→Array Bool→Act→Prop
 |0,b,a=>Region.ready md ops b=[]∧Q b a
 |d+1,b,a=>(Region.ready md ops b=[]→Q b a)∧∀c∈Region.ready md ops b,Ke ops S N c (yN md ops S N Q d (b.setIfInBounds c true)) a
def oP (ops:Array Oper) (S:Nat→Oper→Act→aI→Prop) (N:Nat→Prop) (b:Nat) (o:Oper) (c:aI) (a:Act):Prop:=
 (Region.wanted o (yielded ops a.tmps)=true∧S b o a c)∨(Region.wanted o (yielded ops a.tmps)=false∧N b∧c=bq)
def oP.b {b:Nat} {o:Oper} {c:aI} {a:Act} (f:ops[b]?=R o) (g:oP ops S N b o c a) {d:Act→Prop} (e:d (a.put o.dst c)):Ke ops S N b d a:=by
 unfold Ke;simp only[f];rcases g with⟨b,d⟩|⟨b,f,rfl⟩
 ·simp only[b,if_true];exact⟨c,d,e⟩
 ·simp only[b,Bool.false_eq_true,if_false];exact⟨f,e⟩
def yO {d:Nat} {o:Oper} {a:Act} {e:Act→Prop} (f:ops[d]?=R o) (b:Ke ops S N d e a):∃c,oP ops S N d o c a∧e (a.put o.dst c):=by
 unfold Ke at b;simp only[f]at b;by_cases d:Region.wanted o (yielded ops a.tmps)=true
 ·simp only[d,if_true]at b;obtain⟨c,e,f⟩:=b;exact⟨c,.inl ⟨d,e⟩,f⟩
 ·simp only[d]at b;exact⟨bq,.inr ⟨Y6 d,b.1,rfl⟩,b.2⟩
def zcE (i:Kin S) {g f:Nat} {b e:Oper} {c:aI} (p:ops[f]?=R e) (m:b.apart ops e=true) (q:∀d h,b.op≠ .select d h) (r:∀d h,e.op≠ .select d h) {h:Act→Prop} {a:Act}
  (s:oP ops S N g b c a) (d:Ke ops S N f h (a.put b.dst c)):Ke ops S N f (fun f=>oP ops S N g b c f∧h (f.put b.dst c)) a:=by
 obtain⟨h,j,l⟩:=Oper.apart_spec m;have m:∀f,oP ops S N g b c (a.put e.dst f):=fun f=>by have t:=execOp_put b q a e.dst f l;have g:=wanted_put b a e.dst f l;unfold oP;rw[g];exact s.imp (fun d=>⟨d.1,i _ _ _ _ _ d.2 t⟩) id
 unfold Ke at*;simp only[p]at*;rw[wanted_put e a b.dst c h]at d;split
 ·rename_i g;simp only[g,if_true]at d;obtain⟨f,l,p⟩:=d;exact⟨f,i _ _ _ _ _ l (execOp_put e r a b.dst c h).symm,m f,by rw[←Act.put_comm a c f j];exact p⟩
 ·rename_i g;simp only[g]at d;exact⟨d.1,m _,by rw[←Act.put_comm a c bq j];exact d.2⟩
def uH (v:Kin S) {Q:Array Bool→Act→Prop} {c:Nat} {i:Oper} {f:aI} (p:ops[c]?=R i) (u:∀(b:Nat) (o:Oper) j l,ops[b]?=R o→o.op≠ .select j l):
  ∀(q:Nat) (e:Array Bool) (a:Act),(∀b g,ops[b]?=R g→b≠c→e.getD b true=false→(∀d∈g.after,Region.binds md d=true→d.on≠c)→i.apart ops g=true)→c∈Region.ready md ops e→oP ops S N c i f a→
   yN md ops S N Q q (e.setIfInBounds c true) (a.put i.dst f)→yN md ops S N Q (q+1) e a
 |0,e,a,_,h,r,m=>⟨fun t=>(by rw[t]at h;cases h),fun b s=>by
   by_cases f:b=c
   ·subst f;exact r.b p m
   ·have:=ready_mono s f
    rw[m.1]at this
    cases this⟩
 |q+1,e,a,w,h,r,m=>⟨fun t=>(by rw[t]at h;cases h),fun b s=>by
   by_cases f:b=c
   ·subst f;exact r.b p m
   ·have t:=m.2 b (ready_mono s f)
    obtain⟨x,g,m,y⟩:=mem_ready.1 s
    have s:∀d∈g.after,Region.binds md d=true→d.on≠c:=fun d z D E=>by
     have t:=y d z D
     rw[E,(tC (mem_ready.1 h).1).1]at t
     cases t
    have y:=zcE v m (w b g m f x s) (fun j l=>u c i j l p) (fun j l=>u b g j l m) r t
    have g:∀k ok,ops[k]?=R ok→k≠c→(e.setIfInBounds b true).getD k true=false→(∀d∈ok.after,Region.binds md d=true→d.on≠c)→i.apart ops ok=true:=fun k ok d i c j=>by
     refine w k ok d i ?_ j
     by_cases d:b=k
     ·subst d;exact x
     ·rw[getD_set_ne true d]at c;exact c
    refine Pm (fun d c=>uH v p u q (e.setIfInBounds b true) d g (ready_mono h (Ne.symm f)) c.1 ?_) y
    rw[Array.setIfInBounds_comm _ _ f]
    exact c.2⟩
def iy (ops:Array Oper) (S:Nat→Oper→Act→aI→Prop) (N:Nat→Prop) (Q:Act→Prop):List Oper→Nat→Act→Prop
 |[],_,a=>Q a
 |o::rest,k,a=>if Region.wanted o (yielded ops a.tmps)then∃b,S k o a b∧iy ops S N Q rest (k+1) (a.put o.dst b)else N k∧iy ops S N Q rest (k+1) (a.put o.dst bq)
def yP (q:Kin S) {Q:Array Bool→Act→Prop} {j:Act→Prop} (r:Region.noSelect ops=true) (s:∀b:Array Bool,Region.ready md ops b=[]→(∀c,c<ops.size→b.getD c false=true)→∀a,j a→Q b a):∀(d:List Oper) (k:Nat) (b:Array Bool) (a:Act),(∀e,d[e]?=ops[k+e]?)→b.size=ops.size→(∀c,c<k→b.getD c false=true)→
  Region.lexFrom md ops d.length k b=true→iy ops S N j d k a→yN md ops S N Q d.length b a
 |[],k,b,a,g,l,m,h,p=>by
  have i:Region.ready md ops b=[]:=by simpa[Region.lexFrom]using h
  refine⟨i,s b i (fun c t=>m c ?_) a p⟩
  have:=g (c-k)
  rcases Nat.lt_or_ge c k with f|f
  ·exact f
  ·rw[show k+(c-k)=c by omega,dA t]at this
   simp at this
 |o::d,k,b,a,g,l,m,h,p=>by
  have f:ops[k]?=R o:=by simpa using(g 0).symm
  simp only[List.length_cons,Region.lexFrom,Bool.and_eq_true]at h
  obtain⟨⟨i,u⟩,v⟩:=h
  have h:Ke ops S N k (iy ops S N j d (k+1)) a:=by unfold Ke;simp only[f];exact p
  obtain⟨w,j,p⟩:=yO f h
  have h:k<b.size:=by rw[l];exact(Array.getElem?_eq_some_iff.1 f).1
  exact uH q f (Region.noSelect_spec r) d.length b a (Region.free_spec f u) (Y6 i) j
   (yP q r s d (k+1) _ _ (fun e=>by have:=g (e+1);simpa[Nat.add_assoc,Nat.add_comm 1 e]using this) (Y6 l)
    (fun c t=>by
     by_cases b:k=c
     ·subst b;exact sS h
     ·rw[getD_set_ne false b];exact m c Y0) v p)
abbrev Pn (T:Type):=(Nat→T)→(Nat→Bool)→aB→Prop
variable {T:Type}
def lU (β:Nat→T) (c:Nat) (d:T):Nat→T:=fun b=>if b=c then d else β b
def kD (P:Program) (val:T→aI) (d:T→aB→Prop):Result Next→Prop
 |.ok (.value e) c=>∃b,e=val b∧d b c
 |.ok .skip c=>∃b,bq=val b∧d b c
 |.ok (.enter e f) c=>aF P e f c (fun c e=>∃b,c=av (val b)∧d b e)
 |_=>False
@[simp] theorem Yj (val : T → aI) (b : T → aB → Prop) (c : aB) (d : FuncId) (e : Array aI) : kD P val b (.ok (.enter d e) c) = aF P d e c (fun d e => ∃ c, d = av (val c) ∧ b c e) := rfl
def fI (c:Nat→Bool) (d:Nat):Nat→Bool:=fun b=>b==d||c b
structure uI (md:Region.Mode) (ops:Array Oper) (i:Nat) (d:Nat→Bool):Prop where
 b:d i=false
 c:∀s,jc md ops i s=true→d s=true
 a:∀t,jc md ops t i=true→d t=false
def fQ (P:Program) (md:Region.Mode) (ops:Array Oper) (val:T→aI) (C:Pn T) (V:Nat→aI) (al st:List Nat) (β:Nat→T) (b:Nat) (o:Oper) (a:Act) (e:aI):Prop:=
 if b∈al then e=val (β b)∧∀c d,uI md ops b c→C β c d→kD P val (fun f g=>C (lU β b f) (fI c b) g) ((execOp a.eval o).run P d)
 else if b∈st then(al≠[]→e=V b)∧∀c d,uI md ops b c→C β c d→gJ P (C β (fI c b)) e ((execOp a.eval o).run P d)
 else∀c d,uI md ops b c→C β c d→kC d e ((execOp a.eval o).run P d)
variable {val:T→aI} {C:Pn T} {V:Nat→aI} {al st:List Nat} {β:Nat→T}
def Me:Kin (fQ P md ops val C V al st β):=fun d o a e f b c=>by
 unfold fQ at*
 rw[c]
 exact b
def Mf (C:Pn T) (al st:List Nat):Prop:=∀β d c e f,(∀b,b∈al∨b∈st→c b=e b)→(∀b∈al,c b=true→β b=d b)→C β c f→C d e f
def Cn (b:Array Bool):Nat→Bool:=fun c=>b.getD c false
def Vm {c:Array Bool} {b:Nat} (d:b<c.size):Cn (c.setIfInBounds b true)=fI (Cn c) b:=by
 funext e;unfold Cn fI;by_cases c:e=b
 ·subst c;rw[sS d];simp
 ·rw[getD_set_ne false (fun d=>c d.symm)];simp[c]
def Hq {b:Array Bool} (c:Inv md ops b) {d:Nat} (e:d∈Region.ready md ops b):uI md ops d (Cn b):=by
 have d:=(tC (mem_ready.1 e).1).1;refine⟨d,fun g f=>Ej c e f,fun e f=>?_⟩;cases hd:Cn b e with
 |false=>rfl
 |true=>have:=Ei c e hd f;rw[d]at this;cases this
def El {o:Oper} {a:Act} {f:aI} {D:aB→Prop} {g:Act→aB→Prop} {h:Exit→Act→aB→Prop} {d:aB} (e:∀c,D c→g (a.put o.dst f) c) (b:gJ P D f ((execOp a.eval o).run P d)):o.wp P a d g h:=by
 unfold Oper.wp;generalize(execOp a.eval o).run P d=d at*;cases d with
 |ok n c=>
  cases n<;>simp only[gJ]at b<;>simp only[Oper.upon];case value d=>rw[b.1];exact e _ b.2
  case skip=>rw[←b.1];exact e _ b.2
  case enter d f=>exact b.mono fun g h ⟨d,f⟩=>by subst d;exact e _ f
 |halt d c=>simp only[gJ]at b
def zce {d:aI} {e:aB→Prop} {f:aB} {c:Result Next} (g:e f) (b:kC f d c):gJ P e d c:=by
 cases c with
 |ok n c=>
  cases n<;>simp only[kC]at b<;>simp only[gJ];case value d=>exact⟨b.2,by rw[b.1];exact g⟩
  case skip=>exact⟨b.2,by rw[b.1];exact g⟩
 |halt d c=>simp only[kC]at b
def Po {d e:aI} {f:aB} {c:Result Next} (b:kC f d c) (k:kC f e c):d=e:=by
 cases c with
 |ok n c=>cases n<;>simp only[kC]at b k<;>first|exact b.2.symm.trans k.2|exact b.2.trans k.2.symm
 |halt d c=>simp only[kC]at b
abbrev iH (al st:List Nat) (b:Nat):Prop:=b∉al∧b∉st
def Pp {o:Oper} {a:Act} {R:T→aB→Prop} {g:Act→aB→Prop} {h:Exit→Act→aB→Prop} {d:aB} (f:∀b e,R b e→g (a.put o.dst (val b)) e) (c:kD P val R ((execOp a.eval o).run P d)):o.wp P a d g h:=by
 unfold Oper.wp;generalize(execOp a.eval o).run P d=d at*;cases d with
 |ok n e=>
  cases n<;>simp only[kD]at c<;>simp only[Oper.upon];case value d=>obtain⟨b,rfl,d⟩:=c;exact f _ _ d
  case skip=>obtain⟨b,g,d⟩:=c;rw[g];exact f _ _ d
  case enter h i=>exact c.mono fun g i ⟨b,h,d⟩=>by subst h;exact f _ _ d
 |halt b e=>simp only[kD]at c
def mW {Q:Act→(Nat→T)→Prop} {e:Exit→Act→aB→Prop} (x:Mf C al st) (y:∀d β a g,C β (Cn d) g→(∀b,b<ops.size→d.getD b false=true)→Q a β→e .normal a g):
  ∀(s:Nat) (d:Array Bool) (a:Act) (g:aB) (β:Nat→T),Inv md ops d→C β (Cn d) g→
  (∀c,(∀b∈al,Cn d b=true→c b=β b)→(al=[]→c=β)→yN md ops (fQ P md ops val C V al st c) (iH al st) (fun d a=>(∀b,b<ops.size→d.getD b false=true)∧Q a c) s d a)→wpAny P md ops e s d a g
 |0,d,a,g,β,z,p,f=>by
  have t:=f β (fun _ _ _=>rfl) (fun _=>rfl)
  exact⟨t.1,y _ _ _ _ p t.2.1 t.2.2⟩
 |s+1,d,a,g,β,z,p,f=>by
  refine⟨fun t=>by
   have e:=(f β (fun _ _ _=>rfl) (fun _=>rfl)).1 t
   exact y _ _ _ _ p e.1 e.2,fun b q=>?_⟩
  have F:=Hq z q
  obtain⟨t,h⟩:=tC (mem_ready.1 q).1
  obtain⟨_,o,l,_⟩:=mem_ready.1 q
  have i:∀c,(∀b∈al,Cn d b=true→c b=β b)→(al=[]→c=β)→_:=fun c e j=>(f c e j).2 b q
  unfold Ke at i
  unfold wpOp
  rw[l]at i⊢
  dsimp only at i⊢
  have D:=Vm h
  have K:b∉al→b∉st→C β (Cn (d.setIfInBounds b true)) g:=fun e j=>by
   refine x _ _ _ _ _ (fun f u=>?_) (fun _ _ _=>rfl) p
   rw[D]
   unfold fI
   have:f≠b:=fun E=>by subst E;exact u.elim e j
   simp[this]
  have G:∀(c:Nat→T),(∀f∈al,Cn (d.setIfInBounds b true) f=true→c f=β f)→∀f∈al,Cn d f=true→c f=β f:=fun c e f u v=>e f u (by rw[D];unfold fI;simp[v])
  split
  ·rename_i H
   simp only[H,if_true]at i
   refine .inl ?_
   obtain⟨h,I,M⟩:=i β (fun _ _ _=>rfl) (fun _=>rfl)
   by_cases m:b∈al
   ·have h:=I
    unfold fQ at h
    rw[aP m]at h
    refine Pp (val:=val) (R:=fun l w=>C (lU β b l) (fI (Cn d) b) w) (fun l w r=>?_) (h.2 _ g F p)
    refine mW x y s _ _ w (lU β b l) (z.b q) (by rw[D];exact r) (fun c e j=>?_)
    have W:c b=l:=by rw[e b m (by rw[D];unfold fI;simp)];unfold lU;simp
    obtain⟨L,l,r⟩:=i c (fun f u v=>by
     have X:f≠b:=fun E=>by subst E;rw[show Cn d f=false from t]at v;cases v
     rw[e f u (by rw[D];unfold fI;simp[v])]
     unfold lU
     simp[X]) (fun E=>by rw[E]at m;cases m)
    unfold fQ at l
    rw[aP m]at l
    rw[l.1,W]at r
    exact r
   ·by_cases t:b∈st
    ·have h:=I
     unfold fQ at h
     rw[aL m,aP t]at h
     refine El (D:=C β (fI (Cn d) b)) (fun w E=>?_) (h.2 _ g F p)
     refine mW x y s _ _ w β (z.b q) (by rw[D];exact E) (fun c e j=>?_)
     by_cases D:al=[]
     ·rw[j D];exact M
     ·obtain⟨L,l,r⟩:=i c (G c e) j
      unfold fQ at l
      rw[aL m,aP t]at l
      rw[l.1 D,←h.1 D]at r
      exact r
    ·have h:=I
     unfold fQ at h
     rw[aL m,aL t]at h
     have D:=h _ g F p
     refine El (D:=C β (Cn (d.setIfInBounds b true))) (fun w E=>?_) (zce (K m t) D)
     refine mW x y s _ _ w β (z.b q) E (fun c e j=>?_)
     obtain⟨L,l,r⟩:=i c (G c e) j
     unfold fQ at l
     rw[aL m,aL t]at l
     have b:=l (Cn d) g F (x _ _ _ _ _ (fun _ _=>rfl) (fun f u v=>(G c e f u v).symm) p)
     rw[←Po D b]at r
     exact r
  ·rename_i H
   simp only[H]at i
   have b:=(i β (fun _ _ _=>rfl) (fun _=>rfl)).1
   exact mW x y s _ _ g β (z.b q) (K b.1 b.2) (fun c e j=>(i c (G c e) j).2)
def mE [Inhabited T] (al st:List Nat) (val:T→aI) (C:Pn T) (V:Nat→aI) {g:Nat} {Q:Exit→Act→aB→Prop} {a:Act} {d:aB} {b:List Oper} (h:P.follows .mixedOrders=true) (f:Region.lexB .any b.toArray=true) (l:∀c,c∈al∨c∈st→c<b.length) (j:Mf C al st) (i:C (fun _=>default) (fun _=>false) d.drew)
  (m:∀β,iy b.toArray (fQ P .any b.toArray val C V al st β) (iH al st) (fun e=>∀c,C β (fun _=>true) c→Q .normal e c) b 0 a):(Code.region g b.toArray true).wp P Q a d:=by
 simp only[Region.lexB,Bool.and_eq_true]at f;have p:Cn (Array.replicate b.toArray.size false)=fun _=>false:=by funext d;unfold Cn;simp[Array.getElem?_replicate];split<;>simp
 refine wp_region_any h (mW (md:=.any) (val:=val) (C:=C) (V:=V) (al:=al) (st:=st) (Q:=fun e β=>∀c,C β (fun _=>true) c→Q .normal e c) j (fun g β e c q r h=>h c ?_) _ _ _ _ (fun _=>default) (fun d o _ e=>?_) (by rw[p];exact i) (fun i _ _=>?_))
 ·exact j _ _ _ _ _ (fun d e=>r d (by simpa using l d e)) (fun _ _ _=>rfl) q
 ·simp[Array.getElem?_replicate]at e;split at e<;>simp at e
 ·have:=yP (ops:=b.toArray) (md:=.any) (S:=fQ P .any b.toArray val C V al st i) (N:=iH al st) (Q:=fun g a=>(∀d,d<b.toArray.size→g.getD d false=true)∧∀c,C i (fun _=>true) c→Q .normal a c) Me f.1 (fun g _ c a h=>⟨c,h⟩) b 0 (Array.replicate b.toArray.size false) a Y1 Y1 (fun d e=>Y0) (Y6 f.2) (m i);simpa using this
end
structure WL (ops:Array Oper) (S:Nat→Oper→Act→aI→Prop) (N:Nat→Prop) (Q:Act→Prop) (l:List Oper) (k:Nat) (a:Act):Prop where
 h:iy ops S N Q l k a
structure Wd (A:aB→Prop)where
 W:aB
 a:A W
section
variable {P:Program} {ops:Array Oper} {A B:aB→Prop} {T:Type} {val:T→aI} {C:Pn T} {V:Nat→aI} {al st:List Nat} {β:Nat→T} {n:Nat} {Q:Act→Prop} {o:Oper} {rest:List Oper} {k:Nat} {a:Act} {S:Nat→Oper→Act→aI→Prop} {N:Nat→Prop}
def WL.b (b:Q a):WL ops S N Q [] k a:=⟨b⟩
def WL.e (g:∀c b,uI .any ops k c→C β c b→A b) (h:∀e:Act→Prop,(∀a,WL ops (fQ P .any ops val C V al st β) (iH al st) Q rest (k+1) a→e a)→if Region.wanted o (yielded ops a.tmps)then∃d,(∀f:Wd A,kC f.W d ((execOp a.eval o).run P f.W))∧e (a.put o.dst d)else e (a.put o.dst bq)) (e:iH al st k:=by decide):WL ops (fQ P .any ops val C V al st β) (iH al st) Q (o::rest) k a:=by
 have:=h _ (fun a f=>f.h);refine⟨?_⟩;unfold iy;split
 ·rename_i f;rw[aP f]at this;obtain⟨d,h,i⟩:=this;refine⟨d,?_,i⟩;unfold fQ;rw[aL e.1,aL e.2];exact fun c b d i=>h ⟨b,g c b d i⟩
 ·rename_i f;rw[aL f]at this;exact⟨e,this⟩
def WL.w (m:∀c b,uI .any ops k c→C β c b→A b) (d:bB) (l:Operand) (h i:Nat) (e:Array aI) {j:TypeDesc} (p:∀q:Wd A,∀f g,e[f]?=R g→q.W.cell? ⟨h,i+f,O⟩=R g) (q:P.underlying d=R j) (r:(P.info? d).map (·.size)=R e.size) (s:WL ops (fQ P .any ops val C V al st β) (iH al st) Q rest (k+1) (a.put o.dst (aS e)))
  (t:o.op=.load d l:=by rfl) (u:a.eval l=aK (R ⟨h,i,O⟩):=by rfl) (v:j.isRow=true:=by rfl) (l:iH al st k:=by decide) (w:o.guard=O:=by rfl):WL ops (fQ P .any ops val C V al st β) (iH al st) Q (o::rest) k a:=by refine⟨?_⟩;unfold iy;rw[aP (by simp[Region.wanted,w])];refine⟨_,?_,s.h⟩;unfold fQ;rw[aL l.1,aL l.2];intro c b l s;unfold execOp;have w:=run_loadVar_mid (P:=P) b h i d e.toList j (fun f g d=>p ⟨b,m c b l s⟩ f g (Y6 d)) q v (Y6 r);simp only[t,u,Instr.loadAt,Instr.sureAddr,Sem.run_bind,Sem.run_pure,Result.andThen_ok,w,Eh,Array.toArray_toList,and_self]
def WL.g (b:aI) (e:∀c d,uI .any ops k c→C β c d→gJ P (C β (fI c k)) b ((execOp a.eval o).run P d)) (d:WL ops (fQ P .any ops val C V al st β) (iH al st) Q rest (k+1) (a.put o.dst b)) (f:al≠[]→b=V k) (c:k∉al∧k∈st:=by decide) (g:o.guard=O:=by rfl):WL ops (fQ P .any ops val C V al st β) (iH al st) Q (o::rest) k a:=by refine⟨?_⟩;unfold iy;rw[aP (by simp[Region.wanted,g])];refine⟨b,?_,d.h⟩;unfold fQ;rw[aL c.1,aP c.2];exact⟨f,e⟩
def WL.s (d:∀b c,uI .any ops k b→C β b c→kD P val (fun e f=>C (lU β k e) (fI b k) f) ((execOp a.eval o).run P c)) (b:WL ops (fQ P .any ops val C V al st β) (iH al st) Q rest (k+1) (a.put o.dst (val (β k)))) (c:k∈al:=by decide) (e:o.guard=O:=by rfl):WL ops (fQ P .any ops val C V al st β) (iH al st) Q (o::rest) k a:=by refine⟨?_⟩;unfold iy;rw[aP (by simp[Region.wanted,e])];refine⟨_,?_,b.h⟩;unfold fQ;rw[aP c];exact⟨rfl,d⟩
def lI {g:aB→Prop} {c:aB} (f:bB) (h i:Operand) (d e:Nat) (b:Array aI) (j:c.there d e b.size) (l:(P.info? f).map (·.size)=R b.size) (m:g (c.setCells d e b.toList)) (p:b.all (·.oneCell')=true:=by kernel_rfl) (q:o.op=.store f h i:=by rfl) (r:a.eval h=aK (R ⟨d,e,O⟩):=by rfl) (h:a.eval i=aS b:=by rfl):gJ P g bq ((execOp a.eval o).run P c):=by have g:=run_storeAt_mid (P:=P) c d e f b j l p;unfold execOp;simp only[q,r,h,Sem.run_bind,Sem.run_pure,Result.andThen_ok,g,Ho,true_and];exact m
def bH.v {d:aB} {e:Nat} {b:bB} {f:Array aI} (g:bH d e b f):∀b c,f[b]?=R c→d.cell? ⟨e,0+b,O⟩=R c:=fun b c d=>by rw[cK,g.a b];exact d
def bH.D {b:aB} {c:Nat} {f:bB} {d:Array aI} (e:bH b c f d) (f n:Nat) (g:f+n≤d.size):b.there c f n:=fun b c=>⟨by rw[e.a,dA (by omega)];rfl,e.c _⟩
abbrev uJ (b:Nat):aI:=aK (R ⟨b,0,O⟩)
def WL.t {C:Pn Nat} {β:Nat→Nat} (e:∀c b,uI .any ops k c→C β c b→∃d,(execOp a.eval o).run P b=.ok (.value (aK (R ⟨b,0,O⟩))) d∧C (lU β k b.heap.size) (fI c k) d) (f:WL ops (fQ P .any ops uJ C V al st β) (iH al st) Q rest (k+1) (a.put o.dst (aK (R ⟨β k,0,O⟩)))) (g:k∈al:=by decide) (h:o.guard=O:=by rfl):WL ops (fQ P .any ops uJ C V al st β) (iH al st) Q (o::rest) k a:=
 WL.s (fun c b i j=>by obtain⟨d,l,m⟩:=e c b i j;rw[l];exact⟨_,rfl,m⟩) f g h
def YZ (A B:aB→Prop) (b:Nat):Pn Nat:=fun _ c d=>(c b=false→A d)∧(c b=true→B d)
abbrev Hr (P:Program) (ops:Array Oper) (A B:aB→Prop) (b:Nat) (st:List Nat):Nat→Oper→Act→aI→Prop:=fQ P .any ops uJ (YZ A B b) (fun _=>bq) [] st (fun _=>0)
def WL.c (e:∀b:Act→Prop,(∀a,WL ops (Hr P ops A B n st) (iH [] st) Q rest (k+1) a→b a)→if Region.wanted o (yielded ops a.tmps)then∃c,(∀d:Wd A,kC d.W c ((execOp a.eval o).run P d.W))∧b (a.put o.dst c)else b (a.put o.dst bq)) (b:iH [] st k:=by decide) (c:jc .any ops n k=true:=by decide+kernel):WL ops (Hr P ops A B n st) (iH [] st) Q (o::rest) k a:=
 WL.e (A:=A) (fun g h d f=>f.1 (d.a n c)) e b
def WL.d (g:∀c:Act→Prop,(∀a,WL ops (Hr P ops A B n st) (iH [] st) Q rest (k+1) a→c a)→if Region.wanted o (yielded ops a.tmps)then∃d,(∀f:Wd (fun b=>A b∨B b),kC f.W d ((execOp a.eval o).run P f.W))∧c (a.put o.dst d)else c (a.put o.dst bq)) (d:iH [] st k:=by decide):WL ops (Hr P ops A B n st) (iH [] st) Q (o::rest) k a:=
 WL.e (A:=fun b=>A b∨B b) (fun f b h c=>by cases e:f n;exact .inl (c.1 e);exact .inr (c.2 e)) g d
def WL.v (b:bB) (d:Operand) (e f:Nat) (c:Array aI) {h:TypeDesc} (j:∀l:Wd A,∀g i,c[g]?=R i→l.W.cell? ⟨e,f+g,O⟩=R i) (i:P.underlying b=R h) (l:(P.info? b).map (·.size)=R c.size) (m:WL ops (Hr P ops A B n st) (iH [] st) Q rest (k+1) (a.put o.dst (aS c)))
  (p:o.op=.load b d:=by rfl) (q:a.eval d=aK (R ⟨e,f,O⟩):=by rfl) (g:h.isRow=true:=by rfl) (h:iH [] st k:=by decide) (r:o.guard=O:=by rfl) (s:jc .any ops n k=true:=by decide+kernel):WL ops (Hr P ops A B n st) (iH [] st) Q (o::rest) k a:=
 WL.w (A:=A) (fun u v g t=>t.1 (g.a n s)) b d e f c j i l m p q g h r
def WL.i (b:aI) (d:∀c:Wd A,gJ P A b ((execOp a.eval o).run P c.W)) (f:WL ops (Hr P ops A B n st) (iH [] st) Q rest (k+1) (a.put o.dst b)) (g:k∉([]:List Nat)∧k∈st:=by decide) (e:jc .any ops n k=true∧k≠n:=by decide+kernel) (h:o.guard=O:=by rfl):WL ops (Hr P ops A B n st) (iH [] st) Q (o::rest) k a:=by
 refine WL.g b (fun i c j l=>?_) f (fun b=>absurd rfl b) g h;have f:=j.a n e.1;have b:=d ⟨c,l.1 f⟩;generalize(execOp a.eval o).run P c=g at b;have c:∀d,A d→YZ A B n (fun _=>0) (fI i k) d:=fun d h=>⟨fun _=>h,fun b=>by unfold fI at b;rw[f]at b;simp[Ne.symm e.2]at b⟩;cases g with
 |ok d e=>
  cases d<;>simp only[gJ]at b⊢
  ·exact⟨b.1,c _ b.2⟩
  ·exact⟨b.1,c _ b.2⟩
  ·exact b.mono fun f g b=>⟨b.1,c _ b.2⟩
 |halt d e=>simp only[gJ]at b
def WL.f (b:aI) (d:∀c:Wd A,gJ P B b ((execOp a.eval o).run P c.W)) (e:WL ops (Hr P ops A B k st) (iH [] st) Q rest (k+1) (a.put o.dst b)) (f:k∉([]:List Nat)∧k∈st:=by decide) (g:o.guard=O:=by rfl):WL ops (Hr P ops A B k st) (iH [] st) Q (o::rest) k a:=by
 refine WL.g b (fun h c i j=>?_) e (fun b=>absurd rfl b) f g;have b:=d ⟨c,j.1 i.b⟩;generalize(execOp a.eval o).run P c=e at b;have c:∀d,B d→YZ A B k (fun _=>0) (fI h k) d:=fun d f=>⟨fun b=>by unfold fI at b;simp at b,fun _=>f⟩;cases e with
 |ok d e=>
  cases d<;>simp only[gJ]at b⊢
  ·exact⟨b.1,c _ b.2⟩
  ·exact⟨b.1,c _ b.2⟩
  ·exact b.mono fun f g b=>⟨b.1,c _ b.2⟩
 |halt d e=>simp only[gJ]at b
def jQ (A B:aB→Prop) (st:List Nat) (n:Nat) {f:Nat} {Q:Exit→Act→aB→Prop} {c:aB} {ops:List Oper} (j:A c.drew)
  (b:WL ops.toArray (Hr P ops.toArray A B n st) (iH [] st) (fun d=>∀e,B e→Q .normal d e) ops 0 a) (l:n∈st:=by decide) (g:P.follows .mixedOrders=true:=by kernel_rfl) (h:Region.lexB .any ops.toArray=true:=by kernel_rfl) (i:∀d∈st,d<ops.length:=by simp):(Code.region f ops.toArray true).wp P Q a c:=by
 refine mE [] st uJ (YZ A B n) (fun _=>bq) g h (fun d f=>f.elim (fun b=>by cases b) (i d)) (fun β d f i c g _ h=>?_) ⟨fun _=>j,fun b=>by cases b⟩ (fun β=>?_)
 ·unfold YZ at*;rw[←g n (.inr l)];exact h
 ·have i:∀(d:List Oper) (k:Nat) (a:Act) (Q f:Act→Prop),(∀a,Q a→f a)→iy ops.toArray (Hr P ops.toArray A B n st) (iH [] st) Q d k a→iy ops.toArray (fQ P .any ops.toArray uJ (YZ A B n) (fun _=>bq) [] st β) (iH [] st) f d k a:=by
   intro d;induction d with
   |nil=>exact fun k a Q f c b=>c a b
   |cons o d j=>
    intro k a Q f c b;unfold iy at b⊢;split
    ·rename_i d;rw[aP d]at b;obtain⟨f,g,l⟩:=b;exact⟨f,g,j _ _ _ _ c l⟩
    ·rename_i d;rw[aL d]at b;exact⟨b.1,j _ _ _ _ c b.2⟩
  exact i _ _ _ _ _ (fun a c e h=>c e (h.2 rfl)) b.h
end
def wW (n:Nat):Code→Option Code
 |.region b ops c=>if b==n then R (.region b ops c)else O
 |.seq a b=>match wW n a with
  |some c=>R c
  |none=>wW n b
 |.cond _ a b=>match wW n a with
  |some c=>R c
  |none=>wW n b
 |.block _ b=>wW n b
 |.loop b=>wW n b
 |.scope b=>wW n b
 |_=>O
def fu (n:Nat) (b:Code):Code:=match wW n b with
 |some b=>b
 |none=>.skip
def qK (n:Nat):Code→Option Code
 |.region b ops c=>if b==n then R (.region b ops c)else O
 |.seq a b=>match qK n a with
  |some c=>R (.seq c b)
  |none=>qK n b
 |.cond _ a b=>match qK n a with
  |some c=>R c
  |none=>qK n b
 |.block _ b=>qK n b
 |.loop b=>qK n b
 |.scope b=>qK n b
 |_=>O
def Ht (n:Nat) (b:Code):Code:=match qK n b with
 |some b=>b
 |none=>.skip
def cA (A:aB→Prop):Pn Nat:=fun _ _ b=>A b
abbrev SA (P:Program) (ops:Array Oper) (A:aB→Prop) (st:List Nat):Nat→Oper→Act→aI→Prop:=fQ P .any ops uJ (cA A) (fun _=>bq) [] st (fun _=>0)
section
variable {P:Program} {ops:Array Oper} {A:aB→Prop} {st:List Nat} {Q:Act→Prop} {o:Oper} {rest:List Oper} {k:Nat} {a:Act}
def WL.m (e:∀b:Act→Prop,(∀a,WL ops (SA P ops A st) (iH [] st) Q rest (k+1) a→b a)→if Region.wanted o (yielded ops a.tmps)then∃c,(∀d:Wd A,kC d.W c ((execOp a.eval o).run P d.W))∧b (a.put o.dst c)else b (a.put o.dst bq)) (b:iH [] st k:=by decide):WL ops (SA P ops A st) (iH [] st) Q (o::rest) k a:=
 WL.e (A:=A) (fun _ _ _ c=>c) e b
def WL.u (b:aI) (c:∀d:Wd A,gJ P A b ((execOp a.eval o).run P d.W)) (d:WL ops (SA P ops A st) (iH [] st) Q rest (k+1) (a.put o.dst b)) (e:k∈st:=by decide) (f:Region.wanted o (yielded ops a.tmps)=true:=by rfl):WL ops (SA P ops A st) (iH [] st) Q (o::rest) k a:=by refine⟨?_⟩;unfold iy;rw[aP f];refine⟨b,?_,d.h⟩;unfold SA fQ;rw[aL Y1,aP e];exact⟨fun b=>absurd rfl b,fun e b _ d=>c ⟨b,d⟩⟩
def Mg (A:aB→Prop) (st:List Nat) {g:Nat} {Q:Exit→Act→aB→Prop} {e:aB} {ops:List Oper} (h:A e.drew)
  (b:WL ops.toArray (SA P ops.toArray A st) (iH [] st) (fun d=>∀c,A c→Q .normal d c) ops 0 a) (i:P.follows .mixedOrders=true:=by kernel_rfl) (j:Region.lexB .any ops.toArray=true:=by kernel_rfl) (l:∀f∈st,f<ops.length:=by simp):(Code.region g ops.toArray true).wp P Q a e:=by
 refine mE [] st uJ (cA A) (fun _=>bq) i j (fun f g=>g.elim (fun b=>by cases b) (l f)) (fun f j l g e _ _ i=>i) h (fun f=>?_);have g:∀(e:List Oper) (k:Nat) (a:Act),iy ops.toArray (SA P ops.toArray A st) (iH [] st) (fun d=>∀c,A c→Q .normal d c) e k a→iy ops.toArray (fQ P .any ops.toArray uJ (cA A) (fun _=>bq) [] st f) (iH [] st) (fun d=>∀c,A c→Q .normal d c) e k a:=by
  intro e;induction e with
  |nil=>exact fun k a b=>b
  |cons o e d=>
   intro k a b;unfold iy at b⊢;split
   ·rename_i c;rw[aP c]at b;obtain⟨e,f,h⟩:=b;exact⟨e,f,d _ _ h⟩
   ·rename_i c;rw[aL c]at b;exact⟨b.1,d _ _ b.2⟩
 exact g _ _ _ b.h
end
abbrev pY (b:aI):aI:=b
def cV (A0:aB→Prop) (A1 A2:aI→aB→Prop) (B:aB→Prop) (i j n:Nat):Pn aI:=fun β c b=>if c n then B b else if c j then A2 (β j) b else if c i then A1 (β i) b else A0 b
def cU (A0:aB→Prop) (A1 A2:aI→aB→Prop) (b:aB):Prop:=A0 b∨(∃c,A1 c b)∨∃c,A2 c b
section
variable {P:Program} {ops:Array Oper} {A0:aB→Prop} {A1 A2:aI→aB→Prop} {B:aB→Prop} {i j n:Nat} {ks:List Nat} {V:Nat→aI} {β:Nat→aI} {Q:Act→Prop} {o:Oper} {rest:List Oper} {k:Nat} {a:Act}
abbrev SV (P:Program) (ops:Array Oper) (A0:aB→Prop) (A1 A2:aI→aB→Prop) (B:aB→Prop) (i j n:Nat) (ks:List Nat) (V:Nat→aI) (β:Nat→aI):Nat→Oper→Act→aI→Prop:=fQ P .any ops pY (cV A0 A1 A2 B i j n) V [i,j] (n::ks) β
def Za:Mf (cV A0 A1 A2 B i j n) [i,j] (n::ks):=fun β f c g h d e b=>by
 have g:=d i (.inl Y1);have h:=d j (.inl Y1);have l:=d n (.inr Y1)
 have d:=e i Y1;have f:=e j Y1
 unfold cV at*
 rw[←g,←h,←l]
 cases hn:c n<;>cases hj:c j<;>cases hi:c i<;>simp[hn,hj,hi]at b d f⊢<;>first|exact b|(rw[←f];exact b)|(rw[←d];exact b)
def WL.q (e:∀b:Act→Prop,(∀a,WL ops (SV P ops A0 A1 A2 B i j n ks V β) (iH [i,j] (n::ks)) Q rest (k+1) a→b a)→if Region.wanted o (yielded ops a.tmps)then∃c,(∀d:Wd (cU A0 A1 A2),kC d.W c ((execOp a.eval o).run P d.W))∧b (a.put o.dst c)else b (a.put o.dst bq)) (d:iH [i,j] (n::ks) k:=by decide) (f:jc .any ops n k=true:=by decide+kernel):WL ops (SV P ops A0 A1 A2 B i j n ks V β) (iH [i,j] (n::ks)) Q (o::rest) k a:=
 WL.e (A:=cU A0 A1 A2) (fun c h g b=>by
  have h:=g.a n f
  unfold cV at b
  rw[h]at b
  cases hj:c j<;>cases hi:c i<;>simp[hj,hi]at b
  ·exact .inl b
  ·exact .inr (.inl ⟨_,b⟩)
  ·exact .inr (.inr ⟨_,b⟩)
  ·exact .inr (.inr ⟨_,b⟩)) e d
def WL.x (e:∀d,A0 d→kD P pY A1 ((execOp a.eval o).run P d)) (g:WL ops (SV P ops A0 A1 A2 B i j n ks V β) (iH [i,j] (n::ks)) Q rest (i+1) (a.put o.dst (β i))) (f:(i≠j∧i≠n)∧jc .any ops n i=true∧jc .any ops j i=true:=by decide+kernel) (h:o.guard=O:=by rfl):WL ops (SV P ops A0 A1 A2 B i j n ks V β) (iH [i,j] (n::ks)) Q (o::rest) i a:=by
 refine WL.s (fun m d b c=>?_) g Y1 h;have h:=b.a n f.2.1;have l:=b.a j f.2.2;have g:=b.b;unfold cV at c;rw[h,l,g]at c;have b:=e d (Y6 c);have g:∀c e,A1 c e→cV A0 A1 A2 B i j n (lU β i c) (fI m i) e:=fun c e b=>by unfold cV lU fI;simp[h,l,Ne.symm f.1.1,Ne.symm f.1.2];exact b
 generalize(execOp a.eval o).run P d=d at b;cases d with
 |ok f e=>
  cases f<;>simp only[kD]at b⊢
  ·obtain⟨c,d,b⟩:=b;exact⟨c,d,g _ _ b⟩
  ·obtain⟨c,d,b⟩:=b;exact⟨c,d,g _ _ b⟩
  ·exact b.mono fun d l ⟨c,h,b⟩=>⟨c,h,g _ _ b⟩
 |halt f e=>simp only[kD]at b
def WL.A (b:aI) (g:∀c,A0 c→gJ P A0 b ((execOp a.eval o).run P c)) (h:WL ops (SV P ops A0 A1 A2 B i j n ks V β) (iH [i,j] (n::ks)) Q rest (k+1) (a.put o.dst b)) (hv:b=V k:=by rfl) (d:k∉[i,j]∧k∈n::ks:=by decide) (e:k≠n∧jc .any ops i k=true∧jc .any ops j k=true∧jc .any ops n k=true:=by decide+kernel) (l:o.guard=O:=by rfl):WL ops (SV P ops A0 A1 A2 B i j n ks V β) (iH [i,j] (n::ks)) Q (o::rest) k a:=by
 refine WL.g b (fun q c b f=>?_) h (fun _=>hv) d l;have h:=b.a i e.2.1;have l:=b.a j e.2.2.1;have m:=b.a n e.2.2.2;unfold cV at f;rw[m,l,h]at f;have b:=g c (Y6 f);have p:i≠k∧j≠k:=⟨fun f=>d.1 (by rw[←f];simp),fun f=>d.1 (by rw[←f];simp)⟩;have g:∀d,A0 d→cV A0 A1 A2 B i j n β (fI q k) d:=fun d b=>by unfold cV fI;simp[m,l,h,p.1,p.2,Ne.symm e.1];exact b
 generalize(execOp a.eval o).run P c=c at b;cases c with
 |ok c d=>
  cases c<;>simp only[gJ]at b⊢
  ·exact⟨b.1,g _ b.2⟩
  ·exact⟨b.1,g _ b.2⟩
  ·exact b.mono fun f e b=>⟨b.1,g _ b.2⟩
 |halt c d=>simp only[gJ]at b
def WL.y (e:∀d,A1 (β i) d→kD P pY A2 ((execOp a.eval o).run P d)) (g:WL ops (SV P ops A0 A1 A2 B i j n ks V β) (iH [i,j] (n::ks)) Q rest (j+1) (a.put o.dst (β j))) (f:j≠n∧jc .any ops n j=true∧jc .any ops j i=true:=by decide+kernel) (h:o.guard=O:=by rfl):WL ops (SV P ops A0 A1 A2 B i j n ks V β) (iH [i,j] (n::ks)) Q (o::rest) j a:=by
 refine WL.s (fun l d b c=>?_) g Y1 h;have h:=b.a n f.2.1;have g:=b.c i f.2.2;have m:=b.b;unfold cV at c;rw[h,m,g]at c;have b:=e d (Y6 c);have g:∀c e,A2 c e→cV A0 A1 A2 B i j n (lU β j c) (fI l j) e:=fun c e b=>by unfold cV lU fI;simp[h,Ne.symm f.1];exact b
 generalize(execOp a.eval o).run P d=d at b;cases d with
 |ok f e=>
  cases f<;>simp only[kD]at b⊢
  ·obtain⟨c,d,b⟩:=b;exact⟨c,d,g _ _ b⟩
  ·obtain⟨c,d,b⟩:=b;exact⟨c,d,g _ _ b⟩
  ·exact b.mono fun d l ⟨c,h,b⟩=>⟨c,h,g _ _ b⟩
 |halt f e=>simp only[kD]at b
def WL.z (f:∀c,A2 (β j) c→gJ P B bq ((execOp a.eval o).run P c)) (g:WL ops (SV P ops A0 A1 A2 B i j n ks V β) (iH [i,j] (n::ks)) Q rest (n+1) (a.put o.dst bq)) (h:V n=bq:=by rfl) (b:(n∉[i,j])∧jc .any ops n j=true:=by decide+kernel) (l:o.guard=O:=by rfl):WL ops (SV P ops A0 A1 A2 B i j n ks V β) (iH [i,j] (n::ks)) Q (o::rest) n a:=by
 refine WL.g bq (fun m c e d=>?_) g (fun _=>h.symm) ⟨b.1,Y1⟩ l;have g:=e.c j b.2;have b:=e.b;unfold cV at d;rw[b,g]at d;have b:=f c (Y6 d);have e:∀d,B d→cV A0 A1 A2 B i j n β (fI m n) d:=fun d b=>by unfold cV fI;simp;exact b
 generalize(execOp a.eval o).run P c=c at b;cases c with
 |ok c d=>
  cases c<;>simp only[gJ]at b⊢
  ·exact⟨b.1,e _ b.2⟩
  ·exact⟨b.1,e _ b.2⟩
  ·exact b.mono fun f g b=>⟨b.1,e _ b.2⟩
 |halt c d=>simp only[gJ]at b
instance (priority:=low):Inhabited aI:=⟨bq⟩
def zaC (A0:aB→Prop) (A1 A2:aI→aB→Prop) (B:aB→Prop) (i j n:Nat) (ks:List Nat) (V:Nat→aI) {h:Nat} {Q:Exit→Act→aB→Prop} {g:aB} {ops:List Oper} (l:A0 g.drew)
  (b:∀β,WL ops.toArray (SV P ops.toArray A0 A1 A2 B i j n ks V β) (iH [i,j] (n::ks)) (fun d=>∀c,B c→Q .normal d c) ops 0 a) (m:P.follows .mixedOrders=true:=by kernel_rfl) (p:Region.lexB .any ops.toArray=true:=by kernel_rfl) (f:∀e,e∈[i,j]∨e∈n::ks→e<ops.length:=by intro e f;simp at f⊢;omega):(Code.region h ops.toArray true).wp P Q a g:=by
 refine mE [i,j] (n::ks) pY (cV A0 A1 A2 B i j n) V m p f Za (by unfold cV;simpa using l) (fun β=>?_);have f:∀(e:List Oper) (k:Nat) (a:Act),iy ops.toArray (SV P ops.toArray A0 A1 A2 B i j n ks V β) (iH [i,j] (n::ks)) (fun d=>∀c,B c→Q .normal d c) e k a→iy ops.toArray (SV P ops.toArray A0 A1 A2 B i j n ks V β) (iH [i,j] (n::ks)) (fun d=>∀c,cV A0 A1 A2 B i j n β (fun _=>true) c→Q .normal d c) e k a:=by
  intro e;induction e with
  |nil=>exact fun k a b c d=>b c (by simpa[cV]using d)
  |cons o e d=>
   intro k a b;unfold iy at b⊢;split
   ·rename_i c;rw[aP c]at b;obtain⟨e,g,h⟩:=b;exact⟨e,g,d _ _ h⟩
   ·rename_i c;rw[aL c]at b;exact⟨b.1,d _ _ b.2⟩
 exact f _ _ _ (b β).h
end
end Go.Proofs.YtdcacpeaimjdlaaGreatDoor
