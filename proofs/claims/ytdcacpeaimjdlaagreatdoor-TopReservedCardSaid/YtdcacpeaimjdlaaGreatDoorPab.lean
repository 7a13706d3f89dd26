/- Part of the proof. -/
import Derived.Test.YtdcacpeaimjdlaaGreatDoorPaa
import Derived.Deep.MidRow
import Derived.Deep.WholeRow
import Derived.Laws.AppendOwnNone
import Derived.Maps.OwnSet
import Derived.StillTailTactics
namespace Go.Proofs.YtdcacpeaimjdlaaGreatDoor
open Go.RowKit Go.Maps Go.Proofs.Tryz Mq
open Go.Value renaming int→J,slice→Z,string→aA,pointer→aK,bool→aO,tuple→aN,agg→aS,complex→aH
open Go.IntKind renaming i64→U
open Option renaming none→O,some→R
open Go.Ending renaming returned→av
open Go renaming World→aB,Value→aI,Calls→aF,Addr→aX,TypeId→bB,undef→bq
open Go.RowKit renaming Below→aJ
open Go.Proofs.Tryz renaming prog→au
open Go.FloatKind renaming f64→aW
set_option maxRecDepth 20000
set_option maxHeartbeats 0
set_option linter.all false
structure bg (F:List Nat) (w w':aB):Prop where
 p:w'.os=w.os
 q:w'.tape=w.tape
 r:w'.output=w.output
 b:w.heap.size≤w'.heap.size
 m:∀i,i<w.heap.size→i∉F→w'.heap[i]?=w.heap[i]?
section
variable {F F1:List Nat} {w w1 w2 w':aB}
def bg.o (F:List Nat) (w:aB):bg F w w:=⟨rfl,rfl,rfl,aD _,fun _ _ _=>rfl⟩
def bg.a (a:bg F w w1) (c:bg F1 w1 w2) (hF:∀b∈F1,b∈F∨w.heap.size≤b):bg F w w2:=
 ⟨c.p.trans a.p,c.q.trans a.q,c.r.trans a.r,aR a.b c.b,fun d e g=>(c.m d (aV e a.b) fun h=>by
  rcases hF d h with c|c
  ·exact g c
  ·omega).trans (a.m d e g)⟩
def bg.k {row:Option Nat} (a:w.grownBy w' row) (d:∀b,row=R b→b∈F∨w.heap.size≤b):bg F w w':=
 ⟨a.os,a.tape,a.output,a.size,fun c e g=>a.block c e fun e=>by
  rcases d c e.symm with a|a
  ·exact g a
  ·omega⟩
def bg.d (a:aJ w w w'):bg F w w':=⟨a.os,a.tape,a.output,a.size,fun c d _=>a.block c d⟩
def bg.n (w:aB) (a:Obj):bg F w (w.alloc a):=bg.d ((ay _ _).alloc (aD _) a)
def bg.e (w:aB) {p:aX} (c:p.block∈F) (a:aI):bg F w (w.setCell p a):=
 ⟨rfl,rfl,rfl,Y1,fun d _ e=>Below.heap_setCell w p a d fun a=>e (by rw[a];exact c)⟩
def bg.j (w:aB) (a:Nat):bg F w (w.drewN a):=⟨rfl,rfl,rfl,aD _,fun _ _ _=>rfl⟩
def bg.l (w:aB):bg F w w.drew:=⟨rfl,rfl,rfl,aD _,fun _ _ _=>rfl⟩
def bg.g (a:bg F w w') (hF:∀b∈F,b∈F1∨w.heap.size≤b):bg F1 w w':=
 ⟨a.p,a.q,a.r,a.b,fun c d e=>a.m c d fun d=>by
  rcases hF c d with a|a
  ·exact e a
  ·omega⟩
def bg.c (a:bg F w w') {c:Nat} (d:c≤w.heap.size) (hF:∀b∈F,c≤b):aJ c w w':=
 ⟨a.p,a.q,a.r,a.b,fun c e=>a.m c (aV e d) fun a=>by have:=hF c a;omega⟩
def bH.g {a:Nat} {c:bB} {d:Array aI} (e:bH w a c d) (g:bg F w w') (h:a∉F):bH w' a c d:=(g.m a e.e h).trans e
def bO {c:Nat} {d:bB} {e:Nat} {a:aI} {g:Nat} {xs:List aI} (h:w.ownsRow c d e a g xs) (i:bg F w w') (j:∀b,a.ownBlock=R b→b∉F):w'.ownsRow c d e a g xs:=by
 refine⟨h.1,?_⟩;rcases h.2 with d|⟨a,e,g,k,l,c,m⟩
 ·exact .inl d
 ·subst k;exact .inr ⟨a,e,g,rfl,l,(i.m a (Array.getElem?_eq_some_iff.1 c).1 (j a rfl)).trans c,m⟩
end
def mQ (w:aB) (K:Nat→Prop) (A:Option aX) (xs:List aI):Prop:=
 ∀(a:Nat) (c:aI),xs[a]?=R c→∃b d,A=R ⟨b,d,O⟩∧K b∧w.cell? ⟨b,d+a,O⟩=R c
section
variable {w w':aB} {K K':Nat→Prop} {A:Option aX} {xs:List aI}
def mQ.a (a:mQ w K A xs):bU w A xs:=fun c d e=>by
 obtain⟨b,g,h,_,i⟩:=a c d e
 exact⟨b,g,h,i⟩
def mQ.d (c:mQ w K A xs) (d:∀a,a<w.heap.size→K a→K' a):mQ w K' A xs:=fun e g h=>by
 obtain⟨b,i,j,k,a⟩:=c e g h
 exact⟨b,i,j,d b (bf w _ a) k,a⟩
def mQ.c (d:mQ w K A xs) (e:∀a,a<w.heap.size→K a→w'.heap[a]?=w.heap[a]?):mQ w' K A xs:=fun g h i=>by
 obtain⟨b,j,k,a,c⟩:=d g h i
 exact⟨b,j,k,a,(World.cell?_of_block (e b (bf w _ c) a)).trans c⟩
end
structure Sl (w:aB) (K:Nat→Prop) (A:Option aX) (n c:Nat) (xs:List aI):Prop where
 e:A=O→n=0∧c=0
 f:n≤c
 b:mQ w K A xs
def Sl.d {w:aB} {K K':Nat→Prop} {A:Option aX} {d e:Nat} {xs:List aI} (a:Sl w K A d e xs) (g:∀c,c<w.heap.size→K c→K' c):Sl w K' A d e xs:=⟨a.e,a.f,a.b.d g⟩
def Sl.h {w w':aB} {K:Nat→Prop} {A:Option aX} {d e:Nat} {xs:List aI} (c:Sl w K A d e xs) (g:∀a,a<w.heap.size→K a→w'.heap[a]?=w.heap[a]?):Sl w' K A d e xs:=⟨c.e,c.f,c.b.c g⟩
def Sl.g {w w':aB} {K:Nat→Prop} {A:Option aX} {a c:Nat} {xs:List aI} (d:Sl w K A a c xs) (e:aJ w w w'):Sl w' K A a c xs:=d.h fun a c _=>e.block a c
def Sl.a {w w':aB} {K:Nat→Prop} {F:List Nat} {A:Option aX} {c d:Nat} {xs:List aI} (e:Sl w K A c d xs) (g:bg F w w') (hF:∀a,K a→a∉F):Sl w' K A c d xs:=e.h fun a c d=>g.m a c (hF a d)
def Sl.i (w:aB) (K:Nat→Prop):Sl w K O 0 0 []:=⟨fun _=>⟨rfl,rfl⟩,aD _,fun c d a=>by simp at a⟩
def jE {w:aB} {d c e g:Nat} {h:bB} {A:Option aX} {xs:List aI} (a:w.ownsRow d h g (Z A c e) c xs):mQ w (fun c=>d≤c) A xs:=by
 intro h e d;rcases a.2 with⟨g,e⟩|⟨c,i,j,g,_⟩
 ·have:=a.1;rw[e,Nat.zero_mul]at this;rw[List.length_eq_zero_iff.1 this]at d;simp at d
 ·injection g with e g g;subst e g;refine⟨c,0,rfl,mP a c rfl,?_⟩;rw[cK,a.cellAt h (by have:=(aU.1 d).1;have:=a.1;omega)];exact d
def fH {w:aB} {e a c g:Nat} {h:bB} {A:Option aX} {xs:List aI} (d:w.ownsRow e h g (Z A a c) a xs):(A=O→a=0∧c=0)∧a≤c:=by
 rcases d.2 with⟨a,g⟩|⟨c,e,i,a,_,_,h,_⟩
 ·injection a with e i c;exact⟨fun _=>⟨g,c⟩,Y0⟩
 ·injection a with e i c;subst e c;exact⟨(fun d=>by cases d),h⟩
def Cg {w:aB} {d a e g:Nat} {h:bB} {A:Option aX} {xs:List aI} (c:w.ownsRow d h g (Z A a e) a xs):Sl w (fun g=>d≤g) A a e xs:=⟨(fH c).1,(fH c).2,jE c⟩
def yG (w:aB) (a:Option Nat):w.grownBy w a:=⟨rfl,rfl,rfl,aD _,fun _ _ _=>rfl⟩
def kk:Keyed au 3:=int_keyed underlying3
def qH (w:aB):(zeroValue 3).run au w=.ok (J U 0) w:=by kernel_rfl
def iF (w:aB) (b N:Nat) (f:Int→Option Int):Prop:=
 ∃c:DataW Unit,w.ownsMap au 3 (plainElem au 3) b N c∧IsMap c∧(∀a,(Lit.int U a).wf=true→Maps.has c (.int U a)=(f a).isSome)∧∀a d,(Lit.int U a).wf=true→f a=R d→c.atKey (.int U a) (.lit (.int U 0))=.lit (.int U d)
section
variable {w w':aB} {b N:Nat} {f:Int→Option Int}
def iF.i (a:iF w b N f):b<w.heap.size:=by obtain⟨d,c,_⟩:=a;exact c.lt
def iF.d (w:aB):iF (w.alloc (.map #[] 0)) w.heap.size 0 (fun _=>O):=
 ⟨.map [],World.ownsMap_made _ _ _ _,isMap_empty,fun _ _=>rfl,fun _ _ _ a=>by cases a⟩
def iF.a {F:List Nat} (c:iF w b N f) (d:bg F w w') (e:b∉F):iF w' b N f:=by obtain⟨g,⟨h,i,a,j⟩,k⟩:=c;exact⟨g,⟨h,i,(d.m b (Array.getElem?_eq_some_iff.1 a).1 e).trans a,j⟩,k⟩
def iF.c {a:Nat} {c:bB} {d:Array aI} (e:iF w b N f) (g:bH w a c d):a≠b:=by rintro rfl;obtain⟨c,⟨d,h,a,_⟩,_⟩:=e;have:=a.symm.trans g;simp at this
def iF.e (g:iF w b N f) (a:Int) (d:(Lit.int U a).wf=true):∃c:DataW Unit,w.ownsMap au 3 (plainElem au 3) b N c∧Maps.has c (.int U a)=(f a).isSome∧c.atKey (.int U a) (.lit (.int U 0))=.lit (.int U ((f a).getD 0)):=by
 obtain⟨c,h,_,e,i⟩:=g;refine⟨c,h,e a d,?_⟩;cases hf:f a with
 |none=>exact atKey_of_not_has (by rw[e a d,hf];rfl) _
 |some c=>exact i a c d hf
def xV {c d:Int} (a:(DataW.lit (.int U c):DataW Unit)=.lit (.int U d)):c=d:=by injection a with a;injection a
def iF.g (d:iF w b N f) (a:Int) (c:(Lit.int U a).wf=true):(Instr.lookup 155 (.map (R b)) (J U a) false).run au w=.ok (J U ((f a).getD 0)) w:=by obtain⟨h,e,_,g⟩:=d.e a c;obtain⟨h,d,a,_⟩:=e.lookup_int kk underlying155 underlying3 (qH _) (keyOf_int_mk underlying3 c);rw[g]at a;rw[d,←xV a]
def jF {h:Array Oper} {i:List Oper} {c:Oper} {d:Act} {j:Exit→Act→aB→Prop} (n:c.guard=O) (e g:Operand) (o:c.op=Op.lookup 155 e g true) (p:iF w b N f)
  (q:d.eval e=.map (R b)) (a:Int) (r:d.eval g=J U a) (k:(Lit.int U a).wf=true) (l:Int) (m:Bool) (s:(f a).getD 0=l) (t:(f a).isSome=m)
  (u:wpList au h j i (d.put c.dst (aN #[l,m])) w):wpList au h j (c::i) d w:=by obtain⟨c,d,h,i⟩:=p.e a k;refine wpList_lookup_own_ok_int w n e g 155 o 3 3 U kk underlying155 underlying3 (qH _) b N c q d _ _ r (keyOf_int_mk underlying3 k) fun c a _=>?_;rw[i]at a;rw[←xV a,h,s,t];exact u
def He {h:Array Oper} {i:List Oper} {a:Oper} {c:Act} {j:Exit→Act→aB→Prop} (m:a.guard=O) (e g:Operand) (n:a.op=Op.lookup 155 e g false) (o:iF w b N f)
  (p:c.eval e=.map (R b)) (d:Int) (q:c.eval g=J U d) (k:(Lit.int U d).wf=true) (l:Int) (r:(f d).getD 0=l)
  (s:wpList au h j i (c.put a.dst (J U l)) w):wpList au h j (a::i) c w:=by obtain⟨a,c,i,h⟩:=o.e d k;refine wpList_lookup_own_int w m e g 155 n 3 3 U kk underlying155 underlying3 (qH _) b N a p c _ _ q (keyOf_int_mk underlying3 k) fun c a _=>?_;rw[h]at a;rw[←xV a,r];exact s
def oK {l:Array Oper} {m:List Oper} {e:Oper} {d:Act} {n:Exit→Act→aB→Prop} (o:e.guard=O) (i j k:Operand) (p:e.op=Op.mapUpdate 155 i j k) (c:iF w b N f) (q:N<maxLen)
  (r:d.eval i=.map (R b)) (g h:Int) (s:d.eval j=J U g) (t:d.eval k=J U h) (u:(Lit.int U g).wf=true) (v:(Lit.int U h).wf=true)
  (x:∀w',iF w' b (N+1) (fun a=>if a=g then R h else f a)→w.grownBy w' (R b)→wpList au l n m (d.put e.dst bq) w'):wpList au l n (e::m) d w:=by
 obtain⟨d,e,l,n,y⟩:=c;have m:WideAt.IsKeyLit (.int U g):=trivial;refine wpList_mapUpdate_own w o i j k 155 p 3 3 kk underlying155 _ b N d r e q _ _ _ s t (keyOf_int_mk underlying3 u) (.lit (.int U h)) [] (plainElem_int underlying3 v) fun w' d e=>x w' ⟨_,d,l.put _ _,?_,?_⟩ e
 ·intro a h;dsimp only;by_cases d:a=g
  ·subst d;rw[aP rfl,has_put_same l m];rfl
  ·rw[aL d,has_put_other (by intro c;injection c with c i;exact d i),n a h]
 ·intro a j h e;dsimp only at e;by_cases d:a=g
  ·subst d;rw[aP rfl]at e;injection e with e;subst e;exact atKey_put_same l m _ _
  ·rw[aL d]at e;rw[atKey_put_other (by intro c;injection c with c i;exact d i)];exact y a j h e
end
def dY:List Int→Int→Option Nat
 |[],_=>O
 |b::l,a=>if b=a then R 0 else(dY l a).map (·+1)
def iV:∀{l:List Int} {b:Int} {d:Nat},dY l b=R d→d<l.length
 |[],b,d,a=>by cases a
 |e::l,b,d,a=>by
  unfold dY at a
  split at a
  ·injection a with a;subst a;simp
  ·cases hp:dY l b with
   |none=>rw[hp]at a;cases a
   |some b=>rw[hp]at a;simp at a;subst a;have:=iV hp;simp<;>omega
def kr:∀{l:List Int} {b:Int} {d:Nat},dY l b=R d→l[d]?=R b
 |[],b,d,a=>by cases a
 |e::l,b,d,a=>by
  unfold dY at a
  split at a
  ·rename_i d;injection a with a;subst a d;rfl
  ·cases hp:dY l b with
   |none=>rw[hp]at a;cases a
   |some b=>rw[hp]at a;simp at a;subst a;have:=kr hp;simpa using this
def rJ:∀(l:List Int) (b a:Int),dY (l++[b]) a=match dY l a with|some d=>R d|none=>if b=a then R l.length else O
 |[],b,a=>by
  show dY [b] a=_
  unfold dY
  split
  ·rfl
  ·rfl
 |f::l,b,a=>by
  show(if f=a then R 0 else(dY (l++[b]) a).map (·+1))=match(if f=a then R 0 else(dY l a).map (·+1))with|some d=>R d|none=>if b=a then R (l.length+1)else O
  by_cases e:f=a
  ·rw[aP e,aP e]
  ·rw[aL e,aL e,rJ l b a]
   cases hp:dY l a with
   |some d=>rfl
   |none=>
    by_cases d:b=a
    ·simp[d]
    ·simp[d]
def Bc {l:List Int} {a:Int}:dY l a=O↔a∉l:=by
 induction l with
 |nil=>simp[dY]
 |cons d l e=>
  unfold dY;by_cases b:d=a
  ·subst b;simp
  ·rw[aL b];have:¬a=d:=fun a=>b a.symm;simp[e,this]
def yH:∀{l:List Int} {a:Int} {d:Nat},l[d]?=R a→(∀e,e<d→l[e]?≠R a)→dY l a=R d
 |[],a,d,b,_=>by simp at b
 |f::l,a,0,b,_=>by simp at b;subst b;unfold dY;rw[aP rfl]
 |f::l,a,d+1,b,h=>by
  have i:=h 0 Y0
  have j:¬f=a:=fun k=>i (by rw[k];rfl)
  unfold dY
  rw[aL j,yH (Y6 b) (fun e m=>by simpa using h (e+1) Y0)];rfl
def qF (l:List Int) (a:Int):Option Int:=match dY l a with
 |some a=>R (a:Nat)
 |none=>O
structure Sm where
 c:Int
 k:Int
 o:Int
 a:Bool
 b:Bool
 y:Int
 d:Nat
 e:Nat
 f:Bool
 g:ByteArray
 h:Int
 i:Int
 j:Int
 l:Bool
 m:ByteArray
 n:Int
 p:Int
 q:Int
instance:Coe Sm (Array Value):=⟨fun m=>#[m.c,m.k,m.o,m.a,m.b,m.y,.complex .f64 m.d m.e,m.f,.string m.g,m.h,m.i,m.j,m.l,.string m.m,m.n,m.p,m.q]⟩
def Sm.s:Sm:=⟨0,0,0,false,false,0,0,0,false,ByteArray.empty,0,0,0,false,ByteArray.empty,0,0,0⟩
structure mR where
 k:Int
 o:Int
 a:Bool
 b:Bool
 y:Int
instance:Coe mR (Array Value):=⟨fun s=>#[s.k,s.o,s.a,s.b,s.y]⟩
def Sm.r (a:Sm):mR:=⟨a.k,a.o,a.a,a.b,a.y⟩
def mR.d:mR:=⟨0,0,false,false,0⟩
def lu (l:List Sm):List Int:=l.map Sm.c
def kU (l:List Sm):(lu l).length=l.length:=by unfold lu;simp
def yI (l:List Sm) (a:Sm):lu (l++[a])=lu l++[a.c]:=by unfold lu;simp
def JY {l:List Sm} {a:Nat} {b:Sm} (d:l[a]?=R b):(lu l)[a]?=R b.c:=by unfold lu;rw[bS,d];rfl
def Ch {l:List Sm} {a:Nat} {d:Sm} (b:(lu l)[a]?=R d.c):lu (l.set a d)=lu l:=by
 unfold lu at b⊢;rw[List.map_set];apply List.ext_getElem?;intro e;rw[List.getElem?_set];by_cases d:a=e
 ·subst d;rw[aP rfl,aP (aU.1 b).1,b]
 ·rw[aL d]
def oL (a:Int):Bool:=decide (1≤a)&&decide (a≤2147483647)
def iw (a:Int):Int:=if oL a=true then 1-a%2 else 0
def yJ (a:Int):iw a=0∨iw a=1:=by unfold iw;split<;>omega
def uG (a:Sm):Bool:=(oL a.c&&iR a.k a.o a.a a.b a.y)&&(decide (2≤a.k)&&decide (a.o=iw a.c))
def xW {a:Sm} (b:uG a=true):oL a.c=true∧iR a.k a.o a.a a.b a.y=true∧2≤a.k∧a.o=iw a.c:=by unfold uG at b;simp only[Bool.and_eq_true,decide_eq_true_eq]at b;exact⟨b.1.1,b.1.2,b.2.1,b.2.2⟩
def Bf (l:List Int) (b:Int):Int:=l.foldl (fun n a=>if iw a=b then max n a else n) 0
def fP (l:List Sm) (a:Int):Int:=Bf (lu l) a
def Hf (l:List Int) (b a:Int):Bf (l++[b]) a=if iw b=a then max (Bf l a) b else Bf l a:=by unfold Bf;rw[List.foldl_append];rfl
def yK (l:List Sm) (b:Sm) (a:Int):fP (l++[b]) a=if iw b.c=a then max (fP l a) b.c else fP l a:=by unfold fP;rw[yI,Hf]
def Bg {l:List Sm} {a:Nat} {b:Sm} (e:(lu l)[a]?=R b.c) (d:Int):fP (l.set a b) d=fP l d:=by unfold fP;rw[Ch e]
def yL:∀(l:List Int) (b n:Int),n≤l.foldl (fun n a=>if iw a=b then max n a else n) n
 |[],_,n=>Int.le_refl n
 |a::l,b,n=>by
  show n≤l.foldl _ (if iw a=b then max n a else n)
  have d:=yL l b (if iw a=b then max n a else n)
  split at d
  ·rename_i b;rw[aP b];have:=Int.le_max_left n a;omega
  ·rename_i b;rw[aL b];exact d
def LZ (l:List Sm) (a:Int) (b:a≠0) (b:a≠1):fP l a=0:=by
 unfold fP Bf;induction lu l with
 |nil=>rfl
 |cons b l d=>
  have e:=yJ b;show l.foldl _ (if iw b=a then max 0 b else 0)=0
  rw[aL Y0];exact d
def DZ:∀(l:List Int) (d n a:Int),a∈l→iw a=d→a≤l.foldl (fun n a=>if iw a=d then max n a else n) n
 |[],_,_,_,b,_=>by cases b
 |e::l,d,n,a,b,f=>by
  show a≤l.foldl _ (if iw e=d then max n e else n)
  rcases bA.1 b with b|b
  ·subst b
   rw[aP f]
   have:=yL l d (max n a)
   have:=Int.le_max_right n a
   omega
  ·exact DZ l d _ a b f
def Pe {l:List Sm} {a:Int} (b:a∈lu l):a≤fP l (iw a):=DZ _ _ _ _ b rfl
def opn (b:Int) (a:Sm):Bool:=decide (a.k=3)&&decide (a.o=b)
def ji (l:List Sm) (a:Int):Nat:=l.countP (opn a)
def Ci {l:List Sm} {b:Nat} {d:Sm} (e:l[b]?=R d) (a:Int):ji (l.take (b+1)) a=if opn a d=true then ji (l.take b) a+1 else ji (l.take b) a:=by
 rw[List.take_add_one,e];unfold ji;rw[List.countP_append];show _+List.countP (opn a) [d]=_
 rw[List.countP_cons,List.countP_nil];split<;>rfl
def gu (l:List Sm) (a:Int):mR:=match dY (lu l) a with
 |some b=>(l.getD b Sm.s).r
 |none=>if oL a=true then(if a<fP l (iw a)then⟨1,iw a,false,false,0⟩else⟨0,iw a,false,false,0⟩)else .d
def wS {l:List Sm} {b:Int} {a:Nat} {d:Sm} (e:dY (lu l) b=R a) (f:l[a]?=R d):gu l b=d.r:=by
 unfold gu;rw[e];show(l.getD a _).r=_
 rw[aY,f];rfl
def qI {l:List Sm} {a:Int} (b:dY (lu l) a=O):gu l a=if oL a=true then(if a<fP l (iw a)then⟨1,iw a,false,false,0⟩else⟨0,iw a,false,false,0⟩)else .d:=by unfold gu;rw[b]
def Ea (l:List Sm) (a:Sm):Bool:=uG a&&decide (fP l (iw a.c)<a.c)
def Cj (l:List Sm) (a:Sm) (b:Int):Int:=if Ea l a=true then(if(l.length:Int)<b then 0 else 6)else 1
def nP (l:List Sm) (a:Sm) (b:Int):List Sm:=if Ea l a=true∧(l.length:Int)<b then l++[a]else l
def Hg (l:List Sm) (a:Sm):Bool:=(dY (lu l) a.c).isSome&&uG a
def oM (l:List Sm) (a:Sm):List Sm:=if uG a=true then(match dY (lu l) a.c with|some b=>l.set b a|none=>l)else l
structure Ok (l:List Sm):Prop where
 a:∀m∈l,uG m=true
 b:(lu l).Nodup
def Ok.d:Ok []:=⟨fun _ a=>(by cases a),List.nodup_nil⟩
def Ok.j {l:List Sm} (e:Ok l) {a:Nat} {b:Sm} (d:l[a]?=R b):dY (lu l) b.c=R a:=by refine yH (JY d) fun b f h=>?_;have i:=JY d;obtain⟨d,j⟩:=aU.1 i;obtain⟨i,k⟩:=aU.1 h;have:=(List.nodup_iff_pairwise_ne.1 e.b);have e:=List.pairwise_iff_getElem.1 this b a i d f;exact e (k.trans j.symm)
def Yg {l:List Sm} {m:Sm} (a:fP l (iw m.c)<m.c):m.c∉lu l:=fun a=>by
 have:=Pe a
 omega
def Eb {l:List Sm} {a:Sm} (b:Ea l a=true):uG a=true∧fP l (iw a.c)<a.c:=by unfold Ea at b;simpa using b
def Ok.e {l:List Sm} {a:Sm} (b:Ok l) (d:Ea l a=true):Ok (l++[a]):=by
 obtain⟨e,f⟩:=Eb d;refine⟨fun d a=>?_,?_⟩
 ·rcases bK.1 a with a|a
  ·exact b.a d a
  ·rw[aC.1 a];exact e
 ·rw[yI,List.nodup_append];refine⟨b.b,Y1,fun d a e b=>?_⟩;rw[aC.1 b];intro b;exact Yg f (b▸a)
def Ok.f {l:List Sm} (a:Ok l) (b:Sm) (d:Int):Ok (nP l b d):=by
 unfold nP;split
 ·rename_i b;exact a.e b.1
 ·exact a
def Ok.h {l:List Sm} {a:Sm} {b:Nat} (d:Ok l) (e:uG a=true) (f:dY (lu l) a.c=R b):Ok (l.set b a):=by
 refine⟨fun b a=>?_,?_⟩
 ·rcases List.mem_or_eq_of_mem_set a with a|a
  ·exact d.a b a
  ·rw[a];exact e
 ·rw[Ch (kr f)];exact d.b
def Ok.i {l:List Sm} (a:Ok l) (b:Sm):Ok (oM l b):=by
 unfold oM;split
 ·rename_i b;split
  ·rename_i e d;exact a.h b d
  ·exact a
 ·exact a
def Vi {l:List Sm} {b:Sm} {n:Nat} (e:b.c∉lu l) (d:l.length=n) (a:Int):(if a=b.c then R (n:Int)else qF (lu l) a)=qF (lu (l++[b])) a:=by
 unfold qF;rw[yI,rJ,kU,d];by_cases d:a=b.c
 ·subst d;rw[aP rfl,Bc.2 e];simp
 ·rw[aL d];cases hq:dY (lu l) a with
  |some a=>rfl
  |none=>simp[Ne.symm d]
def Vj (a:Int):a%2=0∨a%2=1:=by omega
def Ma (a:Int) (w:aB):aF au 92 #[a] w fun b w'=>b=av (aN #[J U (iw a),aO (oL a)])∧w=w':=by
 by_cases b:a<1
 ·have b:oL a=false:=by unfold oL;simp;omega
  have d:iw a=0:=by unfold iw;rw[b];rfl
  rw[b,d];clear b d;go_enter func92,ntmps92;go_wp2;go_ret2;exact Y5
 ·by_cases e:a>2147483647
  ·have b:oL a=false:=by unfold oL;simp;omega
   have d:iw a=0:=by unfold iw;rw[b];rfl
   rw[b,d];clear b d;go_enter func92,ntmps92;go_wp2;go_ret2;exact Y5
  ·have b:oL a=true:=by unfold oL;simp;omega
   have d:iw a=1-a%2:=by unfold iw;rw[b];rfl
   rw[b,d];have e:a.tmod 2=a%2:=Int.tmod_eq_emod_of_nonneg Y0;clear b d;rcases Vj a with b|b
   ·rw[b]at e⊢;clear b;go_enter func92,ntmps92;go_wp2;go_ret2;exact Y5
   ·rw[b]at e⊢;clear b;go_enter func92,ntmps92;go_wp2;go_ret2;exact Y5
def xX (a b:Int) (d:Bool) (w:aB) (e:iw a=b) (f:oL a=d):aF au 92 #[a] w fun h w'=>h=av (aN #[b,d])∧w=w':=by rw[←e,←f];exact Ma a w
def zcd (a:Sm) (w:aB) (b:Bool) (e:uG a=b):aF au 192 #[aS a] w fun f w'=>f=av b∧aJ w w w':=by
 obtain⟨q,b⟩:=exq (iw a.c);obtain⟨k,d⟩:=exq (oL a.c);obtain⟨m,h⟩:=exq (iR a.k a.o a.a a.b a.y);have r:=fun w=>aj (Ba a.k a.o a.a a.b a.y w m h);have p:=fun w=>aj (xX a.c q k w b d);unfold uG at e;rw[d,h,b]at e;clear b d h;subst e;obtain⟨d,s⟩:=exq w.heap.size;obtain⟨b,h⟩:=exq (w.alloc (.cells a 211));have i:Y (aJ w w b):=aj (by rw[←h];exact(ay _ _).alloc (aD _) _);have j:Y (bH b d 211 a):=aj (by rw[←h,←s];exact bH.d w 211 _);have u:=j.o.H 0;have v:=j.o.H 1;have x:=j.o.H 2;have y:=j.o.H 3;have z:=j.o.H 4;have B:=j.o.H 5;cases k
 ·go_enter func192,ntmps192;go_wp2_with fail;refine mB ((p _).o) ?_;rintro t rfl;go_wp2;go_ret;exact⟨rfl,i.o⟩
 ·cases m
  ·go_enter func192,ntmps192;go_wp2_with fail;refine mB ((p _).o) ?_;rintro t rfl;go_wp2_with fail;refine mB ((r _).o) fun k b=>?_;have h:=aj (eF i.o i.o.size b);clear b;go_wp2;go_ret;exact⟨rfl,h.o⟩
  ·by_cases C:2≤a.k
   ·by_cases o:a.o=q
    ·rw[cO C,cO o];have G:(a.o==q)=true:=by rw[dX];exact o
     clear o;go_enter func192,ntmps192;go_wp2_with fail;refine mB ((p _).o) ?_;rintro t rfl;go_wp2_with fail;refine mB ((r _).o) fun k b=>?_;have h:=aj (eF i.o i.o.size b);have m:=aj (bH.b j.o b);clear b u v x y z B;have D:=m.o.H 1;have E:=m.o.H 2;go_wp2;go_ret;exact⟨rfl,(by first|exact h.o|(have e:=h.out;rw[s]at e;exact e))⟩
    ·rw[cO C,dK o];have G:(a.o==q)=false:=by rw[aM];exact o
     clear o;go_enter func192,ntmps192;go_wp2_with fail;refine mB ((p _).o) ?_;rintro t rfl;go_wp2_with fail;refine mB ((r _).o) fun k b=>?_;have h:=aj (eF i.o i.o.size b);have m:=aj (bH.b j.o b);clear b u v x y z B;have D:=m.o.H 1;have E:=m.o.H 2;go_wp2;go_ret;exact⟨rfl,(by first|exact h.o|(have e:=h.out;rw[s]at e;exact e))⟩
   ·rw[dK C];go_enter func192,ntmps192;go_wp2_with fail;refine mB ((p _).o) ?_;rintro t rfl;go_wp2_with fail;refine mB ((r _).o) fun k b=>?_;have h:=aj (eF i.o i.o.size b);have m:=aj (bH.b j.o b);clear b u v x y z B;have D:=m.o.H 1;have E:=m.o.H 2;go_wp2;go_ret;exact⟨rfl,(by first|exact h.o|(have e:=h.o;rw[s]at e;exact e))⟩
def eU (a:Sm):List aI:=[J U a.c,J U a.k,J U a.o,aO a.a,aO a.b,J U a.y,aH aW a.d a.e,aO a.f,aA a.g,J U a.h,J U a.i,J U a.j,aO a.l,aA a.m,J U a.n,J U a.p,J U a.q]
def jk (l:List Sm):List aI:=l.flatMap eU
def nE {a:Sm→List aI} {b:Nat} (d:∀e,(a e).length=b):∀l:List Sm,(l.flatMap a).length=l.length*b
 |[]=>Y1
 |e::l=>by rw[List.flatMap_cons,bL,d,nE d l,List.length_cons,Nat.succ_mul];omega
def mU {f:Sm→List aI} {s:Nat} (d:∀m,(f m).length=s):∀{l:List Sm} {i:Nat} {m:Sm},l[i]?=R m→∀a,a<s→(l.flatMap f)[i*s+a]?=(f m)[a]?
 |[],i,m,b,a,e=>by simp at b
 |h::l,0,m,b,a,e=>by
  simp at b;subst b
  rw[List.flatMap_cons,Nat.zero_mul,cK,dh (by rw[d];exact e)]
 |h::l,i+1,m,b,a,e=>by
  have:=mU d (l:=l) (i:=i) (m:=m) (Y6 b) a e
  rw[List.flatMap_cons,cB (by rw[d,Nat.succ_mul];omega),d,show(i+1)*s+a-s=i*s+a by rw[Nat.succ_mul];omega]
  exact this
def Pf {d:Sm→List aI} (e:∀b,∀a∈d b,a.oneCell'=true) {l:List Sm}:∀a∈l.flatMap d,a.oneCell'=true:=fun a d=>by
 obtain⟨b,_,f⟩:=List.mem_flatMap.1 d
 exact e b a f
def mK (m:Sm):(eU m).length=17:=rfl
def iP (a:Sm):∀b∈eU a,b.oneCell'=true:=by unfold eU;simp[Value.oneCell']
def iQ (w:aB) (a:Obj):aJ w w (w.alloc a):=(ay _ _).alloc (aD _) a
def vO {w w':aB} (d:aJ w w w') {a:aX} (e:w.heap.size≤a.block) (b:aI):aJ w w (w'.setCell a b):=d.setCell e b
def st5 {w d:aB} (j:aJ w w d) {a:Nat} (b:w.heap.size≤a) (e f c h i:aI):aJ w w (((((d.setCell ⟨a,0,O⟩ e).setCell ⟨a,1,O⟩ f).setCell ⟨a,2,O⟩ c).setCell ⟨a,3,O⟩ h).setCell ⟨a,4,O⟩ i):=
 vO (vO (vO (vO (vO j b e) b f) b c) b h) b i
structure Ec (w:aB) (g:Nat) (M:Int) (l:List Sm) (F:List Nat) (A:Option aX) (n c:Nat) (am:Option Nat):Prop where
 a:l.length=n
 d:bH w g 186 #[M,Z A n c,.map am,J U (fP l 0),J U (fP l 1)]
 h:w.ownsRow 0 211 17 (Z A n c) n (jk l)
 e:∀b,(Z A n c).ownBlock=R b→b∈F∧b≠g
 k:(am=O∧l=[])∨∃b,am=R b∧b∈F∧iF w b n (qF (lu l))
 j:g∈F
 i:∀b∈F,b<w.heap.size
def Ro (w:aB) (g:Nat) (M:Int) (l:List Sm) (F:List Nat):Prop:=∃A n c a,Ec w g M l F A n c a
section
variable {w w':aB} {g:Nat} {M:Int} {l:List Sm} {F F1:List Nat}
def Ec.m {A:Option aX} {n c:Nat} {e:Option Nat} (a:Ec w g M l F A n c e) (d:bg F1 w w') (hF:∀b∈F,b∉F1):Ec w' g M l F A n c e:=
 ⟨a.a,a.d.g d (hF g a.j),bO a.h d (fun b e=>hF b (a.e b e).1),a.e,(by
  rcases a.k with f|⟨b,f,h,i⟩
  ·exact .inl f
  ·exact .inr ⟨b,f,h,i.a d (hF b h)⟩),a.j,fun b e=>aV (a.i b e) d.b⟩
def Ec.f {A:Option aX} {n c:Nat} {a:Option Nat} (b:Ec w g M l F A n c a) (d:aJ w w w'):Ec w' g M l F A n c a:=b.m (F1:=[]) (bg.d d) (fun _ _=>by simp)
def Ro.b (a:Ro w g M l F) (b:bg F1 w w') (hF:∀d∈F,d∉F1):Ro w' g M l F:=by obtain⟨A,n,c,d,a⟩:=a;exact⟨A,n,c,d,a.m b hF⟩
def Ro.e (a:Ro w g M l F) (b:aJ w w w'):Ro w' g M l F:=a.b (F1:=[]) (bg.d b) (fun _ _=>by simp)
def Ro.a (a:Ro w g M l F):∀b∈F,b<w.heap.size:=by obtain⟨A,n,c,b,a⟩:=a;exact a.i
def Ro.f (w:aB) (M:Int):Ro (w.alloc (.cells #[M,Z O 0 0,.map O,J U 0,J U 0] 186)) w.heap.size M [] [w.heap.size]:=
 ⟨O,0,0,O,rfl,bH.d _ _ _,aT _ _ _ _,(fun b a=>by cases a),.inl Y5,aC.2 rfl,fun b a=>by rw[aC.1 a];simp⟩
def Ec.o {A:Option aX} {n c:Nat} {a:Option Nat} (b:Ec w g M l F A n c a) {f:Nat} {h:Sm} (i:l[f]?=R h):∃a,A=R ⟨a,0,O⟩∧a∈F∧a≠g∧∀d e,(eU h)[d]?=R e→w.cell? ⟨a,f*17+d,O⟩=R e:=by have f:=(aU.1 i).1;obtain⟨a,h,f⟩:=eu b.h (by have:=b.a;omega);injection f with f h h;subst f;refine⟨a,rfl,(b.e a rfl).1,(b.e a rfl).2,fun d e a=>?_⟩;have e:d<17:=(aU.1 a).1;exact dG b.h ((mU mK i d e).trans a)
end
def Vk (a M:Int) (w:aB) (b:Y (M=if a<0 then 0 else a)):aF au 49 #[a] w fun d w'=>d=av (aK (R ⟨w,0,O⟩))∧Ro w' w.heap.size M [] [w.heap.size]∧aJ w w w':=by
 have d:=aj (Ro.f w M);by_cases e:a<0
 ·obtain rfl:M=0:=by rw[b.o,aP e]
  go_enter func49,ntmps49;go_wp2;go_ret;exact⟨rfl,d.o,(ay _ _).alloc (aD _) _⟩
 ·obtain rfl:M=a:=by rw[b.o,aL e]
  go_enter func49,ntmps49;go_wp2;go_ret;exact⟨rfl,d.o,(ay _ _).alloc (aD _) _⟩
def JZ {M:Int} {l:List Sm} {F:List Nat} {A:Option aX} {n c:Nat} {a:Option Nat} (g:Nat) (w:aB) (b:Y (Ec w g M l F A n c a)):aF au 310 #[qp g] w fun a w'=>a=av (Z A n c)∧w=w':=by have a:=b.o.d.H 1;go_enter func310,ntmps310;go_wp2;go_ret;exact Y5
def Cm (l:List Sm) (a:Int):Int:=((dY (lu l) a).getD 0:Nat)
def mV {M:Int} {l:List Sm} {F:List Nat} {A:Option aX} {n c:Nat} {e:Option Nat} (g:Nat) (a b:Int) (d:Bool) (w:aB) (h:Y ((Lit.int U a).wf=true)) (f:Y (Ec w g M l F A n c e)) (i:Y (Cm l a=b)) (j:Y ((dY (lu l) a).isSome=d)):
  aF au 94 #[qp g,a] w fun k w'=>k=av (aN #[b,d])∧w=w':=by
 have k:=f.o.d.H 2;have m:=f.o.k;rcases m with⟨rfl,e⟩|⟨f,rfl,_,k⟩
 ·have f:=Maps.look_nil (P:=au) (w:=w) (t:=155) (k:=3) (e:=3) true kk underlying155 (qH w) (keyOf_int_mk underlying3 h.o);have f:Y (b=0∧d=false):=aj (by rw[←i.o,←j.o];subst e;exact Y5)
  obtain⟨rfl,rfl⟩:=f.o;clear e;go_enter func94,ntmps94;go_wp2;go_ret2;exact Y5
 ·have o:=aj k;have m:Y ((qF (lu l) a).getD 0=b∧(qF (lu l) a).isSome=d):=aj (by
   have e:=i.o;have f:=j.o;unfold Cm at e;unfold qF;cases hp:dY (lu l) a with
   |none=>rw[hp]at e f;exact⟨e,f⟩
   |some i=>rw[hp]at e f;exact⟨e,f⟩)
  clear k;go_enter func94,ntmps94;go_wp2_with (at_lookup;go_loud (refine jF rfl (.tmp 14) (.tmp 15) rfl o.o rfl a rfl h.o b d m.o.1 m.o.2 ?_));go_wp2;go_ret2;exact Y5
def zcr {M:Int} {l:List Sm} {F:List Nat} {A:Option aX} {n c:Nat} {d:Option Nat} (g:Nat) (a:Int) (w:aB) (b:Y (Ec w g M l F A n c d)):aF au 95 #[qp g,a] w fun d w'=>d=av (J U (fP l a))∧w=w':=by
 have d:=b.o.d.H 3;have d:=b.o.d.H 4;by_cases b:a=0
 ·subst b;go_enter func95,ntmps95;go_wp2;go_ret;exact Y5
 ·by_cases d:a=1
  ·subst d;go_enter func95,ntmps95;go_wp2;go_ret;exact Y5
  ·have e:=aj (LZ l a b d);rw[e.o];have e:(a !=0)=true:=by rw[bne_iff_ne];exact b
   have e:(a !=1)=true:=by rw[bne_iff_ne];exact d
   clear b d;go_enter func95,ntmps95;go_wp2;go_ret;exact Y5
def Ka:(Tryz.prog.info? 211).map (fun a=>(a.zero,a.size,a.bytes))=R (R (aS #[J U 0,J U 0,J U 0,false,false,J U 0,aH aW 0 0,false,aA ByteArray.empty,J U 0,J U 0,J U 0,false,aA ByteArray.empty,J U 0,J U 0,J U 0]),17,152):=by kernel_rfl
def dW:(Tryz.prog.info? 211).map (·.size)=R 17:=by kernel_rfl
def Kc:(Tryz.prog.info? 151).map (·.size)=R 5:=by kernel_rfl
def dO {f:Array Oper} {h:List Oper} {d:Oper} {e:Act} {i:Exit→Act→aB→Prop} {w:aB} (o:d.guard=O) (b:bB) (j k:Operand) (p:d.op=.store b j k) (c a:Array aI) (m:Nat) (q:w.heap.size=m)
  (r:e.eval j=aK (R ⟨m,0,O⟩)) (j:e.eval k=aS a) (k:(Tryz.prog.info? b).map (·.size)=R a.size) (m:c.size=a.size) (s:a.all (·.oneCell')=true)
  (t:wpList au f i h (e.put d.dst bq) (w.alloc (.cells a b))):wpList au f i (d::h) e (w.alloc (.cells c b)):=by subst q;refine wpList_plain o fun _ d=>?_;unfold Oper.wp execOp;simp only[p,r,j,Sem.run_bind,run_storeAt_new w b c a k m s,Sem.run_pure,Result.andThen_ok];exact d _ _ t
def fV {k:Array Oper} {m:List Oper} {a:Oper} {e:Act} {o:Exit→Act→aB→Prop} {w:aB} (r:a.guard=O) (b:bB) (f:Operand) (s:a.op=.load b f) (h i:Nat) (t:e.eval f=aK (R ⟨h,i,O⟩)) (d:List aI) {j:TypeDesc}
  (u:∀p q,d[p]?=R q→w.cell? ⟨h,i+p,O⟩=R q) (q:Tryz.prog.underlying b=R j) (v:j.isRow=true) (x:(Tryz.prog.info? b).map (·.size)=R d.length) (p:Array aI) (y:d.toArray=p)
  (z:wpList au k o m (e.put a.dst (aS p)) w):wpList au k o (a::m) e w:=
 wpList_load_mid r b f s h i t d j u q v x (by rw[y];exact z)
def ku (w:aB) (a:aX) (b d:Nat):(store a (aH aW b d) .plain).run au w=stored au w a (aH aW b d) .plain:=run_store au w a _ .plain rfl
def Hl {M:Int} {l:List Sm} {F:List Nat} {A:Option aX} {n c:Nat} {a:Option Nat} (g:Nat) (d:Int) (w:aB) (b:n≤1000) (f:Y (Ec w g M l F A n c a)):
  aF au 311 #[qp g,d] w fun a w'=>a=av (J U (ji l d:Nat))∧aJ w w w':=by
 have u:=aj f.o.a;have b:=aj (JZ g w f);go_enter func311,ntmps311;go_wp2_with fail;refine mB b.o ?_;rintro e rfl;clear b;go_wp2;go_loopw [5,11] (fun h a wr=>∃(b e:Nat),a=J U (b:Nat)∧h=J U (e:Nat)∧b≤n∧e≤b∧Y (e=ji (l.take b) d)∧Y (aJ w w wr)) (fun _ a _=>n- (intOf a).toNat);case atStart=>exact⟨0,0,rfl,rfl,aZ _,aZ _,aj rfl,aj (ay _ _)⟩
 case round=>
  obtain⟨b,e,rfl,rfl,a,h,o,p⟩:=hrel;by_cases a:b<n
  ·have a:(b:Int)<(n:Int):=Y0;obtain⟨a,h⟩:∃a,l[b]?=R a:=⟨_,aQ (by have:=u.o;omega)⟩;have i:=aj (Ci h d);obtain⟨r,rfl,_,_,j⟩:=(f.o.f p.o).o h;have s:=aj j;clear h j;have f:=ku;obtain⟨j,q⟩:=exq wr.heap.size;obtain⟨f,m⟩:=exq (wr.alloc (.cells a 211));have t:Y (aJ w w f):=aj (by rw[←m];exact p.o.alloc p.o.size _);have h:Y (bH f j 211 a):=aj (by rw[←m,←q];exact bH.d wr 211 _);have k:=h.o.H 1;have k:=h.o.H 2;by_cases f:a.k=3
   ·by_cases k:a.o=d
    ·have h:Y (ji (l.take (b+1)) d=e+1):=aj (by rw[i.o,aP (by unfold opn;simp[f,k]),←o.o]);have v:(a.k==3)=true:=by rw[dX];exact f
     have x:(a.o==d)=true:=by rw[dX];exact k
     clear f k i;go_wp2_with (first|refine fV rfl 211 (.tmp 13) rfl r (b*17) Y4 (eU a) s.o underlying211 rfl dW a rfl ?_ |refine dO rfl 211 (.tmp 7) (.tmp 14) rfl _ a j q Y4 Y4 dW rfl (all_oneCell_toArray (iP a)) ?_;rw[m]);go_roundw;case rel=>exact⟨b+1,e+1,by go_num,by go_num,Y0,Y0,aj h.o.symm,t⟩
     case measure=>simp[intOf];omega
    ·have h:Y (ji (l.take (b+1)) d=e):=aj (by rw[i.o,aL (by unfold opn;simp[f,k]),←o.o]);have v:(a.k==3)=true:=by rw[dX];exact f
     have x:(a.o==d)=false:=by rw[aM];exact k
     clear f k i;go_wp2_with (first|refine fV rfl 211 (.tmp 13) rfl r (b*17) Y4 (eU a) s.o underlying211 rfl dW a rfl ?_ |refine dO rfl 211 (.tmp 7) (.tmp 14) rfl _ a j q Y4 Y4 dW rfl (all_oneCell_toArray (iP a)) ?_;rw[m]);go_roundw;case rel=>exact⟨b+1,e,by go_num,rfl,Y0,Y0,aj h.o.symm,t⟩
     case measure=>simp[intOf];omega
   ·have h:Y (ji (l.take (b+1)) d=e):=aj (by rw[i.o,aL (by unfold opn;simp[f]),←o.o]);have v:(a.k==3)=false:=by rw[aM];exact f
    clear f i;go_wp2_with (first|refine fV rfl 211 (.tmp 13) rfl r (b*17) Y4 (eU a) s.o underlying211 rfl dW a rfl ?_ |refine dO rfl 211 (.tmp 7) (.tmp 14) rfl _ a j q Y4 Y4 dW rfl (all_oneCell_toArray (iP a)) ?_;rw[m]);go_roundw;case rel=>exact⟨b+1,e,by go_num,rfl,Y0,Y0,aj h.o.symm,t⟩
    case measure=>simp[intOf];omega
  ·have h:Y (e=ji l d):=aj (by rw[o.o,bW (by have:=u.o;omega)]);go_wp2;go_ret;exact⟨by rw[h.o];rfl,p.o⟩
def fK {o:Program} {w:aB} {z:Array Oper} {B:List Oper} {h:Oper} {p:Act} {C:Exit→Act→aB→Prop} (D:h.guard=O) (q r:Operand) (i:bB)
  (E:h.op=.call {callee:=.builtin .append,args:=#[q,r],argTypes:=#[i,i]})
  (j:Nat) (d:bB) (b:Nat) {u:aI} {v:Nat} (N:(o.info? d).map (fun a=>(a.zero,a.size,a.bytes))=R (R u,b,v)) (P:u.cells.size=b) (Q:0<b) (G:o.underlying i=R (.slice d))
  (k:aI) (n:Nat) (s:List aI) (H:p.eval q=k) (t:w.ownsRow j d b k n s)
  (A:Option aX) (a c:Nat) (m:List aI) (I:p.eval r=Z A a c) (x:m.length=a*b) (S:A=O→a=0∧c=0) (T:bU w A m) (V:∀y∈m,y.oneCell'=true)
  (W:n+a≤maxLen) (X:(n+a)*v≤140737488355328) (a0:j≤w.heap.size)
  (L:∀e f w',w'.ownsRow j d b (Z e (n+a) f) (n+a) (s++m)→w.grownBy w' k.ownBlock→wpList o z C B (p.put h.dst (Z e (n+a) f)) w'):wpList o z C (h::B) p w:=by
 obtain⟨p,z,C,b0,c0⟩:=info_parts N;cases hAe:A with
 |none=>obtain⟨o,B⟩:=S hAe;subst o B hAe;rw[Nat.zero_mul]at x;have o:=dL x;subst o;refine wpList_append_own_none D q r i E j d p b G z k n s H t I ?_;obtain⟨e,f,o⟩:=dB t;have B:=L e f w (by rw[List.append_nil,dQ,←o];exact t) (yG _ _);rw[dQ,←o]at B;exact B
 |some B=>
  subst hAe;refine wpList_append_own _ D q r i E j d p u b v G z C b0 c0 P Q k n s H t B a c m I x (fun b y d=>?_) V W X a0 ?_
  ·obtain⟨i,h,a,j⟩:=T b y d;injection a with a;subst a;rwa[Addr.add_lit]
  ·intro d w' a b _;obtain⟨e,f,o⟩:=dB a;subst o;exact L e f w' a b
def gV (a:Array aI):Nat→List aI→Array aI
 |_,[]=>a
 |b,d::e=>gV (a.setIfInBounds b d) (b+1) e
def bH.o {g:Nat} {d:bB}:∀(e:List aI) (a:Nat) (w:aB) (b:Array aI),bH w g d b→bH (w.setCells g a e) g d (gV b a e)
 |[],_,_,_,d=>d
 |e::f,a,w,b,d=>by
  rw[World.setCells,gV]
  exact bH.o f (a+1) _ _ (d.f a e)
def bg.f {F:List Nat} {g:Nat} (b:g∈F):∀(d:List aI) (a:Nat) (w:aB),bg F w (w.setCells g a d)
 |[],_,w=>bg.o _ w
 |d::e,a,w=>by
  rw[World.setCells]
  exact(bg.e (p:=⟨g,a,O⟩) w b d).a (bg.f b e (a+1) _) (fun b a=>.inl a)
def kV:∀(d:List aI) (b:Nat) (a:Array aI),(gV a b d).size=a.size
 |[],_,_=>rfl
 |e::d,b,a=>by rw[gV,kV d];simp
def qJ:∀(e:List aI) (b:Nat) (d:Array aI) (a:Nat),a<d.size→(gV d b e)[a]?=if b≤a∧a<b+e.length then e[a-b]? else d[a]?
 |[],b,d,a,e=>by rw[gV,aL Y1]
 |h::f,b,d,a,e=>by
  rw[gV,qJ f (b+1) _ a (Y6 e),Array.getElem?_setIfInBounds]
  by_cases d:b=a
  ·subst d
   rw[aL Y0,aP rfl,aP e,aP ⟨aD _,Y1⟩,Nat.sub_self];rfl
  ·rw[aL d]
   by_cases d:b+1≤a∧a<b+1+f.length
   ·rw[aP d,aP (by simp;omega),show a-b=(a- (b+1))+1 by omega];rfl
   ·rw[aL d,aL (by simp;omega)]
def Ed {a:List aI} {b:Array aI} (d:a.length=b.size):gV b 0 a=a.toArray:=by
 apply Array.ext (by rw[kV];simp[d]);intro d e f;have h:d<b.size:=by rw[kV]at e;exact e
 have f:=qJ a 0 b d h;rw[aP ⟨aZ _,Y0⟩,Nat.sub_zero,dA e]at f;rw[List.getElem_toArray];have b:a[d]?=R a[d]:=aQ Y0;rw[b]at f;exact Option.some.inj f
def bH.y {w:aB} {g:Nat} {d:bB} {b:Array aI} (e:bH w g d b) (a:List aI) (f:a.length=b.size):bH (w.setCells g 0 a) g d a.toArray:=by rw[←Ed f];exact bH.o a 0 w b e
def Pj {M:Int} {l:List Sm} {F:List Nat} {A:Option aX} {n c:Nat} {b:Option Nat} (g:Nat) (w:aB) (a:n≤1000) (a:Y (Ec w g M l F A n c b)):
  aF au 277 #[qp g] w fun e w'=>∃b d,e=av (Z b n d)∧w'.ownsRow w 211 17 (Z b n d) n (jk l)∧aJ w w w':=by have f:=aj (JZ g w a);have i:Y ((jk l).length=n*17):=aj (by rw[←a.o.a];exact nE mK l);have h:=aj (Cg a.o.h);have j:=h.o.e;clear a;go_enter func277,ntmps277;go_wp2_with fail;refine mB f.o ?_;rintro a rfl;clear f;go_wp2_with (at_builtin;go_loud (refine fK rfl (.const (Z O 0 0)) (.tmp 4) 184 rfl w.heap.size 211 17 Ka rfl Y2 underlying184 (Z O 0 0) 0 [] Y4 (aT _ _ _ _) A n c (jk l) Y4 i.o j h.o.b.a (Pf iP) (by unfold maxLen;omega) Y0 (aD _) ?_));intro b d f e a;have h:=aj e;have i:Y (aJ w w f):=aj ⟨a.os,a.tape,a.output,a.size,fun f j=>a.block f j (by simp[Value.ownBlock])⟩;clear e a;go_wp2;go_ret;exact⟨b,d,rfl,h.o,i.o⟩
def Ee {M:Int} {l:List Sm} {F:List Nat} {A:Option aX} {n c:Nat} {a:Option Nat} (g:Nat) (h:Int) (w:aB) (b:n≤1000) (j:Y (Ec w g M l F A n c a)) (s:Y ((Lit.int U h).wf=true)) (f:Nat) (b:Sm) (m:Y (dY (lu l) h=R f)) (o:Y (l[f]?=R b)):
  aF au 61 #[qp g,h] w fun p w'=>p=av (aS #[b.k,b.o,b.a,b.b,b.y])∧aJ w w w':=by
 have k:Y (aJ w w (w.alloc (.cells qt 151))):=aj (iQ w _);have i:=aj (j.o.f k.o);obtain⟨d,q⟩:=exq w.heap.size;obtain⟨a,r⟩:=exq (w.alloc (.cells qt 151));rw[r]at k i;have e:Y (bH a d 151 qt):=aj (by rw[←r,←q];exact bH.d w 151 _);have r:=e.o.H 0;have t:a.frozen? ⟨d,0,O⟩=false:=e.o.c _;have t:=e.o.H 1;have u:a.frozen? ⟨d,1,O⟩=false:=e.o.c _;have u:=e.o.H 2;have v:a.frozen? ⟨d,2,O⟩=false:=e.o.c _;have v:=e.o.H 3;have x:a.frozen? ⟨d,3,O⟩=false:=e.o.c _;have x:=e.o.H 4;have y:a.frozen? ⟨d,4,O⟩=false:=e.o.c _;have d:f<n:=by rw[←j.o.a];exact(aU.1 o.o).1
 have d:=i.o.d.H 1;obtain⟨e,rfl,_,_,d⟩:=i.o.o o.o;have o:a.cell? ⟨e,f*17+1,O⟩=R (J U b.k):=d 1 _ rfl;have o:a.cell? ⟨e,f*17+2,O⟩=R (J U b.o):=d 2 _ rfl;have o:a.cell? ⟨e,f*17+3,O⟩=R (aO b.a):=d 3 _ rfl;have o:a.cell? ⟨e,f*17+4,O⟩=R (aO b.b):=d 4 _ rfl;have o:a.cell? ⟨e,f*17+5,O⟩=R (J U b.y):=d 5 _ rfl;clear d;have d:=aj (mV g h (f:Nat) true a s i (aj (by unfold Cm;rw[m.o];rfl)) (aj (by rw[m.o];rfl)));clear j;go_enter func61,ntmps61;go_wp2_with fail;refine mB d.o ?_;rintro a rfl;clear d;go_wp2_with fail;refine aG (v:=aS #[b.k,b.o,b.a,b.b,b.y]) (by simp[results,results61,go_sem,r,t,u,v,x]) rfl ⟨rfl,?_⟩;rw[←q];exact st5 k.o (aD _) _ _ _ _ _
def Mc {M:Int} {l:List Sm} {F:List Nat} {A:Option aX} {n c:Nat} {a:Option Nat} (g:Nat) (i:Int) (w:aB) (b:n≤1000) (e:Y (Ec w g M l F A n c a)) (t:Y ((Lit.int U i).wf=true)) (b:Y (dY (lu l) i=O)) (o:mR) (j:Y (gu l i=o)):
  aF au 61 #[qp g,i] w fun m w'=>m=av (aS o)∧aJ w w w':=by
 obtain⟨f,a⟩:=exq (iw i);obtain⟨k,d⟩:=exq (oL i);have z:=fun w=>aj (xX i f k w a d);have E:=aj a;have q:=aj d;clear a d;have p:Y (aJ w w (w.alloc (.cells qt 151))):=aj (iQ w _);have B:=aj (e.o.f p.o);obtain⟨a,r⟩:=exq w.heap.size;obtain⟨d,s⟩:=exq (w.alloc (.cells qt 151));rw[s]at p B;have h:Y (bH d a 151 qt):=aj (by rw[←s,←r];exact bH.d w 151 _);have C:=aj (mV g i 0 false d t B (aj (by unfold Cm;rw[b.o];rfl)) (aj (by rw[b.o];rfl)));clear e;cases k
 ·obtain rfl:mR.d=o:=by rw[←j.o,qI b.o,q.o];rfl
  have t:=h.o.H 0;have H:d.frozen? ⟨a,0,O⟩=false:=h.o.c _;have u:=h.o.H 1;have I:d.frozen? ⟨a,1,O⟩=false:=h.o.c _;have v:=h.o.H 2;have L:d.frozen? ⟨a,2,O⟩=false:=h.o.c _;have x:=h.o.H 3;have N:d.frozen? ⟨a,3,O⟩=false:=h.o.c _;have y:=h.o.H 4;have P:d.frozen? ⟨a,4,O⟩=false:=h.o.c _;go_enter func61,ntmps61;go_wp2_with fail;refine mB C.o ?_;rintro s rfl;go_wp2_with fail;refine mB ((z _).o) ?_;rintro s rfl;go_wp2_with fail;refine aG (v:=aS qt) (by simp[results,results61,go_sem,t,u,v,x,y]) rfl ⟨rfl,?_⟩;rw[←r];exact st5 p.o (aD _) _ _ _ _ _
 ·have D:Y (o=if i<fP l f then⟨1,f,false,false,0⟩else⟨0,f,false,false,0⟩):=aj (by rw[←j.o,qI b.o,q.o,E.o];rfl)
  obtain⟨e,E⟩:=exq d.heap.size;obtain⟨b,q⟩:=exq (d.alloc (.cells #[J U 0,f,false,false,J U 0] 151));have G:Y (aJ w w b):=aj (by rw[←q];exact p.o.alloc p.o.size _);have j:Y (bH b e 151 #[J U 0,f,false,false,J U 0]):=aj (by rw[←q,←E];exact bH.d d 151 _);have k:Y (bH b a 151 qt):=aj (by rw[←q];exact h.o.h _);have Q:=aj (B.o.f (by rw[←q];exact iQ d _:aJ d d b));have d:e≠a:=by have:=h.o.e;omega
  have h:=d.symm;have B:w.heap.size≤e:=by have:=p.o.size;omega
  have d:=Nat.le_of_eq r;have d:=aj (zcr g f b Q);obtain⟨h,p⟩:=exq (fP l f);rw[p]at D d;clear p;have t:=k.o.H 0;have H:b.frozen? ⟨a,0,O⟩=false:=k.o.c _;have u:=k.o.H 1;have I:b.frozen? ⟨a,1,O⟩=false:=k.o.c _;have v:=k.o.H 2;have L:b.frozen? ⟨a,2,O⟩=false:=k.o.c _;have x:=k.o.H 3;have N:b.frozen? ⟨a,3,O⟩=false:=k.o.c _;have y:=k.o.H 4;have P:b.frozen? ⟨a,4,O⟩=false:=k.o.c _;have a:=j.o.H 0;have a:b.frozen? ⟨e,0,O⟩=false:=j.o.c _;have a:=j.o.H 1;have a:b.frozen? ⟨e,1,O⟩=false:=j.o.c _;have a:=j.o.H 2;have a:b.frozen? ⟨e,2,O⟩=false:=j.o.c _;have a:=j.o.H 3;have a:b.frozen? ⟨e,3,O⟩=false:=j.o.c _;have a:=j.o.H 4;have a:b.frozen? ⟨e,4,O⟩=false:=j.o.c _;by_cases a:i<h
  ·obtain rfl:o=⟨1,f,false,false,0⟩:=by rw[D.o,aP a]
   have b:=a;clear a;go_enter func61,ntmps61;go_wp2_with fail;refine mB C.o ?_;rintro s rfl;go_wp2_with fail;refine mB ((z _).o) ?_;rintro s rfl;go_wp2_with (refine dO rfl 151 (.tmp 9) (.tmp 34) rfl _ #[J U 0,f,false,false,J U 0] e E Y4 Y4 Kc rfl (by simp[Value.oneCell']) ?_;rw[q]);refine mB d.o ?_;rintro b rfl;go_wp2_with fail;refine aG (v:=aS #[J U 1,f,false,false,J U 0]) (by simp[results,results61,go_sem,t,u,v,x,y]) rfl ⟨rfl,?_⟩;rw[←r];exact st5 (vO G.o (by exact B) _) (aD _) _ _ _ _ _
  ·obtain rfl:o=⟨0,f,false,false,0⟩:=by rw[D.o,aL a]
   go_enter func61,ntmps61;go_wp2_with fail;refine mB C.o ?_;rintro s rfl;go_wp2_with fail;refine mB ((z _).o) ?_;rintro s rfl;go_wp2_with (refine dO rfl 151 (.tmp 9) (.tmp 34) rfl _ #[J U 0,f,false,false,J U 0] e E Y4 Y4 Kc rfl (by simp[Value.oneCell']) ?_;rw[q]);refine mB d.o ?_;rintro b rfl;go_wp2_with fail;refine aG (v:=aS #[J U 0,f,false,false,J U 0]) (by simp[results,results61,go_sem,t,u,v,x,y]) rfl ⟨rfl,?_⟩;rw[←r];exact st5 G.o (aD _) _ _ _ _ _
def Pk {w:aB} {a:Nat} {e:bB} {b:Array aI} (d:bH w a e b):w.there a 0 b.size:=fun a b=>by
 rw[cK]
 refine⟨?_,d.c _⟩
 rw[d.a a,dA b];rfl
def Ef {w a:aB} (d:aJ w w a) {b:Nat} (h:w.heap.size≤b) (e:Nat) (f:List aI):aJ w w (a.setCells b e f):=
 d.trans (bg.c (bg.f (F:=[b]) (aC.2 rfl) f e a) d.size (fun b a=>by rw[aC.1 a];exact h))
def Md {M:Int} {l:List Sm} {F:List Nat} {A:Option aX} {n c:Nat} {a:Option Nat} (g:Nat) (d:Int) (w:aB) (b:n≤1000) (e:Y (Ec w g M l F A n c a)) (s:Y ((Lit.int U d).wf=true)) (h:Nat) (a:Sm) (k:Y (dY (lu l) d=R h)) (m:Y (l[h]?=R a)):
  aF au 104 #[qp g,d] w fun o w'=>o=av (aN #[aS a,true])∧aJ w w w':=by
 obtain⟨b,i⟩:=exq w.heap.size;obtain⟨f,j⟩:=exq (w.alloc (.cells qw 211));have p:Y (aJ w w f):=aj (by rw[←j];exact iQ w _);have q:Y (bH f b 211 qw):=aj (by rw[←j,←i];exact bH.d w 211 _);have j:=aj (e.o.f p.o);have r:h<n:=by rw[←e.o.a];exact(aU.1 m.o).1
 have r:=j.o.d.H 1;obtain⟨t,rfl,_,_,r⟩:=j.o.o m.o;have u:=aj r;clear r;have m:=aj (mV g d (h:Nat) true f s j (aj (by unfold Cm;rw[k.o];rfl)) (aj (by rw[k.o];rfl)));clear e;obtain⟨d,j⟩:=exq (f.setCells b 0 (a:Array aI).toList);have e:Y (bH d b 211 a):=aj (by rw[←j];exact bH.y q.o _ rfl);have k:Y (aJ w w d):=aj (by rw[←j];exact Ef p.o (Nat.le_of_eq i) _ _);have p:=aj (Pk q.o);go_enter func104,ntmps104;go_wp2_with fail;refine mB m.o ?_;rintro f rfl;clear m;go_wp2_with (first|refine fV rfl 211 (.tmp 22) rfl t (h*17) Y4 (eU a) u.o underlying211 rfl dW a rfl ?_ |(refine wpList_store_mid rfl 211 (.tmp 4) (.tmp 23) rfl b 0 a Y4 Y4 p.o dW (all_oneCell_toArray (iP a)) ?_;rw[j]));have f:=e.o.H 0;have h:=e.o.H 1;have j:=e.o.H 2;have m:=e.o.H 3;have o:=e.o.H 4;have p:=e.o.H 5;have q:=e.o.H 6;have r:=e.o.H 7;have s:=e.o.H 8;have t:=e.o.H 9;have u:=e.o.H 10;have v:=e.o.H 11;have x:=e.o.H 12;have y:=e.o.H 13;have z:=e.o.H 14;have B:=e.o.H 15;have C:=e.o.H 16;refine aG (v:=aN #[aS a,true]) (by simp[results,results104,go_sem,f,h,j,m,o,p,q,r,s,t,u,v,x,y,z,B,C]) rfl ⟨rfl,?_⟩;first|exact k.o|(rw[←i];exact k.out)
structure Vl where
 d:Int
 e:Int
 c:Int
 a:Int
 b:Int
 f:Int
instance:Coe Vl (Array Value):=⟨fun v=>#[v.d,v.e,v.c,v.a,v.b,v.f]⟩
def Vl.g:Vl:=⟨4096,1,4294967296,65535,16384,4294967296⟩
def wT (a:Int×Int) (b:Int):Int:=
 if a.1==2&&(decide (a.2>1)||a.2==1&&b==1)then 1
 else if a.1==4&&decide (a.2>2147483647)then 3
 else if a.1==5&&(decide (a.2<16384)||decide (a.2>16777215))then 1 else 0
def jw:List (Int×Int)→Int→(Int×Int)×Bool
 |[],_=>((0,0),true)
 |b::c,a=>if wT b a !=0 then((2,wT b a),false)else jw c a
def Vl.h (b:Vl) (a:Int×Int):Vl:=
 if a.1==1 then{b with d:=a.2}else if a.1==2 then{b with e:=a.2}else if a.1==3 then{b with c:=a.2}else if a.1==4 then{b with a:=a.2}else if a.1==5 then{b with b:=a.2}else if a.1==6 then{b with f:=a.2}else b
def oN (a:Vl) (b:List (Int×Int)):Vl:=b.foldl Vl.h a
structure Qu where
 a:List Vl
 d:Int
 c:Int
def Qu.j:Qu:=⟨[.g],0,0⟩
def Qu.e (a:Qu):Vl:=a.a.getLastD .g
def Qu.b (a:Qu):Int:=a.d+a.a.length-1
def Qu.f (a:Qu) (b:List (Int×Int)):Qu:={a with a:=a.a++[oN a.e b]}
def Qu.i (a:Qu) (b:Int):Qu:=if b>a.d then{a with a:=a.a.drop (b-a.d).toNat,d:=b}else a
def Qu.h (a:Qu):Qu:=if a.c=a.b then a else({a with c:=a.c+1}:Qu).i (a.c+1)
def jJ:List Bool→Option Nat
 |[]=>O
 |a::b=>if a=true then R 0 else(jJ b).map (·+1)
def Qu.g (a:Qu) (b:List Bool):Qu:=match jJ b with
 |some b=>if b<a.a.length then a.i (a.d+b)else a
 |none=>a
end Go.Proofs.YtdcacpeaimjdlaaGreatDoor
