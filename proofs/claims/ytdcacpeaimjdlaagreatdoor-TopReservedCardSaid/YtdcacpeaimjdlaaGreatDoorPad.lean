/- Part of the proof. -/
import Derived.Test.YtdcacpeaimjdlaaGreatDoorPac
namespace Go.Proofs.YtdcacpeaimjdlaaGreatDoor
open Go.RowKit Go.Maps Go.Proofs.Tryz Mq
open Go.Value renaming int→J,slice→Z,string→aA,pointer→aK,bool→aO,tuple→aN,agg→aS,complex→aH
open Go.IntKind renaming i64→U
open Option renaming none→O,some→R
open Go.Ending renaming returned→av
open Go renaming World→aB,Value→aI,Calls→aF,Addr→aX,TypeId→bB,undef→bq
open Go.RowKit renaming Below→aJ
open Go.Proofs.Tryz renaming prog→au
open Go.FloatKind renaming f64→aW
set_option maxRecDepth 20000
set_option maxHeartbeats 0
set_option linter.all false
def GK {T:Type} (ss al:List Nat) (b:Nat) (β:Nat→T):List T:=((ss.take b).filter (fun b=>al.contains b)).map β
def cS {T:Type} (ss al:List Nat) (Ph:Nat→List T→aB→Prop):Pn T:=fun β d e=>∃c,c≤ss.length∧(∀b,b<c→d (ss.getD b 0)=true)∧(∀b,c≤b→b<ss.length→d (ss.getD b 0)=false)∧Ph c (GK ss al c β) e
def rS {T:Type} (Ph:Nat→List T→aB→Prop) (c d:Nat) (e:aB):Prop:=∃b f,c≤b∧b≤d∧Ph b f e
abbrev Kg:=Option aX×Nat×Nat
abbrev kg (b:Kg):aI:=Z b.1 b.2.1 b.2.2
section
variable {P:Program} {ops:Array Oper} {ss al st:List Nat} {T:Type} {val:T→aI} {Ph:Nat→List T→aB→Prop} {V:Nat→aI} {β:Nat→T} {Q:Act→Prop} {o:Oper} {rest:List Oper} {k:Nat} {a:Act}
abbrev SS (P:Program) (ops:Array Oper) (val:T→aI) (ss al st:List Nat) (Ph:Nat→List T→aB→Prop) (V:Nat→aI) (β:Nat→T):Nat→Oper→Act→aI→Prop:=fQ P .any ops val (cS ss al Ph) V al st β
def Bh {b:Nat} (c:b<ss.length):ss.getD b 0∈ss:=by rw[aY,aQ c];exact List.getElem_mem c
def Zb (g:∀d∈ss,d∈al∨d∈st):Mf (cS ss al Ph) al st:=fun β l c e j h m ⟨f,b,i,n,p⟩=>by
 refine⟨f,b,fun b c=>?_,fun b c j=>?_,?_⟩
 ·rw[←h _ (g _ (Bh Y0))];exact i b c
 ·rw[←h _ (g _ (Bh j))];exact n b c j
 ·rw[show GK ss al f l=GK ss al f β from List.map_congr_left fun d g=>by
   have f:=List.mem_filter.1 g
   obtain⟨b,c,e⟩:=List.mem_iff_getElem.1 f.1
   refine(m d (Y6 f.2) ?_).symm
   rw[dw]at c
   rw[List.getElem_take]at e
   have:=i b Y0
   rw[aY,aQ Y0]at this
   rw[←e]
   exact this]
  exact p
def WL.p (b c:Nat) (j:∀d:Act→Prop,(∀a,WL ops (SS P ops val ss al st Ph V β) (iH al st) Q rest (k+1) a→d a)→if Region.wanted o (yielded ops a.tmps)then∃e,(∀f:Wd (rS Ph b c),kC f.W e ((execOp a.eval o).run P f.W))∧d (a.put o.dst e)else d (a.put o.dst bq))
  (l:iH al st k:=by decide) (h:(b=0∨(b≤ss.length∧jc .any ops k (ss.getD (b-1) 0)=true))∧(c=ss.length∨(c<ss.length∧jc .any ops (ss.getD c 0) k=true)):=by decide+kernel):WL ops (SS P ops val ss al st Ph V β) (iH al st) Q (o::rest) k a:=
 WL.e (A:=rS Ph b c) (fun d e i ⟨f,g,m,n,p⟩=>⟨f,_,by
  rcases h.1 with d|⟨q,d⟩
  ·omega
  ·have e:=i.c _ d
   by_cases g:f≤b-1
   ·by_cases r:b=0
    ·omega
    ·rw[n (b-1) g Y0]at e;cases e
   ·omega,by
  rcases h.2 with d|⟨q,d⟩
  ·omega
  ·have e:=i.a _ d
   by_cases g:c<f
   ·rw[m c g]at e;cases e
   ·omega,p⟩) j l
def WL.j (e:∀b:Act→Prop,(∀a,WL ops (SS P ops val ss al st Ph V β) (iH al st) Q rest (k+1) a→b a)→if Region.wanted o (yielded ops a.tmps)then∃c,(∀d:Wd fun _=>True,kC d.W c ((execOp a.eval o).run P d.W))∧b (a.put o.dst c)else b (a.put o.dst bq)) (b:iH al st k:=by decide):WL ops (SS P ops val ss al st Ph V β) (iH al st) Q (o::rest) k a:=
 WL.e (A:=fun _=>True) (fun c d f g=>trivial) e b
def isS (ops:Array Oper) (ss:List Nat) (b k:Nat):Bool:=decide (b<ss.length)&&(ss.getD b 0==k)&&decide ss.Nodup&&(List.range b).all (fun b=>jc .any ops k (ss.getD b 0))
def Em {b:Nat} {d:Nat→Bool} {g:aB} (e:isS ops ss b k=true) (h:uI .any ops k d) (f:cS ss al Ph β d g):(∀c,c<b→d (ss.getD c 0)=true)∧(∀c,b<c→c<ss.length→d (ss.getD c 0)=false∧ss.getD c 0≠k)∧b<ss.length∧ss.getD b 0=k∧Ph b (GK ss al b β) g:=by
 unfold isS at e;simp only[Bool.and_eq_true,decide_eq_true_eq,dX,List.all_eq_true,List.mem_range]at e;obtain⟨⟨⟨i,g⟩,l⟩,m⟩:=e;obtain⟨d,n,e,j,f⟩:=f;obtain rfl:d=b:=by
  by_cases n:d<b
  ·have:=h.c _ (m d n);rw[j d (aD _) Y0]at this;cases this
  ·by_cases m:b<d
   ·have:=e b m;rw[g,h.b]at this;cases this
   ·omega
 refine⟨e,fun c d b=>⟨j c Y0 b,fun c=>?_⟩,i,g,f⟩;rw[←g,aY,aY,aQ b,aQ i]at c;have:=(List.getElem_inj l).1 c;omega
def yQ {c:Nat} {d:Nat→Bool} {e:Nat→T} {f:aB} (h:∀b,b<c→d (ss.getD b 0)=true) (g:∀b,c<b→b<ss.length→d (ss.getD b 0)=false∧ss.getD b 0≠k) (i:c<ss.length) (j:ss.getD c 0=k) (l:Ph (c+1) (GK ss al (c+1) e) f):cS ss al Ph e (fI d k) f:=by
 refine⟨c+1,i,fun b e=>?_,fun b e d=>?_,l⟩
 ·unfold fI;by_cases e:b=c
  ·subst e;rw[j];simp
  ·rw[h b Y0];simp
 ·unfold fI;rw[(g b Y0 d).1];simpa using(g b Y0 d).2
def WL.r (c:Nat) (b:aI) (e:∀d,Ph c (GK ss al c β) d→gJ P (Ph (c+1) (GK ss al (c+1) β)) b ((execOp a.eval o).run P d)) (f:WL ops (SS P ops val ss al st Ph V β) (iH al st) Q rest (k+1) (a.put o.dst b)) (g:b=V k:=by rfl) (h:k∉al∧k∈st:=by decide) (i:isS ops ss c k=true:=by decide+kernel) (j:o.guard=O:=by rfl):WL ops (SS P ops val ss al st Ph V β) (iH al st) Q (o::rest) k a:=by
 refine WL.g b (fun l d b m=>?_) f (fun _=>g) h j;obtain⟨g,h,j,n,f⟩:=Em i b m;have b:=e d f;have f:∀e,Ph (c+1) (GK ss al (c+1) β) e→cS ss al Ph β (fI l k) e:=fun e b=>yQ g h j n b;generalize(execOp a.eval o).run P d=c at b;cases c with
 |ok c e=>
  cases c<;>simp only[gJ]at b⊢
  ·exact⟨b.1,f _ b.2⟩
  ·exact⟨b.1,f _ b.2⟩
  ·exact b.mono fun d g b=>⟨b.1,f _ b.2⟩
 |halt c e=>simp only[gJ]at b
def Vn {b:Nat} {d:T} (c:isS ops ss b k=true) (f:k∈al):GK ss al (b+1) (lU β k d)=GK ss al b β++[d]:=by
 unfold isS at c;simp only[Bool.and_eq_true,decide_eq_true_eq,dX,List.all_eq_true,List.mem_range]at c;obtain⟨⟨⟨e,d⟩,g⟩,h⟩:=c;have c:ss.take (b+1)=ss.take b++[k]:=by rw[List.take_add_one,aQ e,Option.toList_some];rw[aY,aQ e]at d;simp at d;rw[d]
 have e:k∉ss.take b:=fun h=>by have d:(ss.take (b+1)).Nodup:=g.sublist (List.take_sublist ..);rw[c,List.nodup_append]at d;exact d.2.2 k h k Y1 rfl
 unfold GK;rw[c,List.filter_append,List.map_append];congr 1
 ·exact List.map_congr_left fun c b=>by have:=(List.mem_filter.1 b).1;unfold lU;rw[aL (fun b=>e (by rw[←b];exact this))]
 ·simp[f,lU]
def WL.n (d:Nat) (f:∀e,Ph d (GK ss al d β) e→kD P val (fun c=>Ph (d+1) (GK ss al d β++[c])) ((execOp a.eval o).run P e)) (b:WL ops (SS P ops val ss al st Ph V β) (iH al st) Q rest (k+1) (a.put o.dst (val (β k)))) (h:k∈al:=by decide) (i:isS ops ss d k=true:=by decide+kernel) (g:o.guard=O:=by rfl):WL ops (SS P ops val ss al st Ph V β) (iH al st) Q (o::rest) k a:=by
 refine WL.s (fun j e l m=>?_) b h g;obtain⟨n,p,q,r,g⟩:=Em i l m;have b:=f e g;have g:∀c f,Ph (d+1) (GK ss al d β++[c]) f→cS ss al Ph (lU β k c) (fI j k) f:=fun c f b=>yQ n p q r (by rw[Vn i h];exact b);generalize(execOp a.eval o).run P e=d at b;cases d with
 |ok e f=>
  cases e<;>simp only[kD]at b⊢
  ·obtain⟨c,d,b⟩:=b;exact⟨c,d,g _ _ b⟩
  ·obtain⟨c,d,b⟩:=b;exact⟨c,d,g _ _ b⟩
  ·exact b.mono fun d i ⟨c,h,b⟩=>⟨c,h,g _ _ b⟩
 |halt e f=>simp only[kD]at b
def Hu [Inhabited T] (val:T→aI) (ss al st:List Nat) (Ph:Nat→List T→aB→Prop) (V:Nat→aI) {h:Nat} {Q:Exit→Act→aB→Prop} {g:aB} {ops:List Oper} (i:Ph 0 [] g.drew)
  (b:∀β,WL ops.toArray (SS P ops.toArray val ss al st Ph V β) (iH al st) (fun d=>∀c,Ph ss.length (GK ss al ss.length β) c→Q .normal d c) ops 0 a) (j:(∀e∈ss,e∈al∨e∈st):=by decide) (l:P.follows .mixedOrders=true:=by kernel_rfl) (m:Region.lexB .any ops.toArray=true:=by kernel_rfl) (f:∀e,e∈al∨e∈st→e<ops.length:=by intro e f;simp at f⊢;omega):(Code.region h ops.toArray true).wp P Q a g:=by
 refine mE al st val (cS ss al Ph) V l m f (Zb j) ⟨0,aZ _,fun f e=>absurd e (Nat.not_lt_zero _),fun _ _ _=>rfl,i⟩ (fun β=>?_);have f:∀(e:List Oper) (k:Nat) (a:Act),iy ops.toArray (SS P ops.toArray val ss al st Ph V β) (iH al st) (fun d=>∀c,Ph ss.length (GK ss al ss.length β) c→Q .normal d c) e k a→iy ops.toArray (SS P ops.toArray val ss al st Ph V β) (iH al st) (fun d=>∀c,cS ss al Ph β (fun _=>true) c→Q .normal d c) e k a:=by
  intro e;induction e with
  |nil=>
   rintro k a b c ⟨d,i,j,g,h⟩;obtain rfl:d=ss.length:=by
    by_cases i:d<ss.length
    ·have:=g d (aD _) i;cases this
    ·omega
   exact b c h
  |cons o e d=>
   intro k a b;unfold iy at b⊢;split
   ·rename_i c;rw[aP c]at b;obtain⟨e,g,h⟩:=b;exact⟨e,g,d _ _ h⟩
   ·rename_i c;rw[aL c]at b;exact⟨b.1,d _ _ b.2⟩
 exact f _ _ _ (b β).h
def uK {d:T→aB→Prop} {e f:aB} {c:T} (g h:Operand) (b:bB) (i j:aI) (l:o.op=.call {callee:=.builtin .append,args:=#[g,h],argTypes:=#[b,b]}) (m:a.eval g=i) (g:a.eval h=j) (h:(Builtin.append_ #[b,b] o.type #[i,j]).run P e=.ok (val c) f) (b:d c f):kD P val d ((execOp a.eval o).run P e):=by simp[execOp,l,resolve,invoke,builtin,m,g,h,Result.andThen];exact⟨c,rfl,b⟩
end
def cX {T:Type} (A:aB→Prop) (B:T→aB→Prop) (i:Nat):Pn T:=fun β c b=>if c i then B (β i) b else A b
section
variable {P:Program} {ops:Array Oper} {T:Type} {val:T→aI} {A:aB→Prop} {B:T→aB→Prop} {i:Nat} {β:Nat→T} {Q:Act→Prop} {o:Oper} {rest:List Oper} {k:Nat} {a:Act}
abbrev SX (P:Program) (ops:Array Oper) (val:T→aI) (A:aB→Prop) (B:T→aB→Prop) (i:Nat) (β:Nat→T):Nat→Oper→Act→aI→Prop:=fQ P .any ops val (cX A B i) (fun _=>bq) [i] [] β
def WL.C (e:∀b:Act→Prop,(∀a,WL ops (SX P ops val A B i β) (iH [i] []) Q rest (k+1) a→b a)→if Region.wanted o (yielded ops a.tmps)then∃c,(∀d:Wd A,kC d.W c ((execOp a.eval o).run P d.W))∧b (a.put o.dst c)else b (a.put o.dst bq)) (c:iH [i] [] k:=by decide) (d:jc .any ops i k=true:=by decide+kernel):WL ops (SX P ops val A B i β) (iH [i] []) Q (o::rest) k a:=
 WL.e (A:=A) (fun g h f b=>by
  have g:=f.a i d
  unfold cX at b
  rw[g]at b
  simpa using b) e c
def WL.D (e:∀b:Act→Prop,(∀a,WL ops (SX P ops val A B i β) (iH [i] []) Q rest (k+1) a→b a)→if Region.wanted o (yielded ops a.tmps)then∃c,(∀d:Wd fun _=>True,kC d.W c ((execOp a.eval o).run P d.W))∧b (a.put o.dst c)else b (a.put o.dst bq)) (b:iH [i] [] k:=by decide):WL ops (SX P ops val A B i β) (iH [i] []) Q (o::rest) k a:=
 WL.e (A:=fun _=>True) (fun c d f g=>trivial) e b
def WL.E (e:∀d,A d→kD P val B ((execOp a.eval o).run P d)) (b:WL ops (SX P ops val A B i β) (iH [i] []) Q rest (i+1) (a.put o.dst (val (β i)))) (f:o.guard=O:=by rfl):WL ops (SX P ops val A B i β) (iH [i] []) Q (o::rest) i a:=by
 refine WL.s (fun g d h c=>?_) b Y1 f;have b:=h.b;unfold cX at c;rw[b]at c;have b:=e d (Y6 c);have f:∀c e,B c e→cX A B i (lU β i c) (fI g i) e:=fun c e b=>by unfold cX lU fI;simp;exact b
 generalize(execOp a.eval o).run P d=d at b;cases d with
 |ok g e=>
  cases g<;>simp only[kD]at b⊢
  ·obtain⟨c,d,b⟩:=b;exact⟨c,d,f _ _ b⟩
  ·obtain⟨c,d,b⟩:=b;exact⟨c,d,f _ _ b⟩
  ·exact b.mono fun d j ⟨c,h,b⟩=>⟨c,h,f _ _ b⟩
 |halt g e=>simp only[kD]at b
def zaD [Inhabited T] (A:aB→Prop) (B:T→aB→Prop) (i:Nat) (val:T→aI) {h:Nat} {Q:Exit→Act→aB→Prop} {f:aB} {ops:List Oper} (l:A f.drew)
  (b:∀β,WL ops.toArray (SX P ops.toArray val A B i β) (iH [i] []) (fun d=>∀c,B (β i) c→Q .normal d c) ops 0 a) (j:P.follows .mixedOrders=true:=by kernel_rfl) (m:Region.lexB .any ops.toArray=true:=by kernel_rfl) (g:∀e,e∈[i]∨e∈([]:List Nat)→e<ops.length:=by intro e g;simp at g;simp;omega):
  (Code.region h ops.toArray true).wp P Q a f:=by
 refine mE [i] [] val (cX A B i) (fun _=>bq) j m g (fun β e m j f g h b=>?_) (by unfold cX;simpa using l) (fun β=>?_)
 ·have f:=g i (.inl Y1);have e:=h i Y1;unfold cX at*;rw[←f];cases hi:m i<;>simp[hi]at b e⊢<;>first|exact b|(rw[←e];exact b)
 ·have j:∀(e:List Oper) (k:Nat) (a:Act),iy ops.toArray (SX P ops.toArray val A B i β) (iH [i] []) (fun d=>∀c,B (β i) c→Q .normal d c) e k a→iy ops.toArray (SX P ops.toArray val A B i β) (iH [i] []) (fun d=>∀c,cX A B i β (fun _=>true) c→Q .normal d c) e k a:=by
   intro e;induction e with
   |nil=>exact fun k a b c d=>b c (by simpa[cX]using d)
   |cons o e d=>
    intro k a b;unfold iy at b⊢;split
    ·rename_i c;rw[aP c]at b;obtain⟨e,g,h⟩:=b;exact⟨e,g,d _ _ h⟩
    ·rename_i c;rw[aL c]at b;exact⟨b.1,d _ _ b.2⟩
  exact j _ _ _ (b β).h
def WL.F {A B:aB→Prop} {c:Nat} {b:List Nat} (d:aI) (e:∀f:Wd A,gJ P A d ((execOp a.eval o).run P f.W)) (g:WL ops (Hr P ops A B c b) (iH [] b) Q rest (k+1) (a.put o.dst d)) (h:k∈b:=by decide) (f:jc .any ops c k=true∧k≠c:=by decide+kernel) (j:Region.wanted o (yielded ops a.tmps)=true:=by rfl):WL ops (Hr P ops A B c b) (iH [] b) Q (o::rest) k a:=by
 refine⟨?_⟩;unfold iy;rw[aP j];refine⟨d,?_,g.h⟩;unfold Hr fQ;rw[aL Y1,aP h];refine⟨fun b=>absurd rfl b,fun j g d l=>?_⟩;have h:=d.a c f.1;have b:=e ⟨g,l.1 h⟩;have d:∀e,A e→YZ A B c (fun _=>0) (fI j k) e:=fun e c=>⟨fun _=>c,fun b=>by unfold fI at b;rw[h]at b;simp[Ne.symm f.2]at b⟩;dsimp only at b;generalize(execOp a.eval o).run P g=c at b;cases c with
 |ok c e=>
  cases c<;>simp only[gJ]at b⊢
  ·exact⟨b.1,d _ b.2⟩
  ·exact⟨b.1,d _ b.2⟩
  ·exact b.mono fun f g b=>⟨b.1,d _ b.2⟩
 |halt c e=>simp only[gJ]at b
end
end Go.Proofs.YtdcacpeaimjdlaaGreatDoor
