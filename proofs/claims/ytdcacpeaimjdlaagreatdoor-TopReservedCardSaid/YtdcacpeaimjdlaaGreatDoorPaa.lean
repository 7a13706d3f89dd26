/- Part of the proof. -/
import Derived.Test.YtdcacpeaimjdlaaGreatDoorProg
import Derived.Below
import Derived.Deep.AppendLies
import Derived.Deep.Draws
import Derived.Deep.QuietTactic
import Derived.Deep.RegionHeld3
import Derived.IntWalk
import Derived.Laws.BytesArg
import Derived.Laws.OwnMore
import Derived.Laws.Rows
import Derived.Laws.StructEq
import Derived.Lib.Builder
import Derived.Lib.Bytealg
import Derived.Lib.SlBytesConst
import Derived.Maps.AppendAt
import Derived.Outline
import Derived.OwnWalk
import Derived.RegionTactic
import Derived.WalkKit
import Derived.WalkLawsBesides
import Derived.WalkMore
import Derived.WalkSpells
namespace Go.Proofs.YtdcacpeaimjdlaaGreatDoor
open Go.RowKit Go.Maps Go.Proofs.Tryz
open Go.Value renaming int→J,slice→Z,string→aA,pointer→aK,bool→aO,tuple→aN,agg→aS,complex→aH
open Go.IntKind renaming i64→U
open Option renaming none→O,some→R
open Go.Ending renaming returned→av
open Go renaming World→aB,Value→aI,Calls→aF,Addr→aX,TypeId→bB,undef→bq
open Go.RowKit renaming Below→aJ
open Go.Proofs.Tryz renaming prog→au
open Go.FloatKind renaming f64→aW
set_option maxRecDepth 20000
set_option maxHeartbeats 0
set_option linter.all false
def Y (p:Prop):Prop:=p
theorem Y.o {p:Prop} (h:Y p):p:=h
theorem exq {α:Sort _} (a:α):∃x,a=x:=⟨_,rfl⟩
instance:Coe Int Value:=⟨fun x=>.int .i64 x⟩
instance:Coe Nat Value:=⟨fun x=>.int .i64 (x:Int)⟩
instance:Coe Bool Value:=⟨fun x=>.bool x⟩
instance:Coe World Nat:=⟨fun w=>w.heap.size⟩
theorem Y5{α β}{a:α}{b:β}:a=a∧b=b:=⟨rfl,rfl⟩
theorem Y0{p:Prop}(h:p:=by omega):p:=h
theorem Y1{p:Prop}(h:p:=by simp):p:=h
theorem Y2{p:Prop}(h:p:=by decide):p:=h
theorem Y3{p:Prop}(h:p:=by kernel_rfl):p:=h
theorem Y4{p:Prop}(h:p:=by rfl):p:=h
theorem Y6{p q:Prop}(a:q)(h:q→p:=by intro h;simpa using h):p:=h a
def aD:=@Nat.le_refl
def aC:=@List.mem_singleton
def ay:=@Go.RowKit.Below.refl
def aL:=@if_neg
def aP:=@if_pos
def aM:=@beq_eq_false_iff_ne
def aG:=@Go.bodyPost_ret
def aQ:=@List.getElem?_eq_getElem
def aV:=@Nat.lt_of_lt_of_le
def aR:=@Nat.le_trans
def aY:=@List.getD_eq_getElem?_getD
def aU:=@List.getElem?_eq_some_iff
def aT:=@Go.World.ownsRow_nil
def bD:=@List.append_assoc
def bC:=@Option.mem_toList
def bA:=@List.mem_cons
def bE:=@congrArg
def bf:=@Go.World.block_lt_of_cell?
def bJ:=@List.mem_cons_of_mem
def bM:=@List.mem_cons_self
def bK:=@List.mem_append
def bL:=@List.length_append
def bQ:=@List.getElem?_eq_none
def bR:=@Int.eq_ofNat_of_zero_le
def bF:=@Go.IntWalk.i64_in
def bT:=@List.length_drop
def cB:=@List.getElem?_append_right
def dh:=@List.getElem?_append_left
def bY:=@List.perm_append_comm_assoc
def bZ:=@Int.toNat_natCast
def cO:=@decide_eq_true
def dK:=@decide_eq_false
def bX:=@Go.WalkArith.wf_i64
def dw:=@List.length_take
def bP:=@List.mem_of_getElem?
def bW:=@List.take_of_length_le
def dA:=@Array.getElem?_eq_getElem
def bS:=@List.getElem?_map
def cZ:=@Nat.le_succ_of_le
def cK:=@Nat.zero_add
def dQ:=@Nat.add_zero
def dI:=@List.mem_map
def dL:=@List.eq_nil_of_length_eq_zero
def aZ:=@Nat.zero_le
def dX:=@beq_iff_eq
inductive Mq
|qp(g:Nat)
|qx(M:Int)
|qz
|qy
|qw
|qv
|qu
|qt
|qs(a:Int)(b:Int)(c:Int)(d:Int)(e:Bool)(A:Option Addr)(n:Nat)(k:Nat)
open Mq
instance {g:Nat}:CoeDep Mq (qp g) Value:=⟨.pointer (some ⟨g,0,none⟩)⟩
instance {M:Int}:CoeDep Mq (qx M) (Array Value):=⟨#[M,false,.int .i64 0,.int .i64 0,.int .i64 0,.int .i64 0,.slice none 0 0,.slice none 0 0,.int .i64 0,.int .i64 0,false,.int .i64 0,.int .i64 0,.int .i64 0,.int .i64 0,.slice none 0 0]⟩
instance :CoeDep Mq (qz) (Array Value):=⟨#[.int .i64 0,.int .i64 0,.int .i64 0,.int .i64 0,.slice none 0 0,.slice none 0 0,.int .i64 0,.int .i64 0,false,.int .i64 0,.int .i64 0,.int .i64 0,.int .i64 0]⟩
instance :CoeDep Mq (qy) (Array Value):=⟨#[.int .i64 0,.int .i64 0,.int .i64 0,.int .i64 0,.int .i64 0,.int .i64 0,.slice none 0 0,.int .i64 0,.int .i64 0,.slice none 0 0,.slice none 0 0,.int .i64 0,.int .i64 0]⟩
instance :CoeDep Mq (qw) (Array Value):=⟨#[.int .i64 0,.int .i64 0,.int .i64 0,false,false,.int .i64 0,.complex .f64 0 0,false,.string ⟨#[]⟩,.int .i64 0,.int .i64 0,.int .i64 0,false,.string ⟨#[]⟩,.int .i64 0,.int .i64 0,.int .i64 0]⟩
instance :CoeDep Mq (qv) (Array Value):=⟨#[.int .i64 0,.int .i64 0,.int .i64 0,false,false,.int .i64 0,.complex .f64 0 0,false,.string {data:=#[]},.int .i64 0,.int .i64 0,.int .i64 0,false,.string {data:=#[]},.int .i64 0,.int .i64 0,.int .i64 0]⟩
instance :CoeDep Mq (qu) (Array Value):=⟨#[.int .i64 0,.slice none 0 0,.slice none 0 0,.slice none 0 0]⟩
instance :CoeDep Mq (qt) (Array Value):=⟨#[.int .i64 0,.int .i64 0,false,false,.int .i64 0]⟩
instance {a:Int}{b:Int}{c:Int}{d:Int}{e:Bool}{A:Option Addr}{n:Nat}{k:Nat}:CoeDep Mq (qs a b c d e A n k) (Array Value):=⟨#[a,b,c,d,e,.slice A n k]⟩
def aj {a:Prop} (b:a):Y a:=b
def fB {a b:Bool} (c:a=b):av a=av b:=by rw[c]
def JX {a:IntKind} {b c:Int} (d:b=c):av (J a b)=av (J a c):=by rw[d]
def bH (w:aB) (g:Nat) (t:bB) (cs:Array aI):Prop:=w.heap[g]?=R (.cells cs t (0,0))
section
variable {w w':aB} {g:Nat} {t:bB} {cs:Array aI}
def bH.e (a:bH w g t cs):g<w.heap.size:=(Array.getElem?_eq_some_iff.1 a).1
def bH.a (b:bH w g t cs) (a:Nat):w.cell? ⟨g,a,O⟩=cs[a]?:=cell_of_row w g a cs t (0,0) b
def bH.c (a:bH w g t cs) (b:Nat):w.frozen? ⟨g,b,O⟩=false:=by unfold bH at a;simp[World.frozen?,a]
def bH.d (w:aB) (t:bB) (cs:Array aI):bH (w.alloc (.cells cs t)) w.heap.size t cs:=heap_alloc_new w _
def bH.q (a:bH w g t cs) (b:Nat):bH (w.drewN b) g t cs:=a
def bH.x (a:bH w g t cs):bH w.drew g t cs:=a
def bH.h (a:bH w g t cs) (b:Obj):bH (w.alloc b) g t cs:=(Below.heap_alloc w b g a.e).trans a
def bH.f (a:bH w g t cs) (b:Nat) (c:aI):bH (w.setCell ⟨g,b,O⟩ c) g t (cs.setIfInBounds b c):=by unfold bH at a⊢;simp[World.setCell,Array.getElem?_modify,a]
def bH.i (b:bH w g t cs) {p:aX} (c:g≠p.block) (a:aI):bH (w.setCell p a) g t cs:=(Below.heap_setCell w p a g c).trans b
def bH.B {a:Nat} (b:bH w g t cs) (c:aJ a w w') (d:g<a):bH w' g t cs:=(c.block g d).trans b
def bH.b (a:bH w g t cs) (b:aJ w w w'):bH w' g t cs:=a.B b a.e
def bH.u {a:Option Nat} (b:bH w g t cs) (c:w.grownBy w' a) (d:R g≠a):bH w' g t cs:=(c.block g b.e d).trans b
def bH.z {a:Nat} {b:bB} {c:Array aI} (d:bH w g t cs) (e:bH w a b c) (c:t≠b):g≠a:=by rintro rfl;have a:=d.symm.trans e;simp only[Option.some.injEq,Obj.cells.injEq]at a;exact c a.2.1
end
def bU (w:aB) (A:Option aX) (xs:List aI):Prop:=
 ∀a b,xs[a]?=R b→∃c d,A=R ⟨c,d,O⟩∧w.cell? ⟨c,d+a,O⟩=R b
section
variable {w w':aB} {A:Option aX} {xs:List aI}
def bU.f (w:aB) (A:Option aX):bU w A []:=fun b c a=>by simp at a
def bU.a (e:bU w A xs) (f:aJ w w w'):bU w' A xs:=fun a h i=>by
 obtain⟨b,c,j,d⟩:=e a h i
 exact⟨b,c,j,(f.cell (p:=⟨b,c+a,O⟩) (bf w _ d)).trans d⟩
def bU.h (a:bU w A xs) (b:Obj):bU (w.alloc b) A xs:=a.a ((ay _ _).alloc (aD _) _)
def bU.c (a:bU w A xs) (b:Nat):bU (w.drewN b) A xs:=a
def bU.l (a:bU w A xs):bU w.drew A xs:=a
def bU.e {c:Nat} {d:bB} {b e:Nat} (a:w.ownsRow c d 1 (Z A b e) b xs):bU w A xs:=by
 intro d e b;rcases a.2 with⟨c,f⟩|⟨g,h,i,c,_,j,_⟩
 ·have h:=dL (by rw[a.1,f];try simp);rw[h]at b;cases b
 ·injection c with c;subst c;refine⟨g,0,rfl,?_⟩;have:=a.cells (g:=g) rfl d e b;rwa[Addr.add_lit]at this
def bU.b {g:Nat} {t:bB} {cs:Array aI} (a:bH w g t cs):bU w (R ⟨g,0,O⟩) cs.toList:=by intro c d b;refine⟨g,0,rfl,?_⟩;rw[cK,a.a];simpa using b
def bU.i (w:aB) (t:bB) (cs:Array aI) (a:Nat×Nat):bU (w.alloc (.cells cs t a)) (R ⟨w,0,O⟩) cs.toList:=by intro b c a;refine⟨w,0,rfl,?_⟩;rw[cK,World.cell?_alloc_mark];simpa using a
def bU.j (b:bU w A xs) (a:Nat):bU w A (xs.take a):=fun c d a=>by
 rw[List.getElem?_take]at a
 split at a
 ·exact b c d a
 ·cases a
def bU.d (b:bU w A xs) {k n c:Nat} (a:xs.length=n) (a:n≤c):bU w (if c=k then A else A.map (·.add k)) (xs.drop k):=fun d e a=>by
 rw[List.getElem?_drop]at a
 have f:k+d<xs.length:=(aU.1 a).1
 obtain⟨d,f,h,i⟩:=b _ e a
 rw[aL Y0,h]
 refine⟨d,f+k,?_,by rw[←i];congr 2;omega⟩
 simp[Addr.add_lit]
def bU.k (c:bU w A xs) {a b:Nat} (d:A=R ⟨a,b,O⟩) (b:xs≠[]):a<w.heap.size:=by
 obtain⟨e,f,rfl⟩:=List.exists_cons_of_ne_nil b;obtain⟨f,i,b,h⟩:=c 0 e Y1;rw[d]at b;have c:=Option.some.inj b;have b:a=f:=by injection c
 subst b;exact bf w _ h
end
def bI {b:Nat} {c w:aB} (a:aJ b c w) (d:Nat):aJ b c (w.drewN d):=⟨a.os,a.tape,a.output,a.size,a.block⟩
def uo {b:Nat} {c w:aB} (a:aJ b c.drew w):aJ b c w:=⟨a.os,a.tape,a.output,a.size,a.block⟩
def sQ {b:Nat} {c w:aB} {d:Nat} (a:aJ b (c.drewN d) w):aJ b c w:=⟨a.os,a.tape,a.output,a.size,a.block⟩
def bG {a w w':aB} (b:aJ a a w) (c:aJ w w w'):aJ a a w':=b.trans (c.mono b.size)
def eF {a:Nat} {b w w':aB} (c:aJ a b w) (d:a≤w.heap.size) (e:aJ w w w'):aJ a b w':=c.trans (e.mono d)
def gN {a w w':aB} {b:Obj} (c:aJ a a w) (d:aJ (w.alloc b).heap.size (w.alloc b) w'):aJ a a w':=
 (c.alloc c.size b).trans (d.mono (by have:=c.size;simp;omega))
def wP {w w':aB} {a:Obj} (b:aJ (w.alloc a).heap.size (w.alloc a) w'):aJ w w w':=gN (ay _ w) b
def gP {w w':aB} {a b:Obj} (c:aJ ((w.alloc a).alloc b).heap.size ((w.alloc a).alloc b) w'):aJ w w w':=
 gN ((ay _ w).alloc (aD _) a) c
def yB {b w:aB} (a:aJ b b w) (c:Option Nat):b.grownBy w c:=⟨a.os,a.tape,a.output,a.size,fun b c _=>a.block b c⟩
def dF {w w':aB} {b:Nat} {c:bB} {d:Nat} {a:aI} {e:Nat} {xs:List aI} (f:w.ownsRow b c d a e xs) (h:aJ w w w'):w'.ownsRow b c d a e xs:=
 f.kept (yB h O) (by cases b:a.ownBlock<;>simp)
def nX {w:aB} {a:Nat} {b:bB} {c:Nat} {d:aI} {e:Nat} {xs:List aI} (f:w.ownsRow a b c d e xs) (h:Nat):(w.drewN h).ownsRow a b c d e xs:=f
def dB {w:aB} {c:Nat} {d:bB} {e:Nat} {a:aI} {b:Nat} {xs:List aI} (f:w.ownsRow c d e a b xs):∃A c,a=Z A b c:=by
 rcases f.2 with⟨rfl,rfl⟩|⟨g,a,_,rfl,_⟩
 ·exact⟨_,_,rfl⟩
 ·exact⟨_,_,rfl⟩
def eu {w:aB} {b:Nat} {c:bB} {d:Nat} {a:aI} {n:Nat} {xs:List aI} (e:w.ownsRow b c d a n xs) (b:0<n):∃g b,a=Z (R ⟨g,0,O⟩) n b:=by
 rcases e.2 with⟨rfl,rfl⟩|⟨g,a,_,rfl,_⟩
 ·omega
 ·exact⟨_,_,rfl⟩
def dG {w:aB} {b:Nat} {c:bB} {d:Nat} {a:Nat} {xs:List aI} {g e:Nat} (f:w.ownsRow b c d (Z (R ⟨g,0,O⟩) a e) a xs) {j:Nat} {a:aI} (b:xs[j]?=R a):w.cell? ⟨g,j,O⟩=R a:=by have:=f.cells (g:=g) rfl j a b;rwa[Addr.add_lit,cK]at this
def YI {w:aB} {b:Nat} {c:bB} {d:Nat} {a:Nat} {xs:List aI} {g e:Nat} (f:w.ownsRow b c d (Z (R ⟨g,0,O⟩) a e) a xs):g<w.heap.size:=(f.lt g rfl).2
def mP {w:aB} {b:Nat} {a:bB} {d:Nat} {c:aI} {e:Nat} {xs:List aI} (f:w.ownsRow b a d c e xs):∀a,c.ownBlock=R a→b≤a:=fun a b=>(f.lt a b).1
def YJ {w:aB} {a:Nat} {c:bB} {d:Nat} {b:aI} {e:Nat} {xs:List aI} (f:w.ownsRow a c d b e xs) {g:Nat} (c:g<a):R g≠b.ownBlock:=by intro a;have:=mP f g a.symm;omega
def uq (w:aB) (b:aI) (t:bB):∀a c,[b][a]?=R c→(w.alloc (.cells #[b] t)).cell? ((⟨w,0,O⟩:aX).add a)=R c:=by
 intro a c b;match a,b with
 |0,b=>simp at b;subst b;simp[Addr.add]
def uw {a:aI} (c:a.oneCell'=true):∀b∈[a],b.oneCell'=true:=by intro b a;simp at a;subst a;exact c
def jP {P:Program} {c:aB} {ops:Array Oper} {p:List Oper} {e:Oper} {f:Act} {Q:Exit→Act→aB→Prop} (q:e.guard=O) (k l:Operand) (t:bB)
  (r:e.op=.call {callee:=.builtin .append,args:=#[k,l],argTypes:=#[t,t]})
  (h:Nat) (b:bB) {m:aI} {n:Nat} (s:(P.info? b).map (fun a=>(a.zero,a.size,a.bytes))=R (R m,1,n)) (u:m.cells.size=1) (v:P.underlying t=R (.slice b))
  (A:Option aX) (a o:Nat) (xs:List aI) (d:aI) (x:f.eval k=Z A a o) (y:c.ownsRow h b 1 (Z A a o) a xs)
  (g:Nat) (z:f.eval l=Z (R ⟨g,0,O⟩) 1 1) (B:c.heap.size=g) (C:d.oneCell'=true)
  (D:a+1≤maxLen) (E:(a+1)*n≤140737488355328) (i:h≤c.heap.size)
  (F:∀i j w',w'.ownsRow h b 1 (Z (R ⟨i,0,O⟩) (a+1) j) (a+1) (xs++[d])→(c.alloc (.cells #[d] b)).grownBy w' (Z A a o).ownBlock→wpList P ops Q p (f.put e.dst (Z (R ⟨i,0,O⟩) (a+1) j)) w'):
  wpList P ops Q (e::p) f (c.alloc (.cells #[d] b)):=by obtain⟨e,f,o,p,G⟩:=info_parts s;subst B;refine wpList_append_own _ q k l t r h b e m 1 n v f o p G u Y2 _ a xs x (y.alloc _) ⟨c,0,O⟩ 1 1 [d] z rfl (uq _ _ _) (uw C) D E (by simp;omega) ?_;intro c w' a b _;obtain⟨i,j,rfl⟩:=eu a Y0;exact F i j w' a b
def nY {P:Program} {w:aB} {A:Option aX} {xs:List Int} (d a b c:bB) (f:P.underlying a=R (.slice b)) (h:P.underlying b=R (.int .u8)) (i:P.underlying c=R .string)
  (k:bU w A (xs.map (J .u8))):(convert a c (Z A xs.length d)).run P w=.ok (aA (strOfNums xs)) w:=by
 cases xs with
 |nil=>
  cases A with
  |none=>exact run_convert_bytes_nil w a b f h _ _ c i
  |some e=>
   rw[run_convert_bytes_string w a c b _ _ d f h i];have j:(loadCells e 0).run P w=.ok (([]:List Int).map (J .u8)).toArray w:=by simpa using run_loadCells_list (P:=P) w e [] (fun l m e=>by simp at e)
   exact run_bytesToString w _ _ d [] j
 |cons e j=>obtain⟨l,m,rfl,_⟩:=k 0 (J .u8 e) Y1;refine run_convert_bytes_arg w a b f h l m _ d (e::j) rfl ?_ c i;intro a c;obtain⟨f,h,b,d⟩:=k a (J .u8 ((e::j).getD a 0)) (by have f:a<(e::j).length:=c;rw[bS,aY,aQ f];rfl);injection b with b;injection b with a b;subst a;subst b;exact d
def YK {a b:Int} (c:0≤a∧a≤255) (c:0≤b∧b≤255) (c:UInt8.ofNat a.toNat=UInt8.ofNat b.toNat):a=b:=by have:=bE UInt8.toNat c;simp at this;omega
def DK:∀(xs c:List Int),(∀a∈xs,0≤a∧a≤255)→(∀a∈c,0≤a∧a≤255)→(xs.map fun b=>UInt8.ofNat b.toNat)=(c.map fun b=>UInt8.ofNat b.toNat)→xs=c
 |[],[],_,_,_=>rfl
 |[],d::c,_,_,b=>by simp at b
 |a::xs,[],_,_,b=>by simp at b
 |a::xs,d::c,e,f,b=>by
  simp only[List.map_cons,List.cons.injEq]at b
  rw[YK (e a Y1) (f d Y1) b.1,DK xs c (fun a c=>e a (by simp[c])) (fun a c=>f a (by simp[c])) b.2]
def wQ (xs:List Int):(strOfNums xs).toList=xs.map fun a=>UInt8.ofNat a.toNat:=by rw[ByteArray.toList_eq,strOfNums_data]
def zaA {a:Int} (b:(Lit.int .u8 a).wf=true):0≤a∧a≤255:=by simpa[Lit.wf,IntKind.min,IntKind.max,IntKind.signed,IntKind.bits]using b
def bH.H {w:aB} {g:Nat} {t:bB} {cs:Array aI} (c:bH w g t cs) (a:Nat) {b:aI} (d:cs[a]?=R b:=by rfl):w.cell? ⟨g,a,O⟩=R b:=(c.a a).trans d
def mB {P:Program} {a:FuncId} {b:Array aI} {w:aB} {c:aI} {d:aB→Prop} {Q:Ending→aB→Prop} (f:aF P a b w fun e w'=>e=av c∧d w') (h:∀w',d w'→Q (av c) w'):aF P a b w Q:=f.mono fun e w' ⟨a,b⟩=>by subst a;exact h w' b
def bV (a b c:Int):Bool:=decide (b≤a)&&decide (a≤c)
def nZ (a b c:Int) (d:aB):aF au 82 #[a,b,c] d fun e f=>e=av (aO (bV a b c))∧d=f:=by
 unfold bV;by_cases d:b≤a
 ·by_cases b:a≤c
  ·rw[cO d,cO b];go_enter func82,ntmps82;go_wp2;go_ret;exact Y5
  ·rw[cO d,dK b];go_enter func82,ntmps82;go_wp2;go_ret;exact Y5
 ·rw[dK d];go_enter func82,ntmps82;go_wp2;go_ret;exact Y5
structure Fd where
 n:ByteArray
 v:ByteArray
 a:Bool
def dx (a:List Fd):List aI:=a.flatMap fun a=>[aA a.n,aA a.v,aO a.a]
def LW (a:List UInt8):ByteArray:=⟨a.toArray⟩
def nN (a:Int):Bool:=decide (65≤a)&&decide (a≤90)
def DL (a:Int):Bool:= !(decide (a≤32)||(decide (127≤a)||a==58))&& !nN a
def uy (a:List UInt8):Bool:=(a.all fun b=>DL (b.toNat:Int))&& !a.isEmpty
def mq (a:ByteArray):Bool:=if b:0<a.size then(if((a[0]'b).toNat:Int)=58 then uy (a.extract 1 a.size).toList else false)else false
def YL (a:UInt8):Bool:= !((a.toNat:Int)==0||((a.toNat:Int)==10||(a.toNat:Int)==13))
def yC (a:UInt8):Bool:=decide (0≤Lib.indexByte [32,9] a)
def kT (a:ByteArray):Bool:=if b:0<a.size then(if yC (a[0]'b)||yC (a[a.size-1]'(by omega))then false else a.toList.all YL)else true
def uz (a:List UInt8):Bool:=
 a==[99,111,110,110,101,99,116,105,111,110]||(a==[107,101,101,112,45,97,108,105,118,101]||(a==[112,114,111,120,121,45,99,111,110,110,101,99,116,105,111,110]||(a==[116,114,97,110,115,102,101,114,45,101,110,99,111,100,105,110,103]||a==[117,112,103,114,97,100,101])))
def Ve (a:UInt8):UInt8:=if nN (a.toNat:Int)then a+32 else a
def lT (a:List UInt8):List UInt8:=a.map Ve
def Cc (a:Fd):Bool:=(uy a.n.toList||mq a.n)&&kT a.v
def DN (a:Fd):Bool:=uz a.n.toList||(a.n.toList==[116,101]&&lT a.v.toList !=[116,114,97,105,108,101,114,115])
def xK:List Fd→Int→Int
 |[],a=>a
 |b::c,a=>if Cc b=true then(if DN b=true then xK c 29 else xK c a)else 28
def xL (a:ByteArray) (c:Int):Nat→Nat→Int→Option Int
 |0,_,b=>R b
 |d+1,pos,b=>if pos<a.size then
   (if((Utf8.decode a pos).1:Int)<48∨((Utf8.decode a pos).1:Int)>57 then O
    else if((Utf8.decode a pos).1:Int)-48>c∨b>(c- (((Utf8.decode a pos).1:Int)-48))/10 then O
    else xL a c d (pos+(Utf8.decode a pos).2) (10*b+(((Utf8.decode a pos).1:Int)-48)))else R b
def uD (a:ByteArray) (b:Int):Option Int:=if a.size=0∨b<0 then O else xL a b a.size 0 0
def qo:List Fd→Int×Bool→Option (Int×Bool)
 |[],a=>R a
 |b::c,a=>if b.n.toList=[99,111,110,116,101,110,116,45,108,101,110,103,116,104]then(match uD b.v 4503599627370496 with
  |none=>O
  |some b=>if a.2&&b !=a.1 then O else qo c (b,true))else qo c a
def gQ (a:Fd):Bool:=if b:0<a.n.size then((a.n[0]'b).toNat:Int)==58 else false
abbrev E0:ByteArray:={data:=#[]}
structure Pr where
 m:Option ByteArray
 s:Option ByteArray
 a:Option ByteArray
 p:Option ByteArray
def YM:List UInt8:=[58,109,101,116,104,111,100]
def YN:List UInt8:=[58,115,99,104,101,109,101]
def YO:List UInt8:=[58,97,117,116,104,111,114,105,116,121]
def YP:List UInt8:=[58,112,97,116,104]
def Yf:List UInt8:=[58,115,116,97,116,117,115]
def oI (b:List (List UInt8)) (a:List (Option ByteArray)) (c:Fd):Option (List (Option ByteArray)):=
 match b,a with
 |e::b,d::a=>if e=c.n.toList∧d=O then R (R c.v::a)else(oI b a c).map (d::·)
 |_,_=>O
def nO (b:List (List UInt8)):List Fd→List (Option ByteArray)→Bool→Option (List (Option ByteArray))
 |[],a,_=>R a
 |c::d,a,e=>if gQ c=true then(if e then O else match oI b a c with
  |none=>O
  |some c=>nO b d c false)else nO b d a true
def gv (a:Option ByteArray):ByteArray:=a.getD E0
def Vf:List UInt8:=[67,79,78,78,69,67,84]
def GET:List UInt8:=[71,69,84]
def HEA:List UInt8:=[72,69,65,68]
structure Hd where
 m:ByteArray
 s:ByteArray
 a:ByteArray
 p:ByteArray
 t:Int
def Hd.b:Hd:=⟨E0,E0,E0,E0,0⟩
def qG (a:List Fd):Option Hd:=match nO [YM,YN,YO,YP] a [O,O,O,O] false with
 |some [a,b,d,c]=>
  if(if(gv a).toList=Vf then !b.isSome&& !c.isSome&& !(gv d).toList.isEmpty else !(gv a).toList.isEmpty&& !(gv b).toList.isEmpty&& !(gv c).toList.isEmpty)=true then R ⟨gv a,gv b,gv d,gv c,0⟩else O
 |_=>O
def uE (a:List Fd):Option Hd:=match nO [Yf] a [O] false with
 |some [a]=>if(gv a).size=3 then(match uD (gv a) 999 with
  |some a=>if a<100∨a=101 then O else R {Hd.b with t:=a}
  |none=>O)else O
 |_=>O
def OX (a:List Fd):Option Hd:=if a.any gQ then O else R Hd.b
def oJ (a:Int) (b:List Fd):Option Hd:=if a==0||a==3 then qG b else if a==1 then uE b else OX b
structure Ms where
 m:ByteArray
 t:Int
 n:Int
 b:Bool
def Ms.a:Ms:=⟨E0,0,0,false⟩
def DR (a:List UInt8):Bool:=a==GET||a==HEA
def gD (c:Int) (a:List Fd):Ms×Int:=
 if xK a 0≠0 then(.a,xK a 0)else match oJ c a with
 |none=>(.a,30)
 |some b=>match qo a (0,false)with
  |none=>(.a,31)
  |some (a,d)=>if c=3∧DR b.m.toList=false then(.a,34)else(⟨b.m,b.t,a,d⟩,0)
structure Ta where
 a:Bool
 m:ByteArray
 p:Int
 d:Int
 l:Int
instance:Coe Ta (Array Value):=⟨fun t=>#[t.a,.string t.m,t.p,t.d,t.l]⟩
def Ta.b:Ta:=⟨false,E0,0,0,0⟩
def Ta.i (a:ByteArray):Ta:=⟨true,a,0,0,0⟩
def Ta.j (a:Ta):Int:=if a.a then 1 else 0
def Ta.k (a:Ta) (b:Ms):Bool:=if a.a then a.m.toList==Vf&&decide (b.t<300)else b.m.toList==Vf
def Ta.n (a:Ta) (b:Ms):Bool:=a.a&&(a.m.toList==HEA||(b.t==204||b.t==304))
def Ta.e (a:Ta) (b:Ms):Ta:=if a.n b then{a with p:=1,d:=1}else if b.b&& !({a with p:=1}:Ta).k b then{a with p:=1,d:=2,l:=b.n}else{a with p:=1}
def Ta.c (a:Ta):Ta×Int:=if a.d=2∧a.l>0 then(.b,31)else({a with p:=2},0)
def Ta.g (b:Ta) (d:List Fd) (c:Bool):Ta×Ms×Int:=
 let a:=gD b.j d
 if a.2≠0 then(.b,.a,a.2)
 else if(b.a&&decide (a.1.t<200))=true then(if c then(.b,.a,32)else(b,a.1,0))
 else if c then(if(b.e a.1).c.2≠0 then(.b,.a,(b.e a.1).c.2)else((b.e a.1).c.1,a.1,0))
 else(b.e a.1,a.1,0)
def Ta.h (a:Ta) (c:List Fd) (b:Bool):Ta×Ms×Int:=
 if a.p=0 then a.g c b
 else if a.p=2∨b=false then(.b,.a,33)
 else
  let b:=gD 2 c
  if b.2≠0 then(.b,.a,b.2)else if a.c.2≠0 then(.b,.a,a.c.2)else(a.c.1,b.1,0)
def Ta.f (a:Ta) (b:Int) (c:Bool):Ta×Int:=
 let b:=max b 0
 if a.p≠1∨a.d=1∧b>0 then(.b,32)
 else if a.d=2∧b>a.l then(.b,31)
 else
  let a:=if a.d=2 then{a with l:=a.l-b}else a
  if c then a.c else(a,0)
def u8r (a:UInt8):0≤(a.toNat:Int)∧(a.toNat:Int)≤255:=by have:=a.toNat_lt;omega
def AZ (a:Int) (b:aB):aF au 321 #[J .u8 a] b fun c d=>c=av (aO (nN a))∧b=d:=by
 unfold nN;by_cases b:65≤a
 ·by_cases c:a≤90
  ·rw[cO b,cO c];go_enter func321,ntmps321;go_wp2;go_ret;exact Y5
  ·rw[cO b,dK c];go_enter func321,ntmps321;go_wp2;go_ret;exact Y5
 ·rw[dK b];go_enter func321,ntmps321;go_wp2;go_ret;exact Y5
def YQ (a:Int) (b:aB):aF au 319 #[J .u8 a] b fun c d=>c=av (aO (DL a))∧b=d:=by
 have d:=fun b=>aj (AZ a b);unfold DL;obtain⟨e,b⟩:=exq (nN a);rw[b]at d⊢;clear b;by_cases b:a≤32
 ·rw[cO b];go_enter func319,ntmps319;go_wp2;go_ret;exact Y5
 ·rw[dK b];by_cases b:127≤a
  ·rw[cO b];go_enter func319,ntmps319;go_wp2;go_ret;exact Y5
  ·rw[dK b];by_cases b:a=58
   ·subst b;go_enter func319,ntmps319;go_wp2;go_ret;exact Y5
   ·have e:(a==58)=false:=by rw[aM];exact b
    rw[e];go_enter func319,ntmps319;go_wp2_with (go_at_call 321;refine(d _).o.mono ?_;rintro c a ⟨rfl,rfl⟩);go_ret;exact Y5
def OY (a:Int) (c:Bool) (b:aB) (d:DL a=c):aF au 319 #[J .u8 a] b fun e f=>e=av c∧b=f:=by rw[←d];exact YQ a b
def yD (a:ByteArray) (b:Nat) (c:b<a.size):a.toList[b]?=R a[b]:=by rw[ByteArray.toList_eq];simp[c];rfl
def rF (a:ByteArray):a.toList.length=a.size:=by rw[ByteArray.toList_eq];simp
def DT (a:ByteArray) (c:aB) (b:a.size≤1000000):aF au 295 #[aA a] c fun f b=>f=av (aO (uy a.toList))∧c=b:=by
 have h:=fun d b c=>fun e=>aj (OY d b c e);go_enter func295,ntmps295;go_wp2;go_loop [6] (fun e=>∃b:Nat,b≤a.size∧e=J U b∧Y ((a.toList.take b).all (fun d=>DL (d.toNat:Int))=true)) (fun e=>a.size- (intOf e).toNat);case atStart=>exact⟨0,aZ _,rfl,aj rfl⟩
 case round=>
  obtain⟨b,e,rfl,i⟩:=hrel;by_cases j:b<a.size
  ·cases hq:DL ((a[b]).toNat:Int)
   ·have g:=fun c=>h _ _ c hq;have e:Y (uy a.toList=false):=aj (by
     unfold uy;have:(a.toList.all fun d=>DL (d.toNat:Int))=false:=by rw[List.all_eq_false];exact⟨a[b],bP (yD a b j),by rw[hq];decide⟩
     rw[this];rfl)
    clear hq;go_wp2_with (go_at_call 319;refine(g _).o.mono ?_;rintro f k ⟨rfl,rfl⟩);go_ret;exact⟨by rw[e.o];rfl,rfl⟩
   ·have g:=fun c=>h _ _ c hq;have e:Y ((a.toList.take (b+1)).all (fun d=>DL (d.toNat:Int))=true):=aj (by rw[List.take_add_one,yD a b j,List.all_append,i.o];simp[hq])
    clear hq;go_wp2_with (go_at_call 319;refine(g _).o.mono ?_;rintro f k ⟨rfl,rfl⟩);go_round;case rel=>exact⟨b+1,Y0,by go_num,e⟩
    case measure=>simp[intOf];omega
  ·have e:Y (uy a.toList= !a.toList.isEmpty):=aj (by have a:=i.o;rw[bW (by rw[rF];omega)]at a;unfold uy;rw[a];rfl)
   go_wp2;go_ret;exact⟨by rw[e.o];rfl,rfl⟩
def YR (f:Nat) (a b c d:Bool) (e:aB):(Op.equalIn (f+2) 149 (aS #[a,b]) (aS #[c,d])).run au e=.ok ((a==c)&&(b==d)) e:=by cases a<;>cases b<;>cases c<;>cases d<;>kernel_rfl
def YS (d:Nat) (a b:Int) (c:aB):(Op.equalIn (d+1) 3 (J U a) (J U b)).run au c=.ok (decide (a=b)) c:=by kernel_rfl
def YT (a c d:Int) (e f:Bool) (b:aB):(part 3 #[a,c,e,f,d] 0).run au b=.ok (J U a) b:=by kernel_rfl
def YU (c a d:Int) (e f:Bool) (b:aB):(part 3 #[c,a,e,f,d] 1).run au b=.ok (J U a) b:=by kernel_rfl
def YV (d e f:Int) (a b:Bool) (c:aB):(part 149 #[d,e,a,b,f] 2).run au c=.ok (aS #[a,b]) c:=by kernel_rfl
def YW (c d a:Int) (e f:Bool) (b:aB):(part 3 #[c,d,e,f,a] 4).run au b=.ok (J U a) b:=by kernel_rfl
def OZ (a b:Int) (c d:Bool) (e:Int) (f g:Int) (h i:Bool) (j:Int):Bool:=decide (a=f)&&(decide (b=g)&&(((c==h)&&(d==i))&&decide (e=j)))
def zaB (e f b g h i:Int) (c d j k:Bool) (a:aB):
  (binOp .eql 151 (aS #[e,f,c,d,b]) (aS #[g,h,j,k,i])).run au a=.ok (aO (OZ e f c d b g h j k i)) a:=by
 have m:∀l:Nat,(Op.equalIn (l+3) 151 (aS #[e,f,c,d,b]) (aS #[g,h,j,k,i])).run au a=
   .ok (OZ e f c d b g h j k i) a:=fun l=>by
  rw[run_equalIn_struct a (l+2) 151 _ _ (by rw[Program.fieldsOf,underlying151]) Y3];rw[Program.fieldsOf,underlying151];unfold OZ;have n:=fun o b a=>YS (l+1) o b a;have o:=fun c d p q a=>YR l c d p q a;by_cases a:e=g<;>by_cases l:f=h<;>by_cases p:b=i<;>cases c<;>cases d<;>cases j<;>cases k<;>simp[Op.eqFields,YT,YU,YV,YW,n,o,a,l,p]
 simp only[binOp];simp[Op.equal,Op.maxDepth,m 9997]
def Vg (a b c d:Bool) (e:aB):(binOp .neq 149 (aS #[a,b]) (aS #[c,d])).run au e=.ok (aO (!((a==c)&&(b==d)))) e:=by cases a<;>cases b<;>cases c<;>cases d<;>kernel_rfl
def Vh (a b c d:Bool) (e:aB):(binOp .eql 149 (aS #[a,b]) (aS #[c,d])).run au e=.ok (aO ((a==c)&&(b==d))) e:=by cases a<;>cases b<;>cases c<;>cases d<;>kernel_rfl
def ko (a:Int):Bool:=decide (a=0)||decide (a=1)
def dN {a:Int} (b:ko a=true):a=0∨a=1:=by simpa[ko]using b
def rG {a:Int} (b:ko a=false):a≠0∧a≠1:=by simpa[ko]using b
def LX (a:Int) (b:aB) (c:ko a=true):aF au 150 #[a] b fun a d=>a=av true∧b=d:=by
 rcases dN c with rfl|rfl
 all_goals
  clear c;go_enter func150,ntmps150;go_wp2;go_ret;exact Y5
def Pb (a:Int) (c:aB) (b:ko a=false):aF au 150 #[a] c fun d e=>d=av false∧c=e:=by
 have c:(a==0)=false:=by simpa using(rG b).1
 have c:(a==1)=false:=by simpa using(rG b).2
 clear b;go_enter func150,ntmps150;go_wp2;go_ret;exact Y5
def fZ (a:Int) (b:aB) (c:Bool) (d:ko a=c):aF au 150 #[a] b fun e f=>e=av c∧b=f:=by
 cases c
 ·exact Pb a b d
 ·exact LX a b d
def iR (a e:Int) (c d:Bool) (b:Int):Bool:=
 ko e&&(if a=0∨a=1 then(!c&& !d&&decide (b=0))else if a=2 then((!c&& !d&&decide (b=0))&&decide (e=1))else if a=3 then(decide (b=0)&& !(c&&d))else if a=4 then((!c&& !d)&&decide (0≤b)&&decide (b≤2))else false)
def DU (d b:Int) (e f:Bool) (g:Int) (a:aB) (c:ko b=false):
  aF au 228 #[aS #[d,b,e,f,g]] a fun b d=>b=av false∧aJ a a d:=by have a:=aj c;clear c;go_enter func228,ntmps228;go_wp2_with (go_at_call 150;refine(fZ _ _ false a.o).mono ?_;rintro b c ⟨rfl,rfl⟩);go_ret;exact⟨rfl,((ay _ _).alloc (aD _) _).alloc Y1 _⟩
def LY (b c:Int) (e f:Bool) (g:Int) (a:aB) (i:ko c=true):
  aF au 228 #[aS #[b,c,e,f,g]] a fun h d=>h=av (aO (iR b c e f g))∧aJ a a d:=by
 have a:= @zaB;have d:=aj i;clear i;by_cases a:b=0∨b=1
 ·rcases a with rfl|rfl
  all_goals
   go_enter func228,ntmps228;go_wp2_with (go_at_call 150;refine(fZ _ _ true d.o).mono ?_;rintro h i ⟨rfl,rfl⟩);go_ret;exact⟨fB (by simp[iR,OZ,d.o]),((ay _ _).alloc (aD _) _).alloc Y1 _⟩
 ·have k:(b==0)=false:=by simp;omega
  have l:(b==1)=false:=by simp;omega
  have o:=aj a;clear a;by_cases m:b=2
  ·subst m;have a:(c==1)=decide (c=1):=rfl;obtain⟨j,a⟩:=exq (OZ 2 c e f g 2 c false false 0);clear k l;cases j;all_goals
    go_enter func228,ntmps228;go_wp2_with (go_at_call 150;refine(fZ _ _ true d.o).mono ?_;rintro h i ⟨rfl,rfl⟩);go_ret;simp only[OZ]at a;refine⟨fB ?_,((ay _ _).alloc (aD _) _).alloc Y1 _⟩;simp[iR,d.o];cases e<;>cases f<;>simp at a<;>simp[a]
  ·have n:(b==2)=false:=by simp;omega
   have p:=aj m;clear m;by_cases m:b=3
   ·subst m;obtain⟨j,a⟩:=exq (OZ 3 c e f g 3 c e f 0);have q:=Vg;clear k l n;cases j;all_goals
     go_enter func228,ntmps228;go_wp2_with (go_at_call 150;refine(fZ _ _ true d.o).mono ?_;rintro h i ⟨rfl,rfl⟩);go_ret;simp only[OZ]at a;refine⟨fB ?_,(((ay _ _).alloc (aD _) _).alloc Y1 _)⟩;simp[iR,d.o];cases e<;>cases f<;>simp at a<;>simp[a]
   ·have q:(b==3)=false:=by simp;omega
    have r:=aj m;clear m;by_cases m:b=4
    ·subst m;obtain⟨j,a⟩:=exq (OZ 4 c e f g 4 c false false g);clear k l n q;cases j
     ·go_enter func228,ntmps228;go_wp2_with (go_at_call 150;refine(fZ _ _ true d.o).mono ?_;rintro h i ⟨rfl,rfl⟩);go_ret;simp only[OZ]at a;refine⟨fB ?_,(((ay _ _).alloc (aD _) _).alloc Y1 _)⟩;simp[iR,d.o];cases e<;>cases f<;>simp at a<;>simp[a]
     ·by_cases c:0≤g;all_goals
       go_enter func228,ntmps228;go_wp2_with (go_at_call 150;refine(fZ _ _ true d.o).mono ?_;rintro h i ⟨rfl,rfl⟩);go_ret;simp only[OZ]at a;refine⟨fB ?_,(((ay _ _).alloc (aD _) _).alloc Y1 _)⟩;simp[iR,d.o];cases e<;>cases f<;>simp at a<;>(try simp[c])<;>(try omega)
    ·have a:(b==4)=false:=by simp;omega
     have a:=aj m;clear m;go_enter func228,ntmps228;go_wp2_with (go_at_call 150;refine(fZ _ _ true d.o).mono ?_;rintro h i ⟨rfl,rfl⟩);go_ret;refine⟨fB ?_,(((ay _ _).alloc (aD _) _).alloc Y1 _)⟩;rw[iR,aL o.o,aL p.o,aL r.o,aL a.o];simp
def Ba (b a:Int) (c d:Bool) (e:Int) (f:aB) (h:Bool) (i:iR b a c d e=h):
  aF au 228 #[aS #[b,a,c,d,e]] f fun g j=>g=av h∧aJ f f j:=by
 rw[←i];by_cases h:ko a=true
 ·exact LY b a c d e f h
 ·have i:ko a=false:=Y6 h;have:=DU b a c d e f i;have g:iR b a c d e=false:=by simp[iR,i]
  rw[g];exact this
def rH {a b c d:Int} (e:(a,b)=(c,d)):av (aN #[a,b])=av (aN #[c,d]):=by injection e with a b;rw[a,b]
def yE (b:Int) (a:Bool) (c:aB):aF au 306 #[b,a] c fun d e=>d=av (aN #[J U (if a then 1 else 3),J U (if a then 0 else b)])∧c=e:=by
 cases a;all_goals
  go_enter func306,ntmps306;go_wp2;go_ret2;exact Y5
def Pd (b a:Int):Bool:=if a=1 then decide (b=1)else if a=8 then decide (b=0)else decide (a=3)
def Ce (a b:Int) (c:aB):aF au 308 #[a,b] c fun d e=>d=av (aO (Pd a b))∧c=e:=by
 go_enter func308,ntmps308;go_wp2;all_goals
  go_ret;refine⟨fB ?_,rfl⟩;unfold Pd;simp_all;try rfl
def yF (a b c:Int):Int×Int:=(3,if c=1∧b=a then 11 else 16)
def DV (e b f c d:Int) (g h:Bool) (a:aB):aF au 307 #[aS #[e,b,g,h,f],c,d] a fun e f=>
  e=av (aN #[J U (yF b c d).1,J U (yF b c d).2])∧aJ a a f:=by
 by_cases a:d=1
 ·have h:(d==1)=true:=Y6 a;by_cases e:c=b
  ·have i:(c==b)=true:=Y6 e;have f:=aj a;have g:=aj e;clear e a;go_enter func307,ntmps307;go_wp2;go_ret2;exact⟨rH (by simp[yF,f.o,g.o]),(ay _ _).alloc (aD _) _⟩
  ·have i:(c==b)=false:=Y6 e;have g:=aj e;clear e a;go_enter func307,ntmps307;go_wp2;go_ret2;exact⟨rH (by simp[yF,g.o]),(ay _ _).alloc (aD _) _⟩
 ·have h:(d==1)=false:=Y6 a;have f:=aj a;clear a;go_enter func307,ntmps307;go_wp2;go_ret2;exact⟨rH (by simp[yF,f.o]),(ay _ _).alloc (aD _) _⟩
def uF (a c b:Int) (d:Bool):Int×Int:=
 if d=false then(3,16)else if a=c then(3,15)else if a=2∧b≠3∧b≠8 then(3,14)else(2,0)
def GV (f g b c d:Int) (h i a:Bool) (e:aB):aF au 309 #[aS #[f,g,h,i,b],c,d,a] e fun f g=>
  f=av (aN #[J U (uF b c d a).1,J U (uF b c d a).2])∧aJ e e g:=by
 cases a;all_goals
  go_enter func309,ntmps309;go_wp2;all_goals
   go_ret2;refine⟨rH ?_,(ay _ _).alloc (aD _) _⟩;unfold uF;simp_all
def DW (a b:Int) (c:Bool) (d e:Int) (f:Bool):Int×Int:=
 if(a=3∧c=false∨a=4∧d=0∧f=true)∧e=1∧b=0 then(1,0)else(3,22)
def DX (a b c d:Int) (h e f:Bool) (g:aB):aF au 305 #[aS #[a,b,h,e,c],d,f] g fun h i=>
  h=av (aN #[J U (DW a b e c d f).1,J U (DW a b e c d f).2])∧aJ g g i:=by
 go_enter func305,ntmps305;go_wp2_with (go_at_call 306;refine(yE _ _ _).mono ?_;rintro h a ⟨rfl,rfl⟩);all_goals
  go_ret2;refine⟨rH ?_,(ay _ _).alloc (aD _) _⟩;unfold DW;simp_all
def GX (c d:Int) (g e:Bool) (f b a:Int) (h:Bool):Int×Int:=
 if iR c d g e f=false∨ko b=false then(0,0)
 else if a=2 then(2,0)
 else if a=5 then DW c d e f b h
 else if a≠0∧a≠1∧a≠3∧a≠8 then(0,0)
 else if c=0 then(if a=1∧b=0∧d=0 then(1,0)else(3,10))
 else if c=1 then yF d b a
 else if c=2 then(if Pd b a then(1,0)else(3,12))
 else if c=3 then(if(a=0∨a=1)∧(if b=0 then g else e)=true then(3,13)else(1,0))
 else uF f b a h
set_option maxRecDepth 100000 in
def vN (d e f a i:Int) (g h j:Bool) (b:aB) (k:iR d e g h f=true) (m:ko a=true):aF au 276 #[aS #[d,e,g,h,f],a,i,j] b fun c l=>
  c=av (aN #[J U (GX d e g h f a i j).1,J U (GX d e g h f a i j).2])∧aJ b b l:=by
 have n:=aj k;have l:=aj m;clear k m;go_enter func276,ntmps276;go_wp2_with fail;refine mB (Ba _ _ _ _ _ _ true n.o) fun i a=>?_;have j:=wP a;have k:bH i b 151 #[d,e,g,h,f]:=(bH.d _ _ _).b a;clear a;have m:=k.H 0;have d:=k.H 1;have d:=k.H 2;have d:=k.H 3;have d:=k.H 4;go_wp2_with fail;refine mB (fZ _ _ true l.o) ?_;rintro b rfl;rcases dN l.o with rfl|rfl
 all_goals
  have e:=trivial;go_wp2_with (first|(go_at_call 305;refine(DX _ _ _ _ _ _ _ _).mono ?_;rintro c b ⟨rfl,a⟩;have d:=bG j a;clear a)|(go_at_call 306;refine(yE _ _ _).mono ?_;rintro c b ⟨rfl,rfl⟩;have d:=j)|(go_at_call 307;refine(DV _ _ _ _ _ _ _ _).mono ?_;rintro c b ⟨rfl,a⟩;have d:=bG j a;clear a)|(go_at_call 308;refine(Ce _ _ _).mono ?_;rintro c b ⟨rfl,rfl⟩)|(go_at_call 309;refine(GV _ _ _ _ _ _ _ _ _).mono ?_;rintro c b ⟨rfl,a⟩;have d:=bG j a;clear a));all_goals
   go_ret2;refine⟨rH ?_,by first|exact d|exact j⟩;have f:=n.o;have g:=l.o;unfold GX;simp_all;done
structure Stt where
 k:Int
 o:Int
 a:Bool
 b:Bool
 y:Int
instance:Coe Stt (Array Value):=⟨fun s=>#[s.k,s.o,s.a,s.b,s.y]⟩
def Stt.v (a:Stt):aI:=aS a
def gI (a b:Int) (c d:Bool) (e f:Int):Stt:=
 if a≠3∨ko f=false then⟨a,b,c,d,e⟩
 else if(if f=0 then d else c)=true then⟨4,b,false,false,2⟩
 else if f=0 then⟨a,b,true,d,e⟩else⟨a,b,c,true,e⟩
def mD (a b:Int) (d e:Bool) (f c:Int):Stt:=
 if(a≠2∧a≠3)∨ko c=false then⟨a,b,d,e,f⟩else⟨4,b,false,false,c⟩
def Bb {a b c d:Int} {e f:Bool} (g:a≠3∨ko d=false):gI a b e f c d=⟨a,b,e,f,c⟩:=by rw[gI,aP g]
def wR {a b c d:Int} {e f:Bool} (g:(a≠2∧a≠3)∨ko d=false):mD a b e f c d=⟨a,b,e,f,c⟩:=by rw[mD,aP g]
def GY {a c d b:Int} {e f:Bool} (g:¬((a≠2∧a≠3)∨ko b=false)):mD a c e f d b=⟨4,c,false,false,b⟩:=by rw[mD,aL g]
def DY (i a:Int) (g h:Bool) (b c:Int) (e:aB):
  aF au 147 #[aS #[i,a,g,h,b],c] e fun d f=>d=av (gI i a g h b c).v∧aJ e e f:=by
 by_cases j:i=3
 ·subst j;obtain⟨f,e⟩:=exq (ko c);cases f
  ·have c:=aj e;rw[Bb (.inr e)];clear e;go_enter func147,ntmps147;go_wp2_with fail;refine mB (fZ _ _ false c.o) ?_;rintro f rfl;go_wp2_with fail;refine aG (v:=aS #[J U 3,a,g,h,b]) (by simp[results,results147,go_sem]) rfl ⟨rfl,?_⟩;exact((ay _ _).alloc (aD _) _).alloc Y1 _
  ·have k:=Vh;rcases dN e with rfl|rfl
   ·have c:=aj e;clear e;cases g<;>cases h
    ·rw[show gI 3 a false false b 0=⟨3,a,true,false,b⟩from by simp[gI,ko]];go_enter func147,ntmps147;go_wp2_with fail;refine mB (fZ _ _ true c.o) ?_;rintro f rfl;go_wp2_with fail;refine aG (v:=aS #[J U 3,a,true,false,b]) (by simp[results,results147,go_sem]) rfl ⟨rfl,?_⟩;exact((ay _ _).alloc (aD _) _).alloc Y1 _
    ·rw[show gI 3 a false true b 0=⟨4,a,false,false,2⟩from by simp[gI,ko]];go_enter func147,ntmps147;go_wp2_with fail;refine mB (fZ _ _ true c.o) ?_;rintro f rfl;go_wp2_with fail;refine aG (v:=aS #[J U 4,a,false,false,J U 2]) (by simp[results,results147,go_sem]) rfl ⟨rfl,?_⟩;exact((ay _ _).alloc (aD _) _).alloc Y1 _
    ·rw[show gI 3 a true false b 0=⟨3,a,true,false,b⟩from by simp[gI,ko]];go_enter func147,ntmps147;go_wp2_with fail;refine mB (fZ _ _ true c.o) ?_;rintro f rfl;go_wp2_with fail;refine aG (v:=aS #[J U 3,a,true,false,b]) (by simp[results,results147,go_sem]) rfl ⟨rfl,?_⟩;exact((ay _ _).alloc (aD _) _).alloc Y1 _
    ·rw[show gI 3 a true true b 0=⟨4,a,false,false,2⟩from by simp[gI,ko]];go_enter func147,ntmps147;go_wp2_with fail;refine mB (fZ _ _ true c.o) ?_;rintro f rfl;go_wp2_with fail;refine aG (v:=aS #[J U 4,a,false,false,J U 2]) (by simp[results,results147,go_sem]) rfl ⟨rfl,?_⟩;exact((ay _ _).alloc (aD _) _).alloc Y1 _
   ·have c:=aj e;clear e;cases g<;>cases h
    ·rw[show gI 3 a false false b 1=⟨3,a,false,true,b⟩from by simp[gI,ko]];go_enter func147,ntmps147;go_wp2_with fail;refine mB (fZ _ _ true c.o) ?_;rintro f rfl;go_wp2_with fail;refine aG (v:=aS #[J U 3,a,false,true,b]) (by simp[results,results147,go_sem]) rfl ⟨rfl,?_⟩;exact((ay _ _).alloc (aD _) _).alloc Y1 _
    ·rw[show gI 3 a false true b 1=⟨3,a,false,true,b⟩from by simp[gI,ko]];go_enter func147,ntmps147;go_wp2_with fail;refine mB (fZ _ _ true c.o) ?_;rintro f rfl;go_wp2_with fail;refine aG (v:=aS #[J U 3,a,false,true,b]) (by simp[results,results147,go_sem]) rfl ⟨rfl,?_⟩;exact((ay _ _).alloc (aD _) _).alloc Y1 _
    ·rw[show gI 3 a true false b 1=⟨4,a,false,false,2⟩from by simp[gI,ko]];go_enter func147,ntmps147;go_wp2_with fail;refine mB (fZ _ _ true c.o) ?_;rintro f rfl;go_wp2_with fail;refine aG (v:=aS #[J U 4,a,false,false,J U 2]) (by simp[results,results147,go_sem]) rfl ⟨rfl,?_⟩;exact((ay _ _).alloc (aD _) _).alloc Y1 _
    ·rw[show gI 3 a true true b 1=⟨4,a,false,false,2⟩from by simp[gI,ko]];go_enter func147,ntmps147;go_wp2_with fail;refine mB (fZ _ _ true c.o) ?_;rintro f rfl;go_wp2_with fail;refine aG (v:=aS #[J U 4,a,false,false,J U 2]) (by simp[results,results147,go_sem]) rfl ⟨rfl,?_⟩;exact((ay _ _).alloc (aD _) _).alloc Y1 _
 ·rw[Bb (.inl j)];have c:(i !=3)=true:=Y6 j;clear j;go_enter func147,ntmps147;go_wp2_with fail;refine aG (v:=aS #[i,a,g,h,b]) (by simp[results,results147,go_sem]) rfl ⟨rfl,?_⟩;exact((ay _ _).alloc (aD _) _).alloc Y1 _
def zci (a c:Int) (e f:Bool) (g d:Int) (b:aB):
  aF au 106 #[aS #[a,c,e,f,g],d] b fun h i=>h=av (mD a c e f g d).v∧aJ b b i:=by
 by_cases b:a≠2∧a≠3
 ·rw[wR (.inl b)];have i:(a !=2)=true:=Y6 b.1;have i:(a !=3)=true:=Y6 b.2;clear b;go_enter func106,ntmps106;go_wp2_with fail;refine aG (v:=aS #[a,c,e,f,g]) (by simp[results,results106,go_sem]) rfl ⟨rfl,?_⟩;exact((ay _ _).alloc (aD _) _).alloc Y1 _
 ·have i:a=2∨a=3:=Y0;obtain⟨k,a⟩:=exq (ko d);have j:=aj a;cases k
  ·rw[wR (.inr a)];have k:(d !=0)=true:=by simpa using(rG a).1
   have k:(d !=1)=true:=by simpa using(rG a).2
   clear a b;rcases i with rfl|rfl
   all_goals
    go_enter func106,ntmps106;go_wp2_with fail;refine mB (fZ _ _ false j.o) ?_;rintro k rfl;go_wp2_with fail;refine aG (v:=aS #[_,c,e,f,g]) (by simp[results,results106,go_sem]) rfl ⟨rfl,?_⟩;exact((ay _ _).alloc (aD _) _).alloc Y1 _
  ·rw[GY (by rintro(d|d);exact b d;rw[a]at d;cases d)];clear b;rcases dN a with rfl|rfl<;>clear a<;>rcases i with rfl|rfl
   all_goals
    go_enter func106,ntmps106;go_wp2_with fail;refine mB (fZ _ _ true j.o) ?_;rintro k rfl;go_wp2_with fail;refine aG (v:=aS #[J U 4,c,false,false,_]) (by simp[results,results106,go_sem]) rfl ⟨rfl,?_⟩;exact((ay _ _).alloc (aD _) _).alloc Y1 _
end Go.Proofs.YtdcacpeaimjdlaaGreatDoor
