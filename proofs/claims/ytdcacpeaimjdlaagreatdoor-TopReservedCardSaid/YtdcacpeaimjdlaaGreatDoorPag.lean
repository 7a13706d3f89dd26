/- Part of the proof. -/
import Derived.Test.YtdcacpeaimjdlaaGreatDoorPaf
import Derived.Deep.RegionWith
import Derived.Laws.Tables
namespace Go.Proofs.YtdcacpeaimjdlaaGreatDoor
open Go.RowKit Go.Maps Go.Proofs.Tryz Mq MFr
open Go.Value renaming int→J,slice→Z,string→aA,pointer→aK,bool→aO,tuple→aN,agg→aS,complex→aH
open Go.IntKind renaming i64→U
open Option renaming none→O,some→R
open Go.Ending renaming returned→av
open Go renaming World→aB,Value→aI,Calls→aF,Addr→aX,TypeId→bB,undef→bq
open Go.RowKit renaming Below→aJ
open Go.Proofs.Tryz renaming prog→au
open Go.FloatKind renaming f64→aW
set_option maxRecDepth 20000
set_option maxHeartbeats 0
set_option linter.all false
def sz (a:Nat):Nat:=641955382321912194599792288565958003953670364411391622815011922051883476648353700098758403018446105835708691112309118709977125562878580752221511802022391798247357707470344048826597114901107676810096344736435271221506714532622565799831040962835700045010847411177001988163449983113752153488019000501875942907138091160383928438928139044531258407706737907420343299405533132849564897785049837/32^a%32
def od (a:Nat):Nat:=958126711861008924174727833134821517044029075559507188719750788970182944804540306620444057187600138107764483860295479627263777434921667296999483736597070627616921661135665514611317435697355120637746800114239126834050841505713246491234273502705996029930893736447259982488481085938917664474295011285251839597906849379801022003800340750811599200550167858470268856741576264419129331266417873177907160045854938773359811046872187554350749925755064485645122805161509370849221920574670787962009527179559520254283871060785008489223081264582225926838138464884275047431841091939508493491620159687185017823424462619195396351932368334201780248398263004638724943865472514789205536560358458300423227691976122928/512^a%512
def jD (a:Nat):Nat→Nat
 |0=>0
 |b+1=>jD a b+if sz b=a then 1 else 0
def xM (b:Nat):Nat→List Nat
 |0=>[]
 |a+1=>if sz a=b then xM b a++[a]else xM b a
def fs:Nat→Nat
 |0=>0
 |a+1=>2*(fs a+jD a 257)
def eB:Nat→List Nat
 |0=>[]
 |a+1=>eB a++xM (a+1) 257
def Zi (a:Nat):Nat:=fs (sz a)+jD (sz a) a
def yT:∀a,a<257→5≤sz a∧sz a≤30:=by decide+kernel
def kX (b:Nat):∀a,(xM b a).length=jD b a
 |0=>rfl
 |a+1=>by
  unfold xM jD
  split
  ·rw[bL,kX b a];rfl
  ·rw[kX b a];rfl
def Qa (a:Nat) {b c:Nat} (d:b≤c):jD a b≤jD a c:=by
 induction d with
 |refl=>exact aD _
 |step _ a=>exact aR a (Nat.le_add_right _ _)
def Ig (b:Nat):∀a,jD b a≤a
 |0=>aD _
 |a+1=>by unfold jD;have:=Ig b a;split<;>omega
def yU:∀a,a<31→fs a+jD a 257≤1073741824:=by decide+kernel
def Kq:∀a,a<31→(eB a).length≤257:=by decide+kernel
def Cr:eB 30=(List.range 257).map od:=by decide+kernel
def Ih (d:Nat):∀e b c,(xM d e)[b]?=R c→jD d c=b∧sz c=d∧c<e
 |0,b,c,a=>by simp[xM]at a
 |e+1,b,c,a=>by
  unfold xM at a
  split at a
  ·rename_i i
   by_cases f:b<(xM d e).length
   ·rw[dh f]at a
    have:=Ih d e b c a
    exact⟨this.1,this.2.1,Y0⟩
   ·rw[cB Y0]at a
    have h:b- (xM d e).length=0:=by
     have:=(aU.1 a).1
     simp at this;omega
    rw[h]at a
    simp at a
    subst a
    rw[kX]at f h
    exact⟨Y0,i,Y0⟩
  ·have:=Ih d e b c a
   exact⟨this.1,this.2.1,Y0⟩
def Qb:∀(a m:Nat),m<a→∀b c,(xM (m+1) 257)[b]?=R c→(eB a)[(eB m).length+b]?=R c
 |0,m,e,_,_,_=>Y0
 |a+1,m,e,b,c,d=>by
  rw[show eB (a+1)=eB a++xM (a+1) 257 from rfl]
  by_cases f:m=a
  ·subst f
   rw[cB Y0]
   rw[show(eB m).length+b- (eB m).length=b from Y0];exact d
  ·have:=Qb a m Y0 b c d
   rw[dh (aU.1 this).1];exact this
def mG:ByteArray:={data:=#[73,83,88,88,88,88,88,88,88,84,90,88,88,90,88,88,88,88,88,88,88,88,90,88,88,88,88,88,88,88,88,88,66,70,70,72,73,66,68,71,70,70,68,71,68,66,66,66,65,65,65,66,66,66,66,66,66,66,67,68,75,66,72,70,73,66,67,67,67,67,67,67,67,67,67,67,67,67,67,67,67,67,67,67,67,67,67,67,68,67,68,73,79,73,74,66,75,65,66,65,66,65,66,66,66,65,67,67,66,66,66,65,66,67,66,65,65,66,67,67,67,67,67,75,71,74,73,88,80,82,80,80,82,82,82,83,82,83,83,83,83,83,84,83,84,84,82,83,84,83,83,83,83,81,82,83,82,83,83,84,82,81,80,82,82,83,83,81,83,82,82,84,81,82,83,83,81,81,82,81,83,82,83,83,80,82,82,82,83,82,82,83,86,86,80,79,82,83,82,85,86,86,86,87,87,86,84,85,79,81,86,87,87,86,87,84,81,81,86,86,88,87,87,87,80,84,80,81,82,81,81,83,82,82,85,85,84,84,86,83,86,87,86,86,87,87,87,87,87,88,87,87,87,87,87,86,90]}
def oU:mG.size=257:=by decide+kernel
def Eu:mG.data.toList.length=257:=by decide+kernel
def Ii:∀a,a<257→mG.data.toList[a]?=R (UInt8.ofNat (60+sz a)):=by decide+kernel
def Ev (a:Nat) (b:a<257) (w:aB):(Instr.index 9 (aA mG) (J U a)).run au w=.ok (J .u8 ((60+sz a:Nat):Int)) w:=by
 rw[run_index_string (P:=au) w 9 mG U a underlying9,dif_pos ⟨Y0,by rw[oU];omega⟩];have c:=Ii a b;have d:mG[((a:Nat):Int).toNat]'(by rw[oU];omega)=UInt8.ofNat (60+sz a):=by
  have e:((a:Nat):Int).toNat=a:=Y0;have f:mG.data.toList[a]?=R (mG[a]'(by rw[oU];omega)):=by rw[aQ (by rw[Eu];exact b)];rfl
  rw[f]at c;simp only[e];exact Option.some.inj c
 rw[d];have:=(yT a b);have b:(UInt8.ofNat (60+sz a)).toNat=60+sz a:=by rw[UInt8.toNat_ofNat'];omega
 rw[b]
set_option maxRecDepth 100000 in
def Ij (a:Nat) (w:aB) (b:a<257):aF au 273 #[a] w fun c w'=>c=av (J U (sz a:Nat))∧w=w':=by
 have c:=Ev a b;obtain⟨c,d⟩:=yT a b;go_enter func273,ntmps273;change Code.wp _ _ _ _ _;generalize b:ByteArray.mk _=c;have d:c=mG:=by rw[←b];kernel_rfl
 clear b;subst d;go_wp2;go_ret;refine⟨?_,rfl⟩;show av (J U (60+(sz a:Int)-65+5))=_
 exact JX Y0
def xZ (g:Nat) (a:Int) (w:aB) (b:w.cell? ⟨g,0,O⟩=R (aO true)) (b:0≤a) (b:a≤256):aF au 275 #[qp g,a] w fun a w'=>a=av true∧w=w':=by go_enter func275,ntmps275;go_wp2;go_ret;exact Y5
def Bk (w:aB) (g:Nat) (cv:Nat→aI):Prop:=∃a:Array aI,bH w g 388 a∧a.size=352∧∀b,b<352→a[b]?=R (cv b)
section
variable {w w':aB} {g:Nat} {cv cv':Nat→aI}
def Bk.f (a:Bk w g cv):g<w.heap.size:=by obtain⟨c,b,_⟩:=a;exact b.e
def Bk.a (b:Bk w g cv) {a:Nat} (c:a<352):w.cell? ⟨g,a,O⟩=R (cv a):=by obtain⟨f,d,_,e⟩:=b;rw[d.a];exact e a c
def Bk.c (b:Bk w g cv) (a:Nat):w.frozen? ⟨g,a,O⟩=false:=by obtain⟨d,c,_⟩:=b;exact c.c a
def Bk.e (a:Bk w g cv) (o:Obj):Bk (w.alloc o) g cv:=by obtain⟨b,c,d⟩:=a;exact⟨b,c.h o,d⟩
def Bk.h (a:Bk w g cv):Bk w.drew g cv:=a
def Bk.i (a:Bk w g cv) (b:aJ w w w'):Bk w' g cv:=by obtain⟨c,d,e⟩:=a;exact⟨c,d.b b,e⟩
def Bk.j {a:Option Nat} (b:Bk w g cv) (c:w.grownBy w' a) (d:R g≠a):Bk w' g cv:=by obtain⟨a,e,f⟩:=b;exact⟨a,e.u c d,f⟩
def Bk.d (d:Bk w g cv) (b:Nat) (c:aI):Bk (w.setCell ⟨g,b,O⟩ c) g (fun a=>if a=b then c else cv a):=by
 obtain⟨i,e,f,h⟩:=d;refine⟨_,e.f b c,Y6 f,fun a d=>?_⟩;rw[Array.getElem?_setIfInBounds];show _=R (if a=b then c else cv a)
 by_cases c:a=b
 ·subst c;rw[aP rfl,aP Y0,aP rfl]
 ·rw[aL (fun b=>c b.symm),aL c];exact h a d
def Bk.b (b:Bk w g cv) (c:∀a,a<352→cv a=cv' a):Bk w g cv':=by obtain⟨d,e,f,h⟩:=b;exact⟨d,e,f,fun a b=>by rw[h a b,c a b]⟩
end
def bv (m:Bool) (C:Nat→Nat) (o:aI) (F N P:Nat→Nat) (a:Nat):aI:=
 if a=0 then aO m else if a<258 then J U (C (a-1):Nat)else if a=258 then o else if a<290 then J U (F (a-259):Nat)else if a<321 then J U (N (a-290):Nat)else J U (P (a-321):Nat)
def zr (_:Nat):Nat:=0
def iA (m:Bool):Array aI:=(aO m::(List.replicate 257 (J U 0)++(Z O 0 0::List.replicate 93 (J U 0)))).toArray
def Mv (m:Bool):(iA m).size=352:=by cases m<;>decide+kernel
def Ik (m:Bool) (a:Nat) (b:a<352):(iA m)[a]?=R (bv m zr (Z O 0 0) zr zr zr a):=by
 unfold iA bv zr;rw[List.getElem?_toArray];rcases a with _|a
 ·rfl
 ·rw[List.getElem?_cons_succ,aL Y0];by_cases b:a+1<258
  ·rw[aP b,dh (by rw[List.length_replicate];omega),List.getElem?_replicate,aP Y0];rfl
  ·rw[aL b,cB (by rw[List.length_replicate];omega),List.length_replicate];by_cases b:a+1=258
   ·rw[aP b,show a-257=0 from Y0];rfl
   ·rw[aL b,show a-257=(a-258)+1 from Y0,List.getElem?_cons_succ,List.getElem?_replicate,aP Y0];split
    ·rfl
    ·split<;>rfl
def Bk.k (w:aB) (m:Bool):Bk (w.alloc (.cells (iA m) 388)) w.heap.size (bv m zr (Z O 0 0) zr zr zr):=⟨_,bH.d _ _ _,Mv m,Ik m⟩
def Il:Tryz.prog.built 388 [(0,aO true)]=R (iA true):=by kernel_rfl
def Ew {b:Array Oper} {c:List Oper} {o:Oper} {a:Act} {w:aB} {d:Exit→Act→aB→Prop} (f:o.guard=O) (h:o.op=.build 388 #[(0,.const (aO true))])
  (e:wpList au b d c (a.put o.dst (aS (iA true))) w):wpList au b d (o::c) a w:=by
 obtain⟨b,c⟩:∃b,b=au:=⟨_,rfl⟩;have d:=Il;rw[←c]at d e⊢;clear c;have c:b.built 388 ((#[(0,Operand.const (aO true))]:Array (Nat×Operand)).map fun(i,j)=>(i,a.eval j)).toList=R (iA true):=by simpa[Act.eval]using d
 refine wpList_build f 388 _ h (by rw[c];exact Option.isSome_some) ?_;rw[c];exact e
def yV {b:Array Oper} {c:List Oper} {o:Oper} {a:Act} {w:aB} {d:Exit→Act→aB→Prop} {e:Operand} (f:o.guard=O) (h:o.op=.box 388 e) (i:a.eval e=aS (iA true))
  (e:wpList au b d c (a.put o.dst (aK (R ⟨w,0,O⟩))) (w.alloc (.cells (iA true) 388))):wpList au b d (o::c) a w:=by
 refine wpList_plain f fun _ a=>?_;unfold Oper.wp execOp;have b:(Instr.box 388 (aS (iA true))).run au w=.ok (aK (R ⟨w,0,O⟩)) (w.alloc (.cells (iA true) 388)):=by simp[Instr.box,go_sem]
 simp only[h,i,Sem.run_bind,b,Result.andThen_ok];exact a _ _ e
def uO (m:Bool) (C F N P:Nat→Nat) (o:aI) (a:Nat) (b:a<31):bv m C o F N P (290+a)=J U (N a:Nat):=by unfold bv;rw[aL Y0,aL Y0,aL Y0,aL Y0,aP Y0,show 290+a-290=a from Y0]
def uP (m:Bool) (C F N P:Nat→Nat) (o:aI) (a:Nat) (b:a<31):bv m C o F N P (259+a)=J U (F a:Nat):=by unfold bv;rw[aL Y0,aL Y0,aL Y0,aP Y0,show 259+a-259=a from Y0]
def Kr (m:Bool) (C F N P:Nat→Nat) (o:aI) (a:Nat) (b:a<31):bv m C o F N P (321+a)=J U (P a:Nat):=by unfold bv;rw[aL Y0,aL Y0,aL Y0,aL Y0,aL Y0,show 321+a-321=a from Y0]
def Vw (m:Bool) (C F N P:Nat→Nat) (o:aI) (a:Nat) (b:a<257):bv m C o F N P (1+a)=J U (C a:Nat):=by unfold bv;rw[aL Y0,aP Y0,show 1+a-1=a from Y0]
section
variable {w:aB} {g:Nat} {m:Bool} {C F N P:Nat→Nat} {o:aI}
def Bk.l (d:Bk w g (bv m C o F N P)) (a c:Nat) (e:a<31):Bk (w.setCell ⟨g,290+a,O⟩ (J U (c:Nat))) g (bv m C o F (fun b=>if b=a then c else N b) P):=
 (d.d _ _).b fun b c=>by
  by_cases c:b=290+a
  ·subst c;rw[aP rfl,uO _ _ _ _ _ _ _ e,aP rfl]
  ·rw[aL c]
   unfold bv
   (try dsimp only)
   repeat' split
   all_goals first|(exfalso;omega)|rfl
def Bk.n (d:Bk w g (bv m C o F N P)) (a c:Nat) (e:a<31):Bk (w.setCell ⟨g,259+a,O⟩ (J U (c:Nat))) g (bv m C o (fun b=>if b=a then c else F b) N P):=
 (d.d _ _).b fun b c=>by
  by_cases c:b=259+a
  ·subst c;rw[aP rfl,uP _ _ _ _ _ _ _ e,aP rfl]
  ·rw[aL c]
   unfold bv
   (try dsimp only)
   repeat' split
   all_goals first|(exfalso;omega)|rfl
def Bk.p (d:Bk w g (bv m C o F N P)) (a c:Nat) (e:a<31):Bk (w.setCell ⟨g,321+a,O⟩ (J U (c:Nat))) g (bv m C o F N (fun b=>if b=a then c else P b)):=
 (d.d _ _).b fun b c=>by
  by_cases c:b=321+a
  ·subst c;rw[aP rfl,Kr _ _ _ _ _ _ _ e,aP rfl]
  ·rw[aL c]
   unfold bv
   (try dsimp only)
   repeat' split
   all_goals first|(exfalso;omega)|rfl
def Bk.q (d:Bk w g (bv m C o F N P)) (a c:Nat) (e:a<257):Bk (w.setCell ⟨g,1+a,O⟩ (J U (c:Nat))) g (bv m (fun b=>if b=a then c else C b) o F N P):=
 (d.d _ _).b fun b c=>by
  by_cases c:b=1+a
  ·subst c;rw[aP rfl,Vw _ _ _ _ _ _ _ e,aP rfl]
  ·rw[aL c]
   unfold bv
   (try dsimp only)
   repeat' split
   all_goals first|(exfalso;omega)|rfl
def Bk.r (b:Bk w g (bv m C o F N P)) (a:aI):Bk (w.setCell ⟨g,258,O⟩ a) g (bv m C a F N P):=
 (b.d _ _).b fun b a=>by
  by_cases a:b=258
  ·subst a;rfl
  ·rw[aL a]
   unfold bv
   (try dsimp only)
   repeat' split
   all_goals first|(exfalso;omega)|rfl
end
def vT (w:aB) (g:Nat):Prop:=∃b a,Bk w g (bv true Zi (Z b 257 a) fs (fun a=>jD a 257) (fun a=>(eB (a-1)).length))∧bU w b ((List.range 257).map fun a=>J U (od a:Nat))
def vT.b {w w':aB} {g:Nat} (b:vT w g) (a:aJ w w w'):vT w' g:=by obtain⟨c,d,e,f⟩:=b;exact⟨c,d,e.i a,f.a a⟩
def vT.c {w:aB} {g:Nat} (a:vT w g) (o:Obj):vT (w.alloc o) g:=by obtain⟨b,c,d,e⟩:=a;exact⟨b,c,d.e o,e.h o⟩
def yX (a:List Nat):List aI:=a.map fun a=>J U (a:Nat)
def zca (b c a:Nat):Nat:=if sz a<b∨sz a=b∧a<c then Zi a else 0
def AB (b a:Nat):Nat:=if a<b then fs a else 0
def AJ (b a:Nat):Nat:=if a<b then(eB (a-1)).length else 0
def Out (wr:aB) (c g m:Nat):Prop:=∃a b,wr.ownsRow c 3 1 (Z a (eB m).length b) (eB m).length (yX (eB m))∧Bk wr g (bv true (zca (m+1) 0) (Z a (eB m).length b) (AB (m+1)) (fun a=>jD a 257) (AJ (m+1)))
def Vx (wr:aB) (d g m a:Nat):Prop:=∃b c,wr.ownsRow d 3 1 (Z b ((eB m).length+jD (m+1) a) c) ((eB m).length+jD (m+1) a) (yX (eB m++xM (m+1) a))∧Bk wr g (bv true (zca (m+1) a) (Z b ((eB m).length+jD (m+1) a) c) (AB (m+2)) (fun a=>jD a 257) (AJ (m+2)))
def Vy (b:Nat) (c a:Nat) (d:a∈xM b c):sz a=b∧a<c:=by obtain⟨e,f⟩:=List.getElem?_of_mem d;exact(Ih b c e a f).2
def Vz {wr:aB} {a g m:Nat} (b:Vx wr a g m 257):Out wr a g (m+1):=by
 obtain⟨c,d,e,f⟩:=b;have a:(eB (m+1)).length=(eB m).length+jD (m+1) 257:=by rw[show eB (m+1)=eB m++xM (m+1) 257 from rfl,bL,kX]
 refine⟨c,d,?_,?_⟩
 ·rw[a];exact e
 ·rw[a];refine f.b fun a b=>?_;unfold bv;split
  ·rfl
  ·split
   ·rename_i b c;have b:sz (a-1)<m+1∨sz (a-1)=m+1∧a-1<257↔sz (a-1)<m+1+1∨sz (a-1)=m+1+1∧a-1<0:=Y0;unfold zca;simp only[b]
   ·rfl
def Mw {wr:aB} {b g m C:Nat} {c:Option aX} (d:g<b) (a:m<30) (e:wr.ownsRow b 3 1 (Z c (eB m).length C) (eB m).length (yX (eB m)))
  (a:Bk wr g (bv true (zca (m+1) 0) (Z c (eB m).length C) (AB (m+1)) (fun f=>jD f 257) (AJ (m+1)))):
  Vx (((wr.setCell ⟨g,259+(m+1),O⟩ (J U (fs (m+1):Nat))).setCell ⟨g,321+(m+1),O⟩ (J U ((eB m).length:Nat))).drew) b g m 0:=by
 refine⟨c,C,?_,?_⟩
 ·have:=ownsRow_setCell_below (ownsRow_setCell_below e (a:=⟨g,259+(m+1),O⟩) d (J U (fs (m+1):Nat))) (a:=⟨g,321+(m+1),O⟩) d (J U ((eB m).length:Nat));have d:(((wr.setCell ⟨g,259+(m+1),O⟩ (J U (fs (m+1):Nat))).setCell ⟨g,321+(m+1),O⟩ (J U ((eB m).length:Nat))).drew).ownsRow b 3 1 (Z c (eB m).length C) (eB m).length (yX (eB m)):=this;simpa[jD,xM]using d
 ·refine Bk.h (((a.n (m+1) (fs (m+1)) Y0).p (m+1) (eB m).length Y0).b fun c b=>?_);unfold bv AB AJ;dsimp only;split
  ·rfl
  ·split
   ·rfl
   ·split
    ·rfl
    ·split
     ·by_cases b:c-259=m+1
      ·rw[aP b,aP Y0,b]
      ·rw[aL b];by_cases a:c-259<m+1
       ·rw[aP a,aP Y0]
       ·rw[aL a,aL Y0]
     ·split
      ·rfl
      ·by_cases b:c-321=m+1
       ·rw[aP b,aP Y0,b];rfl
       ·rw[aL b];by_cases a:c-321<m+1
        ·rw[aP a,aP Y0]
        ·rw[aL a,aL Y0]
def Qc {wr:aB} {c g m a:Nat} (d:¬sz a=m+1) (b:Vx wr c g m a):Vx wr c g m (a+1):=by
 obtain⟨e,f,h,i⟩:=b;have c:jD (m+1) (a+1)=jD (m+1) a:=by show jD (m+1) a+_=_;rw[aL d];rfl
 have j:xM (m+1) (a+1)=xM (m+1) a:=by show(if _ then _ else _)=_;rw[aL d]
 refine⟨e,f,?_,?_⟩
 ·rw[c,j];exact h
 ·rw[c];refine i.b fun c e=>?_;unfold bv;split
  ·rfl
  ·split
   ·unfold zca;have e:(sz (c-1)<m+1∨sz (c-1)=m+1∧c-1<a)↔(sz (c-1)<m+1∨sz (c-1)=m+1∧c-1<a+1):=by
     constructor
     ·rintro(b|b)
      ·exact .inl b
      ·exact .inr ⟨b.1,Y0⟩
     ·rintro(b|b)
      ·exact .inl b
      ·refine .inr ⟨b.1,?_⟩;by_cases f:c-1=a
       ·rw[f]at b;exact absurd b.1 d
       ·omega
    simp only[e]
   ·rfl
def Qd {d:aB} {e g m a N b c:Nat} {o:aI} (h:g<e) (i:a<257) (f:sz a=m+1) (j:N=(eB m).length+jD (m+1) a)
  (k:d.ownsRow e 3 1 (Z (R ⟨b,0,O⟩) (N+1) c) (N+1) (yX (eB m++xM (m+1) a)++[J U (a:Nat)]))
  (l:Bk d g (bv true (zca (m+1) a) o (AB (m+2)) (fun n=>jD n 257) (AJ (m+2)))):
  Vx ((d.setCell ⟨g,258,O⟩ (Z (R ⟨b,0,O⟩) (N+1) c)).setCell ⟨g,1+a,O⟩ (J U (Zi a:Nat))) e g m (a+1):=by
 have d:jD (m+1) (a+1)=jD (m+1) a+1:=by show jD (m+1) a+_=_;rw[aP f]
 have e:xM (m+1) (a+1)=xM (m+1) a++[a]:=by show(if _ then _ else _)=_;rw[aP f]
 subst j;refine⟨R ⟨b,0,O⟩,c,?_,?_⟩
 ·have:=ownsRow_setCell_below (ownsRow_setCell_below k (a:=⟨g,258,O⟩) h (Z (R ⟨b,0,O⟩) ((eB m).length+jD (m+1) a+1) c)) (a:=⟨g,1+a,O⟩) h (J U (Zi a:Nat));rw[d,e,←bD];unfold yX at this⊢;rw[List.map_append (l₂:=[a])];exact this
 ·rw[d];refine((l.r _).q a (Zi a) i).b fun c b=>?_;unfold bv;dsimp only;split
  ·rfl
  ·split
   ·unfold zca;by_cases b:c-1=a
    ·rw[aP b,aP (.inr ⟨by rw[b];exact f,Y0⟩),b]
    ·rw[aL b];have d:(sz (c-1)<m+1∨sz (c-1)=m+1∧c-1<a)↔(sz (c-1)<m+1∨sz (c-1)=m+1∧c-1<a+1):=by
      constructor
      ·rintro(b|b)
       ·exact .inl b
       ·exact .inr ⟨b.1,Y0⟩
      ·rintro(b|b)
       ·exact .inl b
       ·exact .inr ⟨b.1,Y0⟩
     simp only[d]
   ·rfl
def Qe (w:aB):aF au 235 #[] w fun c w'=>∃g,c=av (aK (R ⟨g,0,O⟩))∧w.heap.size≤g∧vT w' g∧aJ w w w':=by
 go_enter func235,ntmps235;go_wp2_with (first|(refine Ew rfl rfl ?_)|(refine yV rfl rfl rfl ?_));go_loopw [8] (fun h wr=>∃b:Nat,h=J U b∧b≤257∧Y (Bk wr w.heap.size (bv true zr (Z O 0 0) zr (fun a=>jD a b) zr))∧Y (aJ w w wr)) (fun h _=>257- (intOf h).toNat);case atStart=>exact⟨0,rfl,aZ _,aj (Bk.k w true),aj ((ay _ _).alloc (aD _) _)⟩
 case round=>
  obtain⟨b,rfl,hk,v,e⟩:=hrel;by_cases a0:b<257
  ·have i0:(b:Int)<257:=by omega
   obtain⟨z1,z2⟩:=yT b a0;have L:wr.cell? ⟨w,290+sz b,O⟩=R (J U (jD (sz b) b:Nat)):=by rw[v.o.a (by omega),uO _ _ _ _ _ _ _ (by omega)]
   have M:wr.frozen? ⟨w,290+sz b,O⟩=false:=v.o.c _;have j0:=Ig (sz b) b;have k0:U.wrap ((jD (sz b) b:Nat)+1)=((jD (sz b) b+1:Nat):Int):=by rw[bF _ (by omega)];omega
   go_wp2_with fail;go_region_with (go_at_call 273;refine(Ij b _ a0).mono ?_;rintro c j ⟨rfl,rfl⟩);have q:Y (Bk ((wr.setCell ⟨w,290+sz b,O⟩ (J U ((jD (sz b) b+1:Nat):Int))).drew) w.heap.size (bv true zr (Z O 0 0) zr (fun a=>jD a (b+1)) zr)):=aj ((v.o.l (sz b) (jD (sz b) b+1) (by omega)).b fun t hi=>by
    have c:∀a,(if a=sz b then jD (sz b) b+1 else jD a b)=jD a (b+1):=by
     intro a;show _=jD a b+if sz b=a then 1 else 0
     by_cases Q:a=sz b
     ·subst Q;simp
     ·rw[aL Q,aL (fun i=>Q i.symm)];rfl
    simp only[c])
   have G:Y (aJ w w ((wr.setCell ⟨w,290+sz b,O⟩ (J U ((jD (sz b) b+1:Nat):Int))).drew)):=aj (e.o.setCell (aD _) _).drew;clear L M k0;go_wp2_with fail;go_roundw;case rel=>exact⟨b+1,by go_num,by omega,q,G⟩
   case measure=>simp[intOf];omega
  ·have HK:Y (b=257):=aj (by omega);have r:Y (Out wr (w.heap.size+1) w.heap.size 0):=aj (by
    have l0:=HK.o;subst l0;refine⟨O,0,aT _ _ _ _,v.o.b fun t hi=>?_⟩;unfold bv zr zca AB AJ;split
    ·rfl
    ·split
     ·rename_i u s;have:=yT (t-1) (by omega);rw[aL (by omega)]
     ·split
      ·rfl
      ·split
       ·split
        ·rename_i h5;have:t-259=0:=by omega
         rw[this];rfl
        ·rfl
       ·split
        ·rfl
        ·split
         ·rename_i h5;have:t-321=0:=by omega
          rw[this];rfl
         ·rfl)
   clear v;go_wp2_with fail;go_loopw [3,4] (fun S h wr=>∃a l:Nat,S=J U (l:Nat)∧h=J U (a:Nat)∧1≤a∧a≤31∧Y (l=fs (a-1)+jD (a-1) 257)∧Y (Out wr (w.heap.size+1) w.heap.size (a-1))∧Y (aJ w w wr)) (fun _ h _=>31- (intOf h).toNat);case atStart=>exact⟨1,0,rfl,rfl,aD _,by decide,aj (by decide),r,e⟩
   case round=>
    clear r e;obtain⟨a,l,rfl,rfl,t0,u0,x,r,e⟩:=hrel;by_cases hn:a≤30
    ·have v0:(a:Int)≤30:=by omega
     have j0:l≤1073741824:=by rw[x.o];exact yU _ (by omega)
     obtain⟨k,C,y,z⟩:=r.o;have n:=aj y;have d:=aj z;have b0:Y ((eB (a-1)).length≤257):=aj (Kq _ (by omega));clear y z r;obtain⟨A,T⟩:=exq ((eB (a-1)).length);rw[T]at n d b0;have c0:=aj T;clear T;have M:wr.frozen? ⟨w,259+a,O⟩=false:=d.o.c _;have H:wr.cell? ⟨w,258,O⟩=R (Z k A C):=d.o.a (by omega);have L:wr.cell? ⟨w,259+a,O⟩=R (bv true (zca (a-1+1) 0) (Z k A C) (AB (a-1+1)) (fun a=>jD a 257) (AJ (a-1+1)) (259+a)):=d.o.a (by omega);have f2:wr.frozen? ⟨w,321+a,O⟩=false:=d.o.c _;have c2:wr.cell? ⟨w,321+a,O⟩=R (bv true (zca (a-1+1) 0) (Z k A C) (AB (a-1+1)) (fun a=>jD a 257) (AJ (a-1+1)) (321+a)):=d.o.a (by omega);go_wp2_with fail;go_region;have d0:Y (Vx (((wr.setCell ⟨w,259+a,O⟩ (J U ((l:Int)*2))).setCell ⟨w,321+a,O⟩ (J U (A:Nat))).drew) (w.heap.size+1) w.heap.size (a-1) 0):=aj (by
      obtain⟨m,rfl⟩:∃m,a=m+1:=⟨a-1,by omega⟩;have p:=n.o;have i:=d.o;have u:=c0.o;have s:=x.o;simp only[Nat.add_sub_cancel]at p i u s⊢;subst u;have c:((l:Int)*2)=((fs (m+1):Nat):Int):=by show _=((2*(fs m+jD m 257):Nat):Int);rw[←s];omega
      rw[c];exact Mw (Nat.lt_succ_self _) (by omega) p i)
     have G:Y (aJ w w (((wr.setCell ⟨w,259+a,O⟩ (J U ((l:Int)*2))).setCell ⟨w,321+a,O⟩ (J U (A:Nat))).drew)):=aj ((e.o.setCell (aD _) _).setCell (aD _) _).drew;have e0:Y (l*2=fs a+jD a 0):=aj (by
      obtain⟨m,rfl⟩:∃m,a=m+1:=⟨a-1,by omega⟩;have s:=x.o;simp only[Nat.add_sub_cancel]at s;show _=2*(fs m+jD m 257)+0
      omega)
     have m0:Y (fs a+jD a 257≤1073741824):=aj (yU a (by omega));clear M H L f2 c2 n d b0 c0 x e;go_wp2_with fail;go_loopw [3,45] (fun S h wr=>∃b f:Nat,S=J U (f:Nat)∧h=J U (b:Nat)∧b≤257∧Y (f=fs a+jD a b)∧Y (Vx wr (w.heap.size+1) w.heap.size (a-1) b)∧Y (aJ w w wr)) (fun _ h _=>257- (intOf h).toNat);case atStart=>exact⟨0,l*2,by simp,rfl,aZ _,e0,d0,G⟩
     case round=>
      clear e0 d0 G;obtain⟨b,f,rfl,rfl,hk,B,I,e⟩:=hrel;have w0:f≤1073741824:=by rw[B.o];exact aR (Nat.add_le_add_left (Qa a hk) _) m0.o
      by_cases V:b<257
      ·have i0:(b:Int)<257:=by omega
       by_cases D:sz b=a
       ·have n0:((sz b:Nat):Int)=(a:Nat):=by rw[D]
        obtain⟨k,C,y,z⟩:=I.o;have n:=aj y;have d:=aj z;obtain⟨N,K⟩:=exq ((eB (a-1)).length+jD (a-1+1) b);rw[K]at n d;have x0:N≤514:=by rw[←K];have p:=Kq (a-1) (by omega);have i:=Ig (a-1+1) b;omega
        have HN:=aj K;clear y z K I;have H:wr.cell? ⟨w,258,O⟩=R (Z k N C):=d.o.a (by omega);have o0:=aj d.o.f;go_wp2_with fail;refine(Ij b _ V).mono ?_;rintro c j ⟨rfl,rfl⟩;go_wp2_with (at_builtin;go_loud (refine jP rfl (.tmp 56) (.tmp 58) 37 rfl (w.heap.size+1) 3 Tryz.info3 rfl underlying37 k N C _ _ rfl n.o wr.heap.size rfl rfl rfl (by unfold maxLen;omega) (by omega) (by have:=o0.o;omega) ?_));intro g' c' j f0 W;have q:=aj ((d.o.e (.cells #[J U (b:Nat)] 3)).j W (YJ n.o (Nat.lt_succ_self _)));have g0:Y (aJ w w j):=aj ((e.o.alloc e.o.size _).grown W (by have:=e.o.size;simp;omega) (fun p0 hj=>by have:=mP n.o p0 hj;omega));have h0:=aj f0;clear f0 W H;have H:j.cell? ⟨w,258,O⟩=R (Z k N C):=q.o.a (by omega);have f1:j.frozen? ⟨w,258,O⟩=false:=q.o.c _;have c2:j.cell? ⟨w,1+b,O⟩=R (bv true (zca (a-1+1) b) (Z k N C) (AB (a-1+2)) (fun a=>jD a 257) (AJ (a-1+2)) (1+b)):=q.o.a (by omega);have f2:j.frozen? ⟨w,1+b,O⟩=false:=q.o.c _;have X:Y (Vx ((j.setCell ⟨w,258,O⟩ (Z (R ⟨g',0,O⟩) (N+1) c')).setCell ⟨w,1+b,O⟩ (J U (f:Nat))) (w.heap.size+1) w.heap.size (a-1) (b+1)):=aj (by
         obtain⟨m,rfl⟩:∃m,a=m+1:=⟨a-1,by omega⟩;have p:=h0.o;have i:=q.o;have u:=HN.o;have s:=B.o;simp only[Nat.add_sub_cancel]at p i u⊢;have c:f=Zi b:=by rw[s];unfold Zi;rw[D]
         rw[c];exact Qd (Nat.lt_succ_self _) V D u.symm p i)
        have E:Y (f+1=fs a+jD a (b+1)):=aj (by
         have c:jD a (b+1)=jD a b+1:=by show jD a b+_=_;rw[aP D]
         rw[c,B.o];omega)
        have q0:Y (aJ w w ((j.setCell ⟨w,258,O⟩ (Z (R ⟨g',0,O⟩) (N+1) c')).setCell ⟨w,1+b,O⟩ (J U (f:Nat)))):=aj ((g0.o.setCell (aD _) _).setCell (aD _) _);clear h0 q g0 n d;go_wp2_with fail;go_roundw;case rel=>exact⟨b+1,f+1,by go_num,by go_num,by omega,E,X,q0⟩
        case measure=>simp[intOf];omega
       ·have n0:(((sz b:Nat):Int)==(a:Nat))=false:=by rw[aM];omega
        have X:Y (Vx wr (w.heap.size+1) w.heap.size (a-1) (b+1)):=aj (Qc (by omega) I.o);have E:Y (f=fs a+jD a (b+1)):=aj (by
         have c:jD a (b+1)=jD a b:=by show jD a b+_=_;rw[aL D];rfl
         rw[c,B.o])
        go_wp2_with fail;refine(Ij b _ V).mono ?_;rintro c j ⟨rfl,rfl⟩;go_wp2_with fail;go_roundw;case rel=>exact⟨b+1,f,rfl,by go_num,by omega,E,X,e⟩
        case measure=>simp[intOf];omega
      ·obtain rfl:b=257:=by omega
       have r0:Y (Out wr (w.heap.size+1) w.heap.size (a+1-1)):=aj (by obtain⟨m,rfl⟩:∃m,a=m+1:=⟨a-1,by omega⟩;have:=Vz I.o;simpa using this)
       have E:Y (f=fs (a+1-1)+jD (a+1-1) 257):=aj (by rw[Nat.add_sub_cancel];exact B.o);go_wp2_with fail;go_roundw;case rel=>exact⟨a+1,f,rfl,by go_num,by omega,by omega,E,r0,e⟩
       case measure=>simp[intOf];omega
    ·obtain rfl:a=31:=by omega
     have s0:Y (vT wr w.heap.size):=aj (by
      obtain⟨k,C,p,i⟩:=r.o;have hl:(eB 30).length=257:=by rw[Cr];simp
      rw[show 31-1=30 from rfl,hl]at p i;refine⟨k,C,i.b fun t hi=>?_,?_⟩
      ·unfold bv zca AB AJ;split
       ·rfl
       ·split
        ·rw[aP (.inl (by have:=yT (t-1) (by omega);omega))]
        ·split
         ·rfl
         ·split
          ·rw[aP (by omega)]
          ·split
           ·rfl
           ·rw[aP (by omega)]
      ·have:=bU.e p;rw[Cr]at this;unfold yX at this;rw[List.map_map]at this;exact this)
     clear r x;go_wp2_with fail;go_ret;exact⟨w,rfl,aD _,s0.o,e.o⟩
def zbu (a:Int):Prop:=0≤a∧a≤256
instance (s:Int):Decidable (zbu s):=inferInstanceAs (Decidable (_∧_))
def vT.a {w:aB} {g:Nat} (a:vT w g):w.cell? ⟨g,0,O⟩=R (aO true):=by obtain⟨c,d,b,_⟩:=a;exact b.a Y0
def qM (b a:Int):Option Nat:=if 1≤a∧a≤30∧(fs a.toNat:Int)≤b∧b-fs a.toNat<(jD a.toNat 257:Nat)then(xM a.toNat 257)[(b-fs a.toNat).toNat]? else O
def Qf (g:Nat) (c a:Int) (w:aB) (b:a<1∨30<a) (d:Y (vT w g)):aF au 238 #[qp g,c,a] w fun a w'=>a=av (aN #[J U 0,false])∧aJ w w w':=by
 rcases b with b|b
 all_goals
  go_enter func238,ntmps238;go_wp2_with fail;refine mB (xZ g 0 _ d.o.a Y0 Y0) ?_;rintro b rfl;go_wp2;go_ret2;exact⟨rfl,ay _ _⟩
def Qg (g a:Nat) (b:Int) (w:aB) (c:1≤a) (c:a≤30) (c:b<(fs a:Nat)) (c:Y (vT w g)):aF au 238 #[qp g,b,J U (a:Nat)] w fun b w'=>b=av (aN #[J U 0,false])∧aJ w w w':=by
 obtain⟨e,C,d,_⟩:=c.o;have e:w.cell? ⟨g,259+a,O⟩=R (J U (fs a:Nat)):=by rw[d.a Y0,uP _ _ _ _ _ _ _ Y0]
 clear d;go_enter func238,ntmps238;go_wp2_with fail;refine mB (xZ g 0 _ c.o.a Y0 Y0) ?_;rintro a rfl;go_wp2;go_ret2;exact⟨rfl,ay _ _⟩
def Mx (g a:Nat) (b:Int) (w:aB) (c:1≤a) (c:a≤30) (c:(fs a:Nat)≤b) (c:(jD a 257:Nat)≤b- (fs a:Nat)) (c:b≤9223372036854775807) (c:Y (vT w g)):aF au 238 #[qp g,b,J U (a:Nat)] w fun d w'=>d=av (aN #[J U 0,false])∧aJ w w w':=by
 obtain⟨e,C,b,_⟩:=c.o;have e:w.cell? ⟨g,259+a,O⟩=R (J U (fs a:Nat)):=by rw[b.a Y0,uP _ _ _ _ _ _ _ Y0]
 have e:w.cell? ⟨g,290+a,O⟩=R (J U (jD a 257:Nat)):=by rw[b.a Y0,uO _ _ _ _ _ _ _ Y0]
 clear b;go_enter func238,ntmps238;go_wp2_with fail;refine mB (xZ g 0 _ c.o.a Y0 Y0) ?_;rintro a rfl;go_wp2;go_ret2;exact⟨rfl,ay _ _⟩
def Qh (g a b d:Nat) (w:aB) (s:1≤a) (t:a≤30) (f:(xM a 257)[b]?=R d) (h:Y (vT w g)):aF au 238 #[qp g,J U ((fs a+b:Nat):Int),J U (a:Nat)] w fun i w'=>i=av (aN #[J U (d:Nat),true])∧aJ w w w':=by
 obtain⟨l,C,e,j⟩:=h.o;have u:w.cell? ⟨g,259+a,O⟩=R (J U (fs a:Nat)):=by rw[e.a Y0,uP _ _ _ _ _ _ _ Y0]
 have v:w.cell? ⟨g,290+a,O⟩=R (J U (jD a 257:Nat)):=by rw[e.a Y0,uO _ _ _ _ _ _ _ Y0]
 have n:w.cell? ⟨g,321+a,O⟩=R (J U ((eB (a-1)).length:Nat)):=by rw[e.a Y0,Kr _ _ _ _ _ _ _ Y0]
 have x:w.cell? ⟨g,258,O⟩=R (Z l 257 C):=e.a (by omega);have y:b<jD a 257:=by rw[←kX];exact(aU.1 f).1
 have c:=Qb 30 (a-1) Y0 b d (by rw[show a-1+1=a from Y0];exact f);rw[Cr]at c;have p:(eB (a-1)).length+b<257:=by have:=(aU.1 c).1;simpa using this
 have q:=j ((eB (a-1)).length+b) (J U (d:Nat)) (by rw[bS]at c⊢;cases hr:(List.range 257)[(eB (a-1)).length+b]? with
  |none=>rw[hr]at c;cases c
  |some z=>rw[hr]at c;simp at c⊢;rw[c])
 obtain⟨A,B,rfl,r⟩:=q;obtain⟨D,k⟩:=exq ((eB (a-1)).length);rw[k]at n r p;have E:=yU a Y0;have G:(((fs a+b:Nat):Int)- (fs a:Nat))=(b:Nat):=Y0;have H:(fs a:Int)≤((fs a+b:Nat):Int):=Y0;have I:=aj (And.intro c f);clear e j c f k;go_enter func238,ntmps238;go_wp2_with fail;refine mB (xZ g 0 _ h.o.a Y0 Y0) ?_;rintro K rfl;go_wp2_with fail;go_region;all_goals
  go_wp2;go_ret2;exact⟨rfl,(ay _ _).drew⟩
def Yl {a d:aB} (e:aJ a a d) (b c:Nat) (f:b<a.heap.size):d.cell? ⟨b,c,O⟩=a.cell? ⟨b,c,O⟩:=e.cell (p:=⟨b,c,O⟩) f
def Ym {a d:aB} (e:aJ a a d) (b c:Nat) (f:b<a.heap.size):d.frozen? ⟨b,c,O⟩=a.frozen? ⟨b,c,O⟩:=e.frozen (p:=⟨b,c,O⟩) f
def Zj (a:Bool) (b c:Int):Bool:=a&&decide (b<c)
def oV (a:Bool) (c d:Int) (b:aB):
  aF au 93 #[aS #[a,c],d] b fun e f=>e=av (aO (Zj a c d))∧aJ b b f:=by
 cases a
 ·go_enter func93,ntmps93;go_wp2;go_ret;exact⟨rfl,(ay _ _).alloc (aD _) _⟩
 ·go_enter func93,ntmps93;go_wp2;all_goals go_ret
  all_goals exact⟨by simp[Zj, *],(ay _ _).alloc (aD _) _⟩
def Qi (b:Bool) (c a:Int):Bool:=decide (0≤a)&&(decide (a≤2147483647)&& !(Zj b c a))
def Ey (c:Bool) (d a:Int) (e:aB) (b:Qi c d a=true):
  aF au 109 #[aS #[c,d],a] e fun f g=>f=av (aN #[aS #[true,a],true])∧aJ e e g:=by
 have e:0≤a:=by simp[Qi]at b;omega
 have e:a≤2147483647:=by simp[Qi]at b;omega
 have e:Zj c d a=false:=by simp[Qi]at b;simpa using b.2.2
 clear b;go_enter func109,ntmps109;go_wp2_with (go_at_call 93;refine(oV _ _ _ _).mono ?_;rintro f g ⟨rfl,b⟩;have d:=Yl b;have e:=Ym b;have c:=b.size;simp at c);refine aG (v:=aN #[aS #[true,a],true]) (by simp[results,results109,go_sem,d,e,c]) rfl ⟨rfl,?_⟩;exact((((ay _ _).alloc (aD _) _).alloc Y1 _).trans (b.mono (by simp;omega))).setCell Y1 _ |>.setCell Y1 _
def Kt (c:Bool) (d a:Int) (e:aB) (b:Qi c d a=false):
  aF au 109 #[aS #[c,d],a] e fun f g=>f=av (aN #[aS #[false,J U 0],false])∧aJ e e g:=by
 by_cases e:0≤a
 ·by_cases g:a≤2147483647
  ·have h:Zj c d a=true:=by simp[Qi,e,g]at b;exact b
   clear b;go_enter func109,ntmps109;go_wp2_with (go_at_call 93;refine(oV _ _ _ _).mono ?_;rintro f h ⟨rfl,c⟩;have e:=Yl c;have g:=Ym c;have d:=c.size;simp at d);refine aG (v:=aN #[aS #[false,J U 0],false]) (by simp[results,results109,go_sem,e,g,d]) rfl ⟨rfl,?_⟩;exact((((ay _ _).alloc (aD _) _).alloc Y1 _).trans (c.mono (by simp;omega))).setCell Y1 _ |>.setCell Y1 _
  ·clear b;have c:2147483647<a:=Y0;go_enter func109,ntmps109;go_wp2_with fail;refine aG (v:=aN #[aS #[false,J U 0],false]) (by simp[results,results109,go_sem]) rfl ⟨rfl,?_⟩;exact(((ay _ _).alloc (aD _) _).alloc Y1 _)
 ·clear b;have c:a<0:=Y0;go_enter func109,ntmps109;go_wp2_with fail;refine aG (v:=aN #[aS #[false,J U 0],false]) (by simp[results,results109,go_sem]) rfl ⟨rfl,?_⟩;exact(((ay _ _).alloc (aD _) _).alloc Y1 _)
def yY:List Int:=[80,82,73,32,42,32,72,84,84,80,47,50,46,48,13,10,13,10,83,77,13,10,13,10]
def tb:ByteArray:={data:=#[80,82,73,32,42,32,72,84,84,80,47,50,46,48,13,10,13,10,83,77,13,10,13,10]}
def VB (a:List Int):List UInt8:=a.map fun a=>UInt8.ofNat a.toNat
def VD {a:List Int} (c:∀b∈a,0≤b∧b≤255):((strOfNums a).toList==[80,82,73,32,42,32,72,84,84,80,47,50,46,48,13,10,13,10,83,77,13,10,13,10])=(a==yY):=by rw[wQ,show([80,82,73,32,42,32,72,84,84,80,47,50,46,48,13,10,13,10,83,77,13,10,13,10]:List UInt8)=VB yY from Y2];rw[Bool.eq_iff_iff];simp only[dX];exact⟨fun a=>DK _ _ c Y2 a,fun a=>by rw[a];rfl⟩
def Zk (c:Option aX) (d:Nat) (a:List Int) (b:aB) (g:bU b c (a.map (J .u8))) (e:a.length≤1000000) (e:∀f∈a,0≤f∧f≤255):
  aF au 212 #[Z c a.length d] b fun c f=>c=av (aO (a==yY))∧b=f:=by have a:=nY (P:=au) d 28 5 9 underlying28 underlying5 underlying9 g;have a:=aj e;clear e;go_enter func212,ntmps212;go_wp2;go_ret;exact⟨fB (VD a.o),rfl⟩
def Ez (a:Int) (b:aB):aF au 122 #[a] b fun c d=>c=av (J U (oh a))∧b=d:=by
 rcases ten a with rfl|rfl|rfl|rfl|rfl|rfl|rfl|rfl|rfl|rfl|⟨b,c,d,e,f,g,h,i,j,k⟩
 case inr.inr.inr.inr.inr.inr.inr.inr.inr.inr=>have l:Y (oh a=2):=aj (by simp[oh,b,c,d,e,f,g,h,i,j,k]);go_enter func122,ntmps122;go_wp2;go_ret;exact⟨by rw[l.o];rfl,rfl⟩
 all_goals
  go_enter func122,ntmps122;go_wp2;go_ret;exact Y5
def tJ (a:Int):Bool:=bV a 0 9
def MB (a:Int) (b:aB):aF au 214 #[a] b fun c d=>c=av (aO (tJ a))∧b=d:=by
 unfold tJ bV;by_cases b:0≤a
 ·by_cases c:a≤9
  ·rw[cO b,cO c];go_enter func214,ntmps214;go_wp2;go_ret;exact Y5
  ·rw[cO b,dK c];go_enter func214,ntmps214;go_wp2;go_ret;exact Y5
 ·rw[dK b];go_enter func214,ntmps214;go_wp2;go_ret;exact Y5
def ME (a b:Int) (c:aB):aF au 112 #[a,b] c fun d e=>d=av (aO (bV a 0 b))∧c=e:=by
 unfold bV;by_cases c:0≤a
 ·by_cases d:a≤b
  ·rw[cO c,cO d];go_enter func112,ntmps112;go_wp2;go_ret;exact Y5
  ·rw[cO c,dK d];go_enter func112,ntmps112;go_wp2;go_ret;exact Y5
 ·rw[dK c]
  ·go_enter func112,ntmps112;go_wp2;go_ret;exact Y5
def nH (a b:Int) (c:aB) (d:Bool) (e:bV a 0 b=d):aF au 112 #[a,b] c fun f g=>f=av d∧c=g:=by rw[←e];exact ME a b c
def Ct (a:Int) (b:aB):aF au 62 #[a] b fun c d=>c=av (aO (ko a))∧b=d:=by
 cases h:ko a with
 |true=>
  rcases dN h with rfl|rfl
  all_goals
   clear h;go_enter func62,ntmps62;go_wp2;go_ret;exact Y5
 |false=>
  have b:(a==0)=false:=by simpa using(rG h).1
  have b:(a==1)=false:=by simpa using(rG h).2
  clear h
  ·go_enter func62,ntmps62;go_wp2;go_ret;exact Y5
def vV (a:Int):Int:=if a=1 then 255 else if a=2 then 65535 else if a=3 then 16777215 else if a=4 then 4294967295 else 0
def Im (a:Int) (b:aB):aF au 113 #[a] b fun c d=>c=av (aN #[J U (vV a),aO (bV a 1 4)])∧b=d:=by
 by_cases b:1≤a∧a≤4
 ·obtain rfl|rfl|rfl|rfl:a=1∨a=2∨a=3∨a=4:=Y0
  all_goals
   clear b;go_enter func113,ntmps113;go_wp2;go_ret2;exact Y5
 ·have c:vV a=0:=by unfold vV;rw[aL Y0,aL Y0,aL Y0,aL Y0]
  have d:bV a 1 4=false:=by unfold bV;simp;omega
  rw[c,d];clear c d;by_cases c:a<1
  ·clear b;go_enter func113,ntmps113;go_wp2;go_ret2;exact Y5
  ·have c:a>4:=Y0;clear b;go_enter func113,ntmps113;go_wp2;go_ret2;exact Y5
def MF (a:Bool) (b:Int) (c:aB):aF au 211 #[a,b] c fun d e=>d=av (aN #[J U (if a=true then 1 else 3),J U (if a=true then 0 else b)])∧c=e:=by
 cases a;all_goals
  ·go_enter func211,ntmps211;go_wp2;go_ret2;exact Y5
def dR (a:Int) (b:aB):aF au 213 #[a] b fun c d=>c=av (aN #[J U (if a=0 then 1 else 3),a])∧b=d:=by
 by_cases b:a=0
 ·subst b
  ·go_enter func213,ntmps213;go_wp2;go_ret2;exact Y5
 ·rw[aL b];have c:(a !=0)=true:=by rw[bne_iff_ne];exact b
  clear b
  ·go_enter func213,ntmps213;go_wp2;go_ret2;exact Y5
def Qj (a:Int) (b:aB):aF au 121 #[a] b fun c d=>c=av (aO (bV a 0 2147483647))∧b=d:=by
 unfold bV;by_cases b:0≤a
 ·by_cases c:a≤2147483647
  ·rw[cO b,cO c];go_enter func121,ntmps121;go_wp2;go_ret;exact Y5
  ·rw[cO b,dK c];go_enter func121,ntmps121;go_wp2;go_ret;exact Y5
 ·rw[dK b]
  ·go_enter func121,ntmps121;go_wp2;go_ret;exact Y5
def zcf (a:Int):Bool:=a==2||a==3||a==4
def EA (a:Int) (b:aB):aF au 173 #[a] b fun c d=>c=av (aO (zcf a))∧b=d:=by
 unfold zcf;by_cases b:a=2∨a=3∨a=4
 ·rcases b with rfl|rfl|rfl
  all_goals
   go_enter func173,ntmps173;go_wp2;go_ret;exact Y5
 ·have c:(a==2)=false:=by rw[aM];omega
  have d:(a==3)=false:=by rw[aM];omega
  have e:(a==4)=false:=by rw[aM];omega
  rw[c,d,e];clear b
  ·go_enter func173,ntmps173;go_wp2;go_ret;exact Y5
def gK (a b c d:Int):Bool:=bV a 0 16777215&&bV b 0 255&&bV c 0 255&&bV d 0 2147483647
def Io (b c d e:Int) (f:Bool) (a:aB):aF au 72 #[aS #[b,c,d,e,f]] a fun f g=>f=av (aO (gK b c d e))∧aJ a a g:=by
 unfold gK;obtain⟨k,g⟩:=exq (bV b 0 16777215);obtain⟨l,h⟩:=exq (bV c 0 255);obtain⟨m,i⟩:=exq (bV d 0 255);obtain⟨n,j⟩:=exq (bV e 0 2147483647);have o:=fun a=>aj (nH b 16777215 a k g);have p:=fun a=>aj (nH c 255 a l h);have q:=fun a=>aj (nH d 255 a m i);have r:=fun a=>aj (nH e 2147483647 a n j);rw[g,h,i,j];clear g h i j;cases k<;>cases l<;>cases m;all_goals
  go_enter func72,ntmps72;go_wp2_with (first|(go_at_call_of 112 (J U b);refine(o _).o.mono ?_;rintro f g ⟨rfl,rfl⟩)|(go_at_call_of 112 (J U c);refine(p _).o.mono ?_;rintro f g ⟨rfl,rfl⟩)|(go_at_call_of 112 (J U d);refine(q _).o.mono ?_;rintro f g ⟨rfl,rfl⟩)|(go_at_call_of 112 (J U e);refine(r _).o.mono ?_;rintro f g ⟨rfl,rfl⟩));go_ret;exact⟨rfl,iQ a _⟩
def uQ (a:List Int):Int:=a.foldl (fun a b=>a*256+b) 0
def gZ (b:List Int):Prop:=∀a∈b,0≤a∧a≤255
def Qk:∀(b:List Int) (a:Int) (c:Nat),gZ b→0≤a→a<256^c→0≤b.foldl (fun a d=>a*256+d) a∧b.foldl (fun a d=>a*256+d) a<256^(c+b.length)
 |[],a,c,_,e,f=>⟨e,Y6 f⟩
 |d::b,a,c,g,e,f=>by
  have e:=g d Y1
  have:=Qk b (a*256+d) (c+1) (fun a e=>g a (by simp[e])) Y0 (by rw[Int.pow_succ];omega)
  have a:c+(d::b).length=c+1+b.length:=by simp;omega
  rw[a]
  exact this
def Cv {a:List Int} (b:gZ a):0≤uQ a∧uQ a<256^a.length:=by have:=Qk a 0 0 b Y0 Y1;simpa[uQ]using this
def gZ.a {a:List Int} (b:gZ a) (c:Nat):gZ (a.take c):=fun a c=>b a (List.mem_of_mem_take c)
def gZ.b {a:List Int} (b:gZ a) (c:Nat):gZ (a.drop c):=fun a c=>b a (List.mem_of_mem_drop c)
def gZ.d {a b:List Int} (c:gZ a) (d:gZ b):gZ (a++b):=fun a b=>(bK.1 b).elim (c a) (d a)
def gZ.c:gZ []:=fun b a=>by simp at a
structure Cu where
 r:List Int
 b:Bool
def Cu.a (a:Cu) (b:Nat):Int×Cu:=if a.r.length<b then(0,⟨a.r,true⟩)else(uQ (a.r.take b),⟨a.r.drop b,a.b⟩)
def lJ (a:Int):Int:=a%2147483648
def qN (a:Int):Bool:=decide (2147483648≤a)
def lV (a:Int):Int:=if a==0||a==2 then 1 else 2
def rP (a b:Int):Bool:=if oh a=0 then b==0 else if oh a=1 then b !=0 else true
def tK (a c:Int) (b:Nat):Bool:=if a==2 then b==5 else if a==3||a==8 then b==4 else if a==6 then b==8 else if a==7 then decide (8≤b)else if a==4 then(if zbX a c 1 then b==0 else b%6==0)else true
def kY (b:Fr) (c:Cu):Fr×Cu:=
 let(a,c1):=c.a 4
 let(c,c2):=c1.a 1
 ({b with l:=lJ a,m:=qN a,k:=c},c2)
def eO (a:Fr) (b:Cu):Fr×Cu:=
 if a.a==1 then(if zbX a.a a.d 32 then kY a b else(a,b))
 else if a.a==2 then kY a b
 else if a.a==3 then({a with j:=(b.a 4).1},(b.a 4).2)
 else if a.a==5 then({a with e:=lJ (b.a 4).1},(b.a 4).2)
 else if a.a==7 then({a with h:=lJ (b.a 4).1,j:=((b.a 4).2.a 4).1},((b.a 4).2.a 4).2)
 else if a.a==8 then({a with g:=lJ (b.a 4).1},(b.a 4).2)
 else(a,b)
def eX:List Int→List (Int×Int)
 |a::b::c::d::e::f::g=>(uQ [a,b],uQ [c,d,e,f])::eX g
 |_=>[]
def Ip (b c:Int) (a:Cu):Int×Cu:=if zbX b c 8 then a.a 1 else(-1,a)
def lC (b c f:Int) (d:List Int):Fr×(Int×Int):=
 let e:=Ip b c ⟨d,false⟩
 let a:=eO {Fr.o with a:=b,d:=c,b:=f,f:=e.1} e.2
 if a.2.b then(Fr.o,(lV b,6))
 else if a.1.f>(a.2.r.length:Int)then(Fr.o,(2,1))
 else if b==4 then({a.1 with i:=eX d},(0,0))
 else({a.1 with c:=a.2.r.take (a.2.r.length-a.1.f.toNat)},(0,0))
def jK (a b c:Int) (d:List Int):Fr×(Int×Int):=
 if rP a c=true then(if tK a b d.length=true then lC a b c d else(Fr.o,(lV a,6)))else(Fr.o,(2,1))
end Go.Proofs.YtdcacpeaimjdlaaGreatDoor
