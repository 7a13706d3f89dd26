/- Part of the proof. -/
import Derived.Test.YtdcacpeaimjdlaaGreatDoorPar
import Derived.Deep.LoopGhost
import Derived.Lib.AppendZeros
import Derived.Lib.SlicesCompact
namespace Go.Proofs.YtdcacpeaimjdlaaGreatDoor
open Go.RowKit Go.Maps Go.Proofs.Tryz Mq MFr MRw
open Go.Value renaming int→J,slice→Z,pointer→aK,bool→aO,tuple→aN,agg→aS
open Go.IntKind renaming i64→U
open Option renaming none→O,some→R
open Go.Ending renaming returned→av
open Go renaming World→aB,Value→aI,Calls→aF,Addr→aX,TypeId→bB,undef→bq
open Go.RowKit renaming Below→aJ
open Go.Proofs.Tryz renaming prog→au
set_option maxRecDepth 20000
set_option maxHeartbeats 0
set_option linter.all false
variable {N0 N1 Q0 Q1 Q2 Q3 Q4 Q5 Q6 Q7 Q8 Q9 T0 T1 T2 T3 T4 T5 T6 T7 T8 T9 u1 u2 u3 u4 u5 u6 u7 u8 u9:aI}
section
open Go.Lib Go.Shelf Go.Sort
def jg {d:Array Ft} {i:Nat} (a:i<d.size):(bN d.toList)[i*2]?=R (J U d[i]!.1)∧(bN d.toList)[i*2+1]?=R (J U d[i]!.2):=
 tN (l:=d.toList) (by rw[getElem!_pos d i a];simp[a])
def xB:∀(a:List Ft) (b:Nat),(bN a).take (b*2)=bN (a.take b)
 |_,0=>by simp[bN]
 |[],_+1=>by simp[bN]
 |e::c,d+1=>by
  have:=xB c d
  rw[Nat.succ_mul,List.take_succ_cons]
  simp[bN]at this⊢
  exact this
def uf (a:Nat):List aI:=(Builtin.zeroCells (aS #[J U 0,J U 0]).cells a).toList
def Jj (a:Nat):(uf a).length=a*2:=by simp[uf,Builtin.zeroCells,Value.cells]
def Jk (a:Nat):∀b∈uf a,b.oneCell'=true:=by
 intro b a;unfold uf Builtin.zeroCells at a;rw[Array.toList_map,dI]at a;obtain⟨b,_,rfl⟩:=a;have c:b%2<2:=Nat.mod_lt _ Y2;show(#[J U 0,J U 0][b%2]!).oneCell'=true
 generalize b%2=a at c;obtain rfl|rfl:a=0∨a=1:=Y0
 all_goals rfl
def Da (a c:List aI) (b:Nat):(jS a b c).take b=a.take b:=by
 apply List.ext_getElem?;intro b;rw[List.getElem?_take,List.getElem?_take];split
 ·rename_i c;by_cases c:b<a.length
  ·rw[mM _ _ _ b c,aL Y0]
  ·rw[bQ (by rw[kZ];omega),bQ Y0]
 ·rfl
def Jl (a:Array Ft) (c:Nat) (d:Ft) (g:c<a.size):bN (a.setIfInBounds c d).toList=jS (bN a.toList) (c*2) [J U d.1,J U d.2]:=by
 have f:∀a:Array Ft,(bN a.toList).length=a.size*2:=fun a=>by rw[nk];simp
 apply List.ext_getElem?;intro e;by_cases h:e<a.size*2
 ·rw[mM _ _ _ e (by rw[f];exact h)];obtain⟨b,rfl|rfl⟩:∃b,e=b*2∨e=b*2+1:=⟨e/2,Y0⟩
  ·rw[(jg (d:=a.setIfInBounds c d) (i:=b) (by simp;omega)).1];by_cases e:b=c
   ·subst e;rw[aP Y1,getElem!_set_same a b d g];simp
   ·rw[aL (by simp;omega),getElem!_set_other a c b d e,(jg (i:=b) Y0).1]
  ·rw[(jg (d:=a.setIfInBounds c d) (i:=b) (by simp;omega)).2];by_cases e:b=c
   ·subst e;rw[aP Y1,getElem!_set_same a b d g];simp
   ·rw[aL (by simp;omega),getElem!_set_other a c b d e,(jg (i:=b) Y0).2]
 ·rw[bQ (by rw[f];simpa using h),bQ (by rw[kZ,f];omega)]
structure UZ (B g n c:Nat) (w:aB) (d:Array Ft) (wr:aB):Prop where
 b:wr.ownsRow B 91 2 (Z (R ⟨g,0,O⟩) n c) n (bN d.toList)
 f:bg [g] w wr
def UZ.a {d b e f:Nat} {g wr:aB} {a:Array Ft} (c:UZ d b e f g a wr) {i:Nat} (d:i<a.size):wr.cell? ⟨b,i*2,O⟩=R (J U a[i]!.1)∧wr.cell? ⟨b,i*2+1,O⟩=R (J U a[i]!.2):=
 ⟨dG c.b (jg d).1,dG c.b (jg d).2⟩
def UZ.h {b a c d:Nat} {e wr:aB} {f:Array Ft} (g:UZ b a c d e f wr) (b:Nat):wr.frozen? ⟨a,b,O⟩=false:=by
 rcases g.b.2 with⟨a,_⟩|⟨d,e,f,a,h,c,i,j,k,l⟩
 ·cases a
 ·injection a with a d d;injection a with a;injection a with a;subst a;exact bH.c c b
def UZ.e {c b d e:Nat} {f wr:aB} {g:Array Ft} (a:UZ c b d e f g wr):UZ c b d e f g wr.drew:=
 ⟨a.b,a.f.a (bg.j wr 1 (F:=[b])) (fun _ a=>.inl a)⟩
def UZ.i {e b f g:Nat} {h wr:aB} {c:Array Ft} (d:UZ e b f g h c wr) {k:Nat} (i:k<c.size) (a:Ft):UZ e b f g h (c.setIfInBounds k a) ((wr.setCell ⟨b,k*2,O⟩ (J U a.1)).setCell ⟨b,k*2+1,O⟩ (J U a.2)):=
 ⟨by rw[Jl c k a i];exact gT [J U a.1,J U a.2] (k*2) _ _ d.b,d.f.a (bg.f (F:=[b]) Y1 [J U a.1,J U a.2] (k*2) wr) (fun _ d=>.inl d)⟩
def KP (e b c:Nat) (a:List Ft) (f:aB) (g:Ending) (d:aB):Prop:=
 g=av (Z (R ⟨b,0,O⟩) (Lib.compact a).length c)∧d.ownsRow e 91 2 (Z (R ⟨b,0,O⟩) (Lib.compact a).length c) (Lib.compact a).length (bN (Lib.compact a))∧bg [b] f d
def Nz (r f b j:Nat) (i:List Ft) (n:aB) (h2:2≤b) (hn:b≤1000000) (s:i.length=b) (k:n.ownsRow r 91 2 (Z (R ⟨f,0,O⟩) b j) b (bN i)):
  aF au 222 #[Z (R ⟨f,0,O⟩) b j] n (KP r f j i n):=by
 obtain⟨e,z⟩:∃e:Array Ft,e=i.toArray:=⟨_,rfl⟩;have h0:e.size=b:=by rw[z];simpa using s
 have HR:Y (UZ r f b j n e n):=aj ⟨by rw[z];exact k,bg.o _ _⟩;have A:=aj (⟨z,h0⟩:e=i.toArray∧e.size=b);have o0:=(fH k).2;have mixed:Tryz.prog.follows .mixedOrders=true:=by kernel_rfl
 clear k s z;go_enter func222,ntmps222;go_wp2;go_loopg [3] b (fun F G wr=>∃a:Nat,1≤a∧a≤b∧b-a≤F∧G=J U a∧Y (UZ r f b j n e wr)∧Y (∀g,g<a→keeps e g=true));case atStart=>exact⟨1,aD _,by omega,by omega,rfl,HR,aj (keeps_lt_one e)⟩
 case round=>
  obtain⟨a,p0,hk,hg,rfl,o,B⟩:=hrel;by_cases q0:a<b
  ·obtain⟨S,T⟩:=o.o.a (i:=a) (by omega);obtain⟨V,W⟩:=o.o.a (i:=a-1) (by omega);generalize X:e[a]! =a0 at S T;generalize hy:e[a-1]! =b0 at V W;have t:=aj (⟨X,hy⟩:e[a]! =a0∧e[a-1]! =b0);clear X hy;obtain⟨x1,x2⟩:=a0;obtain⟨y1,y2⟩:=b0;by_cases C:x1=y1∧x2=y2
   ·obtain⟨rfl,rfl⟩:=C;go_wp2_with fail;go_region_o;go_wp2;have i0:=aj o.o.e;clear S T V W;go_loopg [3,5] b (fun F G s5 wr=>∃(c d:Nat) (l:Array Ft),G=J U c∧s5=J U d∧1≤d∧a+d≤b∧b- (a+d)≤F∧Y (UZ r f b j n l wr)∧c<a+d∧Y (CompInv e (a+d) c l));case atStart=>have p:=CompInv.start B.o (keeps_neg (by omega) (by rw[t.o.1,t.o.2]));exact⟨a,1,e,rfl,rfl,aD _,by omega,by omega,i0,p.lt,aj p⟩
    case round=>
     obtain⟨c,d,l,rfl,rfl,h1,r0,s0,m,t0,u⟩:=hrel;have u0:l.size=b:=by rw[u.o.size,A.o.2]
     by_cases j0:a+d<b
     ·obtain⟨H,I⟩:=m.o.a (i:=a+d) (by omega);obtain⟨K,L⟩:=m.o.a (i:=a+d-1) (by omega);obtain⟨k0,l0⟩:=m.o.a (i:=c) (by omega);have fr:=m.o.h;rw[u.o.high (a+d) (by omega)]at H I;rw[u.o.high (a+d-1) (by omega)]at K L;generalize hu:e[a+d]! =c0 at H I;generalize hv:e[a+d-1]! =d0 at K L;have v:=aj (⟨hu,hv⟩:e[a+d]! =c0∧e[a+d-1]! =d0);clear hu hv;rw[show(a+d)*2=a*2+d*2 by omega]at H I;rw[show(a+d-1)*2=a*2+(d-1)*2 by omega]at K L;obtain⟨u1,u2⟩:=c0;obtain⟨v1,v2⟩:=d0;generalize l[c]!.1=o1 at k0;generalize l[c]!.2=o2 at l0;by_cases w:u1=v1∧u2=v2
      ·obtain⟨rfl,rfl⟩:=w;go_wp2_with fail;go_region_o;go_wp2;go_roundg (b- (a+(d+1)));case measure=>omega
       case rel=>exact⟨c,d+1,l,rfl,by go_num,by omega,by omega,aD _,aj m.o.e,by omega,aj (u.o.skip (keeps_neg (by omega) (by rw[v.o.1,v.o.2])))⟩
      ·have M:=aj (u.o.keep (by rw[A.o.2];exact j0) (keeps_pos (by rw[v.o.1,v.o.2];exact fun h=>w ⟨bE Prod.fst h,bE Prod.snd h⟩)));rw[v.o.1]at M;have HP:=aj (m.o.i (k:=c) (by omega) (u1,u2)).e;by_cases m0:u1=v1
       ·subst m0;have v0:¬u2=v2:=fun h=>w ⟨rfl,h⟩;clear w;go_wp2_with fail;go_region_o;go_wp2;go_roundg (b- (a+(d+1)));case measure=>omega
        case rel=>exact⟨c+1,d+1,_,by go_num,by go_num,by omega,by omega,aD _,HP,by omega,M⟩
       ·clear w;go_wp2_with fail;go_region_o;go_wp2;go_roundg (b- (a+(d+1)));case measure=>omega
        case rel=>exact⟨c+1,d+1,_,by go_num,by go_num,by omega,by omega,aD _,HP,by omega,M⟩
     ·have e0:a+d=b:=by omega
      have w0:∀N,(Builtin.clear_ #[36] N #[Z (R ⟨f,c*2,O⟩) (b-c) (j-c)]).run au wr=.ok (aN #[]) (wr.setCells f (c*2) (uf (b-c))):=fun N=>by
       refine zG wr 36 91 N _ underlying36 Tryz.zeroValue91 _ f _ _ _ rfl (Jk _) (by omega) (fun D ht=>?_) (fun D _=>m.o.h _);rw[Jj]at ht;obtain⟨q,x,hr,rfl⟩:∃q x,x<2∧D=q*2+x:=⟨D/2,D%2,by omega,by omega⟩;obtain⟨P,Q⟩:=m.o.a (i:=c+q) (by omega);obtain rfl|rfl:x=0∨x=1:=by omega
       ·rw[show c*2+(q*2+0)=(c+q)*2 by omega,P];rfl
       ·rw[show c*2+(q*2+1)=(c+q)*2+1 by omega,Q];rfl
      have HE:Y (KP r f j i n (av (Z (R ⟨f,0,O⟩) c j)) (wr.setCells f (c*2) (uf (b-c)))):=by
       have p:=u.o;have hC:=m.o;obtain⟨P,Q⟩:=A.o;rw[e0,←Q]at p;have ec:Lib.compact i=compactUpTo e e.size:=by rw[P];simp[Lib.compact]
       have et:l.toList.take c=Lib.compact i:=by
        rw[ec];apply List.ext_getElem?;intro g;rw[List.getElem?_take];split
        ·rename_i y;rw[p.low g y,getElem!_pos l g (by omega)];simp
        ·rename_i y;rw[bQ (by rw[p.len];omega)]
       have el:(Lib.compact i).length=c:=by rw[ec,p.len]
       have E:=zF (gT (uf (b-c)) (c*2) _ _ hC.b) (m:=c) (by omega);rw[Da,xB,et]at E;exact⟨by rw[el],by rw[el];exact E,hC.f.a (bg.f (F:=[f]) (by simp) _ _ _) (fun _ k=>.inl k)⟩
      clear e0;go_wp2;go_ret;exact HE.o
   ·by_cases f0:x1=y1
    ·subst f0;have n0:¬x2=y2:=fun h=>C ⟨rfl,h⟩;clear C;go_wp2_with fail;go_region_o;go_wp2;go_roundg (b- (a+1));case measure=>omega
     case rel=>
      refine⟨a+1,by omega,by omega,aD _,by go_num,aj o.o.e,aj fun g y=>?_⟩;by_cases h:g=a
      ·subst h;exact keeps_pos (by rw[t.o.1,t.o.2];exact fun k=>n0 (bE Prod.snd k))
      ·exact B.o g (by omega)
    ·clear C;go_wp2_with fail;go_region_o;go_wp2;go_roundg (b- (a+1));case measure=>omega
     case rel=>
      refine⟨a+1,by omega,by omega,aD _,by go_num,aj o.o.e,aj fun g y=>?_⟩;by_cases h:g=a
      ·subst h;exact keeps_pos (by rw[t.o.1,t.o.2];exact fun k=>f0 (bE Prod.fst k))
      ·exact B.o g (by omega)
  ·obtain rfl:a=b:=by omega
   go_wp2;go_ret;have s:=A.o;obtain rfl:=s.1;have h:=compact_all i (fun g y=>B.o g (by have:=s.2;simp at this;omega));have g0:i.length=a:=by simpa using s.2
   have E:=o.o.b;exact⟨by rw[h,g0];rfl,by rw[h,g0];simpa using E,o.o.f⟩
def Jm (b:Option aX) (a c:Nat) (d:aB) (e:a<2):aF au 222 #[Z b a c] d fun e f=>e=av (Z b a c)∧f=d:=by go_enter func222,ntmps222;go_wp2;go_ret;exact Y5
def AU:∀(a:List Ft),a.length<2→Lib.compact a=a
 |[],_=>by simp[Lib.compact,compactUpTo]
 |[a],_=>compact_all [a] (fun a b=>keeps_lt_one _ a (Y6 b))
 |_::_::_,a=>by simp at a;omega
def RP (g:Nat) (c:aI) (a:List Ft) (b:aB) (k:a.length≤1000000) (d:b.ownsRow g 91 2 c a.length (bN a)):
  aF au 222 #[c] b fun h e=>∃f,h=av f∧e.ownsRow g 91 2 f (Lib.compact a).length (bN (Lib.compact a))∧f.ownBlock=c.ownBlock∧∀f,(∀i,c.ownBlock=R i→i∈f)→bg f b e:=by
 obtain⟨l,c,rfl⟩:=dB d;by_cases j:a.length<2
 ·refine mB (Jm l _ c b j) ?_;rintro e rfl;exact⟨_,rfl,by rw[AU a j];exact d,rfl,fun f _=>bg.o _ _⟩
 ·obtain⟨j,m,l⟩:=eu d Y0;injection l with l m m;subst l;refine mB (Nz g j _ c a b Y0 k rfl d) fun e ⟨a,b⟩=>?_;exact⟨_,rfl,a,rfl,fun f hF=>b.g fun i a=>.inl (by rw[aC.1 a];exact hF j rfl)⟩
end
section
open Go.Lib Go.Shelf Go.Sort
def nL (a:Ft):List aI:=[J U a.1,J U a.2]
def vB (a b:Ft):ltOf AQ a b=rA a b:=by
 unfold ltOf AQ;by_cases c:a=b
 ·subst c;simp[rA]
 ·rw[aL c];cases rA a b<;>rfl
def vC (a b:Ft):rA a b=true↔a.1<b.1∨(a.1=b.1∧a.2<b.2):=by
 unfold rA;by_cases c:a.1=b.1
 ·simp[c]
 ·simp[c]
def zbC:SWO (ltOf AQ)where
 irrefl x:=by rw[vB];simp[rA]
 trans x y z h1 h2:=by rw[vB,vC]at*;omega
 ntrans x y z h1 h2:=by
  rw[vB]at*
  rw[Bool.eq_false_iff]at*
  rw[ne_eq,vC]at*
  omega
def zbD (a b:Ft) (c:ltOf AQ a b=false) (d:ltOf AQ b a=false):a=b:=by rw[vB,Bool.eq_false_iff,ne_eq,vC]at c d;exact Prod.ext Y0 Y0
def leF:(fun a b:Ft=> !ltOf AQ b a)=xS:=by funext a b;rw[vB,Bool.eq_iff_iff,Bool.not_eq_true',Bool.eq_false_iff,ne_eq,vC];simp[xS];omega
def Wz (d:Array Ft):(flatK nL 2 d).toList=bN d.toList:=by
 apply List.ext_getElem?
 intro i
 by_cases h:i<d.size*2
 ·have e:(flatK nL 2 d).toList[i]?=R (nL d[i/2]!)[i%2]!:=by
   rw[←get_flatK nL 2 d i h,getElem!_pos _ i (by simpa using h)];simp
  rw[e]
  obtain⟨q,rfl|rfl⟩:∃q,i=q*2∨i=q*2+1:=⟨i/2,by omega⟩
  ·rw[(jg (i:=q) (by omega)).1,show q*2/2=q by omega,show q*2%2=0 by omega];rfl
  ·rw[(jg (i:=q) (by omega)).2,show(q*2+1)/2=q by omega,show(q*2+1)%2=1 by omega];rfl
 ·rw[bQ (by simpa using h),bQ (by rw[nk];simpa using h)]
def BL (b a:List aI) (c:b.length=a.length):jS b 0 a=a:=by have:=zI b a [] (by simp;omega);rw[show jS (jS b 0 a) a.length []=jS b 0 a from rfl,bW (by rw[kZ];omega)]at this;exact this
def WB (b a:Array aI) (c:b.size=a.size):lay b 0 a.toList=a:=by
 apply Array.ext_getElem?;intro b;rw[lay_get? _ _ _ _ (by simp;omega)];by_cases c:b<a.size
 ·rw[aP (by simp;omega)];simp
 ·rw[aL (by simp;omega),Array.getElem?_eq_none Y0,Array.getElem?_eq_none Y0]
def zZ (a:aB) (b:Array Obj):aJ a a (grow a b):=
 ⟨rfl,rfl,rfl,by simp[grow],fun b a=>by simp[grow,Array.getElem?_append_left a]⟩
def RQ (B:Nat) (v:aI) (l:List Ft) (w:aB) (hn:l.length≤1000000) (h:w.ownsRow B 91 2 v l.length (bN l)):
  aF au 220 #[v,.func (.func 221) #[] #[]] w fun e w'=>e=av (aN #[])∧w'.ownsRow B 91 2 v l.length (bN (l.mergeSort xS))∧∀F,(∀b,v.ownBlock=R b→b∈F)→bg F w w':=by
 obtain⟨A,C,rfl⟩:=dB h
 by_cases h0:l.length=0
 ·obtain rfl:=List.length_eq_zero_iff.1 h0
  have hS:=AnyF.slices_SortFunc_none (P:=au) (ρ:=Tryz.ls220_ren) {Tryz.ls220 with} A C (.func (.func 221) #[] #[]) w
  change aF au 220 _ _ _ at hS
  refine hS.mono ?_
  rintro e w' ⟨rfl,rfl⟩
  exact⟨rfl,by simpa using h,fun F _=>bg.o _ _⟩
 ·obtain⟨g,C',hv⟩:=eu h (by omega)
  injection hv with e1 e2 e3
  subst e1
  have hR:UZ B g l.length C w l.toArray w:=⟨h,bg.o _ _⟩
  have hH:HoldsK nL 2 w g 0 l.toArray:=by
   intro t ht
   have ht2:t<l.length*2:=by simpa using ht
   rw[get_flatK _ _ _ _ (by simpa using ht),cK]
   refine⟨?_,hR.h t⟩
   obtain⟨q,rfl|rfl⟩:∃q,t=q*2∨t=q*2+1:=⟨t/2,by omega⟩
   ·rw[(hR.a (i:=q) (by simp;omega)).1,show q*2/2=q by omega,show q*2%2=0 by omega];rfl
   ·rw[(hR.a (i:=q) (by simp;omega)).2,show(q*2+1)/2=q by omega,show(q*2+1)%2=1 by omega];rfl
  have hb:g<w.heap.size:=(h.lt g rfl).2
  have eg:∀args w,(callFunc 221 args).run au w=.ok (.enter 221 args) w:=enters_of func221 (by kernel_rfl) rfl
  have hS:=AnyQ.slices_SortFunc_total (P:=au) Tryz.ls220 2 Tryz.isAgg91 Tryz.sizeOf91 nL (fun _=>rfl) (fun x v hv=>by simp[nL]at hv;rcases hv with rfl|rfl<;>rfl) AQ zbC 221 #[] g 0 C l.toArray w eg (fun _ _ _ _ x y=>FT x y _) hH hb (by simp;omega) zbD
  rw[leF]at hS
  change aF au 220 _ _ _ at hS
  refine hS.mono ?_
  rintro e w' ⟨rfl,n,os,rfl⟩
  obtain⟨d,hd⟩:=exq ((l.mergeSort xS).toArray)
  have hds:d.size=l.length:=by rw[←hd];simp
  have hP:putRowK nL 2 (Sort.ahead w n) g 0 d=(Sort.ahead w n).setCells g 0 (flatK nL 2 d).toList:=by
   have e:=putRow_setCells id (Sort.ahead w n) g 0 (flatK nL 2 d).toList (flatK nL 2 l.toArray) 0 (by simp[hds])
   rw[WB _ _ (by simp[hds]),putRow_self id _ g 0 _ (holdsK_ahead nL 2 w n g 0 _ hH)]at e
   rw[List.map_id]at e
   exact e.symm
  obtain⟨W,hW⟩:∃W,W=putRowK nL 2 (Sort.ahead w n) g 0 d:=⟨_,rfl⟩
  have hO:bg [g] w W:=by
   rw[hW,hP]
   exact(bg.j w n (F:=[g])).a (bg.f (F:=[g]) (by simp) _ _ _) (fun _ h=>.inl h)
  have hw:W.ownsRow B 91 2 (Z (R ⟨g,0,O⟩) l.length C) l.length (bN (l.mergeSort xS)):=by
   have:=gT (flatK nL 2 d).toList 0 (Sort.ahead w n) _ (show(Sort.ahead w n).ownsRow B 91 2 (Z (R ⟨g,0,O⟩) l.length C) l.length (bN l)from h)
   rw[←hP,←hW,BL _ _ (by rw[nk];simp[hds]),Wz,←hd]at this
   exact this
  have hg:aJ W.heap.size W (grow W os):=zZ W os
  unfold sortWorldK
  rw[hd,←hW]
  exact⟨rfl,dF hw hg,fun F hF=>(hO.g fun b hb=>.inl (by rw[aC.1 hb];exact hF g rfl)).a (bg.d (F:=F) hg) (fun _ h=>.inl h)⟩
end
section
open Go.Lib Go.Shelf Go.Sort
def ug:(Tryz.prog.info? 91).map (fun a=>(a.zero,a.size,a.bytes))=R (R (aS #[J U 0,J U 0]),2,16):=by kernel_rfl
def xC {c:Type} {d:List c} {e:Nat} {a:c} (b:c→Bool) (c:d[e]?=R a):(d.take (e+1)).filter b=(d.take e).filter b++(if b a then [a]else []):=by rw[List.take_add_one,c,List.filter_append];cases hf:b a<;>simp[hf]
def iX (a:List Ft) (b:aB) (f:Ending) (c:aB):Prop:=
 ∃d e,f=av (Z d a.length e)∧c.ownsRow b 91 2 (Z d a.length e) a.length (bN a)∧aJ b b c
def KQ (a:Option aX) (j o:Nat) (h:List Ft) (b:aB) (i:h.length=j) (c:j≤1000000) (k:bU b a (bN h)):aF au 182 #[Z a j o] b (iX (eG h) b):=by
 have p:=aj i;have l:=aj k;have q:=fun a b=>aj (Ji a b);have u:=fun(f:aI) (c:List Ft) (d:aB) (e:c.length≤1000000) (g:d.ownsRow b 91 2 f c.length (bN c))=>aj (RQ b.heap.size f c d e g);have v:=fun(f:aI) (c:List Ft) (d:aB) (e:c.length≤1000000) (g:d.ownsRow b 91 2 f c.length (bN c))=>aj (RP b.heap.size f c d e g);clear i k;go_enter func182,ntmps182;go_wp2;go_loopw [3,8] (fun f c wr=>∃(g:Nat) (a:List Ft) (d:Option aX) (e:Nat),g≤j∧c=J U g∧f=Z d a.length e∧Y (a=(h.take g).filter ni)∧Y (wr.ownsRow b 91 2 (Z d a.length e) a.length (bN a)∧aJ b b wr)) (fun _ c _=>j- (intOf c).toNat);case atStart=>exact⟨0,[],O,0,aZ _,rfl,rfl,aj Y1,aj ⟨by simpa[bN]using aT _ _ _ _,ay _ _⟩⟩
 case round=>
  obtain⟨g,a,d,e,c,rfl,rfl,r,i⟩:=hrel;by_cases f:g<j
  ·obtain⟨c,k⟩:∃c,h[g]?=R c:=⟨_,aQ (by rw[p.o];exact f)⟩;obtain⟨f,m,rfl,n,s⟩:=zn (l.o.a i.o.2) k;have n:=aj (xC ni k);rw[←r.o]at n;clear k;have k:=fun b=>q c b;obtain⟨t,l⟩:=exq (ni c);rw[l]at n k;clear l q;obtain⟨l,m⟩:=c;unfold CB at k;have c:=aj (gU wr 91 #[l,m]);have s:=aj (i.o.2.trans (c.o.1.mono i.o.2.size));have y:=aj (dF i.o.1 c.o.1);obtain⟨w,x⟩:=bH.m c.o.2;go_wp2_with fail;refine mB ((k _).o) fun x k=>?_;obtain⟨z,A⟩:=bH.m (c.o.2.b k);have c:=aj (s.o.trans (k.mono s.o.size));have s:=aj (dF y.o k);clear k;have y:a.length≤1000000:=by rw[r.o];exact aR (List.length_filter_le _ _) (by rw[dw];omega)
   cases t
   ·go_wp2;go_roundw;case rel=>exact⟨g+1,a,d,e,Y0,by go_num,rfl,aj (by rw[n.o];simp),aj ⟨s.o,c.o⟩⟩
    case measure=>simp[intOf];omega
   ·go_wp2_with (at_builtin;go_loud (refine oW rfl (.tmp 14) (.tmp 16) 36 rfl b.heap.size 91 2 ug rfl Y2 underlying36 #[l,m] rfl (Z d a.length e) a.length (bN a) rfl s.o rfl (by simp[Value.oneCell']) (by unfold maxLen;omega) Y0 c.o.size ?_));intro z A B C D E F;have t:Y (B.ownsRow b 91 2 (Z (R ⟨z,0,O⟩) (a++[(l,m)]).length A) (a++[(l,m)]).length (bN (a++[(l,m)]))∧aJ b b B):=aj ⟨by
     have:=C;rw[bL];simpa[bN]using this,c.o.trans (D.c c.o.size fun f c=>by
      cases hv:(Z d a.length e).ownBlock with
      |none=>rw[hv]at c;simp at c
      |some o=>rw[hv]at c;simp at c;rw[c];exact(s.o.lt o hv).1)⟩
    clear C D E F;go_wp2;go_roundw;case rel=>exact⟨g+1,a++[(l,m)],R ⟨z,0,O⟩,A,Y0,by go_num,Y1,aj (by rw[n.o];simp),t⟩
    case measure=>simp[intOf];omega
  ·obtain rfl:g=j:=Y0;have g:a=h.filter ni:=by rw[r.o,bW (by rw[p.o];omega)]
   have y:a.length≤1000000:=by rw[g];exact aR (List.length_filter_le _ _) (by rw[p.o];omega)
   have j:=u (Z d a.length e) a wr y i.o.1;have n:=aj g;clear g q u;go_wp2_with fail;refine mB j.o fun x ⟨g,k⟩=>?_;have j:∀f,(Z d a.length e).ownBlock=R f→b.heap.size≤f:=fun f c=>(i.o.1.lt f c).1;have o:=aj (k (Z d a.length e).ownBlock.toList (fun f c=>by rw[c];simp));have l:(a.mergeSort xS).length=a.length:=Y1;have m:=v (Z d a.length e) (a.mergeSort xS) x Y0 (by rw[l];exact g);clear k g v l;go_wp2_with fail;refine m.o.mono ?_;rintro w p ⟨l,rfl,g,q,k⟩;obtain⟨l,m,rfl⟩:=dB g;have r:=aj (k (Z d a.length e).ownBlock.toList (fun f c=>by rw[c];simp));have t:Y (iX (eG h) b (av (Z l (Lib.compact (a.mergeSort xS)).length m)) p):=by
    have p:eG h=Lib.compact (a.mergeSort xS):=by rw[n.o];rfl
    have h:∀f∈(Z d a.length e).ownBlock.toList,b.heap.size≤f:=fun f c=>j f (bC.1 c);rw[p];exact⟨l,m,rfl,g,i.o.2.trans ((o.o.a r.o (fun _ a=>.inl a)).c i.o.2.size h)⟩
   clear g q k j;go_wp2;go_ret;exact t.o
end
section
open Go.Lib Go.Shelf Go.Sort
def ZL:∀(a:List Ft),∀b∈bN a,b.oneCell'=true:=fun a b c=>by
 obtain⟨b,_,a⟩:=List.mem_flatMap.1 c
 simp at a
 rcases a with rfl|rfl<;>rfl
def dD {b:aB} {f c g h:Nat} {i:bB} {a:Option aX} {e:List aI} (d:b.ownsRow f i h (Z a c g) c e):bU b a e:=fun b e f=>by
 cases a with
 |none=>
  have b:=(fH d).1 rfl
  have a:=d.1
  rw[b.1,Nat.zero_mul]at a
  rw[List.length_eq_zero_iff.1 a]at f
  simp at f
 |some h=>
  obtain⟨a,e,b⟩:∃a e,Z (R h) c g=Z (R ⟨a,0,O⟩) c e:=by
   rcases d.2 with⟨b,_⟩|⟨a,e,c,b,_⟩
   ·cases b
   ·exact⟨a,e,b⟩
  injection b with b c c
  injection b with b
  subst b
  exact⟨a,0,rfl,by rw[cK];exact dG d f⟩
def dZ {b:Nat} {c d e:aB} {v:aI} (f:aJ b c d) (g:b≤c.heap.size) (h:∀a,v.ownBlock=R a→b≤a) (i:d.grownBy e v.ownBlock):aJ b c e:=
 f.trans ((bg.k (F:=v.ownBlock.toList) i (fun a b=>.inl (by rw[b];simp))).c (aR g f.size) fun a b=>h a (bC.1 b))
def NA (b:Nat) (a:aB) (c:b≤3000000):aF au 223 #[Z O 0 0,J U (b:Nat)] a fun e c=>∃d,e=av d∧c.ownsRow a 91 2 d 0 []∧aJ a a c:=by
 cases b with
 |zero=>go_enter func223,ntmps223;go_wp2;go_ret;exact⟨_,rfl,aT _ _ _ _,ay _ _⟩
 |succ d=>
  obtain⟨b,h,i,l,j⟩:=info_parts ug;have f:=run_append_nil_zeros (P:=au) a 36 3 36 91 b _ U U underlying36 underlying3 h i (d+1) Y0 Y0 Y0 (by rw[j];omega);obtain⟨c,e⟩:=exq (grownCap a (d+1) 0 91);have b:d+1≤c:=by rw[←e];exact grownCap_ge _ _ _ _
  have k:c≤maxLen:=by rw[←e];exact grownCap_le_maxLen _ _ _ _ (by unfold maxLen;omega)
  rw[e]at f;obtain⟨b,g⟩:=exq (Builtin.zeroCells (aS #[J U 0,J U 0]).cells (d+1)++Builtin.zeroCells (aS #[J U 0,J U 0]).cells (c- (d+1)));have d:b.size=c*2:=by rw[←g];simp[Builtin.zeroCells,Value.cells];omega
  rw[g]at f;have m:Y ((a.drew.alloc (.cells b 91)).ownsRow a 91 2 (Z (R ⟨a,0,O⟩) 0 c) 0 []∧aJ a a (a.drew.alloc (.cells b 91))):=by have n:=bH.d a.drew 91 b;exact⟨⟨rfl,.inr ⟨a,c,b,rfl,aD _,n,aZ _,k,d,Y1⟩⟩,(ay _ a).drew.alloc (aD _) _⟩
  clear g d h i l j e k;go_enter func223,ntmps223;go_wp2_with (at_builtin;go_loud (refine wpList_append_run _ rfl (.tmp 20) (.tmp 21) 36 3 rfl _ _ rfl rfl _ _ f ?_));go_ret;exact⟨_,rfl,m.o⟩
def Jo (b:Nat) (i j:Option aX) (e o g p:Nat) (d f:List Ft) (a:aB) (k:d.length=e) (l:f.length=g) (y:e≤1000000) (c:g≤1000000) (m:i=O→e=0∧o=0) (n:j=O→g=0∧p=0)
  (c:bH a b 36 #[Z i e o,Z j g p]) (s:bU a i (bN d)) (t:bU a j (bN f)):aF au 183 #[Z (R ⟨b,0,O⟩) 2 2] a (iX (d++f) a):=by
 have h:=aj (⟨k,l,m,n⟩:d.length=e∧f.length=g∧(i=O→e=0∧o=0)∧(j=O→g=0∧p=0));have w:=aj (⟨c,s,t⟩:bH a b 36 #[Z i e o,Z j g p]∧bU a i (bN d)∧bU a j (bN f));have b:=aj (NA (e+g) a Y0);obtain⟨q,r⟩:=bH.m c;rw[Int.natCast_add]at b;clear k l m n c s t;go_enter func183,ntmps183;go_wp2;go_loopw [3,11] (fun k c wr=>a=wr∧((c=J U 0∧k=J U 0)∨(c=J U 1∧k=J U e)∨(c=J U 2∧k=J U ((e:Int)+g)))) (fun _ c _=>2- (intOf c).toNat);case atStart=>exact⟨rfl,.inl Y5⟩
 case round=>
  obtain⟨rfl,⟨rfl,rfl⟩|⟨rfl,rfl⟩|⟨rfl,rfl⟩⟩:=hrel
  ·go_wp2;go_roundw;case rel=>exact⟨trivial,.inr (.inl ⟨rfl,by go_num⟩)⟩
   case measure=>simp[intOf]
  ·go_wp2;go_roundw;case rel=>exact⟨trivial,.inr (.inr ⟨rfl,by go_num⟩)⟩
   case measure=>simp[intOf]
  ·go_wp2_with fail;refine b.o.mono ?_;rintro s n ⟨k,rfl,m,l⟩;obtain⟨s,t,rfl⟩:=dB m;have v:Y (n.ownsRow a 91 2 (Z s 0 t) 0 (bN [])∧aJ a a n):=aj ⟨m,l⟩;clear m l q r b;go_wp2;go_loopw [6,27] (fun k c u=>∃(m:Option aX) (n:Nat) (b:List Ft),k=Z m b.length n∧Y (u.ownsRow a 91 2 (Z m b.length n) b.length (bN b)∧aJ a a u)∧((c=J U 0∧b=[])∨(c=J U 1∧b=d)∨(c=J U 2∧b=d++f))) (fun _ c _=>2- (intOf c).toNat);case atStart=>exact⟨s,t,[],rfl,v,.inl Y5⟩
   case round=>
    obtain⟨m,n,b,rfl,c,⟨rfl,rfl⟩|⟨rfl,rfl⟩|⟨rfl,rfl⟩⟩:=hrel
    ·obtain⟨q,r⟩:=bH.m (w.o.1.b c.o.2);have x:=aj (w.o.2.1.a c.o.2);go_wp2_with (at_builtin;go_loud (refine fK rfl (.tmp 31) (.tmp 32) 36 rfl a.heap.size 91 2 ug rfl Y2 underlying36 (Z m _ n) _ (bN []) rfl c.o.1 i e o (bN d) rfl (by rw[nk,h.o.1]) h.o.2.2.1 x.o (ZL _) (by unfold maxLen;simp;omega) (by simp;omega) c.o.2.size ?_));intro k s t u v;have e:=aj (⟨by have:=u;rw[←h.o.1,show bN []=[]from rfl,List.nil_append]at this;exact this,dZ c.o.2 (aD _) (fun i l=>(c.o.1.lt i l).1) v⟩:t.ownsRow a 91 2 (Z k d.length s) d.length (bN d)∧aJ a a t);clear u v q r;go_wp2;go_roundw;case rel=>exact⟨k,s,d,by rw[h.o.1],e,.inr (.inl Y5)⟩
     case measure=>simp[intOf]
    ·obtain⟨q,r⟩:=bH.m (w.o.1.b c.o.2);have x:=aj (w.o.2.2.a c.o.2);have d:b.length≤1000000:=by rw[h.o.1];exact y
     go_wp2_with (at_builtin;go_loud (refine fK rfl (.tmp 31) (.tmp 32) 36 rfl a.heap.size 91 2 ug rfl Y2 underlying36 (Z m _ n) _ (bN b) rfl c.o.1 j g p (bN f) rfl (by rw[nk,h.o.2.1]) h.o.2.2.2 x.o (ZL _) (by unfold maxLen;omega) Y0 c.o.2.size ?_));intro k s t u v;have e:=aj (⟨by have:=u;rw[←h.o.2.1]at this;rw[bL];simpa[bN]using this,dZ c.o.2 (aD _) (fun i l=>(c.o.1.lt i l).1) v⟩:t.ownsRow a 91 2 (Z k (b++f).length s) (b++f).length (bN (b++f))∧aJ a a t);clear u v q r;go_wp2;go_roundw;case rel=>exact⟨k,s,b++f,by rw[bL,h.o.2.1],e,.inr (.inr Y5)⟩
     case measure=>simp[intOf]
    ·go_wp2;go_ret;exact⟨m,n,rfl,c.o⟩
def BM (f g:Option aX) (d i e j:Nat) (a b:List Ft) (c:aB) (k:a.length=d) (l:b.length=e) (h:d≤400000) (h:e≤400000) (m:f=O→d=0∧i=0) (n:g=O→e=0∧j=0)
  (o:bU c f (bN a)) (p:bU c g (bN b)):aF au 140 #[Z f d i,Z g e j] c (iX (eG (a++b)) c):=by
 have h:=aj (gU c 36 #[Z f d i,Z g e j]);have q:=aj (Jo c.heap.size f g d i e j a b _ k l Y0 Y0 m n h.o.2 (o.a h.o.1) (p.a h.o.1));have e:(a++b).length≤1000000:=by rw[bL];omega
 clear o p k l m n;go_enter func140,ntmps140;go_wp2_with fail;refine q.o.mono ?_;rintro j d ⟨k,l,rfl,f,g⟩;have i:=aj (KQ k (a++b).length l (a++b) d rfl e (dD f));have d:=aj (h.o.1.trans (g.mono h.o.1.size));clear f g q e;generalize(a++b).length=e at i;go_wp2_with fail;refine i.o.mono ?_;rintro j i ⟨e,f,rfl,g,h⟩;have j:=aj (⟨e,f,rfl,dz g d.o.size,d.o.trans (h.mono d.o.size)⟩:iX (eG (a++b)) c (av (Z e (eG (a++b)).length f)) i);clear g h;go_wp2;go_ret;exact j.o
end
def beB (a:Int) (b:Nat):Int:=a/2^(8*b)%256
def xG (a:Int):Nat→List Int
 |0=>[]
 |b+1=>beB a b::xG a b
def yx (a:List Int) (b:aB) (f:Ending) (c:aB):Prop:=∃d e,f=av (aN #[Z (R ⟨d,0,O⟩) a.length e,J U 0])∧c.ownsRow b 5 1 (Z (R ⟨d,0,O⟩) a.length e) a.length (dP a)∧aJ b b c
def pW (b:Int):∀a,(xG b a).length=a
 |0=>rfl
 |a+1=>by rw[xG,List.length_cons,pW b a]
def Lm (b:List Int):∀a∈dP b,a.oneCell'=true:=fun a b=>by obtain⟨a,_,rfl⟩:=dI.1 b;rfl
def JD {f:aB} {B c a d:Nat} {b:List Int} {e:Array aI} (g:e.size=a+d) (h:b.length=a) (i:B≤c) (j:a+d≤maxLen) (k:f.heap[c]?=R (.cells (splice e.toList 0 (dP b)).toArray 5 (0,0))):f.ownsRow B 5 1 (Z (R ⟨c,0,O⟩) a (a+d)) a (dP b):=by
 have f:(dP b).length=a:=by unfold dP;rw[List.length_map,h]
 refine⟨by rw[f];omega,.inr ⟨c,a+d,_,rfl,i,k,Y0,j,?_,?_⟩⟩
 ·simp[length_splice e.toList 0 (dP b) (by simp;omega),g]
 ·unfold splice;simp[f]
def Gs (A:Option aX) (n c:Nat) (l:List Int) (v:Int) (s:Nat) (w:aB) (h1:1≤s) (h4:s≤4) (hn:l.length=n) (hm:n≤1000000) (hv:0≤v) (hv2:v≤vV s) (hs:Y (bU w A (dP l))):
  aF au 74 #[Z A n c,J U v,J U s] w (yx (l++xG v s) w):=by
 have htop:=fun w=>aj (Im (s:Int) w)
 have hq:bV (s:Int) 1 4=true:=by unfold bV;simp;omega
 obtain⟨t,ht⟩:=exq (vV (s:Int))
 rw[hq,ht]at htop
 rw[ht]at hv2
 have HN:=aj hn
 clear hq ht hn
 have hw0:U.wrap (n+s:Int)=n+s:=bF _ (by omega)
 have hw1:U.wrap (8*s:Int)=8*s:=bF _ (by omega)
 obtain⟨i0,hi0,hz0,hz1,hz2⟩:=info_parts qL
 have hmk:=run_makeSlice (P:=au) (w:=w) 28 5 i0 (J .u8 0) underlying28 hi0 hz0 U U n (n+s) (by omega) (by omega) (by rw[hz1];show(n+s:Int).toNat*1≤_;omega) (by rw[hz2];show(1:Int)*(n+s:Int)≤_;omega) (by omega)
 rw[show(n+s:Int).toNat=n+s by omega,bZ,hz1]at hmk
 obtain⟨z,hz⟩:=exq (madeCells (J .u8 0).cells ((n+s)*1))
 have hzs:z.size=n+s:=by rw[←hz,size_madeCells];omega
 rw[hz]at hmk
 clear hz i0 hi0 hz0 hz1 hz2
 obtain⟨W1,hW1⟩:=exq (w.alloc (.cells z 5))
 have HB1:Y (aJ w.heap.size w W1):=aj (by rw[←hW1];exact(ay _ w).alloc (aD _) _)
 have HC1:Y (W1.heap[w.heap.size]?=R (.cells z.toList.toArray 5 (0,0))):=aj (by rw[←hW1];exact bH.d w 5 z)
 rw[hW1]at hmk
 have HS1:=aj (hs.o.a HB1.o)
 have HZ:=aj hzs
 clear hW1 hs hzs
 go_enter func74,ntmps74
 have HSRC:Y (0<(dP l).length→∃ad,A=R ad∧∀j v,(dP l)[j]?=R v→W1.cell? (ad.add j)=R v):=aj fun h0=>by
  obtain⟨x,hx⟩:∃x,(dP l)[0]?=R x:=⟨_,aQ h0⟩
  obtain⟨b,o,hA,_⟩:=HS1.o 0 x hx
  exact⟨_,hA,fun j u hj=>by obtain⟨b',o',e,hc⟩:=HS1.o j u hj;rw[hA]at e;injection e with e;injection e with e1 e2;subst e1 e2;rw[show(⟨b,o,O⟩:aX).add j=⟨b,o+j,O⟩ by by_cases h:j=0<;>simp[Addr.add,h]];exact hc⟩
 go_upto_region 7 with(go_at_call 113;refine(htop _).o.mono ?_;rintro e w1 ⟨rfl,rfl⟩)
 go_wp2_with (refine wpList_copy_splice rfl (.tmp 35) (.tmp 36) 28 28 rfl 5 underlying28 (by kernel_rfl) (R ⟨w.heap.size,0,O⟩) A n (n+s) n c rfl rfl w.heap.size 0 z.toList 5 HC1.o (dP l) (by unfold dP;rw[List.length_map,HN.o];exact(Nat.min_self n).symm) (fun h0=>⟨rfl,HSRC.o h0⟩) (by unfold dP;simp[HN.o,HZ.o]) (Lm l) w.heap.size w HB1.o (aD _) ?_)
 intro w2 HG2 hB2
 have HO:=aj (JD (B:=w.heap.size) HZ.o HN.o (aD _) (by unfold maxLen;omega) HG2.out)
 have HB2:=aj hB2
 clear HG2 hB2 HC1 HS1 HZ hmk HB1
 go_wp2_with fail
 go_loopw [10,11] (fun b i wr=>∃(j g C:Nat) (f:List Int),j≤s∧i=J U (8*(j:Nat))∧b=Z (R ⟨g,0,O⟩) f.length C∧Y (f++xG v j=l++xG v s)∧Y (wr.ownsRow w.heap.size 5 1 (Z (R ⟨g,0,O⟩) f.length C) f.length (dP f)∧aJ w.heap.size w wr)) (fun _ i _=>(intOf i).toNat)
 case atStart=>exact⟨s,_,_,l,aD _,rfl,by rw[HN.o],aj rfl,aj ⟨by have:=HO.o;rw[←HN.o]at this;rw[HN.o]at*;exact this,HB2.o⟩⟩
 case round=>
  obtain⟨j,g,C,f,hj,rfl,rfl,HF,HI⟩:=hrel
  have hfl:f.length+j=n+s:=by have:=bE List.length HF.o;simp[pW,HN.o]at this;omega
  have HFL:=aj hfl
  have hfb:f.length≤1000004:=by omega
  clear hfl
  by_cases hlt:0<j
  ·obtain⟨i,rfl⟩:∃i,j=i+1:=⟨j-1,by omega⟩
   have HF2:Y ((f++[beB v i])++xG v i=l++xG v s):=aj (by rw[←HF.o,xG];simp)
   obtain rfl|rfl|rfl|rfl:i=0∨i=1∨i=2∨i=3:=by omega
   all_goals
    go_wp2_with (at_builtin;go_loud (refine jP rfl (.tmp 44) (.tmp 50) 28 rfl w.heap.size 5 qL rfl underlying28 (R ⟨g,0,O⟩) f.length C (dP f) _ rfl HI.o.1 wr.heap.size rfl rfl rfl (by unfold maxLen;omega) (by omega) HI.o.2.size ?_))
    intro g5 c5 W5 hown5 hg5
    have hB5:aJ w.heap.size w W5:=dZ (HI.o.2.trans ((ay _ _).alloc HI.o.2.size _)) (aD _) (fun b hb=>(HI.o.1.lt b hb).1) hg5
    have HO5:=aj hown5
    have HB5:=aj hB5
    clear hown5 hg5 hB5
    go_wp2_with fail
    go_roundw
    case rel=>exact⟨_,g5,c5,f++[beB v _],by omega,rfl,by simp,HF2,aj ⟨by have:=HO5.o;unfold dP at*;simpa[beB]using this,HB5.o⟩⟩
    case measure=>simp[intOf]
  ·obtain rfl:j=0:=by omega
   have HE:Y (f=l++xG v s):=aj (by have:=HF.o;simpa[xG]using this)
   have HP:Y (yx (l++xG v s) w (av (aN #[Z (R ⟨g,0,O⟩) f.length C,J U 0])) wr):=aj (by
    rw[HE.o]at HI⊢
    exact⟨g,C,rfl,HI.o.1,HI.o.2⟩)
   go_wp2_with fail
   go_ret2
   exact HP.o
def fA (a b c d:Int) (e:Bool):List Int:=((xG a 3++xG b 1)++xG c 1)++xG (kG d e) 4
def YB (b:Bool) (e:List Int) (a:aB) (c:Ending) (d:aB):Prop:=(b=false∧c=av (aN #[Z O 0 0,J U 5])∧aJ a a d)∨(b=true∧yx e a c d)
def Ls {a:Int} {r:Bool} (b:0≤a) (b:a<2147483648):0≤kG a r∧kG a r≤vV 4:=by have:vV 4=4294967295:=Y2;rw[this];unfold kG;split<;>omega
def zcc {a:List Int} {b c:aB} {f d:Nat} {v:Int} {s:Nat} (g:1≤s) (h:s≤4) (e:a.length≤100) (i:0≤v) (j:v≤vV s) (e:aJ b b c) (k:c.ownsRow b 5 1 (Z (R ⟨f,0,O⟩) a.length d) a.length (dP a)):
  aF au 74 #[Z (R ⟨f,0,O⟩) a.length d,v,s] c (yx (a++xG v s) b):=
 (Gs _ _ d a v s c g h rfl Y0 i j (aj (jE k).a)).mono fun g h ⟨a,b,c,d,f⟩=>⟨a,b,c,dz d e.size,e.trans (f.mono e.size)⟩
def TV (a b c d:Int) (f:Bool) (e:aB):
  aF au 35 #[aS #[a,b,c,d,f]] e (YB (gK a b c d) (fA a b c d f) e):=by
 have l:=fun e=>aj (Io a b c d f e);obtain⟨i,g⟩:=exq (gK a b c d);rw[g]at l⊢;have h:=aj (gU e 97 #[a,b,c,d,f]);obtain⟨u,v,w,x,y⟩:=bH.k h.o.2;have k:=aj g;clear g;cases i with
 |false=>go_enter func35,ntmps35;go_wp2_with (go_at_call 72;refine(l _).o.mono ?_;rintro i m ⟨rfl,g⟩;have n:=aj g;clear g);go_ret2;exact .inl ⟨rfl,rfl,h.o.1.trans (n.o.mono h.o.1.size)⟩
 |true=>
  have j:(0≤a∧a≤16777215)∧(0≤b∧b≤255)∧(0≤c∧c≤255)∧(0≤d∧d≤2147483647):=by have:=k.o;unfold gK bV at this;simp at this;omega
  have o:=fun e=>aj (QC d f e j.2.2.2.1 Y0);have p:=Ls (r:=f) j.2.2.2.1 Y0;obtain⟨z,k⟩:=exq (kG d f);rw[k]at o p;have A:=aj k;clear k;go_enter func35,ntmps35;go_upto_region 4 with(first|(go_at_call 72;refine(l _).o.mono ?_;rintro i m ⟨rfl,g⟩;have n:=aj g;have k:=h.o.2.b g;have r:=aj k;obtain⟨B,C,D,E,F⟩:=bH.k k;clear g k)|(go_at_call 73;refine(o _).o.mono ?_;rintro i s ⟨rfl,rfl⟩));have q:=aj (h.o.1.trans (n.o.mono h.o.1.size));have k:vV ((3:Nat):Int)=16777215:=Y2;have s:=aj (Gs O 0 0 [] a 3 m Y2 Y2 rfl Y2 j.1.1 (by rw[k];exact j.1.2) (aj (bU.f _ _)));have t:Y (∀k,aJ m m k→k.cell? ⟨e,0,O⟩=R (J U a)∧k.cell? ⟨e,1,O⟩=R (J U b)∧k.cell? ⟨e,2,O⟩=R (J U c)):=aj fun k g=>by have:=r.o.b g;exact⟨this.a 0,this.a 1,this.a 2⟩
  have k:vV ((1:Nat):Int)=255:=Y2;have m:=aj p;have g:=aj j;clear l o h n u v w x y r j p;go_upto_region 5 with(go_at_call 74;refine s.o.mono ?_;rintro i p ⟨r,u,rfl,j,h⟩;obtain⟨u0,u1,u2⟩:=t.o _ h;have l:=aj j;have n:=aj h;clear j h B C D E F s);have o:=aj (zcc (v:=b) (s:=1) Y2 Y2 (by simp[pW]) g.o.2.1.1 (by rw[k];exact g.o.2.1.2) n.o l.o);go_upto_region 6 with(go_at_call 74;refine o.o.mono ?_;rintro i x ⟨y,B,rfl,j,h⟩;obtain⟨u,v,w⟩:=t.o _ h;have p:=aj j;have r:=aj h;clear j h u0 u1 u2 o l n);have s:=aj (zcc (v:=c) (s:=1) Y2 Y2 (by simp[pW]) g.o.2.2.1.1 (by rw[k];exact g.o.2.2.1.2) r.o p.o);go_upto_region 7 with(go_at_call 74;refine s.o.mono ?_;rintro i n ⟨o,t,rfl,g,h⟩;have j:=aj g;have k:=aj h;clear g h u v w s p r);have l:=aj (zcc (v:=z) (s:=4) Y2 Y2 (by simp[pW]) m.o.1 m.o.2 k.o j.o);go_wp2_with (go_at_call 74;refine l.o.mono ?_;rintro i p ⟨g,h,rfl,m,n⟩;have r:=aj m;have s:=aj n;clear m n l j k);have o:Y (YB true (fA a b c d f) e (av (aN #[Z (R ⟨g,0,O⟩) (fA a b c d f).length h,J U 0])) p):=aj (.inr ⟨rfl,g,h,rfl,by unfold fA;rw[A.o];exact dz r.o q.o.size,q.o.trans (s.o.mono q.o.size)⟩);have e:(fA a b c d f).length=9:=by unfold fA;simp[pW]
  rw[e]at o;go_ret2;exact o.o
def XJ (g b c d:Int) (e:Bool) (h:Option aX) (f i:Nat) (a:aB):aF au 36 #[aS (qs g b c d e h f i)] a fun j k=>j=av (aS #[f,b,c,d,e])∧aJ a a k:=by
 have j:=aj (gU a 30 (qs g b c d e h f i));have k:=aj (gU (a.alloc (.cells (qs g b c d e h f i) 30)) 97 #[J U 0,J U 0,J U 0,J U 0,false]);have l:Y (bH ((a.alloc (.cells (qs g b c d e h f i) 30)).alloc (.cells #[J U 0,J U 0,J U 0,J U 0,false] 97)) (a.heap.size+1) 97 #[J U 0,J U 0,J U 0,J U 0,false]):=aj (by have:=k.o.2;rwa[show(a.alloc (.cells (qs g b c d e h f i) 30)).heap.size=a.heap.size+1 by simp]at this)
 have m:=aj (j.o.1.trans (k.o.1.mono j.o.1.size));obtain⟨n,o,p,q,r,s⟩:=bH.j (j.o.2.b k.o.1);clear j k;go_enter func36,ntmps36;go_upto_region 1 with fail;generalize(a.alloc (.cells (qs g b c d e h f i) 30)).alloc (.cells #[J U 0,J U 0,J U 0,J U 0,false] 97)=g at*;have h:=aj (l.o.p #[f,b,c,d,e]);have i:=aj (m.o.trans ((bg.h g (a.heap.size+1) #[f,b,c,d,e] (F:=[a.heap.size+1]) Y1).c m.o.size (fun j g=>by rw[aC.1 g];omega)));go_wp2_with (refine wpList_store_row rfl 97 (.tmp 2) (.tmp 14) rfl (a.heap.size+1) #[f,b,c,d,e] rfl rfl 97 _ l.o Y3 rfl (by simp[Value.oneCell']) ?_);exact aG (v:=aS #[f,b,c,d,e]) (iC results36 (a.heap.size+1) rfl h.o underlying97 rfl Y3) rfl ⟨rfl,i.o⟩
def eY (a:Rw) (b:Bool):List Int:=if a.c= -1 then a.b else fA a.b.length a.c a.e a.d b++a.b
def iY (a:Rw):Bool:=a.c== -1||gK a.b.length a.c a.e a.d
def XK (c:Bool) (a:List Int) (b:aB) (d:Ending) (e:aB):Prop:=aJ b b e∧((c=false∧d=av (aN #[Z O 0 0,J U 5]))∨(c=true∧∃c f,d=av (aN #[Z c a.length f,J U 0])∧e.ownsRow b 5 1 (Z c a.length f) a.length (dP a)))
def JF (g:Rw) (e:Bool) (i:Option aX) (k:Nat) (f:aB) (D:g.b.length≤100000) (r:i=O→g.b.length=0∧k=0) (v:bU f i (dP g.b)):
  aF au 18 #[fO g.a g.c g.e g.d e i g.b.length k] f (XK (iY g) (eY g e) f):=by
 obtain⟨w,b,c,d,j⟩:=g;obtain⟨a,x⟩:=exq j.length;dsimp only at D r v⊢;have h:=aj (gU f 30 (qs w b c d e i a k));obtain⟨X,x1,x2,x3,x4,x5⟩:=bH.j h.o.2;have s:=aj x;have E:=aj v;unfold fO iY eY;dsimp only;rw[x]at D r⊢;have F:=aj r;clear v x r;by_cases n:b= -1
 ·subst n;have HC:=aj (jd i a k j _ s.o (by omega) (fun a0=>(F.o a0).1) (E.o.a h.o.1));rw[aP rfl];go_enter func18,ntmps18;go_wp2_with (go_at_call 34;refine HC.o.mono ?_;rintro G H ⟨I,o,rfl,t,l⟩);have p:Y (XK (-1==(-1:Int)||gK a (-1) c d) j f (av (aN #[Z I a o,J U 0])) H):=aj ⟨h.o.1.trans (l.mono h.o.1.size),.inr ⟨rfl,I,o,by rw[s.o],by rw[s.o];exact dz t h.o.1.size⟩⟩;go_ret2;exact p.o
 ·have HT:=aj n;rw[aL n,show(b== -1||gK a b c d)=gK a b c d by simp[n]];have K:=aj (XJ w b c d e i a k (f.alloc (.cells (qs w b c d e i a k) 30)));have L:=fun f=>aj (TV a b c d e f);have c0:(b== -1)=false:=by simp[n]
  go_enter func18,ntmps18;go_upto_region 4 with(first|(go_at_call 36;refine K.o.mono ?_;rintro G H ⟨rfl,y⟩;have m:=aj y)|(go_at_call 35;refine(L _).o.mono ?_;rintro G z (⟨u,rfl,q⟩|⟨u,M,o,rfl,t,q⟩)))
  ·have p:Y (XK (gK a b c d) (fA a b c d e++j) f (av (aN #[Z O 0 0,J U 5])) z):=aj ⟨h.o.1.trans ((m.o.trans (q.mono m.o.size)).mono h.o.1.size),.inl ⟨u,rfl⟩⟩;clear q y;go_wp2_with fail;go_ret2;exact p.o
  ·have l:=m.o.trans (q.mono m.o.size);have A:=aj (h.o.1.trans (l.mono h.o.1.size));have B:Y (z.ownsRow f 5 1 (Z (R ⟨M,0,O⟩) (fA a b c d e).length o) (fA a b c d e).length (dP (fA a b c d e))):=aj (dz t (by have:=h.o.1.size;have:=m.o.size;omega));have N:(fA a b c d e).length=9:=by unfold fA;simp[pW]
   have y5:z.cell? ⟨f,5,O⟩=R (Z i a k):=(h.o.2.b l).a 5;have b0:=aj (E.o.a A.o);have C:=s.o;rw[N]at B;have P:=aj N;have HQ:=aj u;clear t q y l K L m X x1 x2 x3 x4 x5 u;go_wp2_with (at_builtin;go_loud (refine fK rfl (.tmp 21) (.tmp 23) 28 rfl f.heap.size 5 1 qL rfl (by decide) underlying28 (Z (R ⟨M,0,O⟩) 9 o) 9 (dP (fA a b c d e)) rfl B.o i a k (dP j) rfl (by unfold dP;rw[List.length_map,C,Nat.mul_one]) F.o b0.o (Lm j) (by unfold maxLen;omega) (by omega) A.o.size ?_));intro Q S w3 T V;have W:=dZ A.o (aD _) (fun j l=>(B.o.lt j l).1) V;have p:Y (XK (gK a b c d) (fA a b c d e++j) f (av (aN #[Z Q (9+a) S,J U 0])) w3):=aj ⟨W,.inr ⟨HQ.o,Q,S,by rw[bL,P.o,C],by rw[bL,P.o,C];unfold dP at*;rw[List.map_append];exact T⟩⟩;clear T V W;go_wp2_with fail;go_ret2;exact p.o
def zam (a:Int) (b:Nat):0≤beB a b∧beB a b≤255:=by unfold beB;omega
def vJ (c:Int):∀b,gZ (xG c b)
 |0=>fun d a=>by cases a
 |b+1=>fun d a=>by
  rw[xG]at a
  rcases bA.1 a with rfl|a
  ·exact zam _ _
  ·exact vJ c b d a
def zbe {a:Int} (b:0≤a∧a≤255):uQ (xG a 1)=a:=by
 show 0*256+a/2^(8*0)%256=a
 simp;omega
def zbK {a:Int} (b:0≤a∧a≤16777215):uQ (xG a 3)=a:=by
 show((0*256+a/2^(8*2)%256)*256+a/2^(8*1)%256)*256+a/2^(8*0)%256=a
 have a:(2:Int)^(8*2)=65536:=Y2;have b:(2:Int)^(8*1)=256:=Y2;have c:(2:Int)^(8*0)=1:=Y2;rw[c,b,a];omega
def zbL {a:Int} (b:0≤a∧a≤4294967295):uQ (xG a 4)=a:=by
 show(((0*256+a/2^(8*3)%256)*256+a/2^(8*2)%256)*256+a/2^(8*1)%256)*256+a/2^(8*0)%256=a
 have a:(2:Int)^(8*3)=16777216:=Y2;have b:(2:Int)^(8*2)=65536:=Y2;have c:(2:Int)^(8*1)=256:=Y2;have d:(2:Int)^(8*0)=1:=Y2;rw[d,c,b,a];omega
def eD (a b c d:Int) (e:Bool):(fA a b c d e).length=9∧((fA a b c d e).drop 0).take 3=xG a 3∧((fA a b c d e).drop 3).take 1=xG b 1∧((fA a b c d e).drop 4).take 1=xG c 1∧((fA a b c d e).drop 5).take 4=xG (kG d e) 4:=by refine⟨rfl,rfl,rfl,rfl,rfl⟩
def vK (a b c d:Int) (e:Bool):gZ (fA a b c d e):=fun b a=>by
 unfold fA at a
 rcases bK.1 a with a|a
 ·rcases bK.1 a with a|a
  ·rcases bK.1 a with a|a
   ·exact vJ _ _ b a
   ·exact vJ _ _ b a
  ·exact vJ _ _ b a
 ·exact vJ _ _ b a
def YC (b c d e:Int) (f:Bool) (a:aB) (g:Ending) (h:aB):Prop:=g=av (aN #[aS #[b,c,d,e,f],J U 0])∧aJ a a h
def ofs:Nat→Nat
 |0=>0
 |1=>3
 |2=>4
 |3=>5
 |_=>9
def nA (a:Nat) (b c d e:Int):Array aI:=#[J U (if 0<a then b else 0),J U (if 1<a then c else 0),J U (if 2<a then d else 0),J U (if 3<a then e else 0)]
structure HgL (w:aB) (Bd:Nat×Nat) (g:Nat) (n t f s:Int) (r:Bool) (k:Nat) (W:aB):Prop where
 h:bH W w 97 #[J U 0,J U 0,J U 0,J U 0,false]
 a:bH W (w.heap.size+1) 280 (nA k n t f (kG s r))
 c:gH W Bd g (fA n t f s r) (ofs k)
 d:aJ w w W
 i:pO Bd (w.heap.size+1)
 b:w.heap.size+1<g
def TW {a:Int} {r:Bool} (b:0≤a) (b:a≤2147483647):lJ (kG a r)=a∧qN (kG a r)=r:=by
 unfold lJ qN kG;cases r
 ·simp;omega
 ·simp;omega
def HgL.e {b i c:aB} {m:Nat×Nat} {j:Nat} {d e f g:Int} {h:Bool} {k:Nat} (a:HgL b m j d e f g h k i) (n:gH c m j (fA d e f g h) (ofs (k+1))) (l:bg [j] i c) (i:aI) (o:(nA k d e f (kG g h)).setIfInBounds k i=nA (k+1) d e f (kG g h)):
  HgL b m j d e f g h (k+1) (c.setCell ⟨b.heap.size+1,k,O⟩ i):=by have d:=a.b;have d:bg [b.heap.size+1] c (c.setCell ⟨b.heap.size+1,k,O⟩ i):=bg.e (p:=⟨b.heap.size+1,k,O⟩) c (by simp) i;refine⟨(a.h.g l (by simp;omega)).g d Y1,?_,n.f d (fun c b=>by rw[aC.1 b];exact a.i),(a.d.trans (l.c a.d.size (fun c b=>by rw[aC.1 b];omega))).trans (d.c (aR a.d.size l.b) (fun c b=>by rw[aC.1 b];omega)),a.i,a.b⟩;have:=(a.a.g l (by simp;omega)).f k i;rw[o]at this;exact this
def TY (h:Nat) (i g:Nat) (b c d a:Int) (e:Bool) (k:aB) (l:gK b c d a=true) (f:9≤g) (f:g≤maxLen) (f:bU k (R ⟨h,i,O⟩) (dP (fA b c d a e))):aF au 118 #[Z (R ⟨h,i,O⟩) 9 g] k (YC b c d a e k):=by
 have q:=aj f;clear f;have j:=aj (gU k 97 #[J U 0,J U 0,J U 0,J U 0,false]);have f:=aj (gU (k.alloc (.cells #[J U 0,J U 0,J U 0,J U 0,false] 97)) 280 #[J U 0,J U 0,J U 0,J U 0]);have o:=aj (j.o.1.trans (f.o.1.mono j.o.1.size));have r:=aj (tZ (R ⟨h,i,O⟩) 9 g (fA b c d a e) _ (eD b c d a e).1 Y2 (fun l=>nomatch l) (q.o.a o.o));go_enter func118,ntmps118;go_upto_region 5 with(go_at_call 124;refine r.o.mono ?_;rintro m t ⟨g,rfl,s,h,n⟩);have p:=aj (And.intro ((j.o.2.b f.o.1).b n) (f.o.2.b n));rw[show(k.alloc (.cells #[J U 0,J U 0,J U 0,J U 0,false] 97)).heap.size=k.heap.size+1 by simp]at p;have u:k.heap.size+1<g:=by have:=f.o.2.e;simp at this s;omega
 obtain⟨i,v⟩:∃i,Y (HgL k i g b c d a e 0 t):=⟨_,aj ⟨p.o.1,p.o.2,h,o.o.trans (n.mono o.o.size),.inl Y1,u⟩⟩;clear h n s r j f o q p u;have o:(0≤b∧b≤16777215)∧(0≤c∧c≤255)∧(0≤d∧d≤255)∧(0≤a∧a≤2147483647):=by have:=l;unfold gK bV at this;simp at this;omega
 have q:=Ls (r:=e) o.2.2.2.1 Y0;have r:vV 4=4294967295:=Y2;rw[r]at q;have D:Y (∀f,gH f i g (fA b c d a e) 0→aF au 164 #[qp g,J U 3] f fun m j=>m=av (aN #[b,J U 0])∧gH j i g (fA b c d a e) 3∧bg [g] f j):=aj fun f h=>by have:=jN g _ 0 i 3 f (aj h) (by rw[(eD b c d a e).1];decide) Y2 Y2 (vK b c d a e);unfold jH at this;simp only[(eD b c d a e).1,(eD b c d a e).2.1,zbK o.1]at this;exact this.mono fun m j l=>by rw[aP Y2]at l;exact l
 have E:Y (∀f,gH f i g (fA b c d a e) 3→aF au 164 #[qp g,J U 1] f fun m j=>m=av (aN #[c,J U 0])∧gH j i g (fA b c d a e) 4∧bg [g] f j):=aj fun f h=>by have:=jN g _ 3 i 1 f (aj h) (by rw[(eD b c d a e).1];decide) Y2 Y2 (vK b c d a e);unfold jH at this;simp only[(eD b c d a e).1,(eD b c d a e).2.2.1,zbe o.2.1]at this;exact this.mono fun m j l=>by rw[aP Y2]at l;exact l
 have F:Y (∀f,gH f i g (fA b c d a e) 4→aF au 164 #[qp g,J U 1] f fun m j=>m=av (aN #[d,J U 0])∧gH j i g (fA b c d a e) 5∧bg [g] f j):=aj fun f h=>by have:=jN g _ 4 i 1 f (aj h) (by rw[(eD b c d a e).1];decide) Y2 Y2 (vK b c d a e);unfold jH at this;simp only[(eD b c d a e).1,(eD b c d a e).2.2.2.1,zbe o.2.2.1]at this;exact this.mono fun m j l=>by rw[aP Y2]at l;exact l
 have G:Y (∀f,gH f i g (fA b c d a e) 5→aF au 164 #[qp g,J U 4] f fun m j=>m=av (aN #[J U (kG a e),J U 0])∧gH j i g (fA b c d a e) 9∧bg [g] f j):=aj fun f h=>by have:=jN g _ 5 i 4 f (aj h) (by rw[(eD b c d a e).1];decide) Y2 Y2 (vK b c d a e);unfold jH at this;simp only[(eD b c d a e).1,(eD b c d a e).2.2.2.2,zbL q]at this;exact this.mono fun m j l=>by rw[aP Y2]at l;exact l
 have H:=aj (TW (r:=e) o.2.2.2.1 Y0);have I:=aj q;clear o q r l;go_upto_region 6 with fail;go_loopw [17] (fun o wr=>∃j:Nat,j≤4∧o=J U (j:Int)∧Y (HgL k i g b c d a e j wr)) (fun o _=>(4-intOf o).toNat);case atStart=>exact⟨0,Y0,rfl,v⟩
 case round=>
  obtain⟨j,w,rfl,g⟩:=hrel;obtain⟨x,y,z,A⟩:=bH.l g.o.a;obtain rfl|rfl|rfl|rfl|rfl:j=0∨j=1∨j=2∨j=3∨j=4:=Y0
  ·have B:∀f,(Instr.index 280 (aS #[J U 3,J U 1,J U 1,J U 4]) (J U 0)).run au f=.ok (J U 3) f:=fun f=>Y3;go_wp2_with (go_at_call 164;refine(D.o _ g.o.c).mono ?_;rintro m v ⟨rfl,h,i⟩;have o:=aj (g.o.e (k:=0) h i (J U b) rfl);have j:=g.o.a.g i (by have:=g.o.b;simp;omega);obtain⟨q,r,s,t⟩:=bH.l j;have C:=j.c;clear j h i);go_roundw;case rel=>exact⟨1,Y0,rfl,o⟩
   case measure=>simp[intOf]
  ·have B:∀f,(Instr.index 280 (aS #[J U 3,J U 1,J U 1,J U 4]) (J U 1)).run au f=.ok (J U 1) f:=fun f=>Y3;go_wp2_with (go_at_call 164;refine(E.o _ g.o.c).mono ?_;rintro m v ⟨rfl,h,i⟩;have o:=aj (g.o.e (k:=1) h i (J U c) rfl);have j:=g.o.a.g i (by have:=g.o.b;simp;omega);obtain⟨q,r,s,t⟩:=bH.l j;have C:=j.c;clear j h i);go_roundw;case rel=>exact⟨2,Y0,rfl,o⟩
   case measure=>simp[intOf]
  ·have B:∀f,(Instr.index 280 (aS #[J U 3,J U 1,J U 1,J U 4]) (J U 2)).run au f=.ok (J U 1) f:=fun f=>Y3;go_wp2_with (go_at_call 164;refine(F.o _ g.o.c).mono ?_;rintro m v ⟨rfl,h,i⟩;have o:=aj (g.o.e (k:=2) h i (J U d) rfl);have j:=g.o.a.g i (by have:=g.o.b;simp;omega);obtain⟨q,r,s,t⟩:=bH.l j;have C:=j.c;clear j h i);go_roundw;case rel=>exact⟨3,Y0,rfl,o⟩
   case measure=>simp[intOf]
  ·have B:∀f,(Instr.index 280 (aS #[J U 3,J U 1,J U 1,J U 4]) (J U 3)).run au f=.ok (J U 4) f:=fun f=>Y3;go_wp2_with (go_at_call 164;refine(G.o _ g.o.c).mono ?_;rintro m v ⟨rfl,h,i⟩;have o:=aj (g.o.e (k:=3) h i (J U (kG a e)) rfl);have j:=g.o.a.g i (by have:=g.o.b;simp;omega);obtain⟨q,r,s,t⟩:=bH.l j;have C:=j.c;clear j h i);go_roundw;case rel=>exact⟨4,Y0,rfl,o⟩
   case measure=>simp[intOf]
  ·have h:=I.o;have B:=aj (fun f=>KG (kG a e) f h.1 Y0);rw[H.o.1,H.o.2]at B;have j:=g.o.a;have o:=g.o.h;have C:=g.o.d;have f:=aj (And.intro j (And.intro o C));obtain⟨q,r,s,t⟩:=bH.l j;clear j o C g E F D G h x y z A;go_upto_region 11 with fail;have j:aJ wr wr (wr.alloc (.cells #[b,c,d,J U 0,false] 97)):=(ay _ _).alloc (aD _) _;have g:=aj (And.intro j (bH.d wr 97 #[b,c,d,J U 0,false]));generalize wr.alloc (.cells #[b,c,d,J U 0,false] 97)=o at*;have w:=f.o.1.b j;obtain⟨x,y,z,A⟩:=bH.l w;have h:=g.o.2;obtain⟨C,D,E,F,G⟩:=bH.k h;have H:=h.c;clear w j q r s t h;go_upto_region 12 with(go_at_call 165;refine(B.o _).mono ?_;rintro m v ⟨rfl,rfl⟩);have q:bH ((o.setCell ⟨wr,3,O⟩ (J U a)).setCell ⟨wr,4,O⟩ (aO e)) wr.heap.size 97 #[b,c,d,a,e]:=(g.o.2.f 3 _).f 4 _;have u:=f.o.2.1.e;have i:bg [wr.heap.size] o ((o.setCell ⟨wr,3,O⟩ (J U a)).setCell ⟨wr,4,O⟩ (aO e)):=(bg.e (F:=[wr.heap.size]) (p:=⟨wr,3,O⟩) _ Y1 _).a (bg.e (F:=[wr.heap.size]) (p:=⟨wr,4,O⟩) _ Y1 _) (fun j l=>.inl l);have j:=aj (And.intro ((f.o.2.1.b g.o.1).g i (by simp;omega)) ((f.o.2.2.trans (g.o.1.mono f.o.2.2.size)).trans (i.c (aR f.o.2.2.size g.o.1.size) (fun l n=>by rw[aC.1 n];omega))));have m:=aj q;clear x y z A C D E F G H g f u i q;generalize(o.setCell ⟨wr,3,O⟩ (J U a)).setCell ⟨wr,4,O⟩ (aO e)=f at*;have h:=m.o;obtain⟨C,D,E,F,G⟩:=bH.k h;clear h;have p:=aj (j.o.1.p #[b,c,d,a,e]);have g:Y (YC b c d a e k (av (aN #[aS #[b,c,d,a,e],J U 0])) (f.setRow k.heap.size #[b,c,d,a,e])):=aj ⟨rfl,j.o.2.trans ((bg.h f k.heap.size _ (F:=[k.heap.size]) Y1).c j.o.2.size (fun l n=>by rw[aC.1 n];exact aD _))⟩;have f:=aj j.o.1;clear j;go_wp2_with (refine wpList_store_row rfl 97 (.tmp 2) (.tmp 45) rfl k.heap.size #[b,c,d,a,e] rfl rfl 97 _ f.o Y3 rfl (by simp[Value.oneCell']) ?_);exact aG (v:=aN #[aS #[b,c,d,a,e],J U 0]) (eH results118 k.heap.size rfl p.o underlying97 rfl Y3) rfl g.o
def Uh {Ph:Nat→List (Kg)→aB→Prop} {o:Exit→Act→aB→Prop} {wc:aB} {d e g:Nat} {h ty f s:Int} {r:Bool} {A:Option aX} {n C:Nat} 
  (i:Ph 0 [] wc.drew)
  (j:∀a,rS Ph 0 1 a→a.cell? ⟨d,e+4,O⟩=R (J U ty)∧a.cell? ⟨d,e+5,O⟩=R (J U f)∧a.cell? ⟨d,e+6,O⟩=R (J U s)∧a.cell? ⟨d,e+7,O⟩=R (aO r)∧a.cell? ⟨d,e+2,O⟩=R (Z A n C))
  (k:∀a,Ph 0 [] a→aF au 34 #[Z A n C] a fun p l=>∃b,p=av (kg b)∧Ph 1 [b] l)
  (m:∀b a,Ph 1 [b] a→a.there g 0 6∧Ph 2 [b] (a.setCells g 0 [J U h,J U ty,J U f,J U s,aO r,kg b]))
  (c:∀q t u v w x y z B D E F G H I K L M N P Q S T V W X a0 b a,Ph 2 [b] a→o .normal ⟨#[aK (R ⟨d,e,O⟩),h,u2,u3,qp g,q,t,u,v,w,x,y,z,B,D,E,F,G,H,I,K,L,M,N,P,Q,S,T,V,W,X,a0],[]⟩ a):
  Code.wp au (fu 1 (f120.body.getD .skip)) o ⟨#[aK (R ⟨d,e,O⟩),h,u2,u3,qp g,u5,u6,u7,u8,u9,Q0,Q1,Q2,Q3,Q4,Q5,Q6,Q7,Q8,Q9,T0,T1,T2,T3,T4,T5,T6,T7,T8,T9,N0,N1],[]⟩ wc:=by
 haveI:Nonempty (Wd fun _=>True):=⟨⟨wc,trivial⟩⟩;haveI:Nonempty (Wd (rS Ph 0 1)):=⟨⟨_,0,[],aD _,Y2,i⟩⟩;have d:=fun d:Wd (rS Ph 0 1)=>j d.W d.a;have d:=aj j;replace k:=aj k;replace m:=aj m;have o:=aj c;clear c j;conv=>arg 2;whnf
 refine Hu kg [25,27] [25] [27] Ph (fun _=>bq) i (fun j=>?_);clear i;iterate 25 (refine WL.p 0 1 (fun d c=>?_);go_simp;refine c _ ?_;clear c d)
 refine WL.n 0 (fun a e=>?_) ?_
 ·go_simp;exact(k.o _ e).mono fun p l ⟨b,i,k⟩=>⟨b.1,b.2.1,b.2.2,i,k⟩
 dsimp only[Act.put];iterate 1 (refine WL.j (fun d c=>?_);go_simp;refine c _ ?_;clear c d)
 refine WL.r 1 (bq) (fun a e=>?_) ?_
 ·obtain⟨i,a⟩:=m.o _ _ e;exact lI 30 (.tmp 4) (.tmp 31) g 0 #[h,ty,f,s,r,kg (j 25)] i Y3 a (by simp[Value.oneCell',kg])
 dsimp only[Act.put];exact WL.b fun l a=>by apply o.o;exact a
def Ui {Ph:Nat→List (Kg)→aB→Prop} {j:Exit→Act→aB→Prop} {wc:aB} {e d n C:Nat} {A:Option aX} 
  (f:Ph 0 [] wc.drew)
  (g:∀a,rS Ph 0 0 a→a.cell? ⟨d,0,O⟩=R (J U 0)∧a.cell? ⟨d,1,O⟩=R (Z A n C))
  (h:∀a,Ph 0 [] a→aF au 80 #[qp e,J U 0,Z A n C] a fun k i=>∃b,k=av (kg b)∧Ph 1 [b] i)
  (c:∀l m o p q r s t u v w b a,Ph 1 [b] a→j .normal ⟨#[qp e,u1,u2,qp d,kg b,J U 0,u6,u7,u8,u9,Q0,Q1,Q2,Q3,Q4,Q5,Q6,Q7,l,m,o,p,q,r,s,t,u,v,w],[]⟩ a):
  Code.wp au (fu 5 (f42.body.getD .skip)) j ⟨#[qp e,u1,u2,qp d,u4,u5,u6,u7,u8,u9,Q0,Q1,Q2,Q3,Q4,Q5,Q6,Q7,Q8,Q9,T0,T1,T2,T3,T4,T5,T6,T7,T8],[]⟩ wc:=by
 haveI:Nonempty (Wd fun _=>True):=⟨⟨wc,trivial⟩⟩;haveI:Nonempty (Wd (rS Ph 0 0)):=⟨⟨_,0,[],aD _,Y2,f⟩⟩;have d:=fun d:Wd (rS Ph 0 0)=>g d.W d.a;have d:=aj g;replace h:=aj h;have e:=aj c;clear c g;conv=>arg 2;whnf
 refine Hu kg [10] [10] [] Ph (fun _=>bq) f (fun d=>?_);clear f;iterate 10 (refine WL.p 0 0 (fun d c=>?_);go_simp;refine c _ ?_;clear c d)
 refine WL.n 0 (fun a f=>?_) ?_
 ·go_simp;exact(h.o _ f).mono fun k i ⟨b,a,f⟩=>⟨b.1,b.2.1,b.2.2,a,f⟩
 dsimp only[Act.put];repeat(refine WL.j (fun d c=>?_);go_simp;refine c _ ?_;clear c d)
 exact WL.b fun i a=>by apply e.o;exact a
def Uj {Ph:Nat→List (Kg)→aB→Prop} {j:Exit→Act→aB→Prop} {wc:aB} {e d n C:Nat} {A:Option aX} 
  (f:Ph 0 [] wc.drew)
  (g:∀a,rS Ph 0 0 a→a.cell? ⟨d,0,O⟩=R (J U 1)∧a.cell? ⟨d,1,O⟩=R (Z A n C))
  (h:∀a,Ph 0 [] a→aF au 80 #[aK (R ⟨e,8,O⟩),J U 1,Z A n C] a fun k i=>∃b,k=av (kg b)∧Ph 1 [b] i)
  (c:∀l m o p q r s t u v w b a,Ph 1 [b] a→j .normal ⟨#[qp e,u1,u2,qp d,kg b,J U 0,u6,u7,u8,u9,Q0,Q1,Q2,Q3,Q4,Q5,Q6,Q7,l,m,o,p,q,r,s,t,u,v,w],[]⟩ a):
  Code.wp au (fu 5 (f42.body.getD .skip)) j ⟨#[qp e,u1,u2,qp d,u4,u5,u6,u7,u8,u9,Q0,Q1,Q2,Q3,Q4,Q5,Q6,Q7,Q8,Q9,T0,T1,T2,T3,T4,T5,T6,T7,T8],[]⟩ wc:=by
 haveI:Nonempty (Wd fun _=>True):=⟨⟨wc,trivial⟩⟩;haveI:Nonempty (Wd (rS Ph 0 0)):=⟨⟨_,0,[],aD _,Y2,f⟩⟩;have d:=fun d:Wd (rS Ph 0 0)=>g d.W d.a;have d:=aj g;replace h:=aj h;have e:=aj c;clear c g;conv=>arg 2;whnf
 refine Hu kg [10] [10] [] Ph (fun _=>bq) f (fun d=>?_);clear f;iterate 10 (refine WL.p 0 0 (fun d c=>?_);go_simp;refine c _ ?_;clear c d)
 refine WL.n 0 (fun a f=>?_) ?_
 ·go_simp;exact(h.o _ f).mono fun k i ⟨b,a,f⟩=>⟨b.1,b.2.1,b.2.2,a,f⟩
 dsimp only[Act.put];repeat(refine WL.j (fun d c=>?_);go_simp;refine c _ ?_;clear c d)
 exact WL.b fun i a=>by apply e.o;exact a
structure Az where
 m:Mo
 e:Int
 b:Int
 a:List (Rw×Int)
 c:List Ft
 d:List Int
noncomputable def iD (b:Az) (c:Rw):Az×Bool:=
 let a:=dH b.m c
 if a.2.2≠0 then({b with m:=a.1},false)else
 let d:Az:={b with m:=a.1,a:=b.a++[(c,a.2.1.k)]}
 if a.1.a=false then({d with b:=b.b+1},true)else({d with e:=a.2.1.k,c:=a.2.1.a,d:=a.2.1.b},false)
def Az.f (a:Cf):Az:=⟨⟨.g a,false⟩,1,0,[],[],[]⟩
noncomputable def nV (a:Cf) (b:List Rw):Az:=b.foldl (fun b c=>(iD b c).1) (.f a)
def AX:Cf:=⟨2,60,20000,9,20,8000⟩
def Va:Rw:=⟨0, -1,0,0,yY⟩
def OU:Rw:=⟨0,4,0,0,[]⟩
def Uf:Rw:=⟨1,4,0,0,[]⟩
def OV:Rw:=⟨0,6,0,0,[0,0,0,0,0,0,0]⟩
def zbf:eG [(2,6)]=[(2,6)]:=by unfold eG;simp[ni,Lib.compact];kernel_rfl
def zbN:eG [(2,6),(2,6)]=[(2,6)]:=by
 unfold eG;have a:([((2:Int),(6:Int)),(2,6)].filter ni).mergeSort xS=[(2,6),(2,6)]:=by rw[show [((2:Int),(6:Int)),(2,6)].filter ni=[(2,6),(2,6)]from Y2];exact List.mergeSort_of_pairwise (by simp[xS])
 rw[a];rfl
def Ug:(nV AX [Va,OU,Uf,OV]).e=3∧(nV AX [Va,OU,Uf,OV]).b=3∧(nV AX [Va,OU,Uf,OV]).c=[(2,6)]:=by have a:(nV AX [Va,OU,Uf,OV]).c=eG (eG ([]++eG [(2,6)])++eG [(2,6)]):=Y3;refine⟨Y3,Y3,?_⟩;rw[a,zbf,List.nil_append,zbf,List.singleton_append,zbN]
def sO (a:Int×Int):Prop:=a.1=0∨a.1=1∨a.1=2∨a.1=3
def vH (a:Bool) (b:Int):sO (jv a b):=by unfold jv sO;split<;>simp
def Dm (a:Int):sO (nC a):=by unfold nC sO;split<;>simp
def WS (a b:Int) (d e:Bool) (f g h:Int) (kept:Bool):sO (GX a b d e f g h kept):=by
 unfold GX DW yF uF;repeat' split
 all_goals first|(unfold sO;simp;done)|(unfold In4;repeat' split)<;>simp
def Ad (c:Co) (a b d:Int) (kept:Bool):sO (Fy c a b d kept):=WS ..
def wK (c:Co) (a:Rw) (b:Int) (kept:Bool):sO (zbY c a b kept):=by
 unfold zbY;split
 ·unfold sO;simp
 ·exact Ad ..
section
variable (c:Co) (x:Lk) (v:Vl) (kept:Bool)
def SC:sO (jV c x):=by
 unfold jV;repeat' split
 all_goals first|exact vH _ _|(unfold sO;simp)
def SE:sO (uY c x):=by unfold uY;split<;>(unfold sO;simp)
def WT:sO (sM c x kept):=by
 unfold sM;dsimp only;repeat' split
 all_goals first|exact vH _ _|exact wK .. |(unfold sO;simp;done)
def SF:sO (kP c x v kept):=by
 unfold kP;dsimp only;repeat' split
 all_goals first|exact wK .. |exact Dm _|(unfold sO;simp)
def SG:sO (lN c x v kept):=by
 unfold lN;dsimp only;repeat' split
 all_goals first|exact Ad .. |exact Dm _|(unfold sO;simp)
def SH:sO (je c x v kept):=by
 unfold je;dsimp only;repeat' split
 all_goals first|exact Ad .. |exact Dm _|(unfold sO;simp)
def NS:sO (iB c x v kept):=by
 unfold iB;repeat' split
 all_goals first|exact SH .. |exact SG .. |(unfold sO;simp)
def SI:sO (iW c x v kept):=by
 unfold iW;repeat' split
 all_goals first|exact SF .. |exact wK .. |exact SC .. |exact SE .. |exact vH _ _|exact WT .. |exact NS .. |(unfold sO;simp)
def wL:sO (dV c x v kept):=by
 unfold dV;repeat' split
 all_goals first|exact vH _ _|exact SI .. |(unfold sO;simp)
end
def SL {f:aB} {g:Co} {k:Pt} (b:Rw) (i:Bool) (n:Option aX) (o:Nat) (q:bH f k.g 128 (sN g k)):
  aF au 55 #[qp k.g,fO b.a b.c b.e b.d i n b.b.length o] f fun h m=>h=av (aO (iN g b))∧aJ f f m:=by
 obtain⟨a,c,d,e,l⟩:=b;dsimp only;obtain⟨j,u⟩:=exq l.length;obtain⟨A,v⟩:=exq k.g;obtain⟨k,w⟩:=exq g.e.h;obtain⟨s,t⟩:=exq (ko a);obtain⟨r,x⟩:=exq (gK j c d e);have B:s=true→a=0∨a=1:=fun q=>dN (by rw[t];exact q);have C:Y (∀b,aJ f f b→b.cell? ⟨A,6,O⟩=R (aO k)):=aj fun b p=>by rw[←v,←w];exact(q.b p).a 6
 have D:Y (∀b,aF au 62 #[a] b fun h m=>h=av s∧b=m):=aj fun b=>by rw[←t];exact Ct a b
 have y:Y (∀b,aF au 36 #[aS (qs a c d e i n j o)] b fun h m=>h=av (aS #[J U (j:Nat),c,d,e,i])∧aJ b b m):=aj fun b=>RL a c d e i n j o b;have z:Y (∀b,aF au 72 #[aS #[J U (j:Nat),c,d,e,i]] b fun h m=>h=av r∧aJ b b m):=aj fun b=>by rw[←x];exact Io j c d e i b
 have p:Y (iN g ⟨a,c,d,e,l⟩=(s&&(if c= -1 then a==0&& !k else !(a==0&& !k)&&r))):=aj (by unfold iN;dsimp only;rw[t,w,u,x]);have b:=aj (gU f 30 (qs a c d e i n j o));rw[v,u];unfold fO;clear q u v w t x;go_enter func55,ntmps55;go_upto_region 1 with fail;generalize m:f.alloc (.cells (qs a c d e i n j o) 30)=t at b⊢;clear m;have w:=bH.j b.o.2;go_wp2_with fail;refine mB (D.o _) ?_;rintro m rfl;cases s
 ·have q:Y (iN g ⟨a,c,d,e,l⟩=false):=aj (by rw[p.o];rfl);clear p;go_wp2;go_ret;exact⟨by rw[q.o];rfl,b.o.1⟩
 have x:=B Y1;clear B;have B:∀m:Gw t,m.W.cell? ⟨f,0,O⟩=R (J U a):=fun m=>(b.o.2.b m.h).a 0;have D:∀m:Gw t,m.W.cell? ⟨A,6,O⟩=R (aO k):=fun m=>C.o _ (m.a b.o.1);have m:U.wrap 0=0:=rfl;by_cases m:c= -1
 ·have q:Y (iN g ⟨a,c,d,e,l⟩=(a==0&& !k)):=aj (by rw[p.o,aP m];rfl);clear p y z;subst m;go_wp2;rcases x with rfl|rfl
  all_goals
   cases k;all_goals
    refine dJ Y3 Y3 ?_;repeat(refine WQ.d (fun u s=>?_);go_simp;refine s _ ?_;clear s u)
    refine WQ.b ?_;rintro _ ⟨u3,rfl⟩;have t:=aj (u3.a b.o.1);go_wp2;go_ret;exact⟨by rw[q.o];rfl,t.o⟩
 ·have q:Y (iN g ⟨a,c,d,e,l⟩=(!(a==0&& !k)&&r)):=aj (by rw[p.o,aL m];rfl);have v:=aM.2 m;clear p m;obtain⟨m,p⟩:∃m:Bool,m=(a==0&& !k):=⟨_,rfl⟩;have v:Y (iN g ⟨a,c,d,e,l⟩=(!m&&r)):=aj (by rw[q.o,p]);clear q;go_upto_region 5 with fail;go_cut [28] (fun A q=>A=aO m∧Y (aJ f f q)∧Y (bH q f 30 (qs a c d e i n j o)));case first=>
   clear v y z C;rcases x with rfl|rfl
   all_goals
    cases k;all_goals
     refine dJ Y3 Y3 ?_;repeat(refine WQ.d (fun u s=>?_);go_simp;refine s _ ?_;clear s u)
     refine WQ.b ?_;rintro _ ⟨u3,rfl⟩;go_wp2;go_meet;exact⟨by rw[p];rfl,aj (u3.a b.o.1),aj (b.o.2.b u3.h)⟩
  case rest=>
   obtain⟨rfl,t,f⟩:=hcut;clear b B D w p;have w:=bH.j f.o;cases m
   ·have f:Y (iN g ⟨a,c,d,e,l⟩=r):=aj (by rw[v.o];rfl);go_wp2_with fail;refine mB (y.o _) fun i b=>?_;have i:=aj (bG t.o b);clear b;go_wp2_with fail;refine mB (z.o _) fun j b=>?_;have h:=aj (bG i.o b);clear b;go_wp2;go_ret;exact⟨by rw[f.o];rfl,h.o⟩
   ·have f:Y (iN g ⟨a,c,d,e,l⟩=false):=aj (by rw[v.o];rfl);go_wp2;go_ret;exact⟨by rw[f.o];rfl,t.o⟩
section
variable {w W W':aB} {c c':Co} {P P':Pt} {X X':Option fq} {F F':Nat→List Nat} {p p':fq} {G G':List Nat}
def fq.q (a:Nat) (b:Rw) (d:Bool) (e:Option aX) (f:Nat):fq:=⟨a,d,BD b,false,false,false,false,e,f,O,0,O,0,O,0,0,O,0,0,O,0,O,0⟩
def su {a:Nat}:wJ a O:=fun b a=>by cases a
def sP.h {e:Nat} {d:Rw} {a:Bool} {f:Option aX} {g:Nat} {B:Nat} (h:lX w c P X F) (i:aJ w w W) (j:bH W e 142 (fC (fq.q e d a f g))) (m:w.heap.size≤e) (k:W.ownsRow B 5 1 (Z f d.b.length g) d.b.length (dP d.b)) (b:e<B):sP c P X F w (fq.q e d a f g) W:=by
 have l:∀a,(Z f d.b.length g).ownBlock=R a→B≤a∧a<W.heap.size:=fun a b=>k.lt a b;refine⟨e::(Z f d.b.length g).ownBlock.toList,F,h.a i,gG.d i,⟨j,bM ..,?_,.h,.h,.h,.h⟩,⟨fun i n=>?_,su,su,su,su⟩,fun a b=>?_,h.j.b⟩
 ·exact Aw.j k (fun a b=>by have b:(Z f d.b.length g).ownBlock=R a:=b;simp[b])
 ·have:=l i.block (by rw[show f=R i from n];rfl);show i.block≠e
  omega
 ·have d:w.heap.size≤a∧a<W.heap.size:=by
   rcases bA.1 b with rfl|b
   ·exact⟨m,j.e⟩
   ·have:=l a (Y6 b);omega
  exact⟨fun a=>by have:=h.o a;omega,d⟩
def fq.t (p:fq) (a:Fr) (b:Int×Int) (d:Option aX) (e:Nat) (f:Option aX) (g:Nat):fq:={p with x:={p.x with f:=a,w:=b},a:=d,c:=e,d:=f,e:=g}
def ZT (a:Fr) (b:Option aX) (d:Nat) (e:Option aX) (f:Nat):List aI:=[J U a.a,J U a.d,J U a.b,J U a.f,Z b a.c.length d,Z e a.i.length f,J U a.k,J U a.l,aO a.m,J U a.e,J U a.h,J U a.j,J U a.g]
def Jy (p:fq) (b:Fr) (a:Int×Int) (d:Option aX) (e:Nat) (f:Option aX) (g:Nat):gV (gV (fC p) 6 (ZT b d e f g)) 19 [J U a.1,J U a.2]=fC (p.t b a d e f g):=by kernel_rfl
def sP.i {a:Fr} {x:Int×Int} {f g:Option aX} {h i:Nat} (d:sP c P X F w p W) (b:aJ W W W') (m:W'.ownsRow W 5 1 (Z f a.c.length h) a.c.length (dP a.c)) (n:W'.ownsRow W 252 2 (Z g a.i.length i) a.i.length (bN a.i)):
  sP c P X F w (p.t a x f h g i) ((W'.setCells p.b 6 (ZT a f h g i)).setCells p.b 19 [J U x.1,J U x.2]):=by
 obtain⟨G,F',d⟩:=d;have j:=d.k b;have o:∀e,(Z f a.c.length h).ownBlock=R e→W.heap.size≤e∧e<W'.heap.size:=fun e k=>m.lt e k;have q:∀e,(Z g a.i.length i).ownBlock=R e→W.heap.size≤e∧e<W'.heap.size:=fun e k=>n.lt e k;have e:=d.d.a.e;have k:bg [p.b] W' ((W'.setCells p.b 6 (ZT a f h g i)).setCells p.b 19 [J U x.1,J U x.2]):=(bg.f Y1 _ _ _).a (bg.f (F:=[p.b]) Y1 _ _ _) (fun _ d=>.inl d);have t:bH ((W'.setCells p.b 6 (ZT a f h g i)).setCells p.b 19 [J U x.1,J U x.2]) p.b 142 (fC (p.t a x f h g i)):=by rw[←Jy];exact bH.o _ 19 _ _ (bH.o _ 6 W' _ j.d.a)
 have r:wJ p.b f:=fun e l=>by have:=o e.block (by rw[l];rfl);omega
 have s:wJ p.b g:=fun e l=>by have:=q e.block (by rw[l];rfl);omega
 have l:∀e,e∈G→e∈G++((Z f a.c.length h).ownBlock.toList++(Z g a.i.length i).ownBlock.toList):=fun e b=>by simp[b]
 refine⟨_,F',j.j (G':=G++((Z f a.c.length h).ownBlock.toList++(Z g a.i.length i).ownBlock.toList)) k ⟨t,l _ j.d.b,(j.d.g.a k d.f.1).e l,(Aw.j m (fun e b=>by simp[b])).a k r,(Aw.j n (fun e b=>by simp[b])).a k s,(j.d.c.a k d.f.2.2.2.1).e l,(j.d.f.a k d.f.2.2.2.2).e l⟩ ⟨d.f.1,r,s,d.f.2.2.2⟩ (fun e b=>?_)⟩;rcases bK.1 b with b|b
 ·exact .inl b
 ·have:W.heap.size≤e∧e<W'.heap.size:=by
   rcases bK.1 b with b|b
   ·exact o e (Y6 b)
   ·exact q e (Y6 b)
  have a:=d.g.1.b;exact .inr ⟨fun a=>by have:=d.a.o a;omega,Y0,this.2⟩
def zcA {s:Int} (a:s=0∨s=1) (e:lX W c P X F) (b d:Int):aF au 57 #[aK (R ⟨(P.q s).f,0,O⟩),Av {Fr.o with a:=b,b:=d} O 0 0 O 0 0] W fun f g=>f=av (aO (kE (c.p s).x.b (c.p s).x.a.b b d))∧aJ W W g:=by
 rcases a with rfl|rfl
 ·obtain⟨_,_,f,g,h,i,j,k,l,m,a⟩:=e.d 1;exact kW {Fr.o with a:=b,b:=d} O O 0 0 0 0 P.a.f c.e.x.b c.e.x.a.b W (a.d.a 1) (a.d.a 4)
 ·obtain⟨_,_,f,g,h,i,j,k,l,m,a⟩:=e.d 2;exact kW {Fr.o with a:=b,b:=d} O O 0 0 0 0 P.b.f c.f.x.b c.f.x.a.b W (a.d.a 1) (a.d.a 4)
end
section
variable {w W:aB} {c:Co} {P:Pt} {X:Option fq} {F:Nat→List Nat} {p:fq}
def Xa (b:Nat) (a:Rw) (d:Bool) (g e:Option aX) (h f:Nat):gV (fC (fq.q b a d g h)) 5 [Z e a.b.length f]=fC (fq.q b a d e f):=by kernel_rfl
def fq.s (p:fq) (a:Bool):fq:={p with x:={p.x with e:=a}}
def Xb (p:fq) (a:Bool):gV (fC p) 21 [aO a]=fC (p.s a):=by kernel_rfl
def ZU (c:Co) (P:Pt) (a:Option aX):gV (sN c P) 32 [aK a]=sN c {P with d:=a}:=by kernel_rfl
def zba (c:Co) (a:Rw) (P:Pt) (F:Nat→List Nat) (w:aB) (b:Ending) (d:aB):Prop:=
 (iN c a=false∧b=av (J U 1)∧aJ w w d)∨
 (iN c a=true∧b=av (J U 0)∧∃p,p.x=(fU c a).2∧p.l∧Cp (fU c a).1 {P with d:=R ⟨p.b,0,O⟩} (R p) F w d)
def Xc {a:Nat} (f:Rw) (j:Bool) (i:Option aX) (k:Nat) (h:lX w c P X F) (z:P.d=O) (A:P.e=false) (B:dU c a) (C:a≤300) (L:f.b.length≤300) (s:gZ f.b) (u:i=O→f.b.length=0) (x:bU w i (dP f.b)):
  aF au 26 #[qp P.g,fO f.a f.c f.e f.d j i f.b.length k] w (zba c f P F w):=by
 obtain⟨y,r⟩:=exq (iN c f);have D:y=true→iN c f=true:=fun h=>by rw[r,h]
 obtain⟨a,b,e,d,g⟩:=f;obtain⟨n,f⟩:=exq g.length;have G:Y (∀W,aJ w w W→aF au 55 #[qp P.g,aS (qs a b e d j i n k)] W fun m v=>m=av y∧aJ W W v):=aj fun W l=>by rw[←r,←f];exact SL ⟨a,b,e,d,g⟩ j i k (h.a l).f
 have HC:Y (∀W,aJ w w W→W.cell? ⟨P.g,33,O⟩=R (aO true)∧W.cell? ⟨P.g,34,O⟩=R (aO false)∧W.cell? ⟨P.g,32,O⟩=R (aK O)):=aj fun W l=>by have o:=(h.a l).f;exact⟨o.a 33,by rw[←A];exact o.a 34,by rw[←z];exact o.a 32⟩
 have K:Y (∀W,aJ w w W→aF au 34 #[Z i n k] W (jm 5 1 n (dP g) W)):=aj fun W l=>jd i n k g W f (by rw[←f];dsimp only at L;omega) (fun h=>by rw[←f];exact u h) (x.a l);have V:Y (∀W,aJ w w W→aF au 56 #[aS (qs a b e d j i n k)] W (pR (qD b e d g) W)):=aj fun W l=>wC a b e d j i n k g W f (by rw[←f];dsimp only at L;omega) (fun h=>by rw[←f];exact u h) (x.a l) s;have HQ:=aj (And.intro h (And.intro B (And.intro C (And.intro D (And.intro L s)))));have q:=aj (gU w 30 (qs a b e d j i n k));have M:=aj r;have t:=aj f;dsimp only;rw[f];unfold fO;clear h z A B C L s u x r D f;go_enter func26,ntmps26;go_upto_region 1 with fail;generalize f:w.alloc (.cells (qs a b e d j i n k) 30)=r at q⊢;clear f;obtain⟨z,A,B,C,D,E⟩:=bH.j q.o.2;obtain⟨f,H,j0⟩:=HC.o _ q.o.1;go_wp2_with fail;refine mB (G.o _ q.o.1) fun r s=>?_;have u:=aj (q.o.2.b s);have x:=aj (bG q.o.1 s);clear s G f H j0 z A B C D E;cases y
 ·go_wp2_with fail;go_ret;exact .inl ⟨M.o,rfl,x.o⟩
 obtain⟨z,A,B,C,D,E⟩:=bH.j u.o;go_upto_region 8 with fail;obtain⟨f,d0⟩:=exq r.heap.size;generalize I:r.alloc _=y;have q:Y (aJ r r y∧bH y f 142 (fC (fq.q f ⟨a,b,e,d,g⟩ j i k))):=aj (by rw[←I,←d0,←t.o];exact gU r 142 _);have G:=aj (u.o.b q.o.1);have H:=aj (bG x.o q.o.1);have Q:w.heap.size<f:=by rw[←d0];have:=u.o.e;omega
 rw[d0];clear I x u z A B C D E;obtain⟨z,A,B,C,D,E⟩:=bH.j G.o;go_wp2_with fail;refine(K.o _ H.o).mono ?_;rintro m S ⟨A',C',rfl,u,x⟩;have r:=aj (q.o.2.b x);have T:=aj (G.o.b x);have b0:=aj (bG H.o x);have I:=aj u;have c0:=q.o.2.e;clear u x K q G H z A B C D E;have H:S.cell? ⟨f,5,O⟩=R (Z i n k):=by rw[←t.o];exact r.o.a 5
 have yf:=r.o.c;go_upto_region 9 with fail;generalize u:S.setCell _ _=q;have N:Y (sP c P X F w (fq.q f ⟨a,b,e,d,g⟩ j A' C') q∧aJ w w q∧bH q w 30 (qs a b e d j i n k)):=aj (by
  have a0:bg [f] S q:=by rw[←u];exact bg.f (F:=[f]) Y1 [_] 5 S
  have G:aJ w w q:=by rw[←u];exact b0.o.setCell (Nat.le_of_lt Q) _
  refine⟨sP.h (B:=y.heap.size) HQ.o.1 G ?_ (Nat.le_of_lt Q) ?_ c0,G,T.o.g a0 (by simp;omega)⟩
  ·rw[←u,←t.o,←Xa f ⟨a,b,e,d,g⟩ j i A' k C'];exact bH.o [_] 5 S _ r.o
  ·have:=bO I.o a0 (fun k0 hq=>by have:=(I.o.lt k0 hq).1;simp;omega);rw[←t.o]at this;exact this)
 clear u H yf r T b0 I;obtain⟨z,A,B,C,D,E⟩:=bH.j N.o.2.2;go_upto_if 45 with fail;go_cut [] (fun T=>∃p,p.b=f∧Y (p.x=(fU c ⟨a,b,e,d,g⟩).2∧sP (fU c ⟨a,b,e,d,g⟩).1 P X F w p T));case first=>
  by_cases q:b= -1
  ·have HZ:Y (fU c ⟨a,b,e,d,g⟩=(c,BD ⟨a,b,e,d,g⟩)):=aj (by unfold fU;rw[aP q]);have b1:(b != -1)=false:=by rw[q];rfl
   clear q;go_wp2;go_meet;exact⟨fq.q f ⟨a,b,e,d,g⟩ j A' C',rfl,aj ⟨by rw[HZ.o];rfl,by rw[HZ.o];exact N.o.1⟩⟩
  have b1:(b != -1)=true:=Y6 q;have H1:=aj q;clear q;have l0:ko a=true:=(pU M.o).1;have m0:gK g.length b e d=true:=(pU M.o).2 H1.o;obtain⟨k0,hq⟩:=oF.a (dN l0);obtain⟨r,hy⟩:=exq (jK b e d g);have u:Y (∀W,aJ w w W→aF au 56 #[aS (qs a b e d j i n k)] W (pR (r,0) W)):=aj fun W l=>by have:=V.o W l;unfold qD at this;rw[aP m0,hy]at this;exact this
  have HY:=aj hy;clear V m0 l0 hy HC;go_upto_region 10 with fail;go_cut [] (fun T=>∃G H I K,Y (sP c P X F w ((fq.q f ⟨a,b,e,d,g⟩ j A' C').t r.1 r.2 G H I K) T∧bH T w 30 (qs a b e d j i n k)));case first=>go_wp2_with fail;refine(u.o _ N.o.2.1).mono ?_;rintro m w6 ⟨G,H,I,K,rfl,hD,hS,e0⟩;have f0:=aj (N.o.1.a.b e0);have p0:=aj (N.o.2.2.b e0);have q0:=aj (N.o.1.i (x:=r.2) e0 hD hS);have y6:=frC f0.o;have r0:=f0.o.a 19;have s0:=f0.o.a 20;have yf:=f0.o.c;unfold Av;dsimp only[fC,FrC,fq.q]at y6 r0 s0 yf;clear hD hS e0 u z A B C D E;go_wp2;go_meet;have o1:bg [f] w6 (w6.setCells f 6 (ZT r.1 G H I K)):=bg.f Y1 _ _ _;have o2:bg [f] (w6.setCells f 6 (ZT r.1 G H I K)) ((w6.setCells f 6 (ZT r.1 G H I K)).setCells f 19 [J U r.2.1,J U r.2.2]):=bg.f Y1 _ _ _;exact⟨G,H,I,K,aj ⟨q0.o,(p0.o.g o1 (by simp;omega)).g o2 (by simp;omega)⟩⟩
  case rest=>
   obtain⟨G,H,I,K,b0⟩:=hcut;clear N u z A B C D E;obtain⟨t,h0⟩:=exq ((fq.q f ⟨a,b,e,d,g⟩ j A' C').t r.1 r.2 G H I K);have u:Y (t.b=f∧t.x.c=false∧∀a0,(t.s a0).x={BD ⟨a,b,e,d,g⟩with f:=r.1,w:=r.2,e:=a0}):=aj (by rw[←h0];exact⟨rfl,rfl,fun _=>rfl⟩);rw[h0]at b0;obtain⟨Q,i0⟩:=exq (kE (c.p a).x.b (c.p a).x.a.b b d);obtain⟨i2,hi⟩:∃i2,(a=0∧i2=8)∨(a=1∧i2=20):=by rcases hq with h|h;exact⟨8,.inl ⟨h.1,rfl⟩⟩;exact⟨20,.inr ⟨h.1,rfl⟩⟩
   obtain⟨y,hf⟩:∃y:aB→Prop,∀W,jB y W=(W.cell? ⟨w,0,O⟩=R (J U a)∧W.cell? ⟨w,1,O⟩=R (J U b)∧W.cell? ⟨w,3,O⟩=R (J U d)∧W.cell? ⟨P.g,i2,O⟩=R (aK (R ⟨(P.q a).f,0,O⟩))):=⟨_,fun _=>rfl⟩;have HT:Y (∀W,sP c P X F w t W→bH W w 30 (qs a b e d j i n k)→jB y W∧aF au 57 #[aK (R ⟨(P.q a).f,0,O⟩),aS #[b,J U 0,d,J U 0,Z O 0 0,Z O 0 0,J U 0,J U 0,false,J U 0,J U 0,J U 0,J U 0]] W fun m v=>m=av Q∧jB y v∧Y (sP c P X F w t v∧bH v w 30 (qs a b e d j i n k))):=aj fun W l o=>by
    have hc:∀W,sP c P X F w t W→bH W w 30 (qs a b e d j i n k)→jB y W:=fun W l o=>by
     rw[hf];refine⟨o.a 0,o.a 1,o.a 3,?_⟩;have:=l.b;rcases hi with⟨rfl,rfl⟩|⟨rfl,rfl⟩
     ·exact this.a 8
     ·exact this.a 20
    refine⟨hc W l o,?_⟩;obtain⟨t0,F',hF⟩:=id l;refine mB (zcA (s:=a) (dN (pU M.o).1) hF.a b d) fun v s=>?_;exact⟨by rw[i0],hc _ (l.d s) (o.b s),aj ⟨l.d s,o.b s⟩⟩
   have HR:Y (∀W,sP c P X F w (t.s Q) W→aF au 58 #[qp P.g,qp f] W fun m v=>m=av (aN #[])∧∃p,p.b=f∧Y (p.x=(fU c ⟨a,b,e,d,g⟩).2∧sP (fU c ⟨a,b,e,d,g⟩).1 P X F w p v)):=aj fun W l=>by
    have q:(t.s Q).x=kM (c.p a) ⟨a,b,e,d,g⟩:=by rw[u.o.2.2];unfold kM;dsimp only;rw[HY.o,i0]
    have L:fU c ⟨a,b,e,d,g⟩=(c.b a (kN c.a.c (c.p a) (kM (c.p a) ⟨a,b,e,d,g⟩)).1,(kN c.a.c (c.p a) (kM (c.p a) ⟨a,b,e,d,g⟩)).2):=by unfold fU;rw[aL H1.o]
    obtain⟨_,q2,q3,_,q5,q6⟩:=HQ.o;have:=WZ l q2 q3 (by rw[q];exact Gd (pU M.o).1 q5 q6 H1.o ((pU M.o).2 H1.o)) (by rw[q];exact H1.o) (by rw[q];rfl);rw[show(t.s Q).b=t.b from rfl,u.o.1]at this;refine mB this fun v ⟨p,e1,e2,h2⟩=>?_;rw[q]at e2 h2;exact⟨rfl,p,e1.trans u.o.1,aj ⟨by rw[L];exact e2,by rw[L];exact h2⟩⟩
   obtain⟨u0,n0⟩:=HT.o _ b0.o.1.f (b0.o.2.b (ay _ _).drew);have o0:=aj n0;have n1:f≠w.heap.size:=Y0;have n2:f≠P.g:=by have:=b0.o.1.g.2;rw[u.o.1]at this;exact this
   have y0:=fun W (h:jB y W)=>by rw[hf]at h;exact h
   have v0:Y (∀W g0,jB y W→jB y (W.setCell ⟨f,21,O⟩ g0)):=aj fun W g0 h=>by rw[hf]at h⊢;have m:∀c0:aX,c0.block≠f→(W.setCell ⟨f,21,O⟩ g0).cell? c0=W.cell? c0:=fun c0 hx=>World.cell?_setCell_far W ⟨f,21,O⟩ c0 g0 (Ne.symm hx);rw[m _ (Ne.symm n1),m _ (Ne.symm n1),m _ (Ne.symm n1),m _ (Ne.symm n2)];exact h
   clear HT HY HQ b0 n0 i0 h0 d0 hf;go_upto_region 11 with fail;go_cut [] (fun T=>Y (sP c P X F w (t.s Q) T));case first=>
    clear hq;rcases hi with⟨rfl,rfl⟩|⟨rfl,rfl⟩
    all_goals
     go_region_held3 (jB y) (with_reducible (first|assumption|exact v0.o _ _ (by assumption))) (first|(go_at_call 57;refine o0.o.mono ?_;rintro m S ⟨rfl,z0,V⟩;have x:=V.o.1.a;rw[u.o.1]at x;have A0:=x.c;have w0:=x.a 21;dsimp only[fC]at w0;clear x));all_goals
      go_wp2;go_meet;have:=V.o.1.e [aO Q] 21 (Xb t Q) ⟨rfl,⟨rfl,rfl,rfl,rfl,rfl,rfl⟩,rfl,rfl⟩ ⟨rfl,rfl,rfl,rfl,rfl,rfl⟩;rw[u.o.1]at this;exact aj this
   case rest=>have x0:=hcut;clear o0 u0;go_wp2_with fail;refine mB (HR.o _ x0.o) fun w7 ⟨p,hp,h7⟩=>?_;clear HR;go_wp2;go_meet;exact⟨p,hp,h7⟩
 case rest=>obtain⟨p,rfl,a⟩:=hcut;have o:=a.o.2.b;have j0:=o.H 32;have b:=o.c;clear o;go_wp2;go_ret;refine .inr ⟨M.o,rfl,p,a.o.1,?_⟩;obtain⟨t0,F',h⟩:=a.o.2;exact⟨h.f,Cp.d (c0:=c) (P0:=P) (X0:=X) h.m fun a q=>q.m [aK (R ⟨p.b,0,O⟩)] 32 (ZU _ _ _) rfl⟩
end
end Go.Proofs.YtdcacpeaimjdlaaGreatDoor
