/- Part of the proof. -/
import Derived.Test.YtdcacpeaimjdlaaGreatDoorPas
import Derived.Test.YtdcacpeaimjdlaaGreatDoorPat
namespace Go.Proofs.YtdcacpeaimjdlaaGreatDoor
open Go.RowKit Go.Maps Go.Proofs.Tryz Mq MFr MRw
open Go.Value renaming int→J,slice→Z,string→aA,pointer→aK,bool→aO,tuple→aN,agg→aS,complex→aH
open Go.IntKind renaming i64→U
open Option renaming none→O,some→R
open Go.Ending renaming returned→av
open Go renaming World→aB,Value→aI,Calls→aF,Addr→aX,TypeId→bB,undef→bq
open Go.RowKit renaming Below→aJ
open Go.Proofs.Tryz renaming prog→au
open Go.FloatKind renaming f64→aW
set_option maxRecDepth 20000
set_option maxHeartbeats 0
set_option linter.all false
variable {J0 J1 J2 J3 J4 J5 J6 J7 J8 J9 M0 M1 M2 M3 M4 M5 M6 M7 M8 M9 N0 N1 N2 N3 N4 N5 N6 N7 N8 N9 O0 O1 O2 O3 O4 O5 O6 O7 O8 O9 Q0 Q1 Q2 Q3 Q4 Q5 Q6 Q7 Q8 Q9 R0 R1 R2 R3 R4 R5 R6 R7 R8 R9 T0 T1 T2 T3 T4 T5 T6 T7 T8 T9 X0 X1 X2 X3 X4 X5 X6 X7 X8 X9 u0 u1 u100 u101 u102 u103 u104 u105 u106 u107 u108 u109 u110 u111 u112 u113 u114 u115 u116 u117 u118 u119 u120 u121 u122 u123 u124 u125 u126 u127 u128 u129 u130 u131 u132 u133 u134 u135 u136 u137 u138 u139 u140 u141 u142 u143 u144 u145 u146 u147 u148 u149 u150 u151 u152 u153 u154 u155 u156 u157 u158 u2 u3 u4 u5 u6 u7 u8 u9 u90 u91 u92 u93 u94 u95 u96 u97 u98 u99:aI}
section
open Go.Lib Go.Shelf Go.Sort
def SP:ByteArray:={data:=#[32]}
def RS (a:ByteArray) (c:Int) (d:aB) (m:lg d) (n:a.size<4294967281) (o:Lib.countB a SP+1=35) (g:(Lib.splitB SP 0 (Lib.countB a SP) a).length=35):
  aF au 216 #[aA a,c] d fun p t=>p=av (aA (if bV c 1 35 then(Lib.splitB SP 0 (Lib.countB a SP) a).getD (c.toNat-1) E0 else E0))∧aJ d d t:=by
 obtain⟨u,q⟩:=m.f;obtain⟨h,e⟩:=exq ((if bV c 1 35 then(Lib.splitB SP 0 (Lib.countB a SP) a).getD (c.toNat-1) E0 else E0));rw[e];by_cases v:c<1
 ·have j:Y (E0=h):=aj (by rw[←e,aL (by unfold bV;simp;omega)]);clear e;go_enter func216,ntmps216;go_wp2_with fail;go_ret;exact⟨by rw[←j.o];rfl,ay _ _⟩
 ·by_cases w:c>35
  ·have j:Y (E0=h):=aj (by rw[←e,aL (by unfold bV;simp;omega)]);clear e;go_enter func216,ntmps216;go_wp2_with fail;go_ret;exact⟨by rw[←j.o];rfl,ay _ _⟩
  ·obtain⟨b,rfl⟩:∃b:Nat,c=(b:Int)+1:=⟨(c-1).toNat,by omega⟩;have r:b<35:=by omega
   obtain⟨f,i⟩:=exq (Lib.splitB SP 0 (Lib.countB a SP) a);have k:=aj (Tryz.strings_Split a SP u d n q (by decide));rw[o,i]at k;rw[i]at g;have l:f.getD b E0=h:=by rw[←e,aP (by unfold bV;simp;omega),i,show((b:Int)+1).toNat-1=b by omega]
   have s:=aj (gU d 9 (f.map aA).toArray);have x:(d.alloc (.cells (f.map aA).toArray 9)).cell? ⟨d,b,O⟩=R (aA h):=by rw[s.o.2.a b];rw[show f.getD b E0=f[b] by simp[List.getD,g,r]]at l;simp[l,g,r]
   unfold SP at k;have y:U.wrap ((b:Int)+1-1)=(b:Nat):=by rw[bF _ (by omega)];omega
   clear i g l e o n q m;go_enter func216,ntmps216;go_wp2_with fail;refine k.o.mono ?_;rintro p z ⟨rfl,rfl⟩;go_wp2_with fail;go_ret;exact⟨rfl,s.o.1⟩
def jO:ByteArray:={data:=(([102,105,114,115,116,32,112,114,101,102,97,99,101,32,115,105,122,101,32,111,114,100,101,114,32,102,111,114,109,32,118,97,108,117,101,32,97,99,107,32,115,112,114,101,97,100,32,97,119,97,121,32,105,100,108,101].append [32,110,117,109,98,101,114,32,114,101,115,101,114,118,101,100,32,101,110,100,101,100,32,99,108,111,115,101,100,32,114,101,115,101,116,32,102,111,114,103,111,116,116,101,110,32,115,116,101,112,32,119,105,110,100,111]).append ([119,32,99,111,110,110,32,115,116,114,101,97,109,32,112,117,115,104,32,112,114,111,109,105,115,101,32,112,114,111,109,105,115,101,100,32,109,97,110,121,32,116,97,98,108,101,32,117,112,100,97,116,101,32,109,105].append [115,115,105,110,103,32,102,105,101,108,100,32,98,97,114,114,101,100,32,112,115,101,117,100,111,32,108,101,110,103,116,104,32,98,111,100,121,32,116,114,97,105,108,101,114,32,115,97,102,101,32,99,108,105,101,110,116])).toArray}
def rZ:Lib.countB jO SP=34:=by
 show Lib.count jO.data.toList SP.data.toList=34
 decide+kernel
def RU:(Lib.splitK SP.data.toList 0 34 jO.data.toList).all (fun a=> !a.isEmpty)=true:=by decide+kernel
def RV:jO.size<4294967281:=by decide+kernel
def wD:Lib.countB jO SP+1=35∧(Lib.splitB SP 0 (Lib.countB jO SP) jO).length=35:=⟨by rw[rZ],by rw[rZ];exact Lib.splitB_all SP (by decide) 0 34 jO rZ⟩
def BN (a:Int) (c:aB) (f:lg c):aF au 179 #[a] c fun g d=>∃b:ByteArray,g=av (aA b)∧((b={data:=#[]})↔bV a 1 35=false)∧aJ c c d:=by
 have h:=aj (RS jO a c f RV wD.1 wD.2);obtain⟨b,e⟩:=exq ((if bV a 1 35 then(Lib.splitB SP 0 (Lib.countB jO SP) jO).getD (a.toNat-1) E0 else E0));have i:(b={data:=#[]})↔bV a 1 35=false:=by
  rw[←e];cases d:bV a 1 35
  ·simp
  ·rw[aP rfl];simp only[reduceCtorEq,iff_false];have l:a.toNat-1<35:=by unfold bV at d;simp at d;omega
   have j:=RU;rw[List.all_eq_true]at j;intro m;have k:(Lib.splitB SP 0 (Lib.countB jO SP) jO).getD (a.toNat-1) E0∈Lib.splitB SP 0 (Lib.countB jO SP) jO:=by rw[List.getD,aQ (by rw[wD.2];exact l)];exact List.getElem_mem _
   rw[m,rZ]at k;have l:=List.mem_map_of_mem (f:=fun b:ByteArray=>b.data.toList) k;rw[Lib.splitB_data]at l;exact absurd (j _ l) Y2
 rw[e]at h;clear e f;go_enter func179,ntmps179;go_wp2_with fail;refine mB h.o fun e d=>?_;have f:=aj (show(b={data:=#[]}↔bV a 1 35=false)∧aJ c c e from⟨i,d⟩);clear i d;go_wp2;go_ret;exact⟨b,rfl,f.o⟩
def KR (a:aB) (c:bB) (d:Array aI) (b:Ft):iX [b] a (av (Z (R ⟨a.heap.size+1,0,O⟩) 1 1)) ((a.alloc (.cells d c)).alloc (.cells #[b.1,b.2] 91)):=
 ⟨_,1,rfl,⟨rfl,.inr ⟨a.heap.size+1,1,_,rfl,Y0,(sK a c 91 d #[b.1,b.2]).2.2,aD _,by unfold maxLen;omega,rfl,rfl⟩⟩,(sK a c 91 d _).1⟩
def KS (c:Bool) (a:Int) (b:aB):aF au 184 #[c,a] b (iX (gB c a) b):=by
 cases c
 ·go_enter func184,ntmps184;go_wp2;go_ret;exact KR b 91 _ (1,a)
 ·go_enter func184,ntmps184;go_wp2;go_ret;exact KR b 91 _ (2,a)
def NC (a:Rw) (e:Bool) (f:Option aX) (g h:Nat) (b:aB):aF au 185 #[fO a.a a.c a.e a.d e f g h] b fun c d=>c=av (aO (wm a))∧aJ b b d:=by obtain⟨i,c,j,d,k⟩:=a;have l:=aj (fun c d=>(gU b 30 (qs i c j d e f g h)).1);obtain⟨a,m,n,o,p,q⟩:=bH.j (gU b 30 (qs i c j d e f g h)).2;obtain⟨b,a⟩:=exq (wm ⟨i,c,j,d,k⟩);rw[a];unfold wm at a;unfold fO;go_enter func185,ntmps185;go_wp2;all_goals(go_ret;refine⟨fB ?_,l.o _ _⟩;subst a;first|(simp[*];done)|(simp_all;done))
end
section
open Go.Lib Go.Shelf Go.Sort
def RX (d:Bool) (e:Int) (b:aB):aF au 184 #[d,e] b fun g f=>∃a c,g=av (Z a 1 c)∧Y (bU f a (bN (gB d e))∧(a=O→1=0∧c=0)∧aJ b b f):=by refine(KS d e b).mono ?_;rintro g f ⟨a,c,rfl,b,d⟩;exact⟨a,c,rfl,dD b,fun a=>(fH b).1 a,d⟩
def oD {a c:aB} {l:List Ft} {d:Ending} {e:aB} (f:iX l c d e) (b:aJ a a c):iX l a d e:=by obtain⟨a,c,d,e,g⟩:=f;exact⟨a,c,d,dz e b.size,b.trans (g.mono b.size)⟩
def WC (r:Int) (w:aB):aF au 188 #[J U r] w (iX (CU r) w):=by
 have HO:=fun conn code w=>aj (RX conn code w);by_cases h:r=14∨r=16∨r=20∨r=24
 ·obtain⟨a,b,c,d,H1,H2,HZ⟩:∃a b c d,(∀w,Y (aF au 184 #[aO a,J U b] w fun e w'=>∃A k,e=av (Z A 1 k)∧Y (bU w' A (bN (gB a b))∧(A=O→1=0∧k=0)∧aJ w.heap.size w w')))∧(∀w,Y (aF au 184 #[aO c,J U d] w fun e w'=>∃A k,e=av (Z A 1 k)∧Y (bU w' A (bN (gB c d))∧(A=O→1=0∧k=0)∧aJ w.heap.size w w')))∧
    Y (CU r=eG (gB a b++gB c d)∧((r=14∧a=true∧b=5∧c=false∧d=5)∨(r=16∧a=true∧b=5∧c=true∧d=1)∨(r=20∧a=true∧b=3∧c=false∧d=3)∨(r=24∧a=false∧b=1∧c=false∧d=7))):=by
   rcases h with rfl|rfl|rfl|rfl
   ·exact⟨true,5,false,5,HO _ _,HO _ _,rfl,Y1⟩
   ·exact⟨true,5,true,1,HO _ _,HO _ _,rfl,Y1⟩
   ·exact⟨true,3,false,3,HO _ _,HO _ _,rfl,Y1⟩
   ·exact⟨false,1,false,7,HO _ _,HO _ _,rfl,Y1⟩
  obtain⟨hz,hc⟩:=HZ.o;rw[hz];clear HO h hz HZ;generalize hX:gB a b=X at H1;generalize hY:gB c d=Y at H2;have HL:=aj (⟨by rw[←hX];rfl,by rw[←hY];rfl⟩:X.length=1∧Y.length=1);clear hX hY;rcases hc with⟨rfl,rfl,rfl,rfl,rfl⟩|⟨rfl,rfl,rfl,rfl,rfl⟩|⟨rfl,rfl,rfl,rfl,rfl⟩|⟨rfl,rfl,rfl,rfl,rfl⟩
  all_goals
   go_enter func188,ntmps188;go_wp2_with fail;refine(H1 _).o.mono ?_;rintro e w1 ⟨A1,c1,rfl,P1⟩;go_wp2_with fail;refine(H2 _).o.mono ?_;rintro e w2 ⟨A2,c2,rfl,P2⟩;have HU:=aj (BM A1 A2 1 c1 1 c2 X Y w2 HL.o.1 HL.o.2 Y0 Y0 P1.o.2.1 P2.o.2.1 (P1.o.1.a P2.o.2.2) P2.o.1);have HB:=aj (P1.o.2.2.trans (P2.o.2.2.mono P1.o.2.2.size));clear P1 P2;go_wp2_with fail;refine HU.o.mono ?_;rintro e w3 ⟨A3,c3,rfl,ho3,hb3⟩;have HE:=aj (oD (l:=eG (X++Y)) ⟨A3,c3,rfl,ho3,hb3⟩ HB.o);clear ho3 hb3;go_wp2;go_ret;exact HE.o
 ·have HZ:Y (CU r=[]):=aj (by unfold CU;rw[aL Y0,aL Y0,aL Y0,aL Y0]);have n1:(r==14)=false:=by simp;omega
  have n2:(r==16)=false:=by simp;omega
  have n3:(r==20)=false:=by simp;omega
  have n4:(r==24)=false:=by simp;omega
  clear h;go_enter func188,ntmps188;go_wp2;go_ret;rw[HZ.o];exact⟨O,0,rfl,aT _ _ _ _,ay _ _⟩
def stP {b:aB} {a:Nat} {g:bB} {c e:aI} (d:bH b a g #[c,e]) (e f:aI):∀c,c=((b.setCell ⟨a,0,O⟩ e).setCell ⟨a,1,O⟩ f)→bH c a g #[e,f]∧bg [a] b c:=by rintro c rfl;have h:∀(b:aB) (c:Nat) (g:aI),bg [a] b (b.setCell ⟨a,c,O⟩ g):=fun b c g=>bg.e (F:=[a]) (p:=⟨a,c,O⟩) b Y1 g;exact⟨(d.f 0 e).f 1 f,(h _ _ _).a (h _ _ _) fun _ d=>.inl d⟩
def ND (a:Rw) (g:Bool) (d:Option aX) (b h:Nat) (c:aB) (i:a.b.length=b) (j:b≤1000000) (k:d=O→b=0) (l:bU c d (dP a.b)) (m:gZ a.b):
  aF au 186 #[fO a.a a.c a.e a.d g d b h] c fun n e=>n=av (CB (BF a))∧aJ c c e:=by have e:=aj (sK c 30 91 (qr a g d b h) #[J U 0,J U 0]);have f:=aj (wC a.a a.c a.e a.d g d b h a.b _ i j k (l.a e.o.1) m);have g:Y (BF a=(qD a.c a.e a.d a.b).1.2):=aj (by unfold BF qD CV;split<;>simp_all);obtain⟨b,d,h,o,p,q⟩:=bH.j e.o.2.1;rw[g.o];generalize qD a.c a.e a.d a.b=h at f⊢;obtain⟨⟨a,b,d⟩,o⟩:=h;unfold pR Av at f;unfold fO at f⊢;clear i j k l m g;go_enter func186,ntmps186;go_wp2_with fail;refine f.o.mono ?_;rintro n j ⟨k,l,m,o,rfl,p,q,g⟩;have h:=aj (e.o.2.2.b g);have i:=aj (e.o.1.trans (g.mono e.o.1.size));have e:=h.o.e;have c:=aj ((h.o.h (.cells (qf a k a.c.length l m a.i.length o) 137)).h (.cells #[b,d] 91));have e:=aj (i.o.trans ((sK j 137 91 (qf a k a.c.length l m a.i.length o) #[b,d]).1.mono i.o.size));obtain⟨a,j⟩:=bH.m c.o;have a:=c.o.c;clear p q g f i h;go_wp2_with fail;obtain⟨a,f⟩:=stP c.o (J U b) (J U d) _ rfl;exact aG (iC results186 _ rfl a underlying91 rfl Y3) rfl ⟨rfl,e.o.trans (f.c (aR Y0 e.o.size) Y1)⟩
def FU:∀(c:Nat) (a:List Int),a.length≤c→(eX a).length≤a.length
 |0,a,b=>by
  obtain rfl:=List.length_eq_zero_iff.1 (Nat.le_zero.1 b)
  simp[eX]
 |c+1,a,b=>by
  match a,b with
  |d::e::f::g::h::i::a,b=>
   have:=FU c a (by simp at b;omega)
   simp[eX];omega
  |[],_=>simp[eX]
  |[_],_=>simp[eX]
  |[_,_],_=>simp[eX]
  |[_,_,_],_=>simp[eX]
  |[_,_,_,_],_=>simp[eX]
  |[_,_,_,_,_],_=>simp[eX]
def NG (b c d:Int) (a:List Int):(qD b c d a).1.1.i.length≤a.length:=by
 unfold qD;split
 ·show(jK b c d a).1.i.length≤_
  unfold jK;split
  ·split
   ·unfold lC;dsimp only;split
    ·simp[Fr.o]
    ·split
     ·simp[Fr.o]
     ·split
      ·exact FU a.length a (aD _)
      ·show(eO _ _).1.i.length≤_
       rw[(tu _ _).2.2];simp[Fr.o]
   ·simp[Fr.o]
  ·simp[Fr.o]
 ·simp[Fr.o]
def Jp (a:Rw) (i:Bool) (e:Option aX) (b g:Nat) (c:aB) (j:a.b.length=b) (n:b≤100000) (k:e=O→b=0) (h:bU c e (dP a.b)) (l:gZ a.b):
  aF au 187 #[fO a.a a.c a.e a.d i e b g] c fun p d=>p=av (CB (wo a))∧aJ c c d:=by
 have d:=aj (sK c 30 91 (qr a i e b g) #[J U 0,J U 0]);have f:=aj (wC a.a a.c a.e a.d i e b g a.b _ j Y0 k (h.a d.o.1) l);have e:Y (wo a=if(qD a.c a.e a.d a.b).2=0 then(jw (qD a.c a.e a.d a.b).1.1.i a.a).1 else(0,0)):=aj (by unfold wo qD CV;split<;>simp_all);have i:Y ((qD a.c a.e a.d a.b).1.1.i.length≤100000∧((qD a.c a.e a.d a.b).2=0∨(qD a.c a.e a.d a.b).2=1)):=aj ⟨aR (NG ..) Y0,by unfold qD;split<;>simp⟩;obtain⟨b,m,o,q,r,s⟩:=bH.j d.o.2.1;rw[e.o];generalize qD a.c a.e a.d a.b=o at f i⊢;obtain⟨⟨b,q,r⟩,m⟩:=o;unfold pR Av at f;unfold fO at f⊢;clear j n k h l e;have s:=fun e g c h=>aj (zo e b.i.length g b.i a.a c rfl i.o.1 h);obtain⟨h,g⟩:=exq (jw b.i a.a);rw[g]at s⊢;clear g;obtain⟨⟨u,v⟩,ok⟩:=h;obtain rfl|rfl:m=0∨m=1:=i.o.2
 ·rw[aP rfl];go_enter func187,ntmps187;go_wp2_with fail;refine f.o.mono ?_;rintro p i ⟨l,m,e,j,rfl,w,t,a⟩;have g:=aj (d.o.2.2.b a);have y:=aj (d.o.2.1.b a);have h:=aj (d.o.1.trans (a.mono d.o.1.size));have A:=g.o.e;have k:=aj (sK i 137 91 (qf b l b.c.length m e b.i.length j) #[q,r]);have n:=aj (g.o.b k.o.1);have z:=aj (y.o.b k.o.1);have o:=aj (h.o.trans (k.o.1.mono h.o.size));have x:=s e j ((i.alloc (.cells (qf b l b.c.length m e b.i.length j) 137)).alloc (.cells #[q,r] 91)) ((dD t).a k.o.1);obtain⟨B,C,D,E,F,G⟩:=bH.j z.o;obtain⟨z,B,C,D,E,F,G,H,I,K,L,M,N⟩:=bH.F k.o.2.1;unfold CB at x;clear w t a f h g y s;go_wp2_with fail;refine mB x.o fun B y=>?_;have k:=aj (n.o.b y);have z:=aj (o.o.trans (y.mono o.o.size));have C:=k.o.e;obtain⟨B,C⟩:=bH.m k.o;obtain⟨D,E⟩:=bH.m (k.o.h (.cells #[u,v] 91));have D:=k.o.c;have E:=(k.o.h (.cells #[u,v] 91)).c;clear y x;go_wp2_with fail;obtain⟨x,y⟩:=stP k.o (J U u) (J U v) _ rfl;have k:=z.o.trans (y.c (aR Y0 z.o.size) Y1);exact aG (iC results187 _ rfl (x.h _) underlying91 rfl Y3) rfl ⟨rfl,k.alloc k.size _⟩
 ·rw[aL Y1];go_enter func187,ntmps187;go_wp2_with fail;refine f.o.mono ?_;rintro p i ⟨l,m,e,j,rfl,w,t,a⟩;have g:=aj (d.o.2.2.b a);have h:=aj (d.o.1.trans (a.mono d.o.1.size));have A:=g.o.e;have n:=aj ((g.o.h (.cells (qf b l b.c.length m e b.i.length j) 137)).h (.cells #[q,r] 91));have o:=aj (h.o.trans ((sK i 137 91 (qf b l b.c.length m e b.i.length j) #[q,r]).1.mono h.o.size));obtain⟨B,C⟩:=bH.m n.o;have D:=n.o.c;clear w t a f h g s;go_wp2_with fail;obtain⟨a,b⟩:=stP n.o (J U 0) (J U 0) _ rfl;exact aG (iC results187 _ rfl a underlying91 rfl Y3) rfl ⟨rfl,o.o.trans (b.c (aR Y0 o.o.size) Y1)⟩
end
section
open Go.Lib Go.Shelf Go.Sort
def FV (a:List Int) (b:aB) (f:Ending) (c:aB):Prop:=
 ∃d e,f=av (Z d a.length e)∧c.ownsRow b 3 1 (Z d a.length e) a.length (a.map (J U))∧aJ b b c
def wE {c:aB} {f d b g:Nat} {a:List Int} (e:c.ownsRow f 3 1 (Z (R ⟨d,0,O⟩) b g) b (a.map (J U))) (f:a.length=b):Holds (J U) c d 0 a.toArray:=by
 intro b c;have d:b<a.length:=Y6 c;refine⟨?_,?_⟩
 ·rw[cK];exact dG e (by rw[bS,aQ d,getElem!_pos a.toArray b c];simp)
 ·rcases e.2 with⟨a,_⟩|⟨c,d,f,a,g,b,h,i,j,k⟩
  ·cases a
  ·injection a with a c c;injection a with a;injection a with a;subst a;exact bH.c b _
def KT {b:aB} {g a c h m:Nat} {e l':List Int} {os:Array Obj} (d:b.ownsRow g 3 1 (Z (R ⟨a,0,O⟩) c h) c (e.map (J U))) (f:e.length=c) (i:l'.length=c):
  (grow (putRow (J U) (Sort.ahead b m) a 0 l'.toArray) os).ownsRow g 3 1 (Z (R ⟨a,0,O⟩) c h) c (l'.map (J U))∧bg [a] b (grow (putRow (J U) (Sort.ahead b m) a 0 l'.toArray) os):=by
 have k:putRow (J U) (Sort.ahead b m) a 0 l'.toArray=(Sort.ahead b m).setCells a 0 (l'.map (J U)):=by
  have j:=putRow_setCells (J U) (Sort.ahead b m) a 0 l' e.toArray 0 (by simp[f,i]);rw[putRow_self (J U) _ a 0 _ (holds_ahead _ b m a 0 _ (wE d f))]at j;have l:lay e.toArray 0 l'=l'.toArray:=by
   apply Array.ext_getElem?;intro n;rw[lay_get? _ _ _ _ (by simp[f,i])];by_cases o:n<l'.length
   ·rw[aP Y0];simp
   ·rw[aL Y0,Array.getElem?_eq_none (by simp;omega),Array.getElem?_eq_none (by simp;omega)]
  rw[l]at j;exact j.symm
 have l:bg [a] b (putRow (J U) (Sort.ahead b m) a 0 l'.toArray):=by rw[k];exact(bg.j b m (F:=[a])).a (bg.f (F:=[a]) Y1 _ _ _) (fun _ d=>.inl d)
 have j:=zZ (putRow (J U) (Sort.ahead b m) a 0 l'.toArray) os;refine⟨dF ?_ j,l.a (bg.d (F:=[a]) j) (fun _ d=>.inl d)⟩;have:=gT (l'.map (J U)) 0 (Sort.ahead b m) _ (show(Sort.ahead b m).ownsRow g 3 1 (Z (R ⟨a,0,O⟩) c h) c (e.map (J U))from d);rw[←k,BL _ _ (by simp[f,i])]at this;exact this
def NH (f:Nat) (d:aI) (a:List Int) (b:aB) (c:a.length≤1000000) (c:b.ownsRow f 3 1 d a.length (a.map (J U))):
  aF au 180 #[d] b fun g e=>g=av (aN #[])∧e.ownsRow f 3 1 d a.length ((a.mergeSort fun h i=>decide (h≤i)).map (J U))∧∀f,(∀j,d.ownBlock=R j→j∈f)→bg f b e:=by
 obtain⟨d,l,rfl⟩:=dB c;by_cases k:a.length=0
 ·obtain rfl:=List.length_eq_zero_iff.1 k;refine mB (Tryz.slices_Sort_int_none d l b) ?_;rintro e rfl;exact⟨rfl,Y6 c,fun f _=>bg.o _ _⟩
 ·obtain⟨d,m,k⟩:=eu c Y0;injection k with k m m;subst k;have k:d<b.heap.size:=(c.lt d rfl).2;refine mB (Tryz.slices_Sort_int d 0 l a b (wE c rfl) k Y0) ?_;rintro e ⟨b,l,rfl⟩;obtain⟨e,g⟩:=KT (m:=b) (os:=l) c rfl (l':=a.mergeSort fun h i=>decide (h≤i)) Y1;exact⟨rfl,e,fun f hF=>g.g fun j k=>.inl (by rw[aC.1 k];exact hF d rfl)⟩
def Jq (a:List Int):(Lib.compact a).length≤a.length:=by unfold Lib.compact compactUpTo;rw[List.length_map];exact aR (List.length_filter_le _ _) Y1
def NI (h:Nat) (d:aI) (a:List Int) (c:aB) (b:a.length≤1000000) (b:c.ownsRow h 3 1 d a.length (a.map (J U))):
  aF au 181 #[d] c fun g e=>∃f,g=av f∧e.ownsRow h 3 1 f (Lib.compact a).length ((Lib.compact a).map (J U))∧f.ownBlock=d.ownBlock∧∀f,(∀h,d.ownBlock=R h→h∈f)→bg f c e:=by
 obtain⟨i,d,rfl⟩:=dB b;by_cases j:a.length=0
 ·obtain rfl:=List.length_eq_zero_iff.1 j;refine mB (Tryz.slices_Compact_int_empty i d c) ?_;rintro e rfl;exact⟨_,rfl,by simpa[Lib.compact,compactUpTo]using b,rfl,fun f _=>bg.o _ _⟩
 ·obtain⟨i,k,j⟩:=eu b Y0;injection j with j k k;subst j;have j:=Jq a;refine mB (Tryz.slices_Compact_int i 0 d a c (wE b rfl) Y0 (fH b).2) ?_;rintro e ⟨k,rfl⟩;obtain⟨c,d⟩:=KT (m:=k) (os:=#[]) b rfl (l':=Lib.compact a++List.replicate (a.length- (Lib.compact a).length) 0) (by simp;omega);rw[grow_empty]at c d;have b:=zF c (m:=(Lib.compact a).length) j;rw[List.map_append,Nat.mul_one,List.take_append_of_le_length Y1,bW Y1]at b;exact⟨_,rfl,b,rfl,fun f hF=>d.g fun h a=>.inl (by rw[aC.1 a];exact hF i rfl)⟩
def WE (a:Option aX) (k s:Nat) (j:List Int) (b:aB) (h:lg b) (i:j.length=k) (c:k≤1000000) (c:bU b a (j.map (J U))):aF au 139 #[Z a k s] b (FV (vg j) b):=by
 have t:=aj i;have m:=aj c;have p:=aj h;have x:=fun(f:aI) (a:List Int) (d:aB) (e:a.length≤1000000) (g:d.ownsRow b 3 1 f a.length (a.map (J U)))=>aj (NH b.heap.size f a d e g);have y:=fun(f:aI) (a:List Int) (d:aB) (e:a.length≤1000000) (g:d.ownsRow b 3 1 f a.length (a.map (J U)))=>aj (NI b.heap.size f a d e g);clear i c h;go_enter func139,ntmps139;go_wp2;go_loopw [3,8] (fun f g wr=>∃(h:Nat) (a:List Int) (d:Option aX) (e:Nat),h≤k∧g=J U h∧f=Z d a.length e∧Y (a=(j.take h).filter fun n=>bV n 1 35)∧Y (wr.ownsRow b 3 1 (Z d a.length e) a.length (a.map (J U))∧aJ b b wr)) (fun _ g _=>k- (intOf g).toNat);case atStart=>exact⟨0,[],O,0,aZ _,rfl,rfl,aj Y1,aj ⟨by simpa using aT _ _ _ _,ay _ _⟩⟩
 case round=>
  obtain⟨h,a,d,e,f,rfl,rfl,u,i⟩:=hrel;by_cases g:h<k
  ·obtain⟨f,l⟩:∃f,j[h]?=R f:=⟨_,aQ (by rw[t.o];exact g)⟩;obtain⟨g,o,rfl,q⟩:=(m.o.a i.o.2) h (J U f) (by rw[bS,l];rfl);have o:=aj (xC (fun n=>bV n 1 35) l);rw[←u.o]at o;clear l;have m:=aj (BN f wr (p.o.a i.o.2));have z:a.length≤1000000:=by rw[u.o];exact aR (List.length_filter_le _ _) (by rw[dw];omega)
   go_wp2_with fail;refine m.o.mono ?_;rintro A B ⟨v,rfl,q,l⟩;have r:=aj (i.o.2.trans (l.mono i.o.2.size));have w:=aj (dF i.o.1 l);clear l m;by_cases c:v={data:=#[]}
   ·have p:=q.1 c;rw[p]at o;subst c;clear q p;go_wp2;go_roundw;case rel=>exact⟨h+1,a,d,e,Y0,by go_num,rfl,aj (by rw[o.o];simp),aj ⟨w.o,r.o⟩⟩
    case measure=>simp[intOf];omega
   ·have p:bV f 1 35=true:=by cases m:bV f 1 35 with
     |true=>rfl
     |false=>exact absurd (q.2 m) c
    rw[p]at o;have C:v.toList.isEmpty=false:=by
     cases m:v.toList.isEmpty with
     |false=>rfl
     |true=>rw[ByteArray.toList_eq,List.isEmpty_iff]at m;exact absurd (ByteArray.ext (Array.toList_inj.1 m)) c
    clear q p;go_wp2_with (at_builtin;go_loud (refine oW rfl (.tmp 15) (.tmp 17) 37 rfl b.heap.size 3 1 Yu rfl Y2 underlying37 #[f] rfl (Z d a.length e) a.length (a.map (J U)) rfl w.o rfl (by simp[Value.oneCell']) (by unfold maxLen;omega) Y0 r.o.size ?_));intro q v c C D E F;have p:Y (c.ownsRow b 3 1 (Z (R ⟨q,0,O⟩) (a++[f]).length v) (a++[f]).length ((a++[f]).map (J U))∧aJ b b c):=aj ⟨by
     have:=C;rw[bL];simpa using this,r.o.trans (D.c r.o.size fun g c=>by
      cases hv:(Z d a.length e).ownBlock with
      |none=>rw[hv]at c;simp at c
      |some s=>rw[hv]at c;simp at c;rw[c];exact(w.o.lt s hv).1)⟩
    clear C D E F;go_wp2;go_roundw;case rel=>exact⟨h+1,a++[f],R ⟨q,0,O⟩,v,Y0,by go_num,Y1,aj (by rw[o.o];simp),p⟩
    case measure=>simp[intOf];omega
  ·obtain rfl:h=k:=Y0;have f:a=j.filter fun n=>bV n 1 35:=by rw[u.o,bW (by rw[t.o];omega)]
   have z:a.length≤1000000:=by rw[f];exact aR (List.length_filter_le _ _) (by rw[t.o];omega)
   have h:=x (Z d a.length e) a wr z i.o.1;have r:=aj f;clear f x;go_wp2_with fail;refine mB h.o fun B ⟨k,l⟩=>?_;have n:∀g,(Z d a.length e).ownBlock=R g→b.heap.size≤g:=fun g c=>(i.o.1.lt g c).1;have s:=aj (l (Z d a.length e).ownBlock.toList (fun g c=>by rw[c];simp));have o:(a.mergeSort fun f h=>decide (f≤h)).length=a.length:=Y1;have q:=y (Z d a.length e) (a.mergeSort fun f h=>decide (f≤h)) B Y0 (by rw[o];exact k);clear l k y o;go_wp2_with fail;refine q.o.mono ?_;rintro A t ⟨o,rfl,k,u,l⟩;obtain⟨o,q,rfl⟩:=dB k;have v:=aj (l (Z d a.length e).ownBlock.toList (fun g c=>by rw[c];simp));have p:Y (FV (vg j) b (av (Z o (Lib.compact (a.mergeSort fun f h=>decide (f≤h))).length q)) t):=by
    have t:vg j=Lib.compact (a.mergeSort fun f h=>decide (f≤h)):=by rw[r.o];rfl
    have f:∀g∈(Z d a.length e).ownBlock.toList,b.heap.size≤g:=fun g c=>n g (bC.1 c);rw[t];exact⟨o,q,rfl,k,i.o.2.trans ((s.o.a v.o (fun _ m=>.inl m)).c i.o.2.size f)⟩
   clear k u l n;go_wp2;go_ret;exact p.o
end
section
open Go.Lib Go.Shelf Go.Sort
def RY (a:Ft) (b:aB):aF au 182 #[Z (R ⟨b,0,O⟩) 1 1] (b.alloc (.cells #[a.1,a.2] 91)) (iX (eG [a]) b):=by obtain⟨c,d⟩:=gU b 91 #[a.1,a.2];refine(KQ _ 1 1 [a] _ rfl Y2 (bU.i b 91 #[a.1,a.2] (0,0))).mono ?_;intro b d a;exact oD a c
def Yv (a:Int) (b:Bool) (c:Int):Prop:=
 ((a=8∨a=19)∧b=true∧c=3)∨((a=13∨a=15)∧b=false∧c=5)∨((a=25∨a=26∨a=27)∧b=true∧c=9)∨((a=28∨a=29∨a=30∨a=31∨a=32∨a=33∨a=34)∧b=false∧c=1)
def vD (c:Bool) (d:Int) (e f:aB) (i:aJ f f e):aF au 184 #[c,d] e fun g h=>∃a b,g=av (Z a 1 b)∧Y (iX (gB c d) f (av (Z a 1 b)) h):=by refine(KS c d e).mono ?_;rintro g h c;obtain⟨a,b,rfl,d,e⟩:=c;exact⟨a,b,rfl,aj (oD ⟨a,b,rfl,d,e⟩ i)⟩
def WG (f:Int) (d:Bool) (e:Int) (g:aI) (c:Array aI) (h:g=aS c) (i:c.size=6) (b:aB) (a:Yv f d e):aF au 141 #[f,g] b (iX (gB d e) b):=by
 obtain⟨f⟩:=c;match f,i with
 |[f,g,i,j,k,l],_=>
 subst h;have c:=aj (vD d e _ b (gU b 30 #[f,g,i,j,k,l]).1);rcases a with⟨a,rfl,rfl⟩|⟨a,rfl,rfl⟩|⟨a,rfl,rfl⟩|⟨a,rfl,rfl⟩
 ·rcases a with rfl|rfl
  all_goals
   go_enter func141,ntmps141;go_wp2_with fail;refine c.o.mono ?_;rintro d e ⟨f,g,rfl,b⟩;go_wp2;go_ret;exact b.o
 ·rcases a with rfl|rfl
  all_goals
   go_enter func141,ntmps141;go_wp2_with fail;refine c.o.mono ?_;rintro d e ⟨f,g,rfl,b⟩;go_wp2;go_ret;exact b.o
 ·rcases a with rfl|rfl|rfl
  all_goals
   go_enter func141,ntmps141;go_wp2_with fail;refine c.o.mono ?_;rintro d e ⟨f,g,rfl,b⟩;go_wp2;go_ret;exact b.o
 ·rcases a with rfl|rfl|rfl|rfl|rfl|rfl|rfl
  all_goals
   go_enter func141,ntmps141;go_wp2_with fail;refine c.o.mono ?_;rintro d e ⟨f,g,rfl,b⟩;go_wp2;go_ret;exact b.o
def Jr (a:Int) (b:Rw) (r:Bool) (j:Option aX) (o p:Nat) (l:aB) (x:lg l) (e:b.b.length=o) (y:o≤100000) (s:j=O→o=0) (f:bU l j (dP b.b)) (t:gZ b.b):
  aF au 141 #[a,fO b.a b.c b.e b.d r j o p] l (iX (iq a b) l):=by
 by_cases g:∃h i,Yv a h i
 ·obtain⟨h,i,g⟩:=g;have c:iq a b=gB h i:=by
   rcases g with⟨d,rfl,rfl⟩|⟨d,rfl,rfl⟩|⟨d,rfl,rfl⟩|⟨d,rfl,rfl⟩
   ·rcases d with rfl|rfl<;>rfl
   ·rcases d with rfl|rfl<;>rfl
   ·rcases d with rfl|rfl|rfl<;>rfl
   ·rcases d with rfl|rfl|rfl|rfl|rfl|rfl|rfl<;>rfl
  rw[c];exact WG a h i _ _ rfl rfl l g
 ·have h:=aj (gU l 30 (qr b r j o p));obtain⟨i,k,m,n,q,u⟩:=bH.j h.o.2;have N:=aj (x.a h.o.1);by_cases u:a=14∨a=16∨a=20∨a=24
  ·have c:iq a b=CU a:=by rcases u with rfl|rfl|rfl|rfl<;>rfl
   rw[c];have m:=fun n=>aj (WC a n);generalize CU a=L at m⊢;unfold fO;rcases u with rfl|rfl|rfl|rfl
   all_goals
    clear g e y s f t x;go_enter func141,ntmps141;go_wp2_with fail;refine(m _).o.mono ?_;rintro c n ⟨C,D,rfl,i,v⟩;have E:=aj (oD (l:=L) ⟨C,D,rfl,i,v⟩ h.o.1);clear i v;go_wp2;go_ret;exact E.o
  ·by_cases z:a=17∨a=18
   ·obtain⟨w,k⟩:=exq ((b.d==0));have m:=fun F=>aj (vD w F _ l h.o.1);have c:iq a b=gB w (if a=17 then 1 else 3):=by rw[←k];rcases z with rfl|rfl<;>rfl
    rw[c];unfold fO;rcases z with rfl|rfl
    all_goals
     clear g u e y s f t x c;go_enter func141,ntmps141;go_wp2_with fail;refine(m _).o.mono ?_;rintro c n ⟨j,p,rfl,G⟩;go_wp2;go_ret;exact G.o
   ·by_cases A:a=3
    ·have k:=aj (NC b r j o p _:aF _ _ _ (l.alloc (.cells (qr b r j o p) 30)) _);have c:iq a b=gB (wm b) 6:=by rw[A];rfl
     rw[c];subst A;generalize wm b=w at k⊢;unfold fO at k⊢;clear g u z e y s f t x c;go_enter func141,ntmps141;go_wp2_with fail;refine mB k.o fun n q=>?_;have m:=aj (vD w 6 n l (h.o.1.trans (q.mono h.o.1.size)));clear q;go_wp2_with fail;refine m.o.mono ?_;rintro c n ⟨j,p,rfl,G⟩;go_wp2;go_ret;exact G.o
    ·by_cases i:a=5
     ·have k:=aj (ND b r j o p (l.alloc (.cells (qr b r j o p) 30)) e Y0 s (f.a h.o.1) t);have c:iq a b=eG [BF b]:=by rw[i];rfl
      rw[c];subst i;generalize BF b=w at k⊢;obtain⟨H,I⟩:=w;unfold CB at k;unfold fO at k⊢;clear g u z A e y s f t x c;go_enter func141,ntmps141;go_wp2_with fail;refine mB k.o fun n q=>?_;have m:=aj (RY (H,I) n);have B:=aj (h.o.1.trans (q.mono h.o.1.size));clear q;go_wp2_with fail;refine m.o.mono ?_;rintro c M ⟨C,D,rfl,i,v⟩;have E:=aj (oD (l:=eG [(H,I)]) ⟨C,D,rfl,i,v⟩ B.o);clear i v;go_wp2;go_ret;exact E.o
     ·by_cases K:a=6
      ·have k:=aj (Jp b r j o p (l.alloc (.cells (qr b r j o p) 30)) e Y0 s (f.a h.o.1) t);have c:iq a b=eG [wo b]:=by rw[K];rfl
       rw[c];subst K;generalize wo b=w at k⊢;obtain⟨H,I⟩:=w;unfold CB at k;unfold fO at k⊢;clear g u z A i e y s f t x c;go_enter func141,ntmps141;go_wp2_with fail;refine mB k.o fun n q=>?_;have m:=aj (RY (H,I) n);have B:=aj (h.o.1.trans (q.mono h.o.1.size));clear q;go_wp2_with fail;refine m.o.mono ?_;rintro c M ⟨C,D,rfl,i,v⟩;have E:=aj (oD (l:=eG [(H,I)]) ⟨C,D,rfl,i,v⟩ B.o);clear i v;go_wp2;go_ret;exact E.o
      ·have o:¬(a=8∨a=19):=fun d=>g ⟨_,_,.inl ⟨d,rfl,rfl⟩⟩;have r:¬(a=13∨a=15):=fun d=>g ⟨_,_,.inr (.inl ⟨d,rfl,rfl⟩)⟩;have v:¬(a=25∨a=26∨a=27):=fun d=>g ⟨_,_,.inr (.inr (.inl ⟨d,rfl,rfl⟩))⟩;have w:¬(a=28∨a=29∨a=30∨a=31∨a=32∨a=33∨a=34):=fun d=>g ⟨_,_,.inr (.inr (.inr ⟨d,rfl,rfl⟩))⟩;have c:iq a b=if bV a 1 35=false then []else gB true 1:=by unfold iq;rw[aL A,aL i,aL K,aL o,aL r,aL u,aL Y0,aL Y0,aL v,aL Y0]
       rw[c];obtain⟨L,b⟩:=exq ((if bV a 1 35=false then []else gB true 1));rw[b];have k:=aj b;clear b;have b:∀F:Int,a≠F→(a==F)=false:=fun F d=>by simp[d]
       have C:=b 3 Y0;have C:=b 5 Y0;have C:=b 6 Y0;have C:=b 8 Y0;have C:=b 19 Y0;have C:=b 13 Y0;have C:=b 15 Y0;have C:=b 14 Y0;have C:=b 16 Y0;have C:=b 20 Y0;have C:=b 24 Y0;have C:=b 17 Y0;have C:=b 18 Y0;have C:=b 25 Y0;have C:=b 26 Y0;have C:=b 27 Y0;have C:=b 28 Y0;have C:=b 29 Y0;have C:=b 30 Y0;have C:=b 31 Y0;have C:=b 32 Y0;have C:=b 33 Y0;have C:=b 34 Y0;have C:=aj (BN a _ N.o);unfold fO;clear c o r v w b g u z A i K e y s f t x;go_enter func141,ntmps141;go_wp2_with fail;refine C.o.mono ?_;rintro c n ⟨b,rfl,a,q⟩;have B:=aj (h.o.1.trans (q.mono h.o.1.size));clear q;by_cases f:b={data:=#[]}
       ·have e:=k.o;rw[aP (a.1 f)]at e;subst f e;clear a k;go_wp2;go_ret;exact⟨O,0,rfl,aT _ _ _ _,B.o⟩
       ·have g:b.toList.isEmpty=false:=by
         cases d:b.toList.isEmpty with
         |false=>rfl
         |true=>rw[ByteArray.toList_eq,List.isEmpty_iff]at d;exact absurd (ByteArray.ext (Array.toList_inj.1 d)) f
        have e:=k.o;rw[aL (fun d=>f (a.2 d))]at e;subst e;clear k;have m:=aj (vD true 1 n l B.o);clear a f;go_wp2_with fail;refine m.o.mono ?_;rintro c M ⟨j,p,rfl,G⟩;go_wp2;go_ret;exact G.o
end
def XU {Ph:Nat→List (Nat)→aB→Prop} {k:Exit→Act→aB→Prop} {wc:aB} {d f:Nat} {c:Cf} 
  (g:Ph 0 [] wc.drew)
  (h:∀a,rS Ph 0 1 a→a.cell? ⟨d,0,O⟩=R (J U c.a)∧a.cell? ⟨d,1,O⟩=R (J U c.b)∧a.cell? ⟨d,2,O⟩=R (J U c.c)∧a.cell? ⟨d,3,O⟩=R (J U c.e)∧a.cell? ⟨d,4,O⟩=R (J U c.d)∧a.cell? ⟨d,5,O⟩=R (J U c.f))
  (i:∀a,Ph 0 [] a→aF au 39 #[] a fun b l=>∃e,b=av (uJ e)∧Ph 1 [e] l)
  (j:∀e a,Ph 1 [e] a→Ph 2 [e,a.heap.size] (a.alloc (.cells #[qp e,qp f,c.a,c.b,c.c,c.e,c.d,c.f,Z O 0 0,J U 1,J U 0,Z O 0 0,Z O 0 0,J U 0,J U 0] 104)))
  (b:∀n o p q r s e m a,Ph 2 [e,m] a→k .normal ⟨#[u0,qp d,qp m,J U 0,qp f,J U 0,u6,u7,u8,u9,Q0,Q1,Q2,Q3,n,o,p,q,r,s],[]⟩ a):
  Code.wp au (fu 4 (f20.body.getD .skip)) k ⟨#[u0,qp d,u2,u3,qp f,J U 0,u6,u7,u8,u9,Q0,Q1,Q2,Q3,Q4,Q5,Q6,Q7,Q8,Q9],[]⟩ wc:=by
 haveI:Nonempty (Wd fun _=>True):=⟨⟨wc,trivial⟩⟩;haveI:Nonempty (Wd (rS Ph 0 1)):=⟨⟨_,0,[],aD _,Y2,g⟩⟩;have d:=fun d:Wd (rS Ph 0 1)=>h d.W d.a;have d:=aj h;replace i:=aj i;replace j:=aj j;have f:=aj b;clear b h;conv=>arg 2;whnf
 refine Hu uJ [0,5] [0,5] [] Ph (fun _=>bq) g (fun d=>?_);clear g;refine WL.n 0 (fun a e=>?_) ?_
 ·go_simp;exact i.o _ e
 dsimp only[Act.put];iterate 1 (refine WL.j (fun d b=>?_);go_simp;refine b _ ?_;clear b d)
 iterate 1 (refine WL.p 0 1 (fun d b=>?_);go_simp;refine b _ ?_;clear b d)
 iterate 2 (refine WL.j (fun d b=>?_);go_simp;refine b _ ?_;clear b d)
 refine WL.n 1 (fun a e=>?_) ?_
 ·have a:=aj (j.o _ _ e);clear e;go_simp;exact⟨_,rfl,a.o⟩
 dsimp only[Act.put];repeat(refine WL.j (fun d b=>?_);go_simp;refine b _ ?_;clear b d)
 exact WL.b fun l a=>by apply f.o;exact a
def XV {Ph:Nat→List (Kg)→aB→Prop} {p:Exit→Act→aB→Prop} {wc:aB} {f c g bn BC fn FC un UC xn XC n C:Nat} {A BA FA UA XA:Option aX} {fr ty fl st kd:Int} {res:Bool} 
  (h:Ph 0 [] wc.drew)
  (i:∀a,rS Ph 0 2 a→a.cell? ⟨f,8,O⟩=R (Z A n C)∧a.cell? ⟨c,0,O⟩=R (J U fr)∧a.cell? ⟨c,1,O⟩=R (J U ty)∧a.cell? ⟨c,2,O⟩=R (J U fl)∧a.cell? ⟨c,3,O⟩=R (J U st)∧a.cell? ⟨c,4,O⟩=R (aO res)∧a.cell? ⟨c,5,O⟩=R (Z BA bn BC)∧a.cell? ⟨g,0,O⟩=R (J U kd)∧a.cell? ⟨g,1,O⟩=R (Z FA fn FC)∧a.cell? ⟨g,2,O⟩=R (Z UA un UC)∧a.cell? ⟨g,3,O⟩=R (Z XA xn XC))
  (j:∀a,Ph 0 [] a→aF au 81 #[aS (qs fr ty fl st res BA bn BC),aS #[kd,Z FA fn FC,Z UA un UC,Z XA xn XC]] a fun b q=>b=av (aS #[fr,ty,fl,st,bn,kd])∧Ph 1 [] q)
  (k:∀a,Ph 1 [] a→Ph 2 [(R ⟨a,0,O⟩,1,1)] (a.alloc (.cells #[fr,ty,fl,st,bn,kd] 72)))
  (l:∀e a,Ph 2 [e] a→∃d m,(∀ty,(Builtin.append_ #[35,35] ty #[Z A n C,kg e]).run au a=.ok (kg d) m)∧Ph 3 [e,d] m)
  (o:∀e d a,Ph 3 [e,d] a→∃r,a.cell? ⟨f,8,O⟩=R r∧a.frozen? ⟨f,8,O⟩=false∧Ph 4 [e,d] (a.setCell ⟨f,8,O⟩ (kg d)))
  (b:∀s t u v w x y z B D E F G H e d a,Ph 4 [e,d] a→p .normal ⟨#[qp f,u1,u2,qp c,aO false,qp g,u6,u7,u8,u9,Q0,Q1,Q2,Q3,Q4,Q5,Q6,Q7,s,t,u,v,w,x,y,z,B,D,E,F,G,H,N2,N3,N4,N5,N6,N7,N8,N9,X0,X1,X2,X3,X4,X5,X6,X7,X8,X9,O0,O1,O2,O3,O4,O5,O6,O7,O8,O9,J0,J1,J2,J3,J4],[]⟩ a):
  Code.wp au (fu 4 (f43.body.getD .skip)) p ⟨#[qp f,u1,u2,qp c,aO false,qp g,u6,u7,u8,u9,Q0,Q1,Q2,Q3,Q4,Q5,Q6,Q7,Q8,Q9,T0,T1,T2,T3,T4,T5,T6,T7,T8,T9,N0,N1,N2,N3,N4,N5,N6,N7,N8,N9,X0,X1,X2,X3,X4,X5,X6,X7,X8,X9,O0,O1,O2,O3,O4,O5,O6,O7,O8,O9,J0,J1,J2,J3,J4],[]⟩ wc:=by
 haveI:Nonempty (Wd fun _=>True):=⟨⟨wc,trivial⟩⟩;haveI:Nonempty (Wd (rS Ph 0 2)):=⟨⟨_,0,[],aD _,Y2,h⟩⟩;have c:=fun c:Wd (rS Ph 0 2)=>i c.W c.a;have c:=aj i;replace j:=aj j;replace k:=aj k;replace l:=aj l;replace o:=aj o;have p:=aj b;clear b i;conv=>arg 2;whnf
 refine Hu kg [8,9,10,14] [9,10] [8,14] Ph (fun c=>if c=8 then aS #[fr,ty,fl,st,bn,kd]else bq) h (fun i=>?_);clear h;iterate 5 (refine WL.j (fun e b=>?_);go_simp;refine b _ ?_;clear b e)
 iterate 3 (refine WL.p 0 2 (fun e b=>?_);go_simp;refine b _ ?_;clear b e)
 refine WL.r 0 (aS #[fr,ty,fl,st,bn,kd]) (fun a c=>?_) ?_
 ·go_simp;exact j.o _ c
 dsimp only[Act.put];refine WL.n 1 (fun a c=>?_) ?_
 ·have g:=aj (k.o _ c);clear c;go_simp;exact⟨(R ⟨a,0,O⟩,1,1),rfl,g.o⟩
 dsimp only[Act.put];refine WL.n 2 (fun a c=>?_) ?_
 ·obtain⟨d,m,h,f⟩:=l.o _ _ c;have f:=aj f;clear c;exact uK (.tmp 23) (.tmp 27) 35 (Z A n C) (kg (i 9)) rfl rfl rfl (h _) f.o
 dsimp only[Act.put];iterate 3 (refine WL.j (fun e b=>?_);go_simp;refine b _ ?_;clear b e)
 refine WL.r 3 (bq) (fun a c=>?_) ?_
 ·obtain⟨r,g,b,a⟩:=o.o _ _ _ c;have a:=aj a;clear c;go_simp;exact a.o
 dsimp only[Act.put];exact WL.b fun q a=>by apply p.o;exact a
def XW {A:aB→Prop} {B:Nat×Nat→aB→Prop} {i:Exit→Act→aB→Prop} {wc:aB} {e cb d n C:Nat} {fr:Int} {BA:Option aX} 
  (f:A wc.drew) (a:∀a:Wd A,a.W.cell? ⟨e,0,O⟩=R (aK (R ⟨cb,0,O⟩)))
  (b:∀a:Wd A,a.W.cell? ⟨d,0,O⟩=R (J U fr))
  (b:∀a:Wd A,a.W.cell? ⟨d,1,O⟩=R (Z BA n C))
  (g:∀c,A c→aF au 42 #[qp cb,aS #[fr,Z BA n C]] c fun j h=>∃a:Nat×Nat,j=av (aN #[Z (R ⟨a.1,0,O⟩) 1 a.2,J U 0])∧B a h)
  (b:∀k l m o p q r s t a c,B a c→i .normal ⟨#[qp e,u1,u2,qp d,J U 0,Z (R ⟨a.1,0,O⟩) 1 a.2,J U 0,u7,u8,u9,Q0,Q1,Q2,Q3,Q4,Q5,Q6,Q7,k,l,m,o,p,q,r,s,t,T7,T8,T9,N0,N1,N2,N3,N4,N5,N6,N7,N8,N9,X0],[]⟩ c):
  Code.wp au (fu 5 (f22.body.getD .skip)) i ⟨#[qp e,u1,u2,qp d,J U 0,u5,u6,u7,u8,u9,Q0,Q1,Q2,Q3,Q4,Q5,Q6,Q7,Q8,Q9,T0,T1,T2,T3,T4,T5,T6,T7,T8,T9,N0,N1,N2,N3,N4,N5,N6,N7,N8,N9,X0],[]⟩ wc:=by
 haveI:Nonempty (Wd A):=⟨⟨_,f⟩⟩;haveI:Nonempty (Wd fun _=>True):=⟨⟨wc,trivial⟩⟩;replace g:=aj g;have e:=aj b;clear b;conv=>arg 2;whnf
 refine zaD A B 5 (fun a:Nat×Nat=>aN #[Z (R ⟨a.1,0,O⟩) 1 a.2,J U 0]) f (fun d=>?_);clear f;repeat(refine WL.C (fun d b=>?_);go_simp;refine b _ ?_;clear b d)
 refine WL.E (fun c f=>?_) ?_
 ·go_simp;exact(g.o _ f).mono fun j h ⟨a,c,f⟩=>⟨a.1,a.2,c,f⟩
 dsimp only[Act.put];repeat(refine WL.D (fun d b=>?_);go_simp;refine b _ ?_;clear b d)
 exact WL.b fun h a=>by apply e.o;exact a
def XY {Ph:Nat→List (Kg)→aB→Prop} {k:Exit→Act→aB→Prop} {wc:aB} {c cb l d:Nat} 
  (e:Ph 0 [] wc.drew)
  (g:∀a,rS Ph 0 1 a→a.cell? ⟨c,0,O⟩=R (aK (R ⟨cb,0,O⟩)))
  (h:∀a,Ph 0 [] a→aF au 47 #[qp cb,J U 0] a fun b f=>b=av (J U 0)∧Ph 1 [] f)
  (i:∀a,Ph 1 [] a→aF au 47 #[qp cb,J U 1] a fun b f=>b=av (J U 0)∧Ph 2 [] f)
  (j:∀a,Ph 2 [] a→a.there d 11 2∧Ph 3 [] (a.setCells d 11 [J U 0,J U 0]))
  (b:∀m n o p q r s t u v w x a,Ph 3 [] a→k .normal ⟨#[qp c,u1,qp l,qp d,u4,u5,u6,u7,u8,u9,Q0,Q1,Q2,Q3,Q4,Q5,Q6,Q7,Q8,Q9,T0,T1,T2,T3,T4,T5,m,n,o,p,q,r,s,t,u,v,w,x,N8],[]⟩ a):
  Code.wp au (fu 8 (f23.body.getD .skip)) k ⟨#[qp c,u1,qp l,qp d,u4,u5,u6,u7,u8,u9,Q0,Q1,Q2,Q3,Q4,Q5,Q6,Q7,Q8,Q9,T0,T1,T2,T3,T4,T5,T6,T7,T8,T9,N0,N1,N2,N3,N4,N5,N6,N7,N8],[]⟩ wc:=by
 haveI:Nonempty (Wd fun _=>True):=⟨⟨wc,trivial⟩⟩;haveI:Nonempty (Wd (rS Ph 0 1)):=⟨⟨_,0,[],aD _,Y2,e⟩⟩;have c:=fun c:Wd (rS Ph 0 1)=>g c.W c.a;have c:=aj g;replace h:=aj h;replace i:=aj i;replace j:=aj j;have k:=aj b;clear b g;conv=>arg 2;whnf
 refine Hu kg [4,9,12] [] [4,9,12] Ph (fun c=>if c=4 then J U 0 else if c=9 then J U 0 else bq) e (fun c=>?_);clear e;iterate 3 (refine WL.j (fun c b=>?_);go_simp;refine b _ ?_;clear b c)
 iterate 1 (refine WL.p 0 1 (fun c b=>?_);go_simp;refine b _ ?_;clear b c)
 refine WL.r 0 (J U 0) (fun a e=>?_) ?_
 ·go_simp;exact h.o _ e
 dsimp only[Act.put];iterate 3 (refine WL.j (fun c b=>?_);go_simp;refine b _ ?_;clear b c)
 iterate 1 (refine WL.p 0 1 (fun c b=>?_);go_simp;refine b _ ?_;clear b c)
 refine WL.r 1 (J U 0) (fun a e=>?_) ?_
 ·go_simp;exact i.o _ e
 dsimp only[Act.put];iterate 2 (refine WL.j (fun c b=>?_);go_simp;refine b _ ?_;clear b c)
 refine WL.r 2 (bq) (fun a e=>?_) ?_
 ·obtain⟨a,b⟩:=j.o _ e;exact lI 38 (.tmp 37) (.tmp 36) d 11 #[J U 0,J U 0] a Y3 b Y3
 dsimp only[Act.put];exact WL.b fun f a=>by apply k.o;exact a
def Ua (b:List Int):∀a∈dP b,a.oneCell'=true:=fun a b=>by obtain⟨a,_,rfl⟩:=dI.1 b;rfl
def sG (c a:Nat) (h:bB) (e:Array aI) (f g:Int) (d:aB) (b:bH d c h e) (h:a+8≤e.size):
  aF au 119 #[aK (R ⟨c,a,O⟩),f,g] d fun e i=>e=av (aN #[])∧i=d.setCells c a [J U f,J U g,Z O 0 0]:=by have e:∀f,f<8→∃g,d.cell? ⟨c,a+f,O⟩=R g:=fun f c=>⟨_,by rw[b.a,dA Y0]⟩;obtain⟨d,c⟩:=e 0 Y2;obtain⟨d,f⟩:=e 1 Y2;obtain⟨d,f⟩:=e 2 Y2;have d:=b.c a;have d:=b.c (a+1);have d:=b.c (a+2);rw[dQ]at c;clear e b h;go_enter func119,ntmps119;go_wp2_with fail;refine bodyPost_end (results_none rfl _ _ _) rfl ?_;exact Y5
def Ao (a b:Nat) (g:bB) (e:Array aI) (c:Int) (d:aB) (h:bH d a g e) (i:b+8≤e.size):
  aF au 116 #[aK (R ⟨a,b,O⟩),c] d fun f j=>f=av (aN #[])∧j=d.setCells a b [J U (if c=0 then 1 else 2),J U (if c=0 then 24 else 9),Z O 0 0]:=by
 have j:=fun k l=>aj (sG a b g e k l d h i);clear h i;by_cases a:c=0
 ·subst a;go_enter func116,ntmps116;go_wp2_with (go_at_call 119;refine(j 1 24).o.mono ?_;rintro f b ⟨rfl,rfl⟩);refine bodyPost_end (results_none rfl _ _ _) rfl ?_;exact Y5
 ·rw[aL a,aL a];go_enter func116,ntmps116;go_wp2_with (go_at_call 119;refine(j 2 9).o.mono ?_;rintro f b ⟨rfl,rfl⟩);refine bodyPost_end (results_none rfl _ _ _) rfl ?_;exact Y5
def YD (e k:Nat) (l:bB) (m:Array aI) (a j:Nat) (b n o:Nat) (c:List Int) (f:aB) (p:Ending) (d:aB):Prop:=
 ∃g h i,p=av (aN #[Z (R ⟨b,g,O⟩) (j-a) (o-a),true])∧(∀j,bU j (R ⟨b,n,O⟩) (dP c)→bU j (R ⟨b,g,O⟩) (dP (c.drop a)))∧
  d.ownsRow f 5 1 (Z h a i) a (dP (c.take a))∧bH d e l (gV m (k+2) [Z h a i])∧bg [e] f d
def wN (g o:Nat) (t:bB) (cs:Array aI) (d n a q C:Nat) (l:List Int) (W:aB) (hb:bH W g t cs) (ho:o+8≤cs.size) (h1:cs[o+1]?=R (J U d)) (h2:cs[o+2]?=R (Z O 0 0)) (hl:l.length=n) (hn:n≤C) (hm:n≤100000) (hd0:0<d) (hd:d≤n) (hC:C≤maxLen) (hs:bU W (R ⟨a,q,O⟩) (dP l)):
  aF au 117 #[aK (R ⟨g,o,O⟩),Z (R ⟨a,q,O⟩) n C] W (YD g o t cs d n a q C l W):=by
 have x1:W.cell? ⟨g,o+1,O⟩=R (J U d):=by rw[hb.a];exact h1
 have x2:W.cell? ⟨g,o+2,O⟩=R (Z O 0 0):=by rw[hb.a];exact h2
 have f2:=hb.c (o+2)
 have HB:=aj hb
 have HL:=aj hl
 have HS:=aj hs
 have HX:=aj (And.intro hd0 (And.intro hd (And.intro hm (And.intro h1 h2))))
 have hC':C≤9223372036854775807:=hC
 have c1:¬((n:Int)<(d:Int)):=by omega
 have c2:¬(n<d):=by omega
 have b1:(d:Int)≤100000:=by omega
 have hmin:min (d:Int) (n:Int)=d:=by omega
 have b2:(d:Int)≤(C:Int):=by omega
 clear hb h1 h2 hl hs hC
 go_enter func117,ntmps117
 go_wp2_with fail
 go_quiet (fail)
 have mixed:Tryz.prog.follows .mixedOrders=true:=by kernel_rfl
 obtain⟨W1,hW1⟩:∃W1,W1=W.drewN 1:=⟨_,rfl⟩
 go_wp2_with fail
 go_region_law (go_loud (refine jR rfl (.tmp 24) (.tmp 27) 28 rfl W.heap.size 5 1 qL rfl (by decide) underlying28 (Z O 0 0) 0 [] (by simp[Act.eval,Act.put]) (aT _ _ _ _) (R ⟨a,q,O⟩) d C (dP (l.take d)) (by simp[Act.eval,Act.put]) (by unfold dP;simp[HL.o,HX.o.2.1]) (fun h=>nomatch h) (by unfold dP;rw[List.map_take];exact(HS.o.j d)) (Ua _) (by unfold maxLen;omega) (by omega) (by simp) ?_);intro X D w3 hown3 hgr3 hblk3;have hk3:=bH.u (HB.o.q _) hgr3 (by simp[Value.ownBlock]);have x3:w3.cell? ⟨g,o+2,O⟩=R (Z O 0 0):=(hk3.a _).trans HX.o.2.2.2.2;have f3:=hk3.c (o+2);have HH3:=aj (And.intro hk3 (And.intro hown3 hgr3));clear hk3 hown3 hgr3 hblk3)
 obtain⟨W5,hW5⟩:∃W5,W5=w3.setCell ⟨g,o+2,O⟩ (Z X d D):=⟨_,rfl⟩
 have hk5:bH W5 g t (cs.setIfInBounds (o+2) (Z X d D)):=by rw[hW5];exact HH3.o.1.f (o+2) _
 have y1:W5.cell? ⟨g,o+1,O⟩=R (J U d):=by rw[hk5.a,Array.getElem?_setIfInBounds];simp;exact HX.o.2.2.2.1
 have y2:W5.cell? ⟨g,o+2,O⟩=R (Z X d D):=by rw[hk5.a,Array.getElem?_setIfInBounds];simp;omega
 have HF:Y (∀nq q',(∀w,bU w (R ⟨a,q,O⟩) (dP l)→bU w (R ⟨a,q',O⟩) (dP (l.drop d)))→YD g o t cs d n a q C l W (av (aN #[Z (R ⟨a,q',O⟩) (n-d) (C-d),aO true])) (W5.drewN nq)):=aj fun nq q' hq'=>by
  have hb3:aJ W.heap.size W w3:=dZ (v:=Z O 0 0) (bI (ay _ _) _) (aD _) (fun b e=>by simp[Value.ownBlock]at e) HH3.o.2.2
  have ho3:=HH3.o.2.1
  rw[cK,List.nil_append]at ho3
  have hlt:=HB.o.e
  refine⟨q',X,D,rfl,hq',nX (by rw[hW5];exact ownsRow_setCell_other ho3 (fun e=>by have:=(ho3.lt g e).1;omega) _) nq,?_,?_⟩
  ·have:=(bH.o [Z X d D] (o+2) _ _ HH3.o.1).q nq
   rw[hW5];exact this
  ·rw[hW5]
   exact((bg.d hb3 (F:=[g])).a (bg.e (F:=[g]) (p:=⟨g,o+2,O⟩) w3 (by simp) _) (fun x h=>.inl h)).a (bg.d (bI (ay _ _) nq)) (fun x h=>.inl h)
 rw[←hW5]
 clear hW5 hk5 x1 x2 x3 f2 f3
 go_wp2_with fail
 go_quiet (fail)
 go_wp2_with fail
 ·have hcd:=h
  go_ret2
  have:=HF.o nq q (fun w hw=>by have:=bU.d hw (k:=d) (n:=n) (c:=C) (by unfold dP;simp[HL.o]) hn;rw[aP hcd,zP]at this;exact this)
  rw[hcd,Nat.sub_self]at this
  exact this
 ·have hcd:=h
  go_ret2
  exact HF.o _ (q+d) (fun w hw=>by have:=bU.d hw (k:=d) (n:=n) (c:=C) (by unfold dP;simp[HL.o]) hn;rw[aL hcd,zP]at this;simpa[Addr.add_lit]using this)
def Dx (a:aB) (b:aX) (c:Nat) (d:bB):(Builtin.append_ #[28,28] d #[Z O 0 0,Z (R b) 0 c]).run au a=.ok (Z O 0 0) a:=by obtain⟨d,e,f,g,h⟩:=info_parts qL;have f:=run_firstCells_some (P:=au) a d.size 0 b 0 c [] Y1 (fun b c a=>by cases a);simp[Builtin.append_,run_underlying underlying28,sizeOf,typeInfo,e,Builtin.lenOf,f]
def BS (a b:Nat) (j:bB) (e:Array aI) (c k l g:Nat) (f:aB) (h:bH f a j e) (t:b+8≤e.size) (m:e[b+1]?=R (J U c)) (i:e[b+2]?=R (Z O 0 0)) (d:c≤100000) (n:g≤maxLen):
  aF au 117 #[aK (R ⟨a,b,O⟩),Z (R ⟨k,l,O⟩) 0 g] f fun o d=>∃q p,o=av (aN #[Z (R ⟨k,q,O⟩) 0 p,aO (c==0)])∧p≤maxLen∧bH d a j e∧bg [a] f d:=by
 have p:f.cell? ⟨a,b+1,O⟩=R (J U c):=by rw[h.a];exact m
 have q:f.cell? ⟨a,b+2,O⟩=R (Z O 0 0):=by rw[h.a];exact i
 have u:=h.c (b+2);have d:=n;have d:(c:Int)≤100000:=Y0;have d:min (c:Int) 0=0:=Y0;have d:(0:Int)≤(g:Int):=Y0;obtain⟨r,d⟩:=exq ((c==0));rw[d];have s:((0:Int)==(c:Int))=r:=by rw[←d];cases c with
  |zero=>rfl
  |succ c=>simp;omega
 have r:=aj (And.intro m i);have v:=fun d s w=>aj (Dx d ⟨k,l,O⟩ s w);have s:Y (∀nq d,bH (((f.drewN nq).setCell ⟨a,b+2,O⟩ (Z O 0 0)).drewN d) a j e∧bg [a] f (((f.drewN nq).setCell ⟨a,b+2,O⟩ (Z O 0 0)).drewN d)):=aj fun nq d=>by
  constructor
  ·have:=((h.q nq).f (b+2) (Z O 0 0)).q d;rw[show e.setIfInBounds (b+2) (Z O 0 0)=e by
    apply Array.ext
    ·simp
    ·intro x y w;rw[Array.getElem_setIfInBounds];split
     ·rename_i o;subst o;rw[dA w]at i;exact(Option.some.inj i).symm
     ·rfl]at this
   exact this
  ·exact((bg.d (bI (ay _ _) nq) (F:=[a])).a (bg.e (F:=[a]) (p:=⟨a,b+2,O⟩) _ Y1 _) (fun w o=>.inl o)).a (bg.d (bI (ay _ _) d)) (fun w o=>.inl o)
 have o:=aj n;clear h m i n t;have mixed:Tryz.prog.follows .mixedOrders=true:=Y3;go_enter func117,ntmps117;go_wp2;go_quiet (fail);go_wp2;go_region_law (refine qm rfl (.tmp 24) (.tmp 27) 28 28 rfl (Z O 0 0) (Z (R ⟨k,l,O⟩) 0 g) (by simp[Act.eval,Act.put]) (by simp[Act.eval,Act.put]) _ _ ((v _ _ _).o) ?_);generalize i:World.setCell _ ⟨a,b+2,O⟩ (Z O 0 0)=g;have h:Y (∀d,bH (g.drewN d) a j e∧bg [a] f (g.drewN d)):=aj (by rw[←i];exact fun d=>s.o _ d);have d:=aj (And.intro p q);have d:g.cell? ⟨a,b+1,O⟩=R (J U c):=((h.o 0).1.a (b+1)).trans r.o.1;have c:g.cell? ⟨a,b+2,O⟩=R (Z O 0 0):=((h.o 0).1.a (b+2)).trans r.o.2;clear i s p q u;go_wp2;go_quiet (fail);go_wp2;all_goals
  go_ret2;exact⟨_,_,rfl,(by first|exact o.o|exact Nat.zero_le _),h.o _⟩
structure P8 (cs0:Array aI) (o:Nat) (L:List aI) (cs:Array aI):Prop where
 b:cs.size=cs0.size
 d:o+8≤cs0.size
 g:L.length=8
 a:∀j v,L[j]?=R v→cs[o+j]?=R v
 e:∀i,i<o∨o+8≤i→cs[i]?=cs0[i]?
def P8.c {c g:Array aI} {f:Nat} {b:List aI} (d:P8 c f b g) (a:Nat) (e:List aI) (h:a+e.length≤8):P8 c f (b.take a++(e++b.drop (a+e.length))) (gV g (f+a) e):=by
 have b:=d.b;have c:=d.d;have h:=d.g;refine⟨by rw[kV,b],c,by simp;omega,fun c i b=>?_,fun h j=>?_⟩
 ·have k:c<8:=by have:=(aU.1 b).1;simp at this;omega
  rw[qJ _ _ _ _ Y0];by_cases k:c<a
  ·rw[aL Y0];rw[dh (by simp;omega),List.getElem?_take_of_lt k]at b;exact d.a c i b
  ·rw[cB (by simp;omega)]at b;rw[dw,Nat.min_eq_left Y0]at b;by_cases k:c<a+e.length
   ·rw[aP Y0];rw[dh Y0]at b;rw[show f+c- (f+a)=c-a by omega];exact b
   ·rw[aL Y0];rw[cB Y0,List.getElem?_drop]at b;rw[show a+e.length+(c-a-e.length)=c by omega]at b;exact d.a c i b
 ·by_cases a:h<g.size
  ·rw[qJ _ _ _ _ a,aL Y0];exact d.e h j
  ·rw[Array.getElem?_eq_none (by rw[kV];omega),←d.e h j,Array.getElem?_eq_none Y0]
def P8.f {a:Array aI} {b:Nat} {c i j:aI} (k:b+8≤a.size) (l:a[b]?=R c) (m:a[b+1]?=R i) (n:a[b+2]?=R j):∃d e f g h,P8 a b [c,i,j,d,e,f,g,h] a:=by
 have c:∀i,i<8→∃j,a[b+i]?=R j:=fun i a=>⟨_,dA Y0⟩;obtain⟨d,b⟩:=c 3 Y2;obtain⟨e,i⟩:=c 4 Y2;obtain⟨f,o⟩:=c 5 Y2;obtain⟨g,p⟩:=c 6 Y2;obtain⟨h,q⟩:=c 7 Y2;refine⟨d,e,f,g,h,rfl,k,rfl,fun c j a=>?_,fun _ _=>rfl⟩;match c,a with
 |0,a=>exact l.trans a
 |1,a=>exact m.trans a
 |2,a=>exact n.trans a
 |3,a=>exact b.trans a
 |4,a=>exact i.trans a
 |5,a=>exact o.trans a
 |6,a=>exact p.trans a
 |7,a=>exact q.trans a
def ptL (a b:Int) (c:aI) (d e f g:Int) (h:Bool):List aI:=[J U a,J U b,c,J U d,J U e,J U f,J U g,aO h]
def Uk (f:Int) (g h i:Int) (j:Bool) (a:List Int) (b:aB) (k:Ending) (c:aB):Prop:=∃d e,k=av (aS (qs f g h i j d a.length e))∧c.ownsRow b 5 1 (Z d a.length e) a.length (dP a)∧aJ b b c
def zbg (a:aB) (h:Nat) (i j k l:Int) (m:Bool) (b:List Int):Nat→List Kg→aB→Prop
 |0,_,c=>aJ a a c
 |1,[f],c=>aJ a a c∧∃d e,f=(d,b.length,e)∧c.ownsRow a 5 1 (Z d b.length e) b.length (dP b)
 |2,[f],c=>∃g,c=g.setCells h 0 [J U i,J U j,J U k,J U l,aO m,kg f]∧aJ a a g∧∃d e,f=(d,b.length,e)∧g.ownsRow a 5 1 (Z d b.length e) b.length (dP b)
 |_,_,_=>False
def JG {b:aB} {d:Nat} {e f g h:Int} {i:Bool} {j:List Int} {c:aB} (a:rS (zbg b d e f g h i j) 0 1 c):aJ b b c:=by
 obtain⟨c,b,_,d,a⟩:=a;match c,b,d,a with
 |0,_,_,a=>exact a
 |1,[b],_,a=>exact a.1
def Oz (t u:Nat) (c:bB) (l:Array aI) (j v w x f g h:Int) (i:Bool) (d:Option aX) (q:Nat) (a:List Int) (e:aB) (b:bH e t c l) (k:∀m c,(ptL v w (Z d a.length q) x f g h i)[m]?=R c→l[u+m]?=R c) (m:a.length≤100000) (n:d=O→a.length=0) (o:bU e d (dP a)):
  aF au 120 #[aK (R ⟨t,u,O⟩),j] e (Uk j f g h i a e):=by
 have l:=aj (gU e 30 #[J U 0,J U 0,J U 0,J U 0,false,Z O 0 0]);have y:=aj o;have z:=aj b;have r:=aj (And.intro k (And.intro m n));clear b k m n o;go_enter func120,ntmps120;go_upto_region 1 with fail;generalize e.alloc (.cells #[J U 0,J U 0,J U 0,J U 0,false,Z O 0 0] 30)=n at*;refine Uh (Ph:=zbg n e.heap.size j f g h i a) (ty:=f) (f:=g) (s:=h) (r:=i) (A:=d) (n:=a.length) (C:=q) ((ay _ n).drew) (fun m o=>?_) (fun m o=>?_) (fun A m o=>?_) ?_
 ·have b:=JG o;have p:∀s c,(ptL v w (Z d a.length q) x f g h i)[s]?=R c→m.cell? ⟨t,u+s,O⟩=R c:=fun s c t=>by rw[((z.o.b l.o.1).b b).a];exact r.o.1 s c t
  exact⟨p 4 _ rfl,p 5 _ rfl,p 6 _ rfl,p 7 _ rfl,p 2 _ rfl⟩
 ·have b:=o;refine(jd d a.length q a m rfl (by have:=r.o.2.1;omega) r.o.2.2 ((y.o.a l.o.1).a b)).mono ?_;rintro q s ⟨c,d,rfl,k,p⟩;exact⟨(c,a.length,d),rfl,b.trans (p.mono b.size),c,d,rfl,dz k b.size⟩
 ·obtain⟨b,c,d,rfl,k⟩:=(show aJ n n m∧∃c d,A=(c,a.length,d)∧m.ownsRow n 5 1 (Z c a.length d) a.length (dP a)from o);exact⟨(l.o.2.b b).D 0 6 (aD _),m,rfl,b,c,d,rfl,k⟩
 ·intros;rename_i m n;obtain⟨m,rfl,b,c,d,rfl,k⟩:=n;have o:=l.o.2.b b;have s:=l.o.2.e;have n:bg [e.heap.size] m (m.setCells e.heap.size 0 [J U j,J U f,J U g,J U h,aO i,Z c a.length d]):=bg.f Y1 _ _ _;have p:Y (bH (m.setCells e.heap.size 0 [J U j,J U f,J U g,J U h,aO i,Z c a.length d]) e.heap.size 30 (qs j f g h i c a.length d)∧Uk j f g h i a e (av (aS (qs j f g h i c a.length d))) (m.setCells e.heap.size 0 [J U j,J U f,J U g,J U h,aO i,Z c a.length d])):=
   aj ⟨o.y _ rfl,c,d,rfl,dz (bO k n (fun q m=>by have:=(k.lt q m).1;simp;omega)) l.o.1.size,(l.o.1.trans (b.mono l.o.1.size)).trans (n.c (aR l.o.1.size b.size) (fun q m=>by rw[aC.1 m];exact aD _))⟩
  clear o s n k b l y z r;dsimp only[Exit.then,kg];go_wp2_with fail;exact aG (v:=aS (qs j f g h i c a.length d)) (iC results120 e.heap.size rfl p.o.1 underlying30 rfl Y3) rfl p.o.2
section
variable {w W:aB} {c:Co} {P:Pt} {F:Nat→List Nat} {L:List Ow} {p:fq} {k:Nat}
structure HdT (c0:Co) (P:Pt) (p:fq) (F:Nat→List Nat) (w:aB) (L:List Ow) (k:Nat) (b9:Nat) (c:Co) (m:Sm) (t:Ta) (W:aB):Prop where
 a:kI c0 p.x=(tq c p.x m t,true)
 b:dU c (k+1)
 d:(Lit.int U m.c).wf=true
 e:St c P (R p) F w ((b9,211,fD m)::L) W
def Og (j:St c P (R p) F w L W) (q:dU c k) (hp:jh P k) (hk:k≤700) (l:iZ p.x):
  aF au 162 #[qp P.g,qp p.b] W (Lh (kI c p.x) P (R p) F w L (k+2)):=by
 have hs:=dN l.a;have hw:=l.i.b;have k0:=l.i.d;have Q:c.l.length≤1000:=by have:=q.d;omega
 have l0:=l.d;have f0:=l.f;have g0:=l.a;obtain⟨S,T⟩:=exq p.x.r.a;obtain⟨n,r⟩:=exq p.x.a.b;obtain⟨M,hn⟩:=exq p.x.b.length;obtain⟨t,V⟩:=exq (sZ c p.x);obtain⟨B,X⟩:=exq (mI p.x);obtain⟨a,hy⟩:=exq (t.h p.x.b B);obtain⟨d,g,N⟩:=a;have u:(Lit.int U n).wf=true:=by rw[←r];exact bX Y0
 have c0:=Dr (l:=c.l) (st:=n) ⟨Y0,Y0⟩;obtain⟨s,A⟩:=exq ((fG c.l n).1);obtain⟨x,hq⟩:=exq ((fG c.l n).2);have h0:nD t:=by rw[←V];exact FZ q
 have m0:nD d:=by have:=h0.g p.x.b B;rw[hy]at this;exact this
 have n0:lQ s:=by rw[←A];exact lH q.e n
 obtain⟨C,a0⟩:=exq (Ta.i g.m);obtain⟨H,G⟩:∃m:Sm,m={Sm.s with c:=n,k:=3}:=⟨_,rfl⟩;obtain⟨o,I⟩:∃m:Sm,m=H.t 1 C:=⟨_,rfl⟩;obtain⟨D,d0⟩:=exq (Cj c.l o c.a.b);obtain⟨y,b0⟩:∃m:Co,m={c with l:=nP c.l o c.a.b}:=⟨_,rfl⟩;have e0:o.c=n:=by rw[I,(sD ..).1,G]
 have i0:lQ o:=by rw[I,G];exact lQ.e (m:={Sm.s with c:=n,k:=3}) ⟨lQ.b.x,lQ.b.y,lQ.b.c,lQ.b.d⟩ (by rw[←a0];exact .e _) 1
 have j0:dU y (k+1):=by rw[b0];exact q.p i0 _
 rw[A]at c0;have z:Y ((x=true→kI c p.x=(tq c p.x s d,true))∧(x=false→D≠0→kI c p.x=(y,false))∧(x=false→D=0→kI c p.x=(tq y p.x o d,true))):=aj (by
  have b:kI c p.x=if x then(tq c p.x s d,true)else if D≠0 then(y,false)else(tq y p.x o d,true):=by unfold kI;dsimp only;rw[r,V,X,hy,hq,A,b0,←d0,I,G,←a0]
  exact⟨fun a=>by rw[b,aP a],fun a e=>by rw[b,a,aL Y1,aP e],fun a e=>by rw[b,a,aL Y1,aL (fun j=>j e)]⟩)
 have E:Y (∀i e L W,St i e (R p) F w L W→W.cell? ⟨p.b,0,O⟩=R (J U S)∧W.cell? ⟨p.b,26,O⟩=R (J U n)∧W.cell? ⟨p.b,37,O⟩=R (Z p.f M p.g)):=aj fun i e L W a=>by obtain⟨h,e⟩:=a.f;have e:=e.a;exact⟨by rw[←T];exact e.a 0,by rw[←r];exact e.a 26,by rw[←hn];exact e.a 37⟩
 have HT:Y (∀L W,St c P (R p) F w L W→aF au 201 #[qp P.g,qp p.b] W fun b f=>b=av (aS t)∧St c P (R p) F w L f):=aj fun L W a=>by obtain⟨h,hF⟩:=id a;have:=Gg h hF.a Q g0 (by rw[r];exact u);rw[V]at this;refine mB this fun f v=>?_;exact⟨rfl,a.a v⟩
 have K:Y (∀i L W,St i P (R p) F w L W→aF au 203 #[qp p.b] W fun b f=>b=av B∧St i P (R p) F w L f):=aj fun i L W a=>by obtain⟨h,e⟩:=a.f;refine mB (Ac e.a Y0) ?_;rintro f ⟨o0,rfl⟩;exact⟨by rw[X],a.n o0⟩
 have HH:Y (∀L W,St c P (R p) F w L W→aF au 202 #[aS t,Z p.f M p.g,B] W fun b f=>b=av (aN #[lS d,uV g,N])∧St c P (R p) F w L f):=aj fun L W a=>by obtain⟨h,e⟩:=a.f;have:=Fg t p.f M p.g p.x.b B W hn Y0 e.c.d f0;rw[hy]at this;refine mB this fun f v=>?_;exact⟨rfl,a.a v⟩
 have HG:Y (∀L W,St c P (R p) F w L W→aF au 104 #[qp P.c,n] W fun b f=>b=av (aN #[pV s,x])∧St c P (R p) F w L f):=aj fun L W a=>by obtain⟨h,hF⟩:=id a;refine mB (nu (M:=c.a.b) (F:=h 13) P.c n W Q (hF.a.d 13) (aj u)) fun f v=>?_;exact⟨by rw[A,hq],a.a v⟩
 have HA:Y (∀L W,St c P (R p) F w L W→aF au 199 #[aA g.m] W fun b f=>b=av (aS C)∧St c P (R p) F w L f):=aj fun L W a=>by have:=xk g.m W;rw[a0]at this;refine mB this fun f v=>?_;exact⟨rfl,a.a v⟩
 have M:Y (∀L W,St c P (R p) F w L W→aF au 200 #[qp P.c,pV o] W fun b f=>b=av D∧St y P (R p) F w L f):=aj fun L W a=>by have:=Tq o a Q (by rw[e0];exact u);rw[d0,←b0]at this;exact this
 have h:=aj (And.intro q (And.intro j0 (And.intro hp (And.intro hk (And.intro c0 (And.intro u (And.intro e0 (And.intro X (And.intro T G)))))))));rw[T]at hs;have o0:=aj hs;have N:=aj I;have e:=aj j;have p0:=(E.o _ _ _ _ j).2.1;clear j q hp hk l hs hw k0 Q l0 f0 g0 T r hn V X hy u c0 A hq h0 m0 n0 a0 G I d0 b0 e0 i0 j0;go_enter func162,ntmps162;go_upto_region 2 with fail;refine Tv (A:=fun q W=>St c P (R p) F w (q++L) W) e.o.e St.s (fun q W a=>HT.o _ _ a) (fun q W a=>K.o _ _ _ a) (fun q W a=>HH.o _ _ a) (fun q W a=>(E.o _ _ _ _ a).2.2) ?_;intros;rename_i t r a u;have a:=aj u;have G:=a.o.d.a 31;dsimp only[sN]at G;clear u e HT HH p0;dsimp only[Exit.then];go_upto_if 42 with(first|(go_at_call 104;refine(HG.o _ _ a.o).mono ?_;rintro b e ⟨rfl,u⟩)|refine dO rfl 211 (.tmp 9) (.tmp 39) rfl _ (fD s) _ rfl rfl rfl dW rfl Y3 ?_);have A:=aj (u.i 211 (fD s));generalize e.alloc (.cells (fD s) 211)=W4 at A⊢;generalize e.heap.size=e at A⊢;clear u a HG G;go_cut [] (fun a=>∃i G,Y (HdT c P p F w ((t,208,GU d)::(r,314,qW g)::L) k e i G d a));case first=>
  obtain rfl|rfl:x=true∨x=false:=by cases x<;>simp
  ·have u:Y (HdT c P p F w ((t,208,GU d)::(r,314,qW g)::L) k e c s d W4):=aj ⟨z.o.1 rfl,h.o.1.b (Nat.le_succ k),h.o.2.2.2.2.1,A.o⟩;clear z E K HA M h N A;go_wp2;go_meet;exact⟨_,_,u⟩
  ·have c0:Y (#[J U n,J U 3,J U 0,false,false,J U 0,aH aW 0 0,false,aA {data:=#[]},J U 0,J U 0,J U 0,false,aA {data:=#[]},J U 0,J U 0,J U 0]=fD H):=aj (by rw[h.o.2.2.2.2.2.2.2.2.2];rfl);have a0:=aj A.o.b;have T:Y (St c P (R p) F w ((e,211,fD H)::(t,208,GU d)::(r,314,qW g)::L) (W4.setRow e (fD H))):=aj (A.o.k (bg.h (F:=[e]) _ e _ Y1) (a0.o.p _));go_upto_region 6 with(first|refine wpList_store_row rfl 211 (.tmp 9) (.tmp 45) rfl e (fD H) rfl (by rw[←c0.o];rfl) 211 _ a0.o Y3 rfl Y3 ?_);generalize W4.setRow e (fD H)=W5 at T⊢;have y7:=T.o.g.g.b.H 0;clear A a0 c0;go_wp2_with fail;go_at_call 199;refine mB (HA.o _ _ T.o) fun V Q=>?_;have b0:Y (St c P (R p) F w ((e,211,fD o)::(t,208,GU d)::(r,314,qW g)::L) (V.setCells e 12 [aO C.a,aA C.m,J U C.p,J U C.d,J U C.l])):=aj (by rw[N.o,←sw];exact Q.k (bg.f (F:=[e]) Y1 _ 12 V) (bH.o _ 12 V _ Q.b))
   have hc:=bH.t Q.b;have hf:=Q.b.c;clear Q T y7 HA;go_upto_region 7 with fail;refine Tw (A:=fun W=>St c P (R p) F w ((e,211,fD o)::(t,208,GU d)::(r,314,qW g)::L) W) (B:=fun W=>St y P (R p) F w ((e,211,fD o)::(t,208,GU d)::(r,314,qW g)::L) W) b0.o.e (fun a=>M.o _ _ a.a) (fun a=>a.a.d.a 31) (fun a=>a.a.b) ?_;intros;rename_i W7 X;dsimp only[Exit.then];obtain⟨m,l⟩:∃m:Bool,(!(D==0))=m:=⟨_,rfl⟩;rw[l];cases m
   ·have I:D=0:=Y6 l;have u:Y (HdT c P p F w ((t,208,GU d)::(r,314,qW g)::L) k e y o d W7):=aj ⟨z.o.2.2 Y1 I,h.o.2.1,by rw[h.o.2.2.2.2.2.2.1];exact h.o.2.2.2.2.2.1,X⟩;clear z E K M h N b0 X hc hf I l;go_wp2;go_meet;exact⟨_,_,u⟩
   ·have I:D≠0:=Y6 l;have u:Y (Lh (kI c p.x) P (R p) F w L (k+2) (av false) W7):=aj ⟨by rw[z.o.2.1 Y1 I],by rw[z.o.2.1 Y1 I];exact .a X.g.g.g (h.o.2.2.1.e Y0)⟩;clear z E K M h N b0 X hc hf I l;go_wp2;go_ret;exact u.o
 case rest=>
  obtain⟨i,G,u⟩:=hcut;clear z HA M N A;obtain⟨l,o⟩:∃s:Sm,s=G.t S d:=⟨_,rfl⟩;obtain⟨n,y⟩:∃m:mR,m=if l.k=2 then⟨3,1,true,false,0⟩else l.r:=⟨_,rfl⟩
  obtain⟨s,z⟩:∃m:mR,m=if B then .c (gI n.k n.o n.a n.b n.y S)else n:=⟨_,rfl⟩
  have m:l.r=G.r∧l.c=G.c:=by rw[o];exact⟨(sD ..).2,(sD ..).1⟩
  have A:Y (kI c p.x=(qC i l s,true)):=aj (by rw[u.o.a];unfold tq;dsimp only;rw[h.o.2.2.2.2.2.2.2.2.1,←o,h.o.2.2.2.2.2.2.2.1,z,y,←show l.k=G.k from bE (·.k) m.1,←m.1])
  go_upto_region 9 with fail;refine Tx (A:=fun W=>St i P (R p) F w ((e,211,fD G)::(t,208,GU d)::(r,314,qW g)::L) W) (B:=fun W=>St i P (R p) F w ((e,211,fD l)::(t,208,GU d)::(r,314,qW g)::L) W) (d:=d) u.o.e.e o0.o (fun a=>⟨fun x=>by
   rw[o,x,←BQ];exact a.a.k (bg.f (F:=[e]) Y1 _ 7 a.W) (bH.o _ 7 a.W _ a.a.b),fun x=>by
   rw[o,x,←sw];exact a.a.k (bg.f (F:=[e]) Y1 _ 12 a.W) (bH.o _ 12 a.W _ a.a.b)⟩) (fun a=>(E.o _ _ _ _ a.a).1) (fun a=>bH.k a.a.g.b) (fun a=>bH.t a.a.b) (fun a=>a.a.b.c) ?_
  intros;rename_i e a;dsimp only[Exit.then];apply_assumption;rw[A.o];refine Xk (D:=xU (qC i l s) P (R p) F w L (k+2)) (A:=fun q W=>St i P (R p) F w (q++((t,208,GU d)::(r,314,qW g)::L)) W) (m:=l) (n1:=n) (nw:=s) (z:=B) (fr:=S) a St.s (fun q W a j v=>j.a v) y z (fun q W j=>K.o _ _ _ j) (fun q W j=>?_) (fun q W j=>(E.o _ _ _ _ j).1);refine(Jv l s ((j.j _).g.g) u.o.b (h.o.2.2.1.e (Nat.le_succ k)) (by have:=h.o.2.2.2.1;omega) (by rw[m.2];exact u.o.d)).mono fun b f a=>?_;have:=a.a (h.o.2.2.1.e (Nat.le_succ k));exact this
end
def Xl {A:aB→Prop} {e:Exit→Act→aB→Prop} {wc:aB} {b c f:Nat} {a:Int} 
  (d:A wc.drew) (h:oF a f)
  (g:∀g:Wd A,g.W.cell? ⟨c,0,O⟩=R (J U a))
  (a:∀i j k l m n o p q g,A g→e .normal ⟨#[qp b,qp c,u2,bq,bq,bq,u6,aK (R ⟨b,f,O⟩),u8,u9,i,j,k,l,m,n,o,p,q,Q9,T0,T1,T2,T3,T4,T5,T6,T7,T8,T9,N0,N1,N2,N3,N4,N5,N6,N7,N8,N9,X0,X1,X2,X3,X4,X5,X6,X7,X8,X9,O0,O1,O2,O3,O4,O5,O6,O7,O8,O9,J0,J1,J2,J3,J4,J5,J6,J7,J8,J9,R0,R1,R2,R3,R4,R5,R6,R7,R8,R9,M0,M1,M2,M3,M4,M5,M6,M7,M8,M9,u90,u91,u92,u93,u94,u95,u96,u97,u98,u99,u100,u101,u102,u103,u104,u105,u106,u107,u108,u109,u110,u111,u112,u113,u114,u115,u116,u117,u118,u119,u120,u121,u122,u123,u124,u125,u126,u127,u128,u129,u130,u131,u132,u133,u134,u135,u136,u137,u138,u139,u140,u141,u142,u143,u144,u145,u146,u147,u148,u149,u150,u151,u152,u153,u154,u155,u156,u157,u158],[]⟩ g):
  Code.wp au (fu 1 (f70.body.getD .skip)) e ⟨#[qp b,qp c,u2,bq,bq,bq,u6,u7,u8,u9,Q0,Q1,Q2,Q3,Q4,Q5,Q6,Q7,Q8,Q9,T0,T1,T2,T3,T4,T5,T6,T7,T8,T9,N0,N1,N2,N3,N4,N5,N6,N7,N8,N9,X0,X1,X2,X3,X4,X5,X6,X7,X8,X9,O0,O1,O2,O3,O4,O5,O6,O7,O8,O9,J0,J1,J2,J3,J4,J5,J6,J7,J8,J9,R0,R1,R2,R3,R4,R5,R6,R7,R8,R9,M0,M1,M2,M3,M4,M5,M6,M7,M8,M9,u90,u91,u92,u93,u94,u95,u96,u97,u98,u99,u100,u101,u102,u103,u104,u105,u106,u107,u108,u109,u110,u111,u112,u113,u114,u115,u116,u117,u118,u119,u120,u121,u122,u123,u124,u125,u126,u127,u128,u129,u130,u131,u132,u133,u134,u135,u136,u137,u138,u139,u140,u141,u142,u143,u144,u145,u146,u147,u148,u149,u150,u151,u152,u153,u154,u155,u156,u157,u158],[]⟩ wc:=by
 haveI:Nonempty (Wd A):=⟨⟨_,d⟩⟩;have b:=aj a;clear a;conv=>arg 2;whnf
 refine Mg A [] d ?_;clear d;rcases h with⟨rfl,rfl⟩|⟨rfl,rfl⟩
 all_goals
  repeat(refine WL.m (fun c a=>?_);go_simp;refine a _ ?_;clear a c)
  exact WL.b fun e d=>by apply b.o;exact d
def Tz {A:aB→Prop} {Q:Exit→Act→aB→Prop} {wc:aB} {g pb q ZC:Nat} {ZA:Option aX} 
  (hA:A wc.drew) (y38:∀u:Wd A,u.W.cell? ⟨pb,38,O⟩=R (Z ZA 0 ZC))
  (hK:∀v32 v33 v34 v35 v36 v37 v38 v39 v40 v41 v42 v43 v44 v45 v46 v47 v48 v49 v50 v51 W,A W→Q .normal ⟨#[aK (R ⟨g,0,O⟩),aK (R ⟨pb,0,O⟩),u2,bq,bq,bq,u6,aK (R ⟨g,q,O⟩),u8,u9,Q0,Q1,Q2,Q3,Q4,Q5,Q6,Q7,Q8,Q9,T0,T1,T2,T3,T4,T5,T6,T7,T8,T9,N0,N1,v32,v33,v34,v35,v36,v37,v38,v39,v40,v41,v42,v43,v44,v45,v46,v47,v48,v49,v50,v51,aO false,O3,O4,O5,O6,O7,O8,O9,J0,J1,J2,J3,J4,J5,J6,J7,J8,J9,R0,R1,R2,R3,R4,R5,R6,R7,R8,R9,M0,M1,M2,M3,M4,M5,M6,M7,M8,M9,u90,u91,u92,u93,u94,u95,u96,u97,u98,u99,u100,u101,u102,u103,u104,u105,u106,u107,u108,u109,u110,u111,u112,u113,u114,u115,u116,u117,u118,u119,u120,u121,u122,u123,u124,u125,u126,u127,u128,u129,u130,u131,u132,u133,u134,u135,u136,u137,u138,u139,u140,u141,u142,u143,u144,u145,u146,u147,u148,u149,u150,u151,u152,u153,u154,u155,u156,u157,u158],[]⟩ W):
  Code.wp au (fu 6 (f70.body.getD .skip)) Q ⟨#[aK (R ⟨g,0,O⟩),aK (R ⟨pb,0,O⟩),u2,bq,bq,bq,u6,aK (R ⟨g,q,O⟩),u8,u9,Q0,Q1,Q2,Q3,Q4,Q5,Q6,Q7,Q8,Q9,T0,T1,T2,T3,T4,T5,T6,T7,T8,T9,N0,N1,N2,N3,N4,N5,N6,N7,N8,N9,X0,X1,X2,X3,X4,X5,X6,X7,X8,X9,O0,O1,O2,O3,O4,O5,O6,O7,O8,O9,J0,J1,J2,J3,J4,J5,J6,J7,J8,J9,R0,R1,R2,R3,R4,R5,R6,R7,R8,R9,M0,M1,M2,M3,M4,M5,M6,M7,M8,M9,u90,u91,u92,u93,u94,u95,u96,u97,u98,u99,u100,u101,u102,u103,u104,u105,u106,u107,u108,u109,u110,u111,u112,u113,u114,u115,u116,u117,u118,u119,u120,u121,u122,u123,u124,u125,u126,u127,u128,u129,u130,u131,u132,u133,u134,u135,u136,u137,u138,u139,u140,u141,u142,u143,u144,u145,u146,u147,u148,u149,u150,u151,u152,u153,u154,u155,u156,u157,u158],[]⟩ wc:=by
 haveI:Nonempty (Wd A):=⟨⟨_,hA⟩⟩;have HK:=aj hK;clear hK;conv=>arg 2;whnf
 refine Mg A [] hA ?_;clear hA;repeat(refine WL.m (fun K hK=>?_);go_simp;refine hK _ ?_;clear hK K)
 exact WL.b fun w' hw'=>by apply HK.o;exact hw'
def TA {A:aB→Prop} {g:Exit→Act→aB→Prop} {wc:aB} {c d h a i:Nat} {j:Option aX} {mx ta:Int} 
  (e:A wc.drew) (b:0<a)
  (f:∀b:Wd A,aF au 101 #[Z j a i] b.W fun l k=>l=av mx∧A k)
  (l:∀b:Wd A,b.W.cell? ⟨d,38,O⟩=R (Z j a i))
  (a:∀b:Wd A,b.W.cell? ⟨c,5,O⟩=R (J U ta))
  (a:∀j l m n o p q r s t u v w x y z B C D E i,A i→g .normal ⟨#[qp c,qp d,u2,bq,bq,bq,u6,aK (R ⟨c,h,O⟩),u8,u9,Q0,Q1,Q2,Q3,Q4,Q5,Q6,Q7,Q8,Q9,T0,T1,T2,T3,T4,T5,T6,T7,T8,T9,N0,N1,j,l,m,n,o,p,q,r,s,t,u,v,w,x,y,z,B,C,D,E,aO (decide (mx>ta)),O3,O4,O5,O6,O7,O8,O9,J0,J1,J2,J3,J4,J5,J6,J7,J8,J9,R0,R1,R2,R3,R4,R5,R6,R7,R8,R9,M0,M1,M2,M3,M4,M5,M6,M7,M8,M9,u90,u91,u92,u93,u94,u95,u96,u97,u98,u99,u100,u101,u102,u103,u104,u105,u106,u107,u108,u109,u110,u111,u112,u113,u114,u115,u116,u117,u118,u119,u120,u121,u122,u123,u124,u125,u126,u127,u128,u129,u130,u131,u132,u133,u134,u135,u136,u137,u138,u139,u140,u141,u142,u143,u144,u145,u146,u147,u148,u149,u150,u151,u152,u153,u154,u155,u156,u157,u158],[]⟩ i):
  Code.wp au (fu 6 (f70.body.getD .skip)) g ⟨#[qp c,qp d,u2,bq,bq,bq,u6,aK (R ⟨c,h,O⟩),u8,u9,Q0,Q1,Q2,Q3,Q4,Q5,Q6,Q7,Q8,Q9,T0,T1,T2,T3,T4,T5,T6,T7,T8,T9,N0,N1,N2,N3,N4,N5,N6,N7,N8,N9,X0,X1,X2,X3,X4,X5,X6,X7,X8,X9,O0,O1,O2,O3,O4,O5,O6,O7,O8,O9,J0,J1,J2,J3,J4,J5,J6,J7,J8,J9,R0,R1,R2,R3,R4,R5,R6,R7,R8,R9,M0,M1,M2,M3,M4,M5,M6,M7,M8,M9,u90,u91,u92,u93,u94,u95,u96,u97,u98,u99,u100,u101,u102,u103,u104,u105,u106,u107,u108,u109,u110,u111,u112,u113,u114,u115,u116,u117,u118,u119,u120,u121,u122,u123,u124,u125,u126,u127,u128,u129,u130,u131,u132,u133,u134,u135,u136,u137,u138,u139,u140,u141,u142,u143,u144,u145,u146,u147,u148,u149,u150,u151,u152,u153,u154,u155,u156,u157,u158],[]⟩ wc:=by
 haveI:Nonempty (Wd A):=⟨⟨_,e⟩⟩;replace f:=aj f;have d:=aj a;clear a;conv=>arg 2;whnf
 refine Mg A [13] e ?_;clear e;repeat(refine WL.m (fun c a=>?_);go_simp;refine a _ ?_;clear a c)
 refine WL.u (J U mx) (fun b=>?_) ?_
 ·go_simp;exact f.o b
 repeat(refine WL.m (fun c a=>?_);go_simp;refine a _ ?_;clear a c)
 exact WL.b fun k a=>by apply d.o;exact a
def Xm {A B:aB→Prop} {j:Exit→Act→aB→Prop} {wc:aB} {c d k b:Nat} {l f g m n:Int} {o:Bool} {q:Option aX} {r:Nat} 
  (e:A wc.drew) (h:∀a:Wd A,aF au 102 #[aS #[aH aW (fw m) (fw n)],l,b,J U 65535] a.W fun i p=>i=av (aN #[aS #[aH aW (fw f) (fw g)],o])∧A p)
  (i:∀a:Wd A,B (a.W.setCell ⟨c,30,O⟩ (aH aW (fw f) (fw g))))
  (s:∀a:Wd A,a.W.cell? ⟨d,0,O⟩=R (J U l))
  (l:∀a:Wd A,a.W.cell? ⟨d,5,O⟩=R (Z q b r))
  (b:∀a:Wd A,a.W.cell? ⟨c,30,O⟩=R (aH aW (fw m) (fw n)))
  (b:∀(a:Wd A) b,a.W.frozen? ⟨c,b,O⟩=false)
  (b:∀m n q r s t u v w x y z C D E F G H I K L M l,B l→j .normal ⟨#[qp c,qp d,u2,bq,bq,bq,u6,aK (R ⟨c,k,O⟩),u8,u9,Q0,Q1,Q2,Q3,Q4,Q5,Q6,Q7,Q8,Q9,T0,T1,T2,T3,T4,T5,T6,T7,T8,T9,N0,N1,N2,N3,N4,N5,N6,N7,N8,N9,X0,X1,X2,X3,X4,X5,X6,X7,X8,X9,O0,O1,O2,O3,O4,O5,O6,O7,O8,m,n,q,r,s,t,u,v,w,x,y,z,C,D,E,F,G,H,I,K,L,M,M1,M2,M3,M4,M5,M6,M7,M8,M9,u90,u91,u92,u93,u94,u95,u96,u97,u98,u99,u100,u101,u102,u103,u104,u105,u106,u107,u108,u109,u110,u111,u112,u113,u114,u115,u116,u117,u118,u119,u120,u121,u122,u123,u124,u125,u126,u127,u128,u129,u130,u131,u132,u133,u134,u135,u136,u137,u138,u139,u140,u141,u142,u143,u144,u145,u146,u147,u148,u149,u150,u151,u152,u153,u154,u155,u156,u157,u158],[]⟩ l):
  Code.wp au (fu 9 (f70.body.getD .skip)) j ⟨#[qp c,qp d,u2,bq,bq,bq,u6,aK (R ⟨c,k,O⟩),u8,u9,Q0,Q1,Q2,Q3,Q4,Q5,Q6,Q7,Q8,Q9,T0,T1,T2,T3,T4,T5,T6,T7,T8,T9,N0,N1,N2,N3,N4,N5,N6,N7,N8,N9,X0,X1,X2,X3,X4,X5,X6,X7,X8,X9,O0,O1,O2,O3,O4,O5,O6,O7,O8,O9,J0,J1,J2,J3,J4,J5,J6,J7,J8,J9,R0,R1,R2,R3,R4,R5,R6,R7,R8,R9,M0,M1,M2,M3,M4,M5,M6,M7,M8,M9,u90,u91,u92,u93,u94,u95,u96,u97,u98,u99,u100,u101,u102,u103,u104,u105,u106,u107,u108,u109,u110,u111,u112,u113,u114,u115,u116,u117,u118,u119,u120,u121,u122,u123,u124,u125,u126,u127,u128,u129,u130,u131,u132,u133,u134,u135,u136,u137,u138,u139,u140,u141,u142,u143,u144,u145,u146,u147,u148,u149,u150,u151,u152,u153,u154,u155,u156,u157,u158],[]⟩ wc:=by
 haveI:Nonempty (Wd A):=⟨⟨_,e⟩⟩;haveI:Nonempty (Wd fun c=>A c∨B c):=⟨⟨_,.inl e⟩⟩;replace h:=aj h;replace i:=aj i;have d:=aj b;have c:=ku;clear b;conv=>arg 2;whnf
 refine jQ A B [16,22] 22 e ?_;clear e;repeat((first|refine WL.c (fun c b=>?_)|refine WL.d (fun c b=>?_));go_simp;refine b _ ?_;clear b c)
 refine WL.i (aN #[aS #[aH aW (fw f) (fw g)],o]) (fun a=>?_) ?_
 ·go_simp;exact h.o a
 repeat((first|refine WL.c (fun c b=>?_)|refine WL.d (fun c b=>?_));go_simp;refine b _ ?_;clear b c)
 refine WL.f bq (fun a=>?_) ?_
 ·go_simp;exact i.o a
 exact WL.b fun p a=>by apply d.o;exact a
def TB {A:List Ow→aB→Prop} {x:Exit→Act→aB→Prop} {wc:aB} {m n q:Nat} {r:Int} {e:Sm} {s:Bool} (t:A [] wc.drew) (u:ZY A)
  (o:∀a b,A a b→aF au 104 #[qp q,r] b fun v y=>v=av (aN #[pV e,s])∧A a y)
  (z:∀a b,A a b→b.cell? ⟨m,31,O⟩=R (aK (R ⟨q,0,O⟩))) (B:∀a b,A a b→b.cell? ⟨n,3,O⟩=R (J U r))
  (d:∀F G H I K L M N P Q S T V W C b,A [(C,211,fD e)] b→x .normal ⟨#[qp m,qp n,u2,bq,bq,bq,u6,u7,qp C,F,Q0,Q1,Q2,Q3,Q4,Q5,Q6,Q7,Q8,Q9,T0,T1,T2,T3,T4,T5,T6,T7,T8,T9,N0,N1,N2,N3,N4,N5,N6,N7,N8,N9,X0,X1,X2,X3,X4,X5,X6,X7,X8,X9,O0,O1,O2,O3,O4,O5,O6,O7,O8,O9,J0,J1,J2,J3,J4,J5,J6,J7,J8,J9,R0,R1,R2,R3,R4,R5,R6,R7,R8,R9,M0,M1,M2,M3,M4,M5,M6,M7,M8,M9,u90,u91,u92,u93,u94,G,H,I,K,L,M,N,P,Q,S,T,V,W,u108,u109,u110,u111,u112,u113,u114,u115,u116,u117,u118,u119,u120,u121,u122,u123,u124,u125,u126,u127,u128,u129,u130,u131,u132,u133,u134,u135,u136,u137,u138,u139,u140,u141,u142,u143,u144,u145,u146,u147,u148,u149,u150,u151,u152,u153,u154,u155,u156,u157,u158],[]⟩ b):
  Code.wp au (fu 16 (f70.body.getD .skip)) x ⟨#[qp m,qp n,u2,bq,bq,bq,u6,u7,u8,u9,Q0,Q1,Q2,Q3,Q4,Q5,Q6,Q7,Q8,Q9,T0,T1,T2,T3,T4,T5,T6,T7,T8,T9,N0,N1,N2,N3,N4,N5,N6,N7,N8,N9,X0,X1,X2,X3,X4,X5,X6,X7,X8,X9,O0,O1,O2,O3,O4,O5,O6,O7,O8,O9,J0,J1,J2,J3,J4,J5,J6,J7,J8,J9,R0,R1,R2,R3,R4,R5,R6,R7,R8,R9,M0,M1,M2,M3,M4,M5,M6,M7,M8,M9,u90,u91,u92,u93,u94,u95,u96,u97,u98,u99,u100,u101,u102,u103,u104,u105,u106,u107,u108,u109,u110,u111,u112,u113,u114,u115,u116,u117,u118,u119,u120,u121,u122,u123,u124,u125,u126,u127,u128,u129,u130,u131,u132,u133,u134,u135,u136,u137,u138,u139,u140,u141,u142,u143,u144,u145,u146,u147,u148,u149,u150,u151,u152,u153,u154,u155,u156,u157,u158],[]⟩ wc:=by
 obtain⟨h,D⟩:∃h:Array aI,h=qv:=⟨_,rfl⟩;have w:=aj D;haveI:Nonempty (Wd fun c=>∃a,A a c):=⟨⟨_,_,t⟩⟩;have f0:∀i:Wd (fun c=>∃a,A a c),i.W.cell? ⟨m,31,O⟩=R (aK (R ⟨q,0,O⟩)):=fun i=>z _ _ i.a.choose_spec;have Y3:∀i:Wd (fun c=>∃a,A a c),i.W.cell? ⟨n,3,O⟩=R (J U r):=fun i=>B _ _ i.a.choose_spec;have X:=aj d;replace o:=aj o;clear d z B D;unfold pV fD at o;conv=>arg 2;whnf
 refine mE [13] [9,14] uJ (fun j f b=>A (lY 13 14 211 h (fD e) j f) b) (fun a0=>if a0=9 then aN #[aS e,s]else bq) (by kernel_rfl) (by kernel_rfl) (by intro g0 hs;simp at hs;simp;omega) (Ag A _ _ _ _ _ _ (by simp)) t (fun j=>WL.h ?_);clear t;have h0:∀f:Nat→Bool,lY 13 14 211 h (fD e) j (fI f 9)=lY 13 14 211 h (fD e) j f:=fun f=>Ah (by decide);have p:∀(b0:Array Oper) (c0:Nat) f c,uI .any b0 c0 f→A (lY 13 14 211 h (fD e) j f) c→∃a,A a c:=fun _ _ _ _ _ g=>⟨_,g⟩;repeat(refine WL.e (A:=fun c=>∃a,A a c) (p _ _) (fun k d=>?_);go_simp;refine d _ ?_;clear d k)
 refine WL.g (aN #[aS e,s]) (fun f b l g=>?_) ?_ (fun _=>rfl)
 ·go_simp;exact o.o _ _ g
 repeat(refine WL.e (A:=fun c=>∃a,A a c) (p _ _) (fun k d=>?_);go_simp;refine d _ ?_;clear d k)
 refine WL.t (fun f b l g=>⟨b.alloc (.cells h 211),by rw[w.o];kernel_rfl,?_⟩) ?_
 ·rw[Dp l.b (l.a 14 (by decide+kernel)) (by decide)];exact u.d _ _ _ _ g
 dsimp only[Act.put];repeat(refine WL.e (A:=fun c=>∃a,A a c) (p _ _) (fun k d=>?_);go_simp;refine d _ ?_;clear d k)
 refine WL.g bq (fun f b l g=>?_) ?_ (fun _=>rfl)
 ·obtain⟨e0,v⟩:=Dq (t:=211) (z:=h) (cs:=fD e) (β:=j) (l.c 13 (by decide+kernel)) l.b;rw[e0]at g;rw[v];have E:=u.a _ _ _ g;rw[w.o]at E;exact lI 211 (.tmp 8) (.tmp 106) (j 13) 0 (fD e) (E.D 0 17 (aD _)) dW (u.c _ _ _ (eU e) _ _ g (by rw[w.o];rfl))
 repeat(refine WL.e (A:=fun c=>∃a,A a c) (p _ _) (fun k d=>?_);go_simp;refine d _ ?_;clear d k)
 exact WL.b fun y d0=>by apply X.o;exact d0
def TD {A B:aB→Prop} {k:Exit→Act→aB→Prop} {wc:aB} {g h d:Nat} {l:Int} {m:Sm} {i:mR} 
  (c:A wc.drew) (j:∀a:Wd A,aF au 106 #[aS #[m.k,m.o,m.a,m.b,m.y],l] a.W fun b e=>b=av (aS i)∧A e)
  (f:∀a:Wd A,aF au 105 #[qp g,pV m,aS i] a.W fun b e=>b=av (aN #[])∧B e)
  (b:∀a:Wd A,a.W.cell? ⟨h,0,O⟩=R (J U l))
  (l:∀a:Wd A,bH a.W d 211 (fD m))
  (b:∀o p q r s t u v w x y n,B n→k .normal ⟨#[qp g,qp h,u2,bq,bq,bq,u6,u7,qp d,u9,Q0,Q1,Q2,Q3,Q4,Q5,Q6,Q7,Q8,Q9,T0,T1,T2,T3,T4,T5,T6,T7,T8,T9,N0,N1,N2,N3,N4,N5,N6,N7,N8,N9,X0,X1,X2,X3,X4,X5,X6,X7,X8,X9,O0,O1,O2,O3,O4,O5,O6,O7,O8,O9,J0,J1,J2,J3,J4,J5,J6,J7,J8,J9,R0,R1,R2,R3,R4,R5,R6,R7,R8,R9,M0,M1,M2,M3,M4,M5,M6,M7,M8,M9,u90,u91,u92,u93,u94,u95,u96,u97,u98,u99,u100,u101,u102,u103,u104,u105,u106,u107,o,p,q,r,s,t,u,v,w,x,y,u119,u120,u121,u122,u123,u124,u125,u126,u127,u128,u129,u130,u131,u132,u133,u134,u135,u136,u137,u138,u139,u140,u141,u142,u143,u144,u145,u146,u147,u148,u149,u150,u151,u152,u153,u154,u155,u156,u157,u158],[]⟩ n):
  Code.wp au (fu 17 (f70.body.getD .skip)) k ⟨#[qp g,qp h,u2,bq,bq,bq,u6,u7,qp d,u9,Q0,Q1,Q2,Q3,Q4,Q5,Q6,Q7,Q8,Q9,T0,T1,T2,T3,T4,T5,T6,T7,T8,T9,N0,N1,N2,N3,N4,N5,N6,N7,N8,N9,X0,X1,X2,X3,X4,X5,X6,X7,X8,X9,O0,O1,O2,O3,O4,O5,O6,O7,O8,O9,J0,J1,J2,J3,J4,J5,J6,J7,J8,J9,R0,R1,R2,R3,R4,R5,R6,R7,R8,R9,M0,M1,M2,M3,M4,M5,M6,M7,M8,M9,u90,u91,u92,u93,u94,u95,u96,u97,u98,u99,u100,u101,u102,u103,u104,u105,u106,u107,u108,u109,u110,u111,u112,u113,u114,u115,u116,u117,u118,u119,u120,u121,u122,u123,u124,u125,u126,u127,u128,u129,u130,u131,u132,u133,u134,u135,u136,u137,u138,u139,u140,u141,u142,u143,u144,u145,u146,u147,u148,u149,u150,u151,u152,u153,u154,u155,u156,u157,u158],[]⟩ wc:=by
 haveI:Nonempty (Wd A):=⟨⟨_,c⟩⟩;haveI:Nonempty (Wd fun g=>A g∨B g):=⟨⟨_,.inl c⟩⟩;replace j:=aj j;replace f:=aj f;have g:=aj b;unfold pV at f;have h:=fun a:Wd A=>bH.t (l a);clear b;conv=>arg 2;whnf
 refine jQ A B [9,10] 10 c ?_;clear c;iterate 1 ((first|refine WL.c (fun c b=>?_)|refine WL.rb (fun c b=>?_));go_simp;refine b _ ?_;clear b c)
 refine WL.v 211 (.tmp 8) d 0 (fD m) (fun a=>(l a).v) underlying211 dW ?_;dsimp only[Act.put];repeat((first|refine WL.c (fun c b=>?_)|refine WL.d (fun c b=>?_));go_simp;refine b _ ?_;clear b c)
 refine WL.i (aS i) (fun a=>?_) ?_
 ·go_simp;exact j.o a
 refine WL.f (aN #[]) (fun a=>?_) ?_
 ·go_simp;exact f.o a
 exact WL.b fun e a=>by apply g.o;exact a
def TF {A B:aB→Prop} {k:Exit→Act→aB→Prop} {wc:aB} {c f d:Nat} {a b l g:Int} {m h n:Bool} 
  (e:A wc.drew) (p:oF a d)
  (i:∀a:Wd A,aF au 109 #[aS #[m,b],l] a.W fun j o=>j=av (aN #[aS #[h,g],n])∧A o)
  (j:∀a:Wd A,B (a.W.setCells c (d+10) [aO h,J U g]))
  (q:∀a:Wd A,a.W.cell? ⟨f,16,O⟩=R (J U l))
  (l:∀a:Wd A,a.W.cell? ⟨c,d+10,O⟩=R (aO m))
  (l:∀a:Wd A,a.W.cell? ⟨c,d+11,O⟩=R (J U b))
  (b:∀(a:Wd A) b,a.W.frozen? ⟨c,b,O⟩=false)
  (b:∀m q r s t u v w x y z C D E F G l,B l→k .normal ⟨#[qp c,qp f,u2,bq,bq,bq,u6,aK (R ⟨c,d,O⟩),u8,u9,Q0,Q1,Q2,Q3,Q4,Q5,Q6,Q7,Q8,Q9,T0,T1,T2,T3,T4,T5,T6,T7,T8,T9,N0,N1,N2,N3,N4,N5,N6,N7,N8,N9,X0,X1,X2,X3,X4,X5,X6,X7,X8,X9,O0,O1,O2,O3,O4,O5,O6,O7,O8,O9,J0,J1,J2,J3,J4,J5,J6,J7,J8,J9,R0,R1,R2,R3,R4,R5,R6,R7,R8,R9,M0,M1,M2,M3,M4,M5,M6,M7,M8,M9,u90,u91,u92,u93,u94,u95,u96,u97,u98,u99,u100,u101,u102,u103,u104,u105,u106,u107,u108,u109,u110,u111,u112,u113,u114,u115,u116,u117,u118,u119,u120,u121,u122,u123,u124,u125,u126,u127,u128,u129,u130,m,q,r,s,t,u,v,w,x,y,z,C,D,E,F,G,u147,u148,u149,u150,u151,u152,u153,u154,u155,u156,u157,u158],[]⟩ l):
  Code.wp au (fu 23 (f70.body.getD .skip)) k ⟨#[qp c,qp f,u2,bq,bq,bq,u6,aK (R ⟨c,d,O⟩),u8,u9,Q0,Q1,Q2,Q3,Q4,Q5,Q6,Q7,Q8,Q9,T0,T1,T2,T3,T4,T5,T6,T7,T8,T9,N0,N1,N2,N3,N4,N5,N6,N7,N8,N9,X0,X1,X2,X3,X4,X5,X6,X7,X8,X9,O0,O1,O2,O3,O4,O5,O6,O7,O8,O9,J0,J1,J2,J3,J4,J5,J6,J7,J8,J9,R0,R1,R2,R3,R4,R5,R6,R7,R8,R9,M0,M1,M2,M3,M4,M5,M6,M7,M8,M9,u90,u91,u92,u93,u94,u95,u96,u97,u98,u99,u100,u101,u102,u103,u104,u105,u106,u107,u108,u109,u110,u111,u112,u113,u114,u115,u116,u117,u118,u119,u120,u121,u122,u123,u124,u125,u126,u127,u128,u129,u130,u131,u132,u133,u134,u135,u136,u137,u138,u139,u140,u141,u142,u143,u144,u145,u146,u147,u148,u149,u150,u151,u152,u153,u154,u155,u156,u157,u158],[]⟩ wc:=by
 haveI:Nonempty (Wd A):=⟨⟨_,e⟩⟩;haveI:Nonempty (Wd fun c=>A c∨B c):=⟨⟨_,.inl e⟩⟩;replace i:=aj i;replace j:=aj j;have d:=aj b;clear b;conv=>arg 2;whnf
 refine jQ A B [10,16] 16 e ?_;clear e;rcases p with⟨rfl,rfl⟩|⟨rfl,rfl⟩
 all_goals
  repeat((first|refine WL.c (fun c b=>?_)|refine WL.d (fun c b=>?_));go_simp;refine b _ ?_;clear b c)
  refine WL.i (aN #[aS #[h,g],n]) (fun a=>?_) ?_
  ·go_simp;exact i.o a
  repeat((first|refine WL.c (fun c b=>?_)|refine WL.d (fun c b=>?_));go_simp;refine b _ ?_;clear b c)
  refine WL.f bq (fun a=>?_) ?_
  ·go_simp;exact j.o a
  exact WL.b fun o e=>by apply d.o;exact e
section
variable {w W:aB} {c:Co} {P:Pt} {F:Nat→List Nat} {L:List Ow} {p:fq} {k:Nat}
def JA (j:St c P (R p) F w L W) (q:dU c k) (r:jh P k) (s:k≤900) (l:iZ p.x) (t:p.x.r.c≠ -1) (m:p.x.r.d=0):
  aF au 110 #[qp P.g,qp p.b] W (Yy (mo c p.x) P (R p) F w L k):=by
 have g:=dN l.a;obtain⟨a,h⟩:=exq p.x.r.a;obtain⟨d,e⟩:=exq p.x.r.d;obtain⟨b,n⟩:=exq p.x.f.g;rw[h]at g;rw[e]at m;have i:Y (∀f W,St f P (R p) F w L W→W.cell? ⟨p.b,0,O⟩=R (J U a)∧W.cell? ⟨p.b,3,O⟩=R (J U d)∧W.cell? ⟨p.b,18,O⟩=R (J U b)):=aj fun f W o=>by obtain⟨u,f⟩:=o.f;have f:=f.a;exact⟨by rw[←h];exact f.a 0,by rw[←e];exact f.a 3,by rw[←n];exact f.a 18⟩
 have u:=aj j;have f:=aj (And.intro q (And.intro r (And.intro s (And.intro l (And.intro t e)))));have v:Y (mo c p.x=if d=0 then{c with c:=(iG c.c c.d (1-a) b 65535).1,d:=(iG c.c c.d (1-a) b 65535).2.1}else{c with l:=oM c.l {(fG c.l d).1 with d:=fw (iG (fM (fG c.l d).1.d) (fM (fG c.l d).1.e) (1-a) b (c.p a).q.e.a).1,e:=fw (iG (fM (fG c.l d).1.d) (fM (fG c.l d).1.e) (1-a) b (c.p a).q.e.a).2.1}}):=aj (by unfold mo;rw[h,e,n]);obtain⟨d,x,y⟩:=i.o _ _ j;have d:U.wrap (1-a)=1-a:=by rcases g with rfl|rfl<;>rfl
 clear j q r s l t h e n;go_enter func110,ntmps110;obtain⟨d,e,j,h⟩:∃l n q,iG c.c c.d (1-a) b 65535=(l,n,q):=⟨_,_,_,rfl⟩;have l:Y (mo c p.x={c with c:=d,d:=e}):=aj (by rw[v.o,aP m,h]);have n:Y (∀W,St c P (R p) F w L W→aF au 160 #[aS #[aH aW (fw c.c) (fw c.d)],J U (1-a),b,J U 65535] W fun q r=>q=av (aN #[aS #[aH aW (fw d) (fw e)],j])∧St c P (R p) F w L r):=aj fun W o=>by refine mB (Iz c.c c.d (1-a) b 65535 d e j W (aj f.o.1.f) (aj f.o.1.g) (aj h)) fun r a=>?_;exact⟨rfl,o.a a⟩
 subst m;clear v h;go_upto_region 1 with fail;refine Te (A:=fun W=>St c P (R p) F w L W) (B:=fun W=>St {c with c:=d,d:=e} P (R p) F w L W) u.o.e g (fun a=>n.o _ a.a) (fun a=>Lj d e a.a) (fun a=>(i.o _ _ a.a).1) (fun a=>(i.o _ _ a.a).2.2) (fun a=>a.a.d.a 30) (fun a=>a.a.d.c) ?_;intros;rename_i b a;have d:Y (Yy (mo c p.x) P (R p) F w L k (av (aN #[])) b):=aj ⟨rfl,by rw[l.o];exact .a a f.o.2.1⟩;clear a i u f n l g;dsimp only[Exit.then];go_wp2_with fail;refine aG (results_none rfl _ _ _) rfl ?_;exact d.o
def JB (h:St c P (R p) F w L W) (ho:dU c k) (hp:jh P k) (hk:k≤900) (hx:iZ p.x) (hty:p.x.r.c≠ -1) (h0:p.x.r.d≠0):
  aF au 110 #[aK (R ⟨P.g,0,O⟩),aK (R ⟨p.b,0,O⟩)] W (Yy (mo c p.x) P (R p) F w L k):=by
 have hs:=dN hx.a;obtain⟨fr,hfr⟩:=exq p.x.r.a;obtain⟨st,hst⟩:=exq p.x.r.d;obtain⟨sp,hsp⟩:=exq p.x.f.g;rw[hfr]at hs;rw[hst]at h0;have HX:Y (∀c' L W,St c' P (R p) F w L W→W.cell? ⟨p.b,0,O⟩=R (J U fr)∧W.cell? ⟨p.b,3,O⟩=R (J U st)∧W.cell? ⟨p.b,18,O⟩=R (J U sp)):=aj fun c' L W hW=>by obtain⟨F',hL⟩:=hW.f;have hL:=hL.a;exact⟨by rw[←hfr];exact hL.a 0,by rw[←hst];exact hL.a 3,by rw[←hsp];exact hL.a 18⟩
 have HS:=aj h;have HQ:=aj (And.intro ho (And.intro hp (And.intro hk (And.intro hx (And.intro hty hst)))));have HZ:Y (mo c p.x=if st=0 then{c with c:=(iG c.c c.d (1-fr) sp 65535).1,d:=(iG c.c c.d (1-fr) sp 65535).2.1}else{c with l:=oM c.l {(fG c.l st).1 with d:=fw (iG (fM (fG c.l st).1.d) (fM (fG c.l st).1.e) (1-fr) sp (c.p fr).q.e.a).1,e:=fw (iG (fM (fG c.l st).1.d) (fM (fG c.l st).1.e) (1-fr) sp (c.p fr).q.e.a).2.1}}):=aj (by unfold mo;rw[hfr,hst,hsp]);have x3:=(HX.o _ _ _ h).2.1;have hw0:U.wrap (1-fr)=1-fr:=by rcases hs with rfl|rfl<;>rfl
 clear h ho hp hk hx hty hfr hst hsp;go_enter func110,ntmps110;have hl:c.l.length≤1000:=by have:=HQ.o.1.d;have:=HQ.o.2.2.1;omega
 have hfl:=HQ.o.2.2.2.1.b HQ.o.2.2.2.2.1;have hid:(Lit.int U st).wf=true:=by rw[←HQ.o.2.2.2.2.2];exact bX Y0
 have hsm:=lH HQ.o.1.e st;have hux:=lF hsm.x;have huy:=lF hsm.y;obtain⟨m,hm⟩:=exq ((fG c.l st).1);obtain⟨q,hq⟩:=exq ((fG c.l st).2);rw[hm]at hux huy;obtain⟨ne,hne⟩:=exq ((c.p fr).q.e);obtain⟨x1,y1,q1,hq1⟩:∃x y q,iG (fM m.d) (fM m.e) (1-fr) sp ne.a=(x,y,q):=⟨_,_,_,rfl⟩;obtain⟨m2,hm2⟩:∃m2:Sm,m2={m with d:=fw x1,e:=fw y1}:=⟨_,rfl⟩;have HZ2:Y (mo c p.x=c.i m2):=aj (by rw[HZ.o,aL h0,hm,hne,hq1,hm2];rfl);have hid2:(Lit.int U m2.c).wf=true:=by
  have:(fG c.l st).1.c=st∨(fG c.l st).1.c=0:=by
   unfold fG;split
   ·rename_i i hi;left;have:=kr hi;unfold lu at this;rw[bS]at this;obtain⟨z,hz,he⟩:=Option.map_eq_some_iff.1 this;rw[aY,hz];exact he
   ·exact .inr rfl
  rw[hm]at this;rw[hm2];rcases this with h|h
  ·show(Lit.int U m.c).wf=true;rw[h];exact hid
  ·show(Lit.int U m.c).wf=true;rw[h];exact bX Y0
 have HG:Y (∀L W,St c P (R p) F w L W→aF au 104 #[aK (R ⟨P.c,0,O⟩),J U st] W fun e w'=>e=av (aN #[pV m,aO q])∧St c P (R p) F w L w'):=aj fun L W hW=>by obtain⟨F',hF⟩:=id hW;refine(nu (M:=c.a.b) (F:=F' 13) P.c st W hl (hF.a.d 13) (aj hid)).mono ?_;rintro e w' ⟨rfl,hb⟩;exact⟨by rw[hm,hq],hW.a hb⟩
 have HU:=aj (And.intro hux (And.intro huy (And.intro hq1 (And.intro hne (And.intro hl (And.intro hid2 hm2))))));have b0:=aM.2 h0;have scx:=ku;clear HZ hq hm h0 hux huy hq1 hne hl hid hid2 hm2 hfl hsm;go_upto_region 2 with fail;refine Td (A:=fun L' W=>St c P (R p) F w (L'++L) W) HS.o.e St.s (fun L' W hW=>HG.o _ _ hW) (fun L' W hW=>hW.d.a 31) (fun L' W hW=>(HX.o _ _ _ hW).2.1) ?_;intros;rename_i b wc hw1;have HS2:=aj hw1;clear hw1 HS HG x3;dsimp only[Exit.then];obtain⟨qp,hqp⟩:=oF.a hs;obtain⟨i6,hi⟩:∃i,(fr=0∧i=12)∨(fr=1∧i=24):=by rcases hs with h|h;exact⟨12,.inl ⟨h,rfl⟩⟩;exact⟨24,.inr ⟨h,rfl⟩⟩
 have hgb:b≠P.g∧b≠p.b:=⟨HS2.o.A.2,HS2.o.B⟩;have HA:Y (∀W,St c P (R p) F w ((b,211,fD m)::L) W→aF au 154 #[aK (R ⟨qS P fr,0,O⟩)] W fun e w'=>e=av (aS #[J U ne.d,J U ne.e,J U ne.c,J U ne.a,J U ne.b,J U ne.f])∧St c P (R p) F w ((b,211,fD m)::L) w'):=aj fun W hW=>by refine(wI hW HQ.o.1 HQ.o.2.2.1 fr).mono ?_;rintro e w' ⟨rfl,h⟩;exact⟨by rw[HU.o.2.2.2.1];rfl,h⟩
 have HB:Y (∀W,St c P (R p) F w ((b,211,fD m)::L) W→aF au 160 #[aS #[aH aW m.d m.e],J U (1-fr),J U sp,J U ne.a] W fun e w'=>e=av (aN #[aS #[aH aW (fw x1) (fw y1)],aO q1])∧St c P (R p) F w ((b,211,fD m)::L) w'):=aj fun W hW=>by have:=Iz (fM m.d) (fM m.e) (1-fr) sp ne.a x1 y1 q1 W (aj HU.o.1.1) (aj HU.o.2.1.1) (aj HU.o.2.2.1);rw[HU.o.1.2,HU.o.2.1.2]at this;refine this.mono ?_;rintro e w' ⟨rfl,hb⟩;exact⟨rfl,hW.a hb⟩
 have HC:Y (∀W,St c P (R p) F w ((b,211,fD m)::L) W→St c P (R p) F w ((b,211,fD m2)::L) (W.setCell ⟨b,6,O⟩ (aH aW (fw x1) (fw y1)))):=aj fun W hW=>by rw[HU.o.2.2.2.2.2.2];exact hW.k (bg.f (F:=[b]) Y1 [aH aW (fw x1) (fw y1)] 6 W) (bH.o [aH aW (fw x1) (fw y1)] 6 W _ hW.b)
 have HD:Y (∀W,St c P (R p) F w ((b,211,fD m)::L) W→W.cell? ⟨p.b,0,O⟩=R (J U fr)∧W.cell? ⟨p.b,18,O⟩=R (J U sp)∧W.cell? ⟨P.g,i6,O⟩=R (aK (R ⟨qS P fr,0,O⟩))∧W.cell? ⟨b,6,O⟩=R (aH aW m.d m.e)∧∀i,W.frozen? ⟨b,i,O⟩=false):=aj fun W hW=>by
  have hx:=HX.o _ _ _ hW.g;refine⟨hx.1,hx.2.2,?_,hW.b.a 6,hW.b.c⟩;have:=hW.d;rcases hi with⟨rfl,rfl⟩|⟨rfl,rfl⟩
  ·exact this.a 12
  ·exact this.a 24
 go_upto_region 3 with fail;refine Tf (A:=fun W=>St c P (R p) F w ((b,211,fD m)::L) W) (B:=fun W=>St c P (R p) F w ((b,211,fD m2)::L) W) HS2.o.e hi (fun u=>HA.o _ u.a) (fun u=>HB.o _ u.a) (fun u=>HC.o _ u.a) (fun u=>(HD.o _ u.a).1) (fun u=>(HD.o _ u.a).2.1) (fun u=>(HD.o _ u.a).2.2.1) (fun u=>(HD.o _ u.a).2.2.2.1) (fun u=>(HD.o _ u.a).2.2.2.2) ?_;intros;rename_i W3 hW3;have HS3:=aj hW3;clear hW3 HA HB HC HD hi HS2 HX;dsimp only[Exit.then];go_upto_region 4 with fail;refine Tg (m:=m2) (q:=Hg c.l m2) (A:=fun W=>St c P (R p) F w ((b,211,fD m2)::L) W) (B:=fun W=>St (c.i m2) P (R p) F w ((b,211,fD m2)::L) W) HS3.o.e (fun u=>Lf m2 u.a HU.o.2.2.2.2.1 HU.o.2.2.2.2.2.1) (fun u=>u.a.d.a 31) (fun u=>u.a.b) ?_;intros;rename_i W3 hW3;have HW:Y (Yy (mo c p.x) P (R p) F w L k (av (aN #[])) W3):=aj ⟨rfl,by rw[HZ2.o];exact .a hW3.g HQ.o.2.1⟩;clear hW3 HS3 HQ HZ2 HU;dsimp only[Exit.then];go_wp2_with fail;refine bodyPost_end (results_none rfl _ _ _) rfl ?_;exact HW.o
def Tn (a:St c P (R p) F w L W) (b:dU c k) (d:jh P k) (e:k≤900) (f:iZ p.x) (g:p.x.r.c≠ -1):
  aF au 110 #[qp P.g,qp p.b] W (Yy (mo c p.x) P (R p) F w L k):=by
 by_cases h:p.x.r.d=0
 ·exact JA a b d e f g h
 ·exact JB a b d e f g h
end
end Go.Proofs.YtdcacpeaimjdlaaGreatDoor
