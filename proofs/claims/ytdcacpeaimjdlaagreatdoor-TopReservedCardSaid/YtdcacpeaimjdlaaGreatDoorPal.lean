/- Part of the proof. -/
import Derived.Test.YtdcacpeaimjdlaaGreatDoorPak
import Derived.BigQuiet
import Derived.Laws.Entries
import Derived.StillTailTactics
namespace Go.Proofs.YtdcacpeaimjdlaaGreatDoor
open Go.RowKit Go.Maps Go.Proofs.Tryz Mq
open Go.Value renaming int→J,slice→Z,string→aA,pointer→aK,bool→aO,tuple→aN,agg→aS,complex→aH
open Go.IntKind renaming i64→U
open Option renaming none→O,some→R
open Go.Ending renaming returned→av
open Go renaming World→aB,Value→aI,Calls→aF,Addr→aX,TypeId→bB,undef→bq
open Go.RowKit renaming Below→aJ
open Go.Proofs.Tryz renaming prog→au
open Go.FloatKind renaming f64→aW
set_option maxRecDepth 20000
set_option maxHeartbeats 0
set_option linter.all false
abbrev Vs:=List (Option ByteArray)
def vY (a:Vs):Array aI:=(a.map fun a=>aA (gv a)).toArray
def uU (a:Vs):Array aI:=(a.map fun a=>J U (if a.isSome then 1 else 0)).toArray
def Yp (a:List (List UInt8)):List aI:=a.map fun a=>aA (LW a)
def ZA:(Tryz.prog.info? 9).map (fun a=>(a.zero,a.size,a.bytes))=R (R (aA E0),1,16):=by kernel_rfl
def ZB:(Tryz.prog.info? 3).map (fun a=>(a.zero,a.size,a.bytes))=R (R (J U 0),1,8):=by kernel_rfl
def IU (a:Nat) (b:a≤100) (b:aB):(Instr.makeSlice 229 (J U (a:Int)) (J U (a:Int))).run au b=.ok (Z (R ⟨b,0,O⟩) a a) (b.alloc (.cells (vY (List.replicate a O)) 9)):=by
 obtain⟨d,e,f,g,h⟩:=info_parts ZA;have c:=run_make (P:=au) b 229 9 d _ underlying229 e f U U a a Y0 Y0 (by rw[h];omega) Y0;rw[g,bZ]at c;rw[c];congr 3;unfold vY;apply Array.ext';rw[Nat.mul_one];show(madeCells #[aA E0] a).toList=_
 rw[toList_madeCells_one];simp[gv]
def ET (a:Nat) (b:a≤100) (b:aB):(Instr.makeSlice 37 (J U (a:Int)) (J U (a:Int))).run au b=.ok (Z (R ⟨b,0,O⟩) a a) (b.alloc (.cells (uU (List.replicate a O)) 3)):=by
 obtain⟨d,e,f,g,h⟩:=info_parts ZB;have c:=run_make (P:=au) b 37 3 d _ underlying37 e f U U a a Y0 Y0 (by rw[h];omega) Y0;rw[g,bZ]at c;rw[c];congr 3;unfold uU;apply Array.ext';rw[Nat.mul_one];show(madeCells #[J U 0] a).toList=_
 rw[toList_madeCells_one];simp
def VR (a:Nat) (e:Option Vs) (b:aB) (f:Ending) (c:aB):Prop:=
 (e=O∧f=av (aN #[Z O 0 0,Z O 0 0,false])∧aJ b b c)∨
 ∃(d:Vs) (g h:Nat),e=R d∧d.length=a∧f=av (aN #[Z (R ⟨g,0,O⟩) a a,Z (R ⟨h,0,O⟩) a a,true])∧bH c g 9 (vY d)∧bH c h 3 (uU d)∧aJ b b c
def EU (a:List UInt8):(LW a).toList=a:=by rw[ByteArray.toList_eq];rfl
def QM {a:Vs} {b:Nat} {c:Option ByteArray} (d:a[b]?=R c):(vY a)[b]?=R (aA (gv c)):=by unfold vY;simp[d]
def QN {a:Vs} {b:Nat} {c:Option ByteArray} (d:a[b]?=R c):(uU a)[b]?=R (J U (if c.isSome then 1 else 0)):=by unfold uU;simp[d]
def QO (a:Vs) (b:Nat) (c:ByteArray):(vY a).setIfInBounds b (aA c)=vY (a.set b (R c)):=by unfold vY;apply Array.ext';simp[List.map_set,gv]
def QS (a:Vs) (b:Nat) (c:ByteArray):(uU a).setIfInBounds b (J U 1)=uU (a.set b (R c)):=by unfold uU;apply Array.ext';simp[List.map_set]
def QT {b:List UInt8} {e:List (List UInt8)} {c:Option ByteArray} {d:Vs} {a:Fd} (f:b=a.n.toList) (g:c=O):oI (b::e) (c::d) a=R (R a.v::d):=by rw[oI,aP ⟨f,g⟩]
def Bw {c:List UInt8} {d:List (List UInt8)} {a:Option ByteArray} {e:Vs} {b:Fd} (f:¬(c=b.n.toList∧a=O)):oI (c::d) (a::e) b=(oI d e b).map (a::·):=by rw[oI,aL f]
def ZC {a:Vs} {b:Nat} {d c:Option ByteArray} (e:a[b]?=R d):a.take b++c::a.drop (b+1)=a.set b c:=by obtain⟨a,_⟩:=aU.1 e;rw[List.set_eq_take_append_cons_drop,aP a]
def EW {a:Vs} {b:Nat} {d:Option ByteArray} (e:a[b]?=R d) (c:Option Vs):(c.map (d::·)).map (a.take b++·)=c.map (a.take (b+1)++·):=by
 rw[List.take_add_one,e];cases c with
 |none=>rfl
 |some a=>simp
def zx (c:Option aX) (b k:Nat) (l:List Fd) (C d:Nat) (e:List (List UInt8)) (a:aB) (f:l.length=b) (g:b≤100000) (g:bU a c (dx l)) (h:e.length=d) (i:d≤100) (j:bU a (R ⟨C,0,O⟩) (Yp e)):
  aF au 300 #[Z c b k,Z (R ⟨C,0,O⟩) d d] a (VR d (nO e l (List.replicate d O) false) a):=by
 have M:=aj f;have o:=aj g;have H:=aj h;have N:=aj j;clear f g h j;obtain⟨r,c⟩:=exq (nO e l (List.replicate d O) false);rw[c];have j:=aj c;clear c;have n:=IU d i;have p:=ET d i;obtain⟨f,c⟩:=exq a.heap.size;obtain⟨h,g⟩:=exq ((a.alloc (.cells (vY (List.replicate d O)) 9)).alloc (.cells (uU (List.replicate d O)) 3));have i:Y (aJ a a h):=aj (by rw[←g];exact((ay _ a).alloc (aD _) _).alloc Y1 _);have k:Y (bH h f 9 (vY (List.replicate d O))):=aj (by rw[←g,←c];exact(bH.d a _ _).h _);have m:Y (bH h (f+1) 3 (uU (List.replicate d O))):=aj (by rw[←g,←c];have:=bH.d (a.alloc (.cells (vY (List.replicate d O)) 9)) 3 (uU (List.replicate d O));simpa using this);have P:=aj c;go_enter func300,ntmps300;go_wp2_with fail;refine wp_scope_straight ?_;go_wp2;go_step3;go_wp2;clear g c n p;go_loopw [9,22] (fun n g wr=>∃(h:Nat) (p:Bool) (c:Vs),h≤b∧g=J U h∧n=aO p∧Y (c.length=d)∧Y (nO e (l.drop h) c p=r)∧Y (aJ a a wr)∧Y (bH wr f 9 (vY c))∧Y (bH wr (f+1) 3 (uU c))) (fun _ g _=>b- (intOf g).toNat);case atStart=>exact⟨0,false,_,aZ _,rfl,rfl,aj Y1,j,i,k,m⟩
 case round=>
  obtain⟨h,p,c,q,rfl,rfl,D,w,E,Q,S⟩:=hrel;clear k m i j;by_cases T:h<b
  ·obtain⟨b,i⟩:=pE M T;obtain⟨j,k,rfl,m,q,s⟩:=pz (o.o.a E.o) i;rw[rR i]at w;clear i;obtain⟨m,v⟩:=exq wr.heap.size;obtain⟨i,q⟩:=exq (wr.alloc (.cells #[aA b.n,aA b.v,b.a] 93));have t:Y (bH i m 93 #[aA b.n,aA b.v,b.a]):=aj (by rw[←q,←v];exact bH.d _ _ _);have z:Y (aJ a a i):=aj (by rw[←q];exact E.o.alloc E.o.size _);have A:Y (bH i f 9 (vY c)):=aj (by rw[←q];exact Q.o.h _);have B:Y (bH i (f+1) 3 (uU c)):=aj (by rw[←q];exact S.o.h _);have j:=t.o.H 0;have j:=t.o.H 1;have j:=t.o.H 2;cases hq:gQ b
   ·have u:=fun a=>qb hq (oZ b a);have j:Y (nO e (l.drop (h+1)) c true=r):=aj (by rw[←w.o];conv=>{rhs;unfold nO};rw[hq,aL Y2]);clear hq;go_wp2_with fail;refine mB ((u _).o) fun k i=>?_;have o:=aj (bG z.o i);have x:=aj (A.o.b i);have y:=aj (B.o.b i);clear i;go_wp2;go_roundw;case rel=>exact⟨h+1,true,c,Y0,by go_num,rfl,D,j,o,x,y⟩
    case measure=>simp[intOf];omega
   ·have u:=fun a=>qb hq (oZ b a);have s:Y (r=if p then O else match oI e c b with
     |none=>O
     |some a=>nO e (l.drop (h+1)) a false):=aj (by rw[←w.o];conv=>{lhs;unfold nO};rw[hq,aP rfl];rfl)
    clear hq;go_wp2_with fail;refine mB ((u _).o) fun k i=>?_;have o:=aj (bG z.o i);have x:=aj (A.o.b i);have y:=aj (B.o.b i);have a:=aj (t.o.b i);clear i q v;have i:=a.o.H 0;have i:=a.o.H 1;cases p
    ·obtain⟨p,a⟩:=exq (oI e c b);rw[aL Y2,a]at s;have i:Y ((oI (e.drop 0) (c.drop 0) b).map (c.take 0++·)=p):=aj (by rw[←a];simp);clear a;go_wp2;go_loop [31] (fun g=>∃a:Nat,a≤d∧g=J U a∧Y ((oI (e.drop a) (c.drop a) b).map (c.take a++·)=p)) (fun g=>d- (intOf g).toNat);case atStart=>exact⟨0,aZ _,rfl,i⟩
     case round=>
      obtain⟨a,V,rfl,F⟩:=hrel;clear i;by_cases z:a<d
      ·obtain⟨i,t⟩:=pE H z;obtain⟨n,m⟩:=pE D z;have W:k.cell? ⟨C,a,O⟩=R (aA (LW i)):=by obtain⟨X,o',q,A⟩:=N.o.a o.o a (aA (LW i)) (by unfold Yp;rw[bS,t];rfl);injection q with q;injection q with u K;subst u K;rw[cK]at A;exact A
       have G:k.cell? ⟨f+1,a,O⟩=R (J U (if n.isSome then 1 else 0)):=by rw[y.o.a a];exact QN m
       have v:k.cell? ⟨f,a,O⟩=R (aA (gv n)):=by rw[x.o.a a];exact QM m
       have v:Y ((oI (i::e.drop (a+1)) (n::c.drop (a+1)) b).map (c.take a++·)=p):=by rw[rR t,rR m]at F;exact F
       have L:=aj m;clear t m F;rcases CG b.n i with m|m
       ·have u:((LW i).toList==b.n.toList)=true:=by rw[EU,←m];simp
        cases n with
        |none=>
         have j:Y (p=R (c.set a (R b.v))):=aj (by rw[←v.o,QT m.symm rfl];simp only[Option.map_some];rw[ZC L.o]);rw[j.o]at s;have B:Y (nO e (l.drop (h+1)) (c.set a (R b.v)) false=r):=aj (by rw[s.o]);have l:=G;have g1:=x.o.c a;have g2:=y.o.c a;clear G m v s;go_wp2;go_roundw;case rel=>exact⟨h+1,false,c.set a (R b.v),Y0,by go_num,rfl,aj (by rw[List.length_set];exact D.o),B,aj ((o.o.setCell (p:=⟨f,a,O⟩) (by rw[←P.o];exact aD _) _).setCell (p:=⟨f+1,a,O⟩) (by rw[←P.o];simp) _),aj (by rw[←QO];exact(x.o.f a _).i Y1 _),aj (by rw[←QS c a b.v];exact(y.o.i Y1 _).f a _)⟩
         case measure=>simp[intOf];omega
        |some n=>
         have j:Y ((oI (e.drop (a+1)) (c.drop (a+1)) b).map (c.take (a+1)++·)=p):=aj (by rw[←v.o,Bw Y1,EW L.o]);have l:=G;clear G m v;go_wp2;go_round;case rel=>exact⟨a+1,Y0,by go_num,j⟩
         case measure=>simp[intOf];omega
       ·have u:((LW i).toList==b.n.toList)=false:=by rw[EU,aM];exact fun I=>m I.symm
        have j:Y ((oI (e.drop (a+1)) (c.drop (a+1)) b).map (c.take (a+1)++·)=p):=aj (by rw[←v.o,Bw (fun e=>m e.1.symm),EW L.o]);clear m v;go_wp2;go_round;case rel=>exact⟨a+1,Y0,by go_num,j⟩
        case measure=>simp[intOf];omega
      ·have j:Y (p=O):=aj (by rw[←F.o,uT H z];simp[oI]);have B:Y (r=O):=aj (by rw[s.o,j.o]);go_wp2;go_ret3;exact .inl ⟨B.o,rfl,o.o⟩
    ·have B:Y (r=O):=aj (by rw[s.o,aP rfl]);go_wp2;go_loop [31] (fun g=>∃a:Nat,a≤d∧g=J U a) (fun g=>d- (intOf g).toNat);case atStart=>exact⟨0,aZ _,rfl⟩
     case round=>
      obtain⟨a,V,rfl⟩:=hrel;by_cases z:a<d
      ·obtain⟨i,t⟩:=pE H z;have W:k.cell? ⟨C,a,O⟩=R (aA (LW i)):=by obtain⟨X,o',q,A⟩:=N.o.a o.o a (aA (LW i)) (by unfold Yp;rw[bS,t];rfl);injection q with q;injection q with u K;subst u K;rw[cK]at A;exact A
       clear t;cases u:((LW i).toList==b.n.toList);all_goals
        go_wp2;go_round;case rel=>exact⟨a+1,Y0,by go_num⟩
        case measure=>simp[intOf];omega
      ·go_wp2;go_ret3;exact .inl ⟨B.o,rfl,o.o⟩
  ·rw[uT M T]at w;go_wp2;go_ret3;exact .inr ⟨c,f,f+1,by rw[←w.o];rfl,D.o,rfl,Q.o,S.o,E.o⟩
def xQ (a:Hd):aI:=aS #[aA a.m,aA a.s,aA a.a,aA a.p,a.t]
def Yq (a:Hd):Array aI:=#[aA a.m,aA a.s,aA a.a,aA a.p,a.t]
def EX (a:aB) (b:List (List UInt8)):bU (a.alloc (.cells (Yp b).toArray 9)) (R ⟨a,0,O⟩) (Yp b):=by have:=bU.i a 9 (Yp b).toArray (0,0);simpa using this
def zbw {a:Vs} (f:a.length=4):∃b c d e,a=[b,c,d,e]:=by
 match a,f with
 |[b,c,d,e],_=>exact⟨b,c,d,e,rfl⟩
def ZE {a:Vs} (c:a.length=1):∃b,a=[b]:=by
 match a,c with
 |[b],_=>exact⟨b,rfl⟩
def CJ (a:Hd) (b:aB):aF au 301 #[aS #[aA a.m,aA a.s,aA a.a,aA a.p,a.t]] b fun c d=>c=av (aO (a.m.toList==Vf))∧aJ b b d:=by have c:=aj ((ay b.heap.size b).alloc (aD _) (.cells #[aA a.m,aA a.s,aA a.a,aA a.p,a.t] 344));go_enter func301,ntmps301;go_wp2;go_ret;exact⟨rfl,c.o⟩
def CK (a:Option Hd) (b:aB) (c:Ending) (d:aB):Prop:=c=av (aN #[xQ (a.getD Hd.b),a.isSome])∧aJ b b d
set_option maxRecDepth 100000 in
def EY (b0:Option aX) (N h0:Nat) (h:List Fd) (f:aB) (hn:h.length=N) (hm:N≤100000) (hs:bU f b0 (dx h)):
  aF au 267 #[Z b0 N h0] f (CK (qG h) f):=by
 obtain⟨c,P⟩:=exq f.heap.size;obtain⟨Q,S⟩:=exq ((f.alloc (.cells #[aA {data:=#[]},aA {data:=#[]},aA {data:=#[]},aA {data:=#[]},J U 0] 344)).alloc (.cells #[aA {data:=#[58,109,101,116,104,111,100]},aA {data:=#[58,115,99,104,101,109,101]},aA {data:=#[58,97,117,116,104,111,114,105,116,121]},aA {data:=#[58,112,97,116,104]}] 9));have c0:Y (aJ f f Q):=aj (by rw[←S];exact((ay _ f).alloc (aD _) _).alloc (by simp) _);have i0:Y (bH Q c 344 (Yq Hd.b)):=aj (by rw[←S,←P];exact(bH.d f _ _).h _);have j0:bU Q (R ⟨c+1,0,O⟩) (Yp [YM,YN,YO,YP]):=by rw[←S,←P];have:=EX (f.alloc (.cells #[aA {data:=#[]},aA {data:=#[]},aA {data:=#[]},aA {data:=#[]},J U 0] 344)) [YM,YN,YO,YP];rw[show(f.alloc (.cells #[aA {data:=#[]},aA {data:=#[]},aA {data:=#[]},aA {data:=#[]},J U 0] 344)).heap.size=f.heap.size+1 from by simp]at this;exact this
 have HV:=aj P;have HC:=aj (zx b0 N h0 h (c+1) 4 [YM,YN,YO,YP] Q hn hm (hs.a c0.o) rfl (by omega) j0);clear hn hs j0;obtain⟨A0,hR⟩:=exq (nO [YM,YN,YO,YP] h (List.replicate 4 O) false);rw[hR]at HC;have HR:=aj hR;clear hR;go_enter func267,ntmps267;go_wp2_with fail;refine HC.o.mono ?_;clear S P HC;rintro m0 l (⟨E,rfl,A⟩|⟨st,z,m,E,hl,rfl,ha,k0,A⟩)
 ·have T:=aj (bG c0.o A);have o:=aj (i0.o.b A);have v:Y (qG h=O):=aj (by unfold qG;rw[show nO [YM,YN,YO,YP] h [O,O,O,O] false=O from HR.o.trans E]);clear A E;have p:l.cell? ⟨c,0,O⟩=R (aA {data:=#[]}):=o.o.a 0;have q:l.cell? ⟨c,1,O⟩=R (aA {data:=#[]}):=o.o.a 1;have r:l.cell? ⟨c,2,O⟩=R (aA {data:=#[]}):=o.o.a 2;have s:l.cell? ⟨c,3,O⟩=R (aA {data:=#[]}):=o.o.a 3;have t:l.cell? ⟨c,4,O⟩=R (J U 0):=o.o.a 4;have n0:=o.o.c 0;have g1:=o.o.c 1;have g2:=o.o.c 2;have g3:=o.o.c 3;have g4:=o.o.c 4;go_wp2_with fail;refine aG (v:=aN #[xQ Hd.b,false]) (by simp[results,results267,go_sem,p,q,r,s,t];rfl) rfl ⟨by rw[v.o];rfl,?_⟩;have n:∀d0,f.heap.size≤(⟨c,d0,O⟩:aX).block:=fun _=>by rw[←HV.o];exact aD _
  exact((((T.o.setCell (n 0) _).setCell (n 1) _).setCell (n 2) _).setCell (n 3) _).setCell (n 4) _
 ·obtain⟨d,e,i,a,rfl⟩:=zbw hl;have T:=aj (bG c0.o A);have o:=aj (i0.o.b A);have V:=aj ha;have e0:=aj k0;have o0:=aj (HR.o.trans E);clear A E ha k0 hl;have p0:l.cell? ⟨z,0,O⟩=R (aA (gv d)):=V.o.a 0;have a1:l.cell? ⟨z,1,O⟩=R (aA (gv e)):=V.o.a 1;have a2:l.cell? ⟨z,2,O⟩=R (aA (gv i)):=V.o.a 2;have a3:l.cell? ⟨z,3,O⟩=R (aA (gv a)):=V.o.a 3;have v:Y (qG h=if(if(gv d).toList=Vf then !e.isSome&& !a.isSome&& !(gv i).toList.isEmpty else !(gv d).toList.isEmpty&& !(gv e).toList.isEmpty&& !(gv a).toList.isEmpty)=true then R ⟨gv d,gv e,gv i,gv a,0⟩else O):=aj (by unfold qG;rw[show nO [YM,YN,YO,YP] h [O,O,O,O] false=R [d,e,i,a]from o0.o])
  have j:l.cell? ⟨m,1,O⟩=R (J U (if e.isSome then 1 else 0)):=e0.o.a 1;have g:l.cell? ⟨m,3,O⟩=R (J U (if a.isSome then 1 else 0)):=e0.o.a 3;go_wp2_with fail;go_region_held3 (fun W=>W.cell? ⟨z,0,O⟩=R (aA (gv d))∧W.cell? ⟨z,1,O⟩=R (aA (gv e))∧W.cell? ⟨z,2,O⟩=R (aA (gv i))∧W.cell? ⟨z,3,O⟩=R (aA (gv a))) (go_keep) (first|fail);obtain⟨u,hu⟩:=exq l.heap.size;obtain⟨x,C⟩:=exq ((l.alloc (.cells #[aA (gv d),aA (gv e),aA (gv i),aA (gv a),J U 0] 344)).drew);have q0:Y (aJ f f x):=aj (by rw[←C];exact bI (T.o.alloc T.o.size _) 1);have D:Y (bH x u 344 (Yq ⟨gv d,gv e,gv i,gv a,0⟩)):=aj (by rw[←C,←hu];exact(bH.d l _ _).x);have r0:Y (bH x c 344 (Yq Hd.b)):=aj (by rw[←C];exact(o.o.h _).x);have s0:Y (bH x m 3 (uU [d,e,i,a])):=aj (by rw[←C];exact(e0.o.h _).x);rw[C];have u0:x.cell? ⟨u,0,O⟩=R (aA (gv d)):=D.o.a 0;have u1:x.cell? ⟨u,1,O⟩=R (aA (gv e)):=D.o.a 1;have u2:x.cell? ⟨u,2,O⟩=R (aA (gv i)):=D.o.a 2;have u3:x.cell? ⟨u,3,O⟩=R (aA (gv a)):=D.o.a 3;have u4:x.cell? ⟨u,4,O⟩=R (J U 0):=D.o.a 4;rw[hu];clear C hu p0 a1 a2 a3 j g;go_wp2_with fail;refine(CJ ⟨gv d,gv e,gv i,gv a,0⟩ _).mono ?_;clear u0 u1 u2 u3 u4;rintro m0 b ⟨rfl,F⟩;have t0:=aj (bG q0.o F);have G:=aj (D.o.b F);have w:=aj (r0.o.b F);have l0:=aj (s0.o.b F);clear F;have u0:b.cell? ⟨u,0,O⟩=R (aA (gv d)):=G.o.a 0;have u1:b.cell? ⟨u,1,O⟩=R (aA (gv e)):=G.o.a 1;have u2:b.cell? ⟨u,2,O⟩=R (aA (gv i)):=G.o.a 2;have u3:b.cell? ⟨u,3,O⟩=R (aA (gv a)):=G.o.a 3;have u4:b.cell? ⟨u,4,O⟩=R (J U 0):=G.o.a 4;have p:b.cell? ⟨c,0,O⟩=R (aA {data:=#[]}):=w.o.a 0;have q:b.cell? ⟨c,1,O⟩=R (aA {data:=#[]}):=w.o.a 1;have r:b.cell? ⟨c,2,O⟩=R (aA {data:=#[]}):=w.o.a 2;have s:b.cell? ⟨c,3,O⟩=R (aA {data:=#[]}):=w.o.a 3;have t:b.cell? ⟨c,4,O⟩=R (J U 0):=w.o.a 4;have n0:=w.o.c 0;have g1:=w.o.c 1;have g2:=w.o.c 2;have g3:=w.o.c 3;have g4:=w.o.c 4;have j:b.cell? ⟨m,1,O⟩=R (J U (if e.isSome then 1 else 0)):=l0.o.a 1;have g:b.cell? ⟨m,3,O⟩=R (J U (if a.isSome then 1 else 0)):=l0.o.a 3;have n:∀d0,f.heap.size≤(⟨c,d0,O⟩:aX).block:=fun _=>by rw[←HV.o];exact aD _
  have B0:=aj n;have y:Y (∀(f0:Nat) (x0 x1 x2 x3 x4:aI),aJ f f ((((((b.drewN f0).setCell ⟨c,0,O⟩ x0).setCell ⟨c,1,O⟩ x1).setCell ⟨c,2,O⟩ x2).setCell ⟨c,3,O⟩ x3).setCell ⟨c,4,O⟩ x4)):=aj fun f0 _ _ _ _ _=>(((((bI t0.o f0).setCell (n 0) _).setCell (n 1) _).setCell (n 2) _).setCell (n 3) _).setCell (n 4) _
  clear n;rcases CG (gv d) Vf with B|B
  ·have H:((gv d).toList==Vf)=true:=by rw[B];simp
   rw[aP B]at v;have X:=aj v.o;clear v B;rw[H];clear H;cases hos:e.isSome
   ·cases hop:a.isSome
    ·rcases jU (gv i)with⟨I,_⟩|⟨I,_⟩
     ·have k:Y (qG h=O):=aj (by rw[X.o,hos,hop,I];rfl);have v0:(gv i).toList.isEmpty=true:=by rw[I];rfl
      rw[hos]at j;rw[hop]at g;have g0:b.cell? ⟨m,1,O⟩=R (J U 0):=j;have a0:b.cell? ⟨m,3,O⟩=R (J U 0):=g;clear hos hop j g;go_wp2_with fail;go_quiet (fail);go_wp2_with fail;refine aG (v:=aN #[xQ Hd.b,false]) (by simp[results,results267,go_sem,p,q,r,s,t];rfl) rfl ⟨by rw[k.o];rfl,y.o _ _ _ _ _ _⟩
     ·have k:Y (qG h=R ⟨gv d,gv e,gv i,gv a,0⟩):=aj (by rw[X.o,hos,hop,I];rfl);have v0:=qV I;rw[hos]at j;rw[hop]at g;have g0:b.cell? ⟨m,1,O⟩=R (J U 0):=j;have a0:b.cell? ⟨m,3,O⟩=R (J U 0):=g;clear hos hop j g;go_wp2_with fail;go_quiet (fail);go_wp2_with fail;refine aG (v:=aN #[xQ ⟨gv d,gv e,gv i,gv a,0⟩,true]) (by simp[results,results267,go_sem,p,q,r,s,t];rfl) rfl ⟨by rw[k.o];rfl,y.o _ _ _ _ _ _⟩
    ·have k:Y (qG h=O):=aj (by rw[X.o,hos,hop];rfl);rw[hos]at j;rw[hop]at g;have g0:b.cell? ⟨m,1,O⟩=R (J U 0):=j;have a0:b.cell? ⟨m,3,O⟩=R (J U 1):=g;clear hos hop j g;go_wp2_with fail;go_quiet (fail);go_wp2_with fail;refine aG (v:=aN #[xQ Hd.b,false]) (by simp[results,results267,go_sem,p,q,r,s,t];rfl) rfl ⟨by rw[k.o];rfl,y.o _ _ _ _ _ _⟩
   ·have k:Y (qG h=O):=aj (by rw[X.o,hos];rfl);rw[hos]at j;have g0:b.cell? ⟨m,1,O⟩=R (J U 1):=j;cases hop:a.isSome
    ·rw[hop]at g;have a0:b.cell? ⟨m,3,O⟩=R (J U 0):=g;clear hos hop j g;go_wp2_with fail;go_quiet (fail);go_wp2_with fail;refine aG (v:=aN #[xQ Hd.b,false]) (by simp[results,results267,go_sem,p,q,r,s,t];rfl) rfl ⟨by rw[k.o];rfl,y.o _ _ _ _ _ _⟩
    ·rw[hop]at g;have a0:b.cell? ⟨m,3,O⟩=R (J U 1):=g;clear hos hop j g;go_wp2_with fail;go_quiet (fail);go_wp2_with fail;refine aG (v:=aN #[xQ Hd.b,false]) (by simp[results,results267,go_sem,p,q,r,s,t];rfl) rfl ⟨by rw[k.o];rfl,y.o _ _ _ _ _ _⟩
  ·have H:((gv d).toList==Vf)=false:=by rw[aM];exact B
   rw[aL B]at v;clear B j g;rw[H];clear H;rcases jU (gv d)with⟨K,_⟩|⟨K,_⟩
   ·have k:Y (qG h=O):=aj (by rw[v.o,K];rfl);have w0:(gv d).toList.isEmpty=true:=by rw[K];rfl
    go_wp2_with fail;refine aG (v:=aN #[xQ Hd.b,false]) (by simp[results,results267,go_sem,p,q,r,s,t];rfl) rfl ⟨by rw[k.o];rfl,y.o 0 _ _ _ _ _⟩
   ·have w0:=qV K;rcases jU (gv e)with⟨L,_⟩|⟨L,_⟩
    ·have k:Y (qG h=O):=aj (by rw[v.o,L];simp);have y0:(gv e).toList.isEmpty=true:=by rw[L];rfl
     go_wp2_with fail;refine aG (v:=aN #[xQ Hd.b,false]) (by simp[results,results267,go_sem,p,q,r,s,t];rfl) rfl ⟨by rw[k.o];rfl,y.o 0 _ _ _ _ _⟩
    ·have y0:=qV L;rcases jU (gv a)with⟨M,_⟩|⟨M,_⟩
     ·have k:Y (qG h=O):=aj (by rw[v.o,M];simp);have z0:(gv a).toList.isEmpty=true:=by rw[M];rfl
      go_wp2_with fail;refine aG (v:=aN #[xQ Hd.b,false]) (by simp[results,results267,go_sem,p,q,r,s,t];rfl) rfl ⟨by rw[k.o];rfl,y.o 0 _ _ _ _ _⟩
     ·have k:Y (qG h=R ⟨gv d,gv e,gv i,gv a,0⟩):=aj (by rw[v.o,K,L,M];rfl);have z0:=qV M;go_wp2_with fail;refine aG (v:=aN #[xQ ⟨gv d,gv e,gv i,gv a,0⟩,true]) (by simp[results,results267,go_sem,p,q,r,s,t];rfl) rfl ⟨by rw[k.o];rfl,y.o 0 _ _ _ _ _⟩
def tQ {i:List (List UInt8)} {P:ByteArray→Prop} (n:P E0):∀(h:List Fd) (c:Vs) (a:Bool) (g:Vs),(∀j∈h,P j.v)→(∀d∈c,P (gv d))→nO i h c a=R g→∀d∈g,P (gv d)
 |[],c,a,g,_,e,b=>by injection b with b;subst b;exact e
 |j::h,c,a,g,k,e,b=>by
  unfold nO at b
  split at b
  ·split at b
   ·cases b
   ·split at b
    ·cases b
    ·rename_i f a
     refine tQ n h f false g (fun l m=>k l (by simp[m])) ?_ b
     clear b
     revert a e
     induction i generalizing c f with
     |nil=>intro e a;simp[oI]at a
     |cons f i o=>
      intro e a
      cases c with
      |nil=>simp[oI]at a
      |cons f c=>
       rw[oI]at a
       split at a
       ·injection a with a
        subst a
        intro d f
        rcases bA.1 f with rfl|f
        ·exact k j Y1
        ·exact e d (by simp[f])
       ·cases hq:oI i c j with
        |none=>rw[hq]at a;cases a
        |some i=>
         rw[hq]at a
         injection a with a
         subst a
         intro d f
         rcases bA.1 f with rfl|f
         ·exact e d Y1
         ·exact o c i (fun d f=>e d (by simp[f])) hq d f
  ·exact tQ n h c true g (fun l m=>k l (by simp[m])) e b
set_option maxRecDepth 100000 in
def CO (E:Option aX) (l L:Nat) (d:List Fd) (c:aB) (M:d.length=l) (hm:l≤100000) (N:bU c E (dx d)) (hF:∀w∈d,w.n.size≤1000000∧w.v.size≤1000000):
  aF au 268 #[Z E l L] c (CK (uE d) c):=by
 obtain⟨a,x⟩:=exq c.heap.size;obtain⟨y,z⟩:=exq ((c.alloc (.cells #[aA {data:=#[]},aA {data:=#[]},aA {data:=#[]},aA {data:=#[]},J U 0] 344)).alloc (.cells #[aA {data:=#[58,115,116,97,116,117,115]}] 9));have F:Y (aJ c c y):=aj (by rw[←z];exact((ay _ c).alloc (aD _) _).alloc (by simp) _);have P:Y (bH y a 344 (Yq Hd.b)):=aj (by rw[←z,←x];exact(bH.d c _ _).h _);have Q:bU y (R ⟨a+1,0,O⟩) (Yp [Yf]):=by rw[←z,←x];have:=EX (c.alloc (.cells #[aA {data:=#[]},aA {data:=#[]},aA {data:=#[]},aA {data:=#[]},J U 0] 344)) [Yf];rw[show(c.alloc (.cells #[aA {data:=#[]},aA {data:=#[]},aA {data:=#[]},aA {data:=#[]},J U 0] 344)).heap.size=c.heap.size+1 from by simp]at this;exact this
 have HV:=aj x;have G:=aj (zx E l L d (a+1) 1 [Yf] y M hm (N.a F.o) rfl (by omega) Q);have b0:Y (∀A,nO [Yf] d [O] false=R A→∀S∈A,(gv S).size≤1000000):=aj fun A c0=>tQ (P:=fun T=>T.size≤1000000) (by decide) d _ _ _ (fun w hf=>(hF w hf).2) (fun S V=>by simp at V;subst V;decide) c0;clear M N Q hF;obtain⟨n0,H⟩:=exq (nO [Yf] d (List.replicate 1 O) false);rw[H]at G;have I:=aj H;clear H;go_enter func268,ntmps268;go_wp2_with fail;refine G.o.mono ?_;clear z x G;have r:∀d0,c.heap.size≤(⟨a,d0,O⟩:aX).block:=fun _=>by rw[←HV.o];exact aD _
 have s:Y (∀(h:aB) (x0 x1 x2 x3 x4:aI),aJ c c h→aJ c c (((((h.setCell ⟨a,0,O⟩ x0).setCell ⟨a,1,O⟩ x1).setCell ⟨a,2,O⟩ x2).setCell ⟨a,3,O⟩ x3).setCell ⟨a,4,O⟩ x4)):=aj fun h _ _ _ _ _ i=>((((i.setCell (r 0) _).setCell (r 1) _).setCell (r 2) _).setCell (r 3) _).setCell (r 4) _
 clear r;rintro e0 e (⟨t,rfl,i⟩|⟨A,f0,T,t,W,rfl,X,h0,i⟩)
 ·have B:=aj (bG F.o i);have b:=aj (P.o.b i);have j:Y (uE d=O):=aj (by unfold uE;rw[show nO [Yf] d [O] false=O from I.o.trans t]);clear i t;have m:e.cell? ⟨a,0,O⟩=R (aA {data:=#[]}):=b.o.a 0;have n:e.cell? ⟨a,1,O⟩=R (aA {data:=#[]}):=b.o.a 1;have o:e.cell? ⟨a,2,O⟩=R (aA {data:=#[]}):=b.o.a 2;have p:e.cell? ⟨a,3,O⟩=R (aA {data:=#[]}):=b.o.a 3;have q:e.cell? ⟨a,4,O⟩=R (J U 0):=b.o.a 4;have g0:=b.o.c 0;have g1:=b.o.c 1;have g2:=b.o.c 2;have g3:=b.o.c 3;have g4:=b.o.c 4;go_wp2_with fail;exact aG (v:=aN #[xQ Hd.b,false]) (by simp[results,results268,go_sem,m,n,o,p,q];rfl) rfl ⟨by rw[j.o];rfl,s.o _ _ _ _ _ _ B.o⟩
 ·obtain⟨f,rfl⟩:=ZE W;have B:=aj (bG F.o i);have b:=aj (P.o.b i);have i0:=aj X;have j0:=b0.o _ (I.o.trans t) f (by simp);have j:Y (uE d=if(gv f).size=3 then(match uD (gv f) 999 with
   |some l=>if l<100∨l=101 then O else R {Hd.b with t:=l}
   |none=>O)else O):=aj (by unfold uE;rw[show nO [Yf] d [O] false=R [f]from I.o.trans t];rfl)
  clear i t X h0 W;have k0:e.cell? ⟨f0,0,O⟩=R (aA (gv f)):=i0.o.a 0;have a0:=fun c=>aj (KH (gv f) 999 c j0 (by omega) (by omega));by_cases u:(gv f).size=3
  ·have l0:(((gv f).size:Int) !=3)=false:=by rw[u];rfl
   rw[aP u]at j;clear u;obtain⟨m0,hr⟩:=exq (uD (gv f) 999);rw[hr]at j a0;clear hr;go_wp2_with fail;refine(a0 _).o.mono ?_;rintro e0 h ⟨rfl,K⟩;have C:=aj (bG B.o K);have g:=aj (b.o.b K);clear K k0;have m:h.cell? ⟨a,0,O⟩=R (aA {data:=#[]}):=g.o.a 0;have n:h.cell? ⟨a,1,O⟩=R (aA {data:=#[]}):=g.o.a 1;have o:h.cell? ⟨a,2,O⟩=R (aA {data:=#[]}):=g.o.a 2;have p:h.cell? ⟨a,3,O⟩=R (aA {data:=#[]}):=g.o.a 3;have q:h.cell? ⟨a,4,O⟩=R (J U 0):=g.o.a 4;have g0:=g.o.c 0;have g1:=g.o.c 1;have g2:=g.o.c 2;have g3:=g.o.c 3;have g4:=g.o.c 4;cases m0 with
   |none=>have k:Y (uE d=O):=aj j.o;go_wp2_with fail;exact aG (v:=aN #[xQ Hd.b,false]) (by simp[results,results268,go_sem,m,n,o,p,q];rfl) rfl ⟨by rw[k.o];rfl,s.o _ _ _ _ _ _ C.o⟩
   |some v=>
    by_cases h1:v<100
    ·have k:Y (uE d=O):=aj (by rw[j.o];simp only;rw[aP (.inl h1)]);go_wp2_with fail;exact aG (v:=aN #[xQ Hd.b,false]) (by simp[results,results268,go_sem,m,n,o,p,q];rfl) rfl ⟨by rw[k.o];rfl,s.o _ _ _ _ _ _ C.o⟩
    ·by_cases D:v=101
     ·have k:Y (uE d=O):=aj (by rw[j.o];simp only;rw[aP (.inr D)]);subst D;go_wp2_with fail;exact aG (v:=aN #[xQ Hd.b,false]) (by simp[results,results268,go_sem,m,n,o,p,q];rfl) rfl ⟨by rw[k.o];rfl,s.o _ _ _ _ _ _ C.o⟩
     ·have k:Y (uE d=R {Hd.b with t:=v}):=aj (by rw[j.o];simp only;rw[aL (by omega)]);have o0:(v==101)=false:=by rw[aM];exact D
      clear D;go_wp2_with fail;exact aG (v:=aN #[xQ {Hd.b with t:=v},aO true]) (by simp[results,results268,go_sem,m,n,o,p,q];rfl) rfl ⟨by rw[k.o];rfl,s.o _ _ _ _ _ _ C.o⟩
  ·have l0:(((gv f).size:Int) !=3)=true:=by rw[bne_iff_ne];omega
   have k:Y (uE d=O):=aj (by rw[j.o,aL u]);have m:e.cell? ⟨a,0,O⟩=R (aA {data:=#[]}):=b.o.a 0;have n:e.cell? ⟨a,1,O⟩=R (aA {data:=#[]}):=b.o.a 1;have o:e.cell? ⟨a,2,O⟩=R (aA {data:=#[]}):=b.o.a 2;have p:e.cell? ⟨a,3,O⟩=R (aA {data:=#[]}):=b.o.a 3;have q:e.cell? ⟨a,4,O⟩=R (J U 0):=b.o.a 4;have g0:=b.o.c 0;have g1:=b.o.c 1;have g2:=b.o.c 2;have g3:=b.o.c 3;have g4:=b.o.c 4;clear u;go_wp2_with fail;exact aG (v:=aN #[xQ Hd.b,false]) (by simp[results,results268,go_sem,m,n,o,p,q];rfl) rfl ⟨by rw[k.o];rfl,s.o _ _ _ _ _ _ B.o⟩
def EZ (a:ByteArray) (b:aB):aF au 232 #[aA a] b fun c d=>c=av (aO (DR a.toList))∧b=d:=by
 unfold DR GET HEA;cases h1:(a.toList==[71,69,84])
 ·go_enter func232,ntmps232;go_wp2;go_ret;exact Y5
 ·go_enter func232,ntmps232;go_wp2;go_ret;exact Y5
set_option maxRecDepth 100000 in
def Nf (e:Int) (g:Option aX) (b j:Nat) (d:List Fd) (a:aB) (k:d.length=b) (n:b≤100000) (l:bU a g (dx d)) (hF:∀c∈d,c.n.size≤1000000∧c.v.size≤1000000):
  aF au 230 #[e,Z g b j] a (CK (oJ e d) a):=by
 obtain⟨c,h⟩:=exq a.heap.size;obtain⟨f,i⟩:=exq (a.alloc (.cells #[aA {data:=#[]},aA {data:=#[]},aA {data:=#[]},aA {data:=#[]},J U 0] 344));have m:Y (aJ a a f):=aj (by rw[←i];exact(ay _ a).alloc (aD _) _);have o:Y (bH f c 344 (Yq Hd.b)):=aj (by rw[←i,←h];exact bH.d a _ _);have y:=aj (EY g b j d f k n (l.a m.o));have z:=aj (CO g b j d f k n (l.a m.o) hF);have A:=aj (ES g b j d f k n (l.a m.o));have b:=aj h;clear k l hF;have g:∀j,a.heap.size≤(⟨c,j,O⟩:aX).block:=fun _=>by rw[←b.o];exact aD _
 have p:Y (∀(b:aB) (j k l n q:aI),aJ f f b→aJ a a (((((b.setCell ⟨c,0,O⟩ j).setCell ⟨c,1,O⟩ k).setCell ⟨c,2,O⟩ l).setCell ⟨c,3,O⟩ n).setCell ⟨c,4,O⟩ q)):=aj fun b _ _ _ _ _ a=>(((((bG m.o a).setCell (g 0) _).setCell (g 1) _).setCell (g 2) _).setCell (g 3) _).setCell (g 4) _
 clear g;have q:Y (∀b:aB,aJ f f b→Y (bH b c 344 (Yq Hd.b))):=aj fun b a=>o.o.b a;by_cases r:e=0∨e=3
 ·have g:Y (oJ e d=qG d):=aj (by unfold oJ;rcases r with rfl|rfl<;>rfl);rcases r with rfl|rfl
  all_goals
   go_enter func230,ntmps230;go_wp2_with fail;refine y.o.mono ?_;clear i h;rintro s b ⟨rfl,f⟩;have a:=q.o _ f;have j:=aj f;clear f;have k:=a.o.H 0;have l:=a.o.H 1;have m:=a.o.H 2;have n:=a.o.H 3;have o:=a.o.H 4;have t:=a.o.c 0;have u:=a.o.c 1;have v:=a.o.c 2;have w:=a.o.c 3;have x:=a.o.c 4;unfold xQ;go_wp2_with fail;exact aG (v:=aN #[xQ ((qG d).getD Hd.b),aO (qG d).isSome]) (by simp[results,results230,go_sem,k,l,m,n,o];rfl) rfl ⟨by rw[g.o],p.o _ _ _ _ _ _ j.o⟩
 ·have y:(e==0)=false:=by rw[aM];omega
  have B:(e==3)=false:=by rw[aM];omega
  clear r;by_cases r:e=1
  ·have g:Y (oJ e d=uE d):=aj (by subst r;rfl);subst r;go_enter func230,ntmps230;go_wp2_with fail;refine z.o.mono ?_;clear i h;rintro s b ⟨rfl,f⟩;have a:=q.o _ f;have j:=aj f;clear f;have k:=a.o.H 0;have l:=a.o.H 1;have m:=a.o.H 2;have n:=a.o.H 3;have o:=a.o.H 4;have t:=a.o.c 0;have u:=a.o.c 1;have v:=a.o.c 2;have w:=a.o.c 3;have x:=a.o.c 4;unfold xQ;go_wp2_with fail;exact aG (v:=aN #[xQ ((uE d).getD Hd.b),aO (uE d).isSome]) (by simp[results,results230,go_sem,k,l,m,n,o];rfl) rfl ⟨by rw[g.o],p.o _ _ _ _ _ _ j.o⟩
  ·have z:(e==1)=false:=by rw[aM];omega
   have g:Y (oJ e d=OX d):=aj (by unfold oJ;rw[y,B,z];rfl);have e:Y (xQ ((OX d).getD Hd.b)=xQ Hd.b∧(OX d).isSome= !d.any gQ):=aj (by unfold OX;cases d.any gQ<;>exact Y5);clear r;go_enter func230,ntmps230;go_wp2_with fail;refine A.o.mono ?_;clear i h;rintro s b ⟨rfl,f⟩;have a:=q.o _ f;have j:=aj f;clear f;have k:=a.o.H 0;have l:=a.o.H 1;have m:=a.o.H 2;have n:=a.o.H 3;have o:=a.o.H 4;have t:=a.o.c 0;have u:=a.o.c 1;have v:=a.o.c 2;have w:=a.o.c 3;have x:=a.o.c 4;go_wp2_with fail;exact aG (v:=aN #[xQ Hd.b,aO (!d.any gQ)]) (by simp[results,results230,go_sem,k,l,m,n,o];rfl) rfl ⟨by rw[g.o,e.o.1,e.o.2],p.o _ _ _ _ _ _ j.o⟩
section
variable {w:aB} {g:Nat} {t:bB} {a b c d e f:aI}
def bH.m (h:bH w g t #[a,b]):w.cell? ⟨g,0,O⟩=R a∧w.cell? ⟨g,1,O⟩=R b:=⟨h.a 0,h.a 1⟩
def bH.n (h:bH w g t #[a,b,c]):w.cell? ⟨g,0,O⟩=R a∧w.cell? ⟨g,1,O⟩=R b∧w.cell? ⟨g,2,O⟩=R c:=⟨h.a 0,h.a 1,h.a 2⟩
def bH.l (h:bH w g t #[a,b,c,d]):w.cell? ⟨g,0,O⟩=R a∧w.cell? ⟨g,1,O⟩=R b∧w.cell? ⟨g,2,O⟩=R c∧w.cell? ⟨g,3,O⟩=R d:=⟨h.a 0,h.a 1,h.a 2,h.a 3⟩
def bH.k (h:bH w g t #[a,b,c,d,e]):w.cell? ⟨g,0,O⟩=R a∧w.cell? ⟨g,1,O⟩=R b∧w.cell? ⟨g,2,O⟩=R c∧w.cell? ⟨g,3,O⟩=R d∧w.cell? ⟨g,4,O⟩=R e:=⟨h.a 0,h.a 1,h.a 2,h.a 3,h.a 4⟩
def bH.j (h:bH w g t #[a,b,c,d,e,f]):w.cell? ⟨g,0,O⟩=R a∧w.cell? ⟨g,1,O⟩=R b∧w.cell? ⟨g,2,O⟩=R c∧w.cell? ⟨g,3,O⟩=R d∧w.cell? ⟨g,4,O⟩=R e∧w.cell? ⟨g,5,O⟩=R f:=⟨h.a 0,h.a 1,h.a 2,h.a 3,h.a 4,h.a 5⟩
def dM {h:Nat} {a w:aB} (k:aJ h a w) {g i:Nat} (l:h≤g) (j:aI):aJ h a (w.setCell ⟨g,i,O⟩ j):=k.setCell (p:=⟨g,i,O⟩) l j
end
def Bz {i:Type} {h:Option i} {d j:i} {i:Bool} (l:h.getD d=j) (k:h.isSome=i):h=if i then R j else O:=by
 cases h with
 |none=>subst k;rfl
 |some h=>subst k l;rfl
def qW (h:Ms):Array aI:=#[aA h.m,h.t,h.n,h.b]
def uV (h:Ms):aI:=aS #[aA h.m,h.t,h.n,h.b]
def VT (h:Ms×Int) (w:aB) (e:Ending) (i:aB):Prop:=e=av (aN #[uV h.1,h.2])∧aJ w w i
set_option maxRecDepth 100000 in
def rT (j:Int) (s:Option aX) (r c:Nat) (i:List Fd) (w:aB) (h:i.length=r) (C:r≤100000) (p:bU w s (dx i)) (hF:∀f∈i,f.n.size≤1000000∧f.v.size≤1000000):
  aF au 198 #[j,Z s r c] w (VT (gD j i) w):=by
 obtain⟨o,q⟩:=exq w.heap.size;obtain⟨l,n⟩:=exq (w.alloc (.cells #[aA {data:=#[]},J U 0,J U 0,false] 314));have u:Y (aJ w w l):=aj (by rw[←n];exact(ay _ w).alloc (aD _) _);have y:Y (bH l o 314 (qW Ms.a)):=aj (by rw[←n,←q];exact bH.d w _ _);have D:=aj (fun x (k:aJ w w x)=>p.a k);have K:=aj h;have L:=aj hF;have m:Y (w.heap.size≤o):=aj Y0;have v:=aj (VP s r c i l h C (D.o _ u.o) hF);clear h p hF;have p:Y (∀h:aB,aJ l l h→Y (bH h o 314 (qW Ms.a))∧Y (aJ w w h)):=aj fun h k=>⟨y.o.b k,bG u.o k⟩;have u:Y (∀(h:aB) (M N l y:aI),aJ w w h→aJ w w ((((h.setCell ⟨o,0,O⟩ M).setCell ⟨o,1,O⟩ N).setCell ⟨o,2,O⟩ l).setCell ⟨o,3,O⟩ y)):=aj fun h _ _ _ _ k=>dM (dM (dM (dM k m.o _) m.o _) m.o _) m.o _
 go_enter func198,ntmps198;go_wp2_with fail;refine v.o.mono ?_;clear n q v;rintro e A ⟨rfl,k⟩;obtain⟨h,E⟩:=p.o _ k;clear k p;obtain⟨k,l,m,n⟩:=bH.l h.o;have y:=h.o.c;obtain⟨z,q⟩:=exq (xK i 0);by_cases v:z=0
 ·have F:Y (xK i 0=0):=aj (by rw[q,v]);rw[q,v];clear q v;have p:=aj (Nf j s r c i A K.o C (D.o _ E.o) L.o);go_wp2_with fail;refine p.o.mono ?_;clear k l m n y p;rintro e H ⟨rfl,p⟩;have I:=aj (bG E.o p);have S:=aj (h.o.b p);clear p;obtain⟨h,p⟩:=exq ((oJ j i).getD Hd.b);obtain⟨T,A⟩:=exq ((oJ j i).isSome);have G:=aj (Bz p A);rw[p,A];clear p A;obtain⟨P,Q⟩:=exq H.heap.size;obtain⟨A,B⟩:=exq (H.alloc (.cells #[aA h.m,aA h.s,aA h.a,aA h.p,h.t] 344));have H:Y (aJ w w A):=aj (by rw[←B];exact I.o.alloc I.o.size _);have I:Y (bH A o 314 (qW Ms.a)):=aj (by rw[←B];exact S.o.h _);have S:Y (bH A P 344 (Yq h)):=aj (by rw[←B,←Q];exact bH.d _ _ _);unfold xQ;obtain⟨k,l,m,n⟩:=bH.l I.o;obtain⟨u0,u1,u2,u3,u4⟩:=bH.k S.o;have y:=I.o.c;cases T with
  |false=>have p:Y (gD j i=(.a,30)):=aj (by unfold gD;rw[aL (by rw[F.o];simp),G.o];rfl);go_wp2_with fail;exact aG (v:=aN #[uV Ms.a,J U 30]) (by simp[results,results198,go_sem,k,l,m,n];rfl) rfl ⟨by rw[p.o],u.o _ _ _ _ _ H.o⟩
  |true=>
   have T:=aj (VQ s r c i A K.o C (D.o _ H.o) L.o);go_wp2_with fail;refine T.o.mono ?_;clear B Q T k l m n u0 u1 u2 u3 u4 y;rintro e C ⟨rfl,r⟩;have D:=aj (bG H.o r);have K:=aj (I.o.b r);have I:=aj (S.o.b r);clear r;obtain⟨A,r⟩:=exq ((qo i (0,false)).getD (0,false));obtain⟨L,s⟩:=exq ((qo i (0,false)).isSome);have H:=aj (Bz r s);rw[r,s];clear r s;obtain⟨r,s⟩:=A;dsimp only at*;obtain⟨Q,S⟩:=exq C.heap.size;obtain⟨A,B⟩:=exq (C.alloc (.cells #[r,s] 312));have C:Y (aJ w w A):=aj (by rw[←B];exact D.o.alloc D.o.size _);have D:Y (bH A o 314 (qW Ms.a)):=aj (by rw[←B];exact K.o.h _);have o:Y (bH A P 344 (Yq h)):=aj (by rw[←B];exact I.o.h _);have I:Y (bH A Q 312 #[r,s]):=aj (by rw[←B,←S];exact bH.d _ _ _);obtain⟨k,l,m,n⟩:=bH.l D.o;obtain⟨u0,u1,u2,u3,u4⟩:=bH.k o.o;obtain⟨M,N⟩:=bH.m I.o;have y:=D.o.c;cases L with
   |false=>have p:Y (gD j i=(.a,31)):=aj (by unfold gD;rw[aL (by rw[F.o];simp),G.o,H.o];rfl);go_wp2_with fail;exact aG (v:=aN #[uV Ms.a,J U 31]) (by simp[results,results198,go_sem,k,l,m,n];rfl) rfl ⟨by rw[p.o],u.o _ _ _ _ _ C.o⟩
   |true=>
    have p:Y (gD j i=if j=3∧DR h.m.toList=false then(.a,34)else(⟨h.m,h.t,r,s⟩,0)):=aj (by unfold gD;rw[aL (by rw[F.o];simp),G.o,H.o];rfl);by_cases y:j=3
    ·subst y;cases hsf:DR h.m.toList with
     |false=>have o:Y (gD 3 i=(.a,34)):=aj (by rw[p.o,aP ⟨rfl,hsf⟩]);have A:=fun w=>aj (show aF au 232 #[aA h.m] w fun e x=>e=av false∧w=x from by rw[←hsf];exact EZ h.m w);clear hsf;go_wp2_with (go_at_call 232;refine(A _).o.mono ?_;rintro e B ⟨rfl,rfl⟩);exact aG (v:=aN #[uV Ms.a,J U 34]) (by simp[results,results198,go_sem,k,l,m,n];rfl) rfl ⟨by rw[o.o],u.o _ _ _ _ _ C.o⟩
     |true=>have o:Y (gD 3 i=(⟨h.m,h.t,r,s⟩,0)):=aj (by rw[p.o,aL (by rw[hsf];simp)]);have A:=fun w=>aj (show aF au 232 #[aA h.m] w fun e x=>e=av true∧w=x from by rw[←hsf];exact EZ h.m w);clear hsf;go_wp2_with (go_at_call 232;refine(A _).o.mono ?_;rintro e B ⟨rfl,rfl⟩);exact aG (v:=aN #[uV ⟨h.m,h.t,r,s⟩,J U 0]) (by simp[results,results198,go_sem,k,l,m,n];rfl) rfl ⟨by rw[o.o],u.o _ _ _ _ _ C.o⟩
    ·have x:(j==3)=false:=by rw[aM];exact y
     have o:Y (gD j i=(⟨h.m,h.t,r,s⟩,0)):=aj (by rw[p.o,aL (fun x=>y x.1)]);clear y;go_wp2_with fail;exact aG (v:=aN #[uV ⟨h.m,h.t,r,s⟩,J U 0]) (by simp[results,results198,go_sem,k,l,m,n];rfl) rfl ⟨by rw[o.o],u.o _ _ _ _ _ C.o⟩
 ·have p:Y (gD j i=(.a,z)):=aj (by unfold gD;rw[aP (by rw[q];exact v),q]);have h:(z !=0)=true:=by rw[bne_iff_ne];exact v
  rw[q];clear q v;go_wp2_with fail;exact aG (v:=aN #[uV Ms.a,z]) (by simp[results,results198,go_sem,k,l,m,n];rfl) rfl ⟨by rw[p.o],u.o _ _ _ _ _ E.o⟩
def rU (a:Ta):Array aI:=a
def lS (a:Ta):aI:=aS a
def QU (b:Ta) (a:aB):aF au 271 #[aS b] a fun c d=>c=av b.j∧aJ a a d:=by
 have c:=aj ((ay a.heap.size a).alloc (aD _) (.cells (rU b) 208));obtain⟨a,d,e,f,g⟩:=b;unfold rU at c;dsimp only at c⊢;unfold Ta.j;dsimp only;cases a;all_goals
  go_enter func271,ntmps271;go_wp2;go_ret;exact⟨rfl,c.o⟩
def fT {w:aB} (a b:Obj):aJ w w ((w.alloc a).alloc b):=((ay _ w).alloc (aD _) _).alloc (by simp) _
def IV (c:Ta) (a:Ms) (d:aB):aF au 304 #[aS c,aS #[aA a.m,a.t,a.n,a.b]] d fun b e=>b=av (aO (c.k a))∧aJ d d e:=by
 have b:=aj (fT (w:=d) (.cells (rU c) 208) (.cells (qW a) 314));obtain⟨d,e,f,g,h⟩:=c;obtain⟨c,f,g,h⟩:=a;unfold rU qW at b;dsimp only at b⊢;unfold Ta.k Vf;dsimp only;cases d
 ·go_enter func304,ntmps304;go_wp2;go_ret;exact⟨rfl,b.o⟩
 ·cases h1:(e.toList==[67,79,78,78,69,67,84])
  ·go_enter func304,ntmps304;go_wp2;go_ret;exact⟨rfl,b.o⟩
  ·go_enter func304,ntmps304;go_wp2;go_ret;exact⟨rfl,b.o⟩
def Ng (c:Ta) (a:Ms) (d:aB):aF au 303 #[aS c,aS #[aA a.m,a.t,a.n,a.b]] d fun b e=>b=av (aO (c.n a))∧aJ d d e:=by
 have b:=aj (fT (w:=d) (.cells (rU c) 208) (.cells (qW a) 314));obtain⟨d,e,f,g,h⟩:=c;obtain⟨f,c,g,h⟩:=a;unfold rU qW at b;dsimp only at b⊢;unfold Ta.n HEA;dsimp only;cases d
 ·go_enter func303,ntmps303;go_wp2;go_ret;exact⟨rfl,b.o⟩
 ·cases h1:(e.toList==[72,69,65,68])
  ·cases h2:(c==204);all_goals
    go_enter func303,ntmps303;go_wp2;go_ret;exact⟨rfl,b.o⟩
  ·go_enter func303,ntmps303;go_wp2;go_ret;exact⟨rfl,b.o⟩
def CP (b:Ta) (a:aB) (c:Ending) (d:aB):Prop:=c=av (lS b)∧aJ a a d
def QV (a:Ta×Int) (b:aB) (c:Ending) (d:aB):Prop:=c=av (aN #[lS a.1,a.2])∧aJ b b d
def qX {w:aB} (a b c:Obj):aJ w w (((w.alloc a).alloc b).alloc c):=(((ay _ w).alloc (aD _) _).alloc (by simp) _).alloc (by simp;omega) _
def zy (e:Ta) (a:aB):aF au 191 #[aS e] a (QV e.c a):=by
 obtain⟨b,c,g,d,a⟩:=e;dsimp only;by_cases f:d=2
 ·subst f;by_cases i:a>0
  ·have e:Y ((⟨b,c,g,2,a⟩:Ta).c=(.b,31)):=aj (by unfold Ta.c;rw[aP ⟨rfl,i⟩]);go_enter func191,ntmps191;go_wp2_with fail;exact aG (v:=aN #[lS .b,J U 31]) (by simp[results,results191,go_sem];rfl) rfl ⟨by rw[e.o],fT _ _⟩
  ·have e:Y ((⟨b,c,g,2,a⟩:Ta).c=(⟨b,c,2,2,a⟩,0)):=aj (by unfold Ta.c;rw[aL (fun h=>i h.2)]);go_enter func191,ntmps191;go_wp2_with fail;exact aG (v:=aN #[lS ⟨b,c,2,2,a⟩,J U 0]) (by simp[results,results191,go_sem];rfl) rfl ⟨by rw[e.o],fT _ _⟩
 ·have i:(d==2)=false:=by rw[aM];exact f
  have e:Y ((⟨b,c,g,d,a⟩:Ta).c=(⟨b,c,2,d,a⟩,0)):=aj (by unfold Ta.c;rw[aL (fun h=>f h.1)]);clear f;go_enter func191,ntmps191;go_wp2_with fail;exact aG (v:=aN #[lS ⟨b,c,2,d,a⟩,J U 0]) (by simp[results,results191,go_sem];rfl) rfl ⟨by rw[e.o],fT _ _⟩
def QW (a:aB):aF au 233 #[] a (CP .b a):=by go_enter func233,ntmps233;go_wp2_with fail;exact aG (v:=lS .b) (by simp[results,results233,go_sem];rfl) rfl ⟨rfl,(ay _ a).alloc (aD _) _⟩
def xk (a:ByteArray) (b:aB):aF au 199 #[aA a] b (CP (.i a) b):=by go_enter func199,ntmps199;go_wp2_with fail;exact aG (v:=lS (.i a)) (by simp[results,results199,go_sem];rfl) rfl ⟨rfl,(ay _ b).alloc (aD _) _⟩
def Fa (e:Ta) (d:Int) (i:Bool) (g:aB) (G:d≤9223372036854775807) (A:0≤d) (H:0≤e.l) (I:e.l≤9223372036854775807):aF au 145 #[aS e,d,i] g (QV (e.f d i) g):=by
 have y:=fun e g=>aj (zy e g)
 have j:Y (e.f d i=if e.p≠1∨e.d=1∧d>0 then(.b,32)else if e.d=2∧d>e.l then(.b,31)else if i then(if e.d=2 then{e with l:=e.l-d}else e).c else(if e.d=2 then{e with l:=e.l-d}else e,0)):=aj (by unfold Ta.f;simp only[Int.max_eq_left A])
 obtain⟨b,c,z,h,a⟩:=e
 dsimp only at*
 have K:max d 0=d:=Int.max_eq_left A
 by_cases w:z=1
 ·subst w
  by_cases B:h=1
  ·subst B
   by_cases D:d>0
   ·have f:Y ((⟨b,c,1,1,a⟩:Ta).f d i=(.b,32)):=aj (by rw[j.o,aP (.inr ⟨rfl,D⟩)])
    go_enter func145,ntmps145
    go_wp2_with fail
    exact aG (v:=aN #[lS .b,J U 32]) (by simp[results,results145,go_sem];rfl) rfl ⟨by rw[f.o],fT _ _⟩
   ·have E:d=0:=by omega
    subst E
    cases i
    ·have f:Y ((⟨b,c,1,1,a⟩:Ta).f 0 false=(⟨b,c,1,1,a⟩,0)):=aj (by rw[j.o,aL (by omega),aL (by omega),aL (by decide)];rfl)
     go_enter func145,ntmps145
     go_wp2_with fail
     exact aG (v:=aN #[lS ⟨b,c,1,1,a⟩,J U 0]) (by simp[results,results145,go_sem];rfl) rfl ⟨by rw[f.o],fT _ _⟩
    ·have f:Y ((⟨b,c,1,1,a⟩:Ta).f 0 true=(⟨b,c,1,1,a⟩:Ta).c):=aj (by rw[j.o,aL (by omega),aL (by omega),aP rfl];rfl)
     have l:=aj (y ⟨b,c,1,1,a⟩ (((g.alloc (.cells (rU ⟨b,c,1,1,a⟩) 208)).alloc (.cells (rU .b) 208))))
     obtain⟨m,n⟩:=exq ((⟨b,c,1,1,a⟩:Ta).c)
     rw[n]at f l
     clear n j
     go_enter func145,ntmps145
     go_wp2_with fail
     refine l.o.o.mono ?_
     rintro i p ⟨rfl,k⟩
     have q:=aj (bG (fT (w:=g) _ _) k)
     have o:Y (bH p (g.heap.size+1) 208 (rU .b)):=aj (bH.b (by have:=bH.d (g.alloc (.cells (rU ⟨b,c,1,1,a⟩) 208)) 208 (rU .b);simpa using this) k)
     clear k
     obtain⟨r,s,t,u,v⟩:=bH.k o.o
     have C:=o.o.c
     unfold lS
     go_wp2_with fail
     exact aG (v:=aN #[lS m.1,m.2]) (by simp[results,results145,go_sem,r,s,t,u,v];rfl) rfl ⟨by rw[f.o],dM (dM (dM (dM (dM q.o (by simp) _) (by simp) _) (by simp) _) (by simp) _) (by simp) _⟩
  ·have L:(h==1)=false:=by rw[aM];exact B
   by_cases x:h=2
   ·subst x
    by_cases F:d>a
    ·have f:Y ((⟨b,c,1,2,a⟩:Ta).f d i=(.b,31)):=aj (by rw[j.o,aL (by omega),aP ⟨rfl,F⟩])
     go_enter func145,ntmps145
     go_wp2_with fail
     exact aG (v:=aN #[lS .b,J U 31]) (by simp[results,results145,go_sem];rfl) rfl ⟨by rw[f.o],fT _ _⟩
    ·have M:d≤a:=by omega
     cases i
     ·have f:Y ((⟨b,c,1,2,a⟩:Ta).f d false=(⟨b,c,1,2,a-d⟩,0)):=aj (by rw[j.o,aL (by omega),aL (by omega),aL (by decide)];rfl)
      go_enter func145,ntmps145
      go_wp2_with fail
      exact aG (v:=aN #[lS ⟨b,c,1,2,a-d⟩,J U 0]) (by simp[results,results145,go_sem];rfl) rfl ⟨by rw[f.o],fT _ _⟩
     ·have f:Y ((⟨b,c,1,2,a⟩:Ta).f d true=(⟨b,c,1,2,a-d⟩:Ta).c):=aj (by rw[j.o,aL (by omega),aL (by omega),aP rfl];rfl)
      have l:=aj (y ⟨b,c,1,2,a-d⟩ (((g.alloc (.cells (rU ⟨b,c,1,2,a-d⟩) 208)).alloc (.cells (rU .b) 208))))
      obtain⟨m,n⟩:=exq ((⟨b,c,1,2,a-d⟩:Ta).c)
      rw[n]at f l
      clear n j
      go_enter func145,ntmps145
      go_wp2_with fail
      refine l.o.o.mono ?_
      rintro i p ⟨rfl,k⟩
      have q:=aj (bG (fT (w:=g) _ _) k)
      have o:Y (bH p (g.heap.size+1) 208 (rU .b)):=aj (bH.b (by have:=bH.d (g.alloc (.cells (rU ⟨b,c,1,2,a-d⟩) 208)) 208 (rU .b);simpa using this) k)
      clear k
      obtain⟨r,s,t,u,v⟩:=bH.k o.o
      have C:=o.o.c
      unfold lS
      go_wp2_with fail
      exact aG (v:=aN #[lS m.1,m.2]) (by simp[results,results145,go_sem,r,s,t,u,v];rfl) rfl ⟨by rw[f.o],dM (dM (dM (dM (dM q.o (by simp) _) (by simp) _) (by simp) _) (by simp) _) (by simp) _⟩
   ·have N:(h==2)=false:=by rw[aM];exact x
    cases i
    ·have f:Y ((⟨b,c,1,h,a⟩:Ta).f d false=(⟨b,c,1,h,a⟩,0)):=aj (by rw[j.o,aL (by omega),aL (by omega),aL (by decide)];rw[aL x])
     go_enter func145,ntmps145
     go_wp2_with fail
     exact aG (v:=aN #[lS ⟨b,c,1,h,a⟩,J U 0]) (by simp[results,results145,go_sem];rfl) rfl ⟨by rw[f.o],fT _ _⟩
    ·have f:Y ((⟨b,c,1,h,a⟩:Ta).f d true=(⟨b,c,1,h,a⟩:Ta).c):=aj (by rw[j.o,aL (by omega),aL (by omega),aP rfl];rw[aL x])
     have l:=aj (y ⟨b,c,1,h,a⟩ (((g.alloc (.cells (rU ⟨b,c,1,h,a⟩) 208)).alloc (.cells (rU .b) 208))))
     obtain⟨m,n⟩:=exq ((⟨b,c,1,h,a⟩:Ta).c)
     rw[n]at f l
     clear n j
     go_enter func145,ntmps145
     go_wp2_with fail
     refine l.o.o.mono ?_
     rintro i p ⟨rfl,k⟩
     have q:=aj (bG (fT (w:=g) _ _) k)
     have o:Y (bH p (g.heap.size+1) 208 (rU .b)):=aj (bH.b (by have:=bH.d (g.alloc (.cells (rU ⟨b,c,1,h,a⟩) 208)) 208 (rU .b);simpa using this) k)
     clear k
     obtain⟨r,s,t,u,v⟩:=bH.k o.o
     have C:=o.o.c
     unfold lS
     go_wp2_with fail
     exact aG (v:=aN #[lS m.1,m.2]) (by simp[results,results145,go_sem,r,s,t,u,v];rfl) rfl ⟨by rw[f.o],dM (dM (dM (dM (dM q.o (by simp) _) (by simp) _) (by simp) _) (by simp) _) (by simp) _⟩
 ·have P:(z !=1)=true:=by rw[bne_iff_ne];exact w
  have f:Y ((⟨b,c,z,h,a⟩:Ta).f d i=(.b,32)):=aj (by rw[j.o,aP (.inl w)])
  clear w
  go_enter func145,ntmps145
  go_wp2_with fail
  exact aG (v:=aN #[lS .b,J U 32]) (by simp[results,results145,go_sem];rfl) rfl ⟨by rw[f.o],fT _ _⟩
end Go.Proofs.YtdcacpeaimjdlaaGreatDoor
