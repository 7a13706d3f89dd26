/- Part of the proof. -/
import Derived.Test.YtdcacpeaimjdlaaGreatDoorPae
import Derived.Laws.BitsAllLaws
import Derived.Laws.BitsLemmas
import Derived.Lib.BufferMore
import Derived.ScopeJumps
namespace Go.Proofs.YtdcacpeaimjdlaaGreatDoor
open Go.RowKit Go.Maps Go.Proofs.Tryz Mq
open Go.Value renaming int→J,slice→Z,string→aA,pointer→aK,bool→aO,tuple→aN,agg→aS,complex→aH
open Go.IntKind renaming i64→U
open Option renaming none→O,some→R
open Go.Ending renaming returned→av
open Go renaming World→aB,Value→aI,Calls→aF,Addr→aX,TypeId→bB,undef→bq
open Go.RowKit renaming Below→aJ
open Go.Proofs.Tryz renaming prog→au
open Go.FloatKind renaming f64→aW
set_option maxRecDepth 20000
set_option maxHeartbeats 0
set_option linter.all false
structure Fr where
 a:Int
 d:Int
 b:Int
 f:Int
 c:List Int
 i:List (Int×Int)
 k:Int
 l:Int
 m:Bool
 e:Int
 h:Int
 j:Int
 g:Int
inductive MFr
|qf(f:Fr)(D:Option Addr)(n:Nat)(c:Nat)(S:Option Addr)(m:Nat)(d:Nat)
|qg(M:Int)(f:Fr)(D:Option Addr)(n:Nat)(c:Nat)(S:Option Addr)(m:Nat)(d:Nat)(A:Option Addr)(k:Nat)(h:Nat)(o:Bool)
open MFr
instance {f:Fr}{D:Option Addr}{n:Nat}{c:Nat}{S:Option Addr}{m:Nat}{d:Nat}:CoeDep MFr (qf f D n c S m d) (Array Value):=⟨#[f.a,f.d,f.b,f.f,.slice D n c,.slice S m d,f.k,f.l,f.m,f.e,f.h,f.j,f.g]⟩
instance {M:Int}{f:Fr}{D:Option Addr}{n:Nat}{c:Nat}{S:Option Addr}{m:Nat}{d:Nat}{A:Option Addr}{k:Nat}{h:Nat}{o:Bool}:CoeDep MFr (qg M f D n c S m d A k h o) (Array Value):=⟨#[M,o,f.a,f.d,f.b,f.f,.slice D n c,.slice S m d,f.k,f.l,f.m,f.e,f.h,f.j,f.g,.slice A k h]⟩
def Fr.o:Fr:=⟨0,0,0,0,[],[],0,0,false,0,0,0,0⟩
def mg (t:Int):Bool:=t==1||t==5||t==9
def qL:(Tryz.prog.info? 5).map (fun b=>(b.zero,b.size,b.bytes))=R (R (J .u8 0),1,1):=by kernel_rfl
def Kl:(Tryz.prog.info? 252).map (fun b=>(b.zero,b.size,b.bytes))=R (R (aS #[J U 0,J U 0]),2,16):=by kernel_rfl
def jy (b:List (Int×Int)):List aI:=b.flatMap fun b=>[J U b.1,J U b.2]
def AA (b:List (Int×Int)):(jy b).length=b.length*2:=by
 induction b with
 |nil=>rfl
 |cons d t b=>unfold jy at b⊢;rw[List.flatMap_cons,bL,b];simp;omega
def zbr {d:List (Int×Int)}:∀b∈jy d,b.oneCell'=true:=by intro b d;unfold jy at d;obtain⟨e,_,b⟩:=List.mem_flatMap.1 d;simp at b;rcases b with rfl|rfl<;>rfl
def dP (b:List Int):List aI:=b.map (J .u8)
def Vt {d:List Int}:∀b∈dP d,b.oneCell'=true:=by intro b d;obtain⟨b,_,rfl⟩:=dI.1 d;rfl
def gW (b:List Int):(dP b).length=b.length:=by unfold dP;simp
def tH (a b:List Int):dP (a++b)=dP a++dP b:=by unfold dP;simp
structure FS (w:aB) (K:Nat→Prop) (f:Fr) (D:Option aX) (dn dc:Nat) (S:Option aX) (sn sc:Nat):Prop where
 a:f.c.length=dn
 b:f.i.length=sn
 d:Sl w K D dn dc (dP f.c)
 s:Sl w K S sn sc (jy f.i)
section
variable {w w':aB} {K K':Nat→Prop} {f:Fr} {D S:Option aX} {dn dc sn sc:Nat}
def FS.h (b:FS w K f D dn dc S sn sc) (d:∀g,g<w.heap.size→K g→K' g):FS w K' f D dn dc S sn sc:=⟨b.a,b.b,b.d.d d,b.s.d d⟩
def FS.i (b:FS w K f D dn dc S sn sc) (d:aJ w w w'):FS w' K f D dn dc S sn sc:=⟨b.a,b.b,b.d.g d,b.s.g d⟩
def FS.j {F:List Nat} (b:FS w K f D dn dc S sn sc) (d:bg F w w') (hF:∀g,K g→g∉F):FS w' K f D dn dc S sn sc:=⟨b.a,b.b,b.d.a d hF,b.s.a d hF⟩
def FS.e (w:aB) (K:Nat→Prop):FS w K Fr.o O 0 0 O 0 0:=⟨rfl,rfl,Sl.i _ _,Sl.i _ _⟩
end
def PU {w:aB} (b:Nat) (d:bB) (e:Nat) (h:b≤w.heap.size):(w.alloc (.cells #[] d)).ownsRow b d e (Z (R ⟨w,0,O⟩) 0 0) 0 []:=
 ⟨Y1,.inr ⟨_,0,#[],rfl,h,heap_alloc_new w _,aD _,aZ _,Y1,Y1⟩⟩
def Ib {w w2:aB} {b:Obj} {c:Nat} (d:(w.alloc b).grownBy w2 (Z (R ⟨w,0,O⟩) 0 c).ownBlock):aJ w w w2:=
 ((ay _ _).alloc (aD _) _).grown d (by simp) (fun b d=>by
  have e:w.heap.size=b:=Option.some.inj d
  omega)
def Ic (t:Int):t=1∨t=5∨t=9∨((t==1)=false∧(t==5)=false∧(t==9)=false):=by simp only[aM,ne_eq];omega
def uL (f:Fr) (D S:Option aX) (dn dc sn sc:Nat) (w:aB):aF au 130 #[aS (qf f D dn dc S sn sc)] w fun b w'=>b=av (aO (mg f.a))∧aJ w w w':=by
 have d:=(ay w.heap.size w).alloc (aD _) (.cells (qf f D dn dc S sn sc) 137);have b:=aj d;clear d;generalize f.a=d at b⊢;rcases Ic d with rfl|rfl|rfl|⟨e,h,i⟩
 case inr.inr.inr=>have j:Y (mg d=false):=aj (by unfold mg;rw[e,h,i];rfl);go_enter func130,ntmps130;go_wp2;go_ret;exact⟨by rw[j.o];rfl,b.o⟩
 all_goals
  go_enter func130,ntmps130;go_wp2;go_ret;exact⟨rfl,b.o⟩
def kE (on:Bool) (d b e:Int):Bool:=if on then b==9&&e==d else b !=9
def kW (f:Fr) (D S:Option aX) (dn dc sn sc:Nat) (g:Nat) (on:Bool) (b:Int) (w:aB) (h:w.cell? ⟨g,1,O⟩=R (aO on)) (i:w.cell? ⟨g,4,O⟩=R (J U b)):
  aF au 57 #[qp g,aS (qf f D dn dc S sn sc)] w fun d w'=>d=av (aO (kE on b f.a f.b))∧aJ w w w':=by
 have d:=(ay w.heap.size w).alloc (aD _) (.cells (qf f D dn dc S sn sc) 137);obtain⟨e,k⟩:=exq (w.alloc (.cells (qf f D dn dc S sn sc) 137));rw[k]at d;have j:=aj d;have l:e.cell? ⟨g,1,O⟩=R (aO on):=(d.cell (p:=⟨g,1,O⟩) (bf _ _ h)).trans h;have l:e.cell? ⟨g,4,O⟩=R (J U b):=(d.cell (p:=⟨g,4,O⟩) (bf _ _ i)).trans i;have l:Y (bH e w 137 (qf f D dn dc S sn sc)):=aj (by rw[←k];exact bH.d w 137 _);have k:=l.o.H 0;have k:=l.o.H 2;clear d h i;cases on
 ·go_enter func57,ntmps57;go_wp2;go_ret;exact⟨rfl,j.o⟩
 ·cases h9:(f.a==9)
  ·have d:Y (kE true b f.a f.b=false):=aj (by unfold kE;rw[h9];rfl);go_enter func57,ntmps57;go_wp2;go_quiet (fail);go_wp2;go_ret;exact⟨by rw[d.o];rfl,bI j.o _⟩
  ·have d:Y (kE true b f.a f.b=(f.b==b)):=aj (by unfold kE;rw[h9];rfl);go_enter func57,ntmps57;go_wp2;go_quiet (fail);go_wp2;go_ret;exact⟨by rw[d.o];rfl,bI j.o _⟩
def Es (w:aB) (g:Nat) (M:Int):Prop:=bH w g 188 #[J U M,aO false,J U 0,J U 0,J U 0,J U 0,Z O 0 0,Z O 0 0,J U 0,J U 0,aO false,J U 0,J U 0,J U 0,J U 0,Z O 0 0]
set_option maxRecDepth 100000 in
def PV (m M:Int) (w:aB) (hM:M=if m<0 then 0 else m):aF au 50 #[J U m] w fun e w'=>e=av (aK (R ⟨w.heap.size,0,O⟩))∧Es w' w.heap.size M∧aJ w.heap.size w w':=by
 have HG:Y (Es (w.alloc (.cells #[J U M,aO false,J U 0,J U 0,J U 0,J U 0,Z O 0 0,Z O 0 0,J U 0,J U 0,aO false,J U 0,J U 0,J U 0,J U 0,Z O 0 0] 188)) w.heap.size M):=aj (bH.d _ _ _)
 have HB:=aj ((ay w.heap.size w).alloc (aD _) (.cells #[J U M,aO false,J U 0,J U 0,J U 0,J U 0,Z O 0 0,Z O 0 0,J U 0,J U 0,aO false,J U 0,J U 0,J U 0,J U 0,Z O 0 0] 188))
 by_cases hm:m<0
 ·obtain rfl:M=0:=by rw[hM,aP hm]
  clear hM
  go_enter func50,ntmps50
  go_wp2_with fail
  go_ret
  exact⟨rfl,HG.o,HB.o⟩
 ·obtain rfl:M=m:=by rw[hM,aL hm]
  clear hM
  go_enter func50,ntmps50
  go_wp2_with fail
  go_ret
  exact⟨rfl,HG.o,HB.o⟩
def Zd (xs:List (Int×Int)) (n:Nat) (w:aB) (b:Ending) (w':aB):Prop:=∃A c,b=av (Z A n c)∧w'.ownsRow w 252 2 (Z A n c) n (jy xs)∧aJ w w w'
def Mk (A:Option aX) (n c:Nat) (xs:List (Int×Int)) (w:aB) (b:xs.length=n) (d:n≤1000) (d:A=O→n=0∧c=0) (e:bU w A (jy xs)):aF au 131 #[Z A n c] w (Zd xs n w):=by
 cases A with
 |none=>obtain⟨rfl,rfl⟩:=d rfl;obtain rfl:=dL b;have i:=Go.Lib.run_eql_slice_nil_nil (P:=au) w 0 0 underlying135;clear b d e;go_enter func131,ntmps131;go_wp2;go_ret;exact⟨O,0,rfl,aT _ _ _ _,ay _ _⟩
 |some h=>have j:=aj b;have k:=aj (e.h (.cells #[] 252));have i:=Go.Lib.run_eql_slice_some_nil (P:=au) w h n c underlying135;clear b e d;go_enter func131,ntmps131;go_wp2_with (at_builtin;go_loud (refine fK rfl (.tmp 5) (.tmp 6) 135 rfl w.heap.size 252 2 Kl rfl Y2 underlying135 _ 0 [] rfl (PU (w:=w) w.heap.size 252 2 (aD _)) (R h) n c (jy xs) rfl (by rw[AA,j.o]) (fun e=>by cases e) k.o zbr (by unfold maxLen;omega) Y0 Y1 ?_));intro i l w' b d;have e:=aj b;have h:=aj (Ib d);clear b d;go_wp2;go_ret;exact⟨_,_,rfl,e.o,h.o⟩
section
variable {w:aB} {g g':Nat} {t t':bB} {old old' cells:Array aI}
def bH.p (b:bH w g t old) (cells:Array aI):bH (w.setRow g cells) g t cells:=setRow_heap w g old cells t (0,0) b
def bH.s (b:bH w g t old) (d:g≠g') (cells:Array aI):bH (w.setRow g' cells) g t old:=(Go.setRow_other w g' g cells d).trans b
def bg.h (w:aB) (g:Nat) (cells:Array aI) {F:List Nat} (b:g∈F):bg F w (w.setRow g cells):=
 ⟨rfl,rfl,rfl,Y1,fun d _ e=>Go.setRow_other w g d cells fun d=>e (d▸b)⟩
end
def zbs (w:aB) (g:Nat) (M:Int) (f:Fr) (D S:Option aX) (dn dc sn sc:Nat) (A:Option aX) (n c:Nat):Prop:=bH w g 188 (qg M f D dn dc S sn sc A n c true)
def Asm (w:aB) (g:Nat) (M:Int) (on:Bool) (a:Fr) (D0 S0:Option aX) (dn0 dc0 sn0 sc0:Nat) (A:Option aX) (n c:Nat):Prop:=bH w g 188 (qg M a D0 dn0 dc0 S0 sn0 sc0 A n c on)
def Kn {w:aB} {d n c e:Nat} {h:bB} {A:Option aX} {xs:List aI} (b:w.ownsRow d h e (Z A n c) n xs):Sl w (fun d=>(Z A n c).ownBlock=R d) A n c xs:=by refine⟨(fH b).1,(fH b).2,fun h i j=>?_⟩;obtain⟨d,k,e,_,l⟩:=jE b h i j;exact⟨d,k,e,by rw[e];rfl,l⟩
structure vS (w:aB) (g:Nat) (M:Int) (on:Bool) (a:Fr) (D0 S0:Option aX) (dn0 dc0 sn0 sc0:Nat) (A:Option aX) (n c:Nat) (bs:List Int) (F:List Nat) (G:Nat→Prop):Prop where
 d:Asm w g M on a D0 S0 dn0 dc0 sn0 sc0 A n c
 h:w.ownsRow 0 5 1 (Z A n c) n (dP bs)
 f:∀b,(Z A n c).ownBlock=R b→b∈F∧b≠g
 k:Sl w (fun b=>b∉F∧¬G b) S0 sn0 sc0 (jy a.i)
 i:a.i.length=sn0
 e:g∈F
 j:∀b∈F,b<w.heap.size
section
variable {w w':aB} {g:Nat} {M:Int} {on:Bool} {a:Fr} {D0 S0:Option aX} {dn0 dc0 sn0 sc0:Nat} {A:Option aX} {n c:Nat} {bs:List Int} {F F1:List Nat} {G:Nat→Prop}
def vS.m (d:vS w g M on a D0 S0 dn0 dc0 sn0 sc0 A n c bs F G) (h:bg F1 w w') (hF:∀b∈F,b∉F1) (j:∀b∈F1,b<w.heap.size→b∈F∨G b):vS w' g M on a D0 S0 dn0 dc0 sn0 sc0 A n c bs F G:=
 ⟨bH.g d.d h (hF g d.e),bO d.h h (fun b e=>hF b (d.f b e).1),d.f,d.k.h (fun b e i=>h.m b e (fun k=>(j b k e).elim i.1 i.2)),d.i,d.e,fun b e=>aV (d.j b e) h.b⟩
def vS.p (b:vS w g M on a D0 S0 dn0 dc0 sn0 sc0 A n c bs F G) (d:aJ w w w'):vS w' g M on a D0 S0 dn0 dc0 sn0 sc0 A n c bs F G:=b.m (F1:=[]) (bg.d d) (fun _ _=>by simp) (fun _ b=>by simp at b)
def vS.l (h:Es w g M):vS w g M false Fr.o O O 0 0 0 0 O 0 0 [] [g] G:=
 ⟨h,aT _ _ _ _,(fun b hb=>by cases hb),Sl.i _ _,rfl,aC.2 rfl,fun b hb=>by rw[aC.1 hb];exact bH.e h⟩
def vS.o (b:vS w g M on a D0 S0 dn0 dc0 sn0 sc0 A n c bs F G):bs.length=n:=by have:=b.h.1;rw[gW]at this;omega
end
def xY (a:Nat) (b:a<9223372036854775808):(BitVec.ofInt 64 (a:Int)).toNat=a:=by rw[BitVec.ofInt_natCast,BitVec.toNat_ofNat];exact Nat.mod_eq_of_lt Y0
def Yk (a b:Nat) (c:a<9223372036854775808) (d:b<9223372036854775808):bits .and U (a:Int) (b:Int)=((a&&&b:Nat):Int):=by
 have e:a&&&b<2^63:=Nat.and_lt_two_pow _ Y0;show U.wrap ((BitVec.ofInt 64 (a:Int)&&&BitVec.ofInt 64 (b:Int)).toNat:Int)=_
 rw[BitVec.toNat_and,xY a c,xY b d,IntKind.wrap_i64];omega
def zaE (a b:Nat) (c:a<9223372036854775808) (d:b<9223372036854775808):bits .or U (a:Int) (b:Int)=((a|||b:Nat):Int):=by
 have e:a|||b<2^63:=Nat.or_lt_two_pow (by omega) (by omega)
 show U.wrap ((BitVec.ofInt 64 (a:Int)|||BitVec.ofInt 64 (b:Int)).toNat:Int)=_
 rw[BitVec.toNat_or,xY a c,xY b d,IntKind.wrap_i64];omega
def fl (a:Nat):Nat:=2^a-1
def PY {a:Nat} (b:a≤8):fl a≤255:=by have:2^a≤2^8:=Nat.pow_le_pow_right Y2 b;unfold fl;omega
def PZ (a b:Nat) (c:a≤255) (c:b≤8):bits .and U (a:Int) (fl b:Nat)=((a%2^b:Nat):Int):=by have:=PY c;rw[Yk a (fl b) Y0 Y0,fl,Nat.and_two_pow_sub_one_eq_mod]
def Zf {a:IntKind} {b c:Int} {d e:Bool} (f:b=c) (g:d=e):av (aN #[J a b,d])=av (aN #[J a c,e]):=by rw[f,g]
def yR (a:Nat) (b:aB) (c:1≤a) (d:a≤8):aF au 205 #[a] b fun e f=>e=av (aN #[J U (fl a:Nat),true])∧b=f:=by
 have b:a=1∨a=2∨a=3∨a=4∨a=5∨a=6∨a=7∨a=8:=Y0;clear c d;rcases b with rfl|rfl|rfl|rfl|rfl|rfl|rfl|rfl
 all_goals
  go_enter func205,ntmps205;go_wp2;go_ret2;exact⟨Zf Y2 rfl,rfl⟩
def Vu (a:Int) (b:aB) (c:a<1∨8<a):aF au 205 #[a] b fun d e=>d=av (aN #[J U 0,false])∧b=e:=by
 by_cases b:a<1
 ·clear c;go_enter func205,ntmps205;go_wp2;go_ret2;exact Y5
 ·have b:8<a:=Y0;clear c;go_enter func205,ntmps205;go_wp2;go_ret2;exact Y5
def wY {a:List Int} {b:Nat} (c:b<a.length):(a.map (J .u8))[b]?=R (J .u8 a[b]):=by simp[c]
def Vv (b:aB) (c:Array aI) (e:bB) (a:Nat) (g:a≤maxLen) (d:c.size=a) (f:Nat) (h:f≤b.heap.size):(b.alloc (.cells c e)).ownsRow f e 1 (Z (R ⟨b,0,O⟩) a a) a c.toList:=by refine⟨by simp[d],.inr ⟨b,a,c,rfl,h,heap_alloc_new b _,aD _,g,by simp[d],?_⟩⟩;rw[bW (by simp[d])]
def Bq (b:List Int):Nat→Nat→Nat→Int×Int×Int
 |0,_,_=>(0,0,5)
 |d+1,a,c=>
  if b.length≤a then(0,0,3)
  else if(128:Int)≤b.getD a 0 then Bq b d (a+1) (c+(b.getD a 0).toNat%128*2^(7*(a-1)))
  else if 2147483647<c+(b.getD a 0).toNat%128*2^(7*(a-1))then(0,0,5)
  else(((c+(b.getD a 0).toNat%128*2^(7*(a-1)):Nat):Int),((a+1:Nat):Int),0)
def om (b:List Int) (a:Int):Int×Int×Int:=
 if a<1∨8<a then(0,0,1)
 else if b=[]then(0,0,3)
 else if(b.getD 0 0).toNat%2^a.toNat<fl a.toNat then((((b.getD 0 0).toNat%2^a.toNat:Nat):Int),1,0)
 else Bq b 5 1 ((b.getD 0 0).toNat%2^a.toNat)
def rM (a:Int×Int×Int) (b:aB) (c:Ending) (d:aB):Prop:=c=av (aN #[a.1,a.2.1,a.2.2])∧aJ b b d
def zbt (e:aB) (f g h:Nat) (b:List Int) (i:Nat):Act→aB→Prop:=fun j k=>k=e∧∃(d a c:Nat) (u1 u2 u3 u4 u5 u6 u9 u10 u11 u12 u13 u14 u15 u16 u17 u18 u19 u20 u21 u22 u23 u24 u25 u26 u27 u28 u29 u30 u31 u32 u33 u34 u35 u36 u37 u38 u39 u40 u41 u42 u43 u44 u45 u46 u47 u48 u49 u50 u51 u52 u53 u54 u55 u56 u57 u58 u59 u60 u61 u62 u63:aI),j=⟨#[Z (R ⟨f,g,O⟩) b.length h,u1,u2,u3,u4,u5,u6,J U c,J U a,u9,u10,u11,u12,u13,u14,u15,u16,u17,u18,u19,u20,u21,u22,u23,u24,u25,u26,u27,u28,u29,u30,u31,u32,u33,u34,u35,u36,u37,u38,u39,u40,u41,u42,u43,u44,u45,u46,u47,u48,u49,u50,u51,u52,u53,u54,u55,u56,u57,u58,u59,u60,u61,u62,u63],[]⟩∧Y (Bq b 5 1 i=Bq b d (a+1) c)∧a+d=5∧1≤a∧a<b.length∧c<256*2^(7*a)
def Zg:∀a:Fin 256,bits .and .u8 (a.1:Int) 127=((a.1%128:Nat):Int):=by decide+kernel
def Et (a:Nat) (b:a<256):bits .and .u8 (a:Int) 127=((a%128:Nat):Int):=Zg ⟨a,b⟩
def rO {a:List Int} {b:Nat} (d:b<a.length) (e:∀c∈a,0≤c∧c≤255):∃c:Nat,a[b]=(c:Int)∧a.getD b 0=(c:Int)∧c≤255:=by have c:=e a[b] (List.getElem_mem d);refine⟨a[b].toNat,Y0,?_,Y0⟩;rw[aY,aQ d];simp;omega
def oq {a:List Int} {c b d:Nat} (e:a.length≤b):Bq a (c+1) b d=(0,0,3):=by rw[Bq,aP e]
def yS {b:List Int} {d a e c f:Nat} (g:a<b.length) (g:b.getD a 0=(c:Int)) (h:128≤c) (h:e+c%128*2^(7*(a-1))=f):Bq b (d+1) a e=Bq b d (a+1) f:=by rw[Bq,aL Y0,g,aP Y0,bZ,h]
def Mr {b:List Int} {f a d c e:Nat} (g:a<b.length) (g:b.getD a 0=(c:Int)) (h:c<128) (h:d+c%128*2^(7*(a-1))=e) (c:2147483647<e):Bq b (f+1) a d=(0,0,5):=by rw[Bq,aL Y0,g,aL Y0,bZ,h,aP c]
def uN {b:List Int} {f a e c d:Nat} (g:a<b.length) (g:b.getD a 0=(c:Int)) (h:c<128) (h:e+c%128*2^(7*(a-1))=d) (i:¬2147483647<d) {c:Int} (j:((a+1:Nat):Int)=c):Bq b (f+1) a e=((d:Int),c,0):=by rw[←j,Bq,aL Y0,g,aL Y0,bZ,h,aL i]
def iJ {b:Int×Int×Int} {a c:aB} {d:Ending} {e f g:Int} (h:b=(e,f,g)) (i:d=av (aN #[e,f,g])) (e:aJ a a c):rM b a d c:=by subst h;exact⟨i,e⟩
set_option maxRecDepth 100000 in
def Zh (a0:Option aX) (b0 o:Nat) (b:List Int) (D:aB) (h1:1≤o) (I:o≤8) (C:bU D a0 (b.map (J .u8))) (K:1≤b.length) (hm:b.length≤1000000) (T:∀p∈b,0≤p∧p≤255)
  (L:¬(b.getD 0 0).toNat%2^o<fl o):aF au 172 #[Z a0 b.length b0,J U o] D (rM (Bq b 5 1 ((b.getD 0 0).toNat%2^o)) D):=by
 have HB:=aj (And.intro h1 I);have j0:=PY I;obtain⟨bb,oo,rfl,V⟩:=C 0 _ (wY (show 0<b.length from K));obtain⟨p,B⟩:∃p:Nat,b.getD 0 0=p∧p≤255:=by have:=T (b.getD 0 0) (by rw[aY,aQ K];exact List.getElem_mem K);exact⟨(b.getD 0 0).toNat,Y0,Y0⟩
 have d0:D.cell? ⟨bb,oo,O⟩=R (J .u8 p):=by rw[aY,aQ K]at B;simp at B;rw[dQ]at V;rw[V,B.1]
 have c0:=PZ p o B.2 I;rw[B.1]at L⊢;have e0:=B.2;obtain⟨s,W⟩:=exq (p%2^o);simp only[bZ]at L⊢;rw[W]at c0 L⊢;have f0:((fl o:Nat):Int)≤(s:Int):=Y0;have g0:(s:Int)≤255:=by have h9:=Nat.mod_le p (2^o);rw[W]at h9;omega
 have k0:(1:Int)≤(b.length:Int):=Y0;have h0:((b.length:Int)==0)=false:=by rw[aM];omega
 have E:=aj T;clear V W L h1 I B T;go_enter func172,ntmps172;go_wp2_with fail;refine wp_scope_jumps 0 (zbt D bb oo b0 b s) (fun a' _=>10- (intOf (a'.tmps.getD 8 bq)).toNat) rfl ?_ ?_
 ·go_wp2_with fail;refine mB (yR o _ HB.o.1 HB.o.2) ?_;rintro w1 rfl;go_wp2;go_step3;have i:=aj (rfl:Bq b 5 1 s=Bq b 5 1 s);have m0:decide (s<fl o)=false:=by simp;omega
  by_cases g:b.length≤1
  ·have t:((1:Int)==(b.length:Int))=true:=by rw[dX];omega
   have c:=aj (i.o.trans (oq g));clear g;go_wp2;simp only[Exit.jump];go_ret3;exact iJ c.o rfl (ay _ _)
  ·have d:1<b.length:=Y0;have t:((1:Int)==(b.length:Int))=false:=by rw[aM];omega
   obtain⟨u,M,e,v⟩:=C 1 _ (wY d);injection e with e;injection e with e w;subst e w;obtain⟨a,m,n,N⟩:=rO d E.o;rw[m]at v;have k:=aj n;clear m n g;have x:=Et a Y0;rw[show((a%128:Nat):Int)=(a:Int)%128 from Y0]at x;have P:(a:Int)≤255:=Y0;have u:(1:Int)<(b.length:Int):=Y0;obtain⟨f,h⟩:∃y:Nat,s+a%128*2^(7*(1-1))=y:=⟨_,rfl⟩;have z:=h;have Q:(s:Int)+(a:Int)%128=(f:Int):=Y0;have S:(f:Int)≤32767:=Y0;have l:=aj h;clear h z;by_cases A:128≤a
   ·have c:=aj (i.o.trans (yS d k.o A l.o));go_wp2;go_step3;exact⟨rfl,⟨rfl,4,1,f,_,_,_,_,_,_,_,_,_,_,_,_,_,_,_,_,_,_,_,_,_,_,_,_,_,_,_,_,_,_,_,_,_,_,_,_,_,_,_,_,_,_,_,_,_,_,_,_,_,_,_,_,_,_,_,_,_,_,_,_,_,rfl,c,Y0,Y0,d,Y0⟩⟩
   ·have q:a<128:=Y0;by_cases r:2147483647<f
    ·omega
    ·have c:=aj (i.o.trans (uN d k.o q l.o r (show((1+1:Nat):Int)=2 from rfl)));go_wp2;simp only[Exit.jump];go_ret3;exact iJ c.o rfl (ay _ _)
 ·rintro a' w' ⟨rfl,F,G,j,u1,u2,u3,u4,u5,u6,u9,u10,u11,u12,u13,u14,u15,u16,u17,u18,u19,u20,u21,u22,u23,u24,u25,u26,u27,u28,u29,u30,u31,u32,u33,u34,u35,u36,u37,u38,u39,u40,u41,u42,u43,u44,u45,u46,u47,u48,u49,u50,u51,u52,u53,u54,u55,u56,u57,u58,u59,u60,u61,u62,u63,rfl,i,n0,i0,o0,H⟩;have hi:G=1∨G=2∨G=3∨G=4∨G=5:=Y0;clear i0 c0 d0 f0 g0 e0 h0;rcases hi with rfl|rfl|rfl|rfl|rfl
  ·obtain rfl:F=4:=Y0;have X:(j:Int)≤32767:=Y0;clear H;by_cases g:b.length≤2
   ·have t:((2:Int)==(b.length:Int))=true:=by rw[dX];omega
    have c:=aj (i.o.trans (oq g));clear g;go_wp2;simp only[Exit.jump];go_ret3;exact iJ c.o rfl (ay _ _)
   ·have d:2<b.length:=Y0;have t:((2:Int)==(b.length:Int))=false:=by rw[aM];omega
    obtain⟨u,M,e,v⟩:=C 2 _ (wY d);injection e with e;injection e with e w;subst e w;obtain⟨a,m,n,N⟩:=rO d E.o;rw[m]at v;have k:=aj n;clear m n g;have x:=Et a Y0;rw[show((a%128:Nat):Int)=(a:Int)%128 from Y0]at x;have P:(a:Int)≤255:=Y0;have u:(2:Int)<(b.length:Int):=Y0;obtain⟨f,h⟩:∃y:Nat,j+a%128*2^(7*(2-1))=y:=⟨_,rfl⟩;have z:=h;have Q:(j:Int)+(a:Int)%128*128=(f:Int):=Y0;have S:(f:Int)≤4194303:=Y0;have l:=aj h;clear h z;by_cases A:128≤a
    ·have c:=aj (i.o.trans (yS d k.o A l.o));go_wp2;go_step3;exact⟨rfl,⟨rfl,3,2,f,_,_,_,_,_,_,_,_,_,_,_,_,_,_,_,_,_,_,_,_,_,_,_,_,_,_,_,_,_,_,_,_,_,_,_,_,_,_,_,_,_,_,_,_,_,_,_,_,_,_,_,_,_,_,_,_,_,_,_,_,_,rfl,c,Y0,Y0,d,Y0⟩,by simp[intOf]⟩
    ·have q:a<128:=Y0;by_cases r:2147483647<f
     ·omega
     ·have c:=aj (i.o.trans (uN d k.o q l.o r (show((2+1:Nat):Int)=3 from rfl)));go_wp2;simp only[Exit.jump];go_ret3;exact iJ c.o rfl (ay _ _)
  ·obtain rfl:F=3:=Y0;have X:(j:Int)≤4194303:=Y0;clear H;by_cases g:b.length≤3
   ·have t:((3:Int)==(b.length:Int))=true:=by rw[dX];omega
    have c:=aj (i.o.trans (oq g));clear g;go_wp2;simp only[Exit.jump];go_ret3;exact iJ c.o rfl (ay _ _)
   ·have d:3<b.length:=Y0;have t:((3:Int)==(b.length:Int))=false:=by rw[aM];omega
    obtain⟨u,M,e,v⟩:=C 3 _ (wY d);injection e with e;injection e with e w;subst e w;obtain⟨a,m,n,N⟩:=rO d E.o;rw[m]at v;have k:=aj n;clear m n g;have x:=Et a Y0;rw[show((a%128:Nat):Int)=(a:Int)%128 from Y0]at x;have P:(a:Int)≤255:=Y0;have u:(3:Int)<(b.length:Int):=Y0;obtain⟨f,h⟩:∃y:Nat,j+a%128*2^(7*(3-1))=y:=⟨_,rfl⟩;have z:=h;have Q:(j:Int)+(a:Int)%128*16384=(f:Int):=Y0;have S:(f:Int)≤536870911:=Y0;have l:=aj h;clear h z;by_cases A:128≤a
    ·have c:=aj (i.o.trans (yS d k.o A l.o));go_wp2;go_step3;exact⟨rfl,⟨rfl,2,3,f,_,_,_,_,_,_,_,_,_,_,_,_,_,_,_,_,_,_,_,_,_,_,_,_,_,_,_,_,_,_,_,_,_,_,_,_,_,_,_,_,_,_,_,_,_,_,_,_,_,_,_,_,_,_,_,_,_,_,_,_,_,rfl,c,Y0,Y0,d,Y0⟩,by simp[intOf]⟩
    ·have q:a<128:=Y0;by_cases r:2147483647<f
     ·omega
     ·have c:=aj (i.o.trans (uN d k.o q l.o r (show((3+1:Nat):Int)=4 from rfl)));go_wp2;simp only[Exit.jump];go_ret3;exact iJ c.o rfl (ay _ _)
  ·obtain rfl:F=2:=Y0;have X:(j:Int)≤536870911:=Y0;clear H;by_cases g:b.length≤4
   ·have t:((4:Int)==(b.length:Int))=true:=by rw[dX];omega
    have c:=aj (i.o.trans (oq g));clear g;go_wp2;simp only[Exit.jump];go_ret3;exact iJ c.o rfl (ay _ _)
   ·have d:4<b.length:=Y0;have t:((4:Int)==(b.length:Int))=false:=by rw[aM];omega
    obtain⟨u,M,e,v⟩:=C 4 _ (wY d);injection e with e;injection e with e w;subst e w;obtain⟨a,m,n,N⟩:=rO d E.o;rw[m]at v;have k:=aj n;clear m n g;have x:=Et a Y0;rw[show((a%128:Nat):Int)=(a:Int)%128 from Y0]at x;have P:(a:Int)≤255:=Y0;have u:(4:Int)<(b.length:Int):=Y0;obtain⟨f,h⟩:∃y:Nat,j+a%128*2^(7*(4-1))=y:=⟨_,rfl⟩;have z:=h;have Q:(j:Int)+(a:Int)%128*2097152=(f:Int):=Y0;have S:(f:Int)≤68719476735:=Y0;have l:=aj h;clear h z;by_cases A:128≤a
    ·have c:=aj (i.o.trans (yS d k.o A l.o));go_wp2;go_step3;exact⟨rfl,⟨rfl,1,4,f,_,_,_,_,_,_,_,_,_,_,_,_,_,_,_,_,_,_,_,_,_,_,_,_,_,_,_,_,_,_,_,_,_,_,_,_,_,_,_,_,_,_,_,_,_,_,_,_,_,_,_,_,_,_,_,_,_,_,_,_,_,rfl,c,Y0,Y0,d,Y0⟩,by simp[intOf]⟩
    ·have q:a<128:=Y0;by_cases r:2147483647<f
     ·omega
     ·have c:=aj (i.o.trans (uN d k.o q l.o r (show((4+1:Nat):Int)=5 from rfl)));go_wp2;simp only[Exit.jump];go_ret3;exact iJ c.o rfl (ay _ _)
  ·obtain rfl:F=1:=Y0;have X:(j:Int)≤68719476735:=Y0;clear H;by_cases g:b.length≤5
   ·have t:((5:Int)==(b.length:Int))=true:=by rw[dX];omega
    have c:=aj (i.o.trans (oq g));clear g;go_wp2;simp only[Exit.jump];go_ret3;exact iJ c.o rfl (ay _ _)
   ·have d:5<b.length:=Y0;have t:((5:Int)==(b.length:Int))=false:=by rw[aM];omega
    obtain⟨u,M,e,v⟩:=C 5 _ (wY d);injection e with e;injection e with e w;subst e w;obtain⟨a,m,n,N⟩:=rO d E.o;rw[m]at v;have k:=aj n;clear m n g;have x:=Et a Y0;rw[show((a%128:Nat):Int)=(a:Int)%128 from Y0]at x;have P:(a:Int)≤255:=Y0;have u:(5:Int)<(b.length:Int):=Y0;obtain⟨f,h⟩:∃y:Nat,j+a%128*2^(7*(5-1))=y:=⟨_,rfl⟩;have z:=h;have Q:(j:Int)+(a:Int)%128*268435456=(f:Int):=Y0;have S:(f:Int)≤8796093022207:=Y0;have l:=aj h;clear h z;by_cases A:128≤a
    ·have c:=aj (i.o.trans (yS d k.o A l.o));go_wp2;go_step3;exact⟨rfl,⟨rfl,0,5,f,_,_,_,_,_,_,_,_,_,_,_,_,_,_,_,_,_,_,_,_,_,_,_,_,_,_,_,_,_,_,_,_,_,_,_,_,_,_,_,_,_,_,_,_,_,_,_,_,_,_,_,_,_,_,_,_,_,_,_,_,_,rfl,c,Y0,Y0,d,Y0⟩,by simp[intOf]⟩
    ·have q:a<128:=Y0;by_cases r:2147483647<f
     ·have c:=aj (i.o.trans (Mr d k.o q l.o r));go_wp2;simp only[Exit.jump];go_ret3;exact iJ c.o rfl (ay _ _)
     ·have c:=aj (i.o.trans (uN d k.o q l.o r (show((5+1:Nat):Int)=6 from rfl)));go_wp2;simp only[Exit.jump];go_ret3;exact iJ c.o rfl (ay _ _)
  ·obtain rfl:F=0:=Y0;have c:=aj (i.o.trans (show Bq b 0 (5+1) j=(0,0,5)from rfl));clear H;go_wp2;simp only[Exit.jump];go_ret3;exact iJ c.o rfl (ay _ _)
def Ie (d:Option aX) (e f:Nat) (a:Int) (b:aB) (c:a<1∨8<a):aF au 172 #[Z d e f,a] b (rM (0,0,1) b):=by have b:=aj c;clear c;go_enter func172,ntmps172;go_wp2;go_step3;go_wp2_with fail;refine mB (Vu a _ b.o) ?_;rintro b rfl;go_wp2;rw[Exit.noGoto_ret];go_ret3;exact iJ rfl rfl (ay _ _)
def zcm (e:Option aX) (f a:Nat) (b:aB) (c:1≤a) (d:a≤8):aF au 172 #[Z e 0 f,a] b (rM (0,0,3) b):=by have b:=aj (And.intro c d);clear c d;go_enter func172,ntmps172;go_wp2;go_step3;go_wp2_with fail;refine mB (yR a _ b.o.1 b.o.2) ?_;rintro b rfl;go_wp2;rw[Exit.noGoto_ret];go_ret3;exact iJ rfl rfl (ay _ _)
def Mt (f:Option aX) (k b:Nat) (a:List Int) (e:aB) (g:1≤b) (d:b≤8) (l:bU e f (a.map (J .u8))) (h:1≤a.length) (c:a.length≤1000000) (i:∀c∈a,0≤c∧c≤255)
  (j:(a.getD 0 0).toNat%2^b<fl b):aF au 172 #[Z f a.length k,b] e (rM ((((a.getD 0 0).toNat%2^b:Nat):Int),1,0) e):=by
 have e:=aj (And.intro g d);have f:=PY d;obtain⟨f,k,rfl,m⟩:=l 0 _ (wY (show 0<a.length from h));obtain⟨c,f,k,l⟩:=rO (show 0<a.length from h) i;rw[f,dQ]at m;rw[k,bZ]at j⊢;have m:=PZ c b l d;obtain⟨l,h⟩:=exq (c%2^b);rw[h]at m j⊢;have c:(l:Int)<((fl b:Nat):Int):=Y0;have c:(1:Int)≤(a.length:Int):=Y0;have c:((a.length:Int)==0)=false:=by rw[aM];omega
 clear h g d f k i;go_enter func172,ntmps172;go_wp2;go_step3;go_wp2_with fail;refine mB (yR b _ e.o.1 e.o.2) ?_;rintro b rfl;go_wp2;rw[Exit.noGoto_ret];go_ret3;exact iJ rfl rfl (ay _ _)
def Ko (d:Option aX) (f:Nat) (b:Int) (a:List Int) (c:aB) (h:bU c d (a.map (J .u8))) (i:a.length≤1000000) (j:∀e∈a,0≤e∧e≤255):
  aF au 172 #[Z d a.length f,b] c (rM (om a b) c):=by
 by_cases g:b<1∨8<b
 ·rw[om,aP g];exact Ie _ _ _ _ _ g
 ·obtain⟨e,rfl⟩:∃e:Nat,b=e:=⟨b.toNat,Y0⟩;rw[om,aL g,bZ];cases a with
  |nil=>rw[aP rfl];exact zcm d f e c Y0 Y0
  |cons g a=>
   rw[aL Y1];split
   ·rename_i b;exact Mt d f e (g::a) c Y0 Y0 h Y1 i j b
   ·rename_i b;exact Zh d f e (g::a) c Y0 Y0 h Y1 i j b
def zaF (d:Option aX) (e g:Nat) (f:Int) (a:List Int) (b:aB) (k:a.length=e) (l:bU b d (a.map (J .u8))) (m:e≤1000000) (n:Y (∀c∈a,0≤c∧c≤255)) (c h i:Int) (o:Y (om a f=(c,h,i))):
  aF au 172 #[Z d e g,f] b fun e j=>e=av (aN #[c,h,i])∧aJ b b j:=by subst k;refine(Ko d g f a b l m n).mono fun e j a=>?_;rw[o.o]at a;exact a
end Go.Proofs.YtdcacpeaimjdlaaGreatDoor
