/- Part of the proof. -/
import Derived.Test.YtdcacpeaimjdlaaGreatDoorPan
import Derived.Test.YtdcacpeaimjdlaaGreatDoorPao
import Derived.Great.BuildSlice
import Derived.Laws.CopyOwn
import Derived.WideKeyEntry
namespace Go.Proofs.YtdcacpeaimjdlaaGreatDoor
open Go.RowKit Go.Maps Go.Proofs.Tryz Mq MFr MRw
open Go.Value renaming int→J,slice→Z,string→aA,pointer→aK,bool→aO,tuple→aN,agg→aS
open Go.IntKind renaming i64→U
open Option renaming none→O,some→R
open Go.Ending renaming returned→av
open Go renaming World→aB,Value→aI,Calls→aF,Addr→aX,TypeId→bB,undef→bq
open Go.RowKit renaming Below→aJ
open Go.Proofs.Tryz renaming prog→au
set_option maxRecDepth 20000
set_option maxHeartbeats 0
set_option linter.all false
section
open Go.Great
def yh {c:Program} {d:bB} {f:Nat} (e:(c.info? d).map (fun a=>a.zero.map (·.cells.size))=R (R f)):∃a b,c.info? d=R a∧a.zero=R b∧b.cells.size=f:=by
 cases hi:c.info? d with
 |none=>simp[hi]at e
 |some a=>
  cases hz:a.zero with
  |none=>simp[hi,hz]at e
  |some b=>exact⟨a,b,rfl,hz,by simpa[hi,hz]using e⟩
def Ja {a:Program} {b c:bB} {d:Nat} {e f:TypeInfo} {g:aI} (h:a.info? b=R e) (i:a.underlying b=R (.array d c)) (j:e.zero=R g) (e:a.info? c=R f) (k:f.size=1) (c:List ByteArray) (f:c.length=g.cells.size):
  a.built b (((c.map aA).zipIdx 0).map fun a=>(a.2,a.1))=R (c.map aA).toArray:=by unfold Program.built;simp only[h,i,j,e,k];exact fill_flat _ _ (fun b a=>by obtain⟨d,_,rfl⟩:=dI.1 a;rfl) (by rw[List.length_map];exact f)
def Fz {a:Program} {c b:bB} {e:Nat} {f g:TypeInfo} {d:aI} (h:a.info? c=R f) (i:a.underlying c=R (.array e b)) (j:f.zero=R d) (f:a.info? b=R g) (k:g.size=2) (b:List (ByteArray×ByteArray)) (g:b.length*2=d.cells.size):
  a.built c (((b.map fun a=>aS #[aA a.1,aA a.2]).zipIdx 0).map fun c=>(c.2,c.1))=R (b.flatMap fun a=>[aA a.1,aA a.2]).toArray:=by unfold Program.built;simp only[h,i,j,f,k];have c:=fill_whole (s:=2) Y2 (b.map fun a=>aS #[aA a.1,aA a.2]) d.cells (fun b a=>by obtain⟨e,_,rfl⟩:=dI.1 a;rfl) (by rw[List.length_map];exact g);rw[c,List.flatMap_map];rfl
set_option maxRecDepth 100000 in
def Jb (b:aB):aF au 240 #[] b fun a c=>a=av (aS (iL.map aA).toArray)∧aJ b b c:=by
 have c:Y ((iL.map aA).toArray=(iL.map aA).toArray):=aj rfl;obtain⟨v,a⟩:=exq ((iL.map aA).toArray);rw[a];unfold iL at a;simp only[List.map_cons,List.map_nil]at a;have t:=aj a;clear a c;have u:∀a:List (ByteArray×ByteArray),a.length=14→Tryz.prog.built 358 (((a.map fun c=>aS #[aA c.1,aA c.2]).zipIdx 0).map fun d=>(d.2,d.1))=R (a.flatMap fun c=>[aA c.1,aA c.2]).toArray:=by obtain⟨c,d,e,f,g⟩:=yh (show(Tryz.prog.info? 358).map (fun c=>c.zero.map (·.cells.size))=R (R 28) by kernel_rfl);obtain⟨h,i,d,j,k⟩:=yh (show(Tryz.prog.info? 357).map (fun c=>c.zero.map (·.cells.size))=R (R 2) by kernel_rfl);have c:(Tryz.prog.info? 357).map (·.size)=R 2:=Y3;rw[d]at c;exact fun a h=>Fz e underlying358 f d (Y6 c) a (by rw[g,h])
 go_enter func240,ntmps240;revert t;generalize({data:=#[58,97,117,116,104,111,114,105,116,121]}:ByteArray)=f;generalize({data:=#[58,109,101,116,104,111,100]}:ByteArray)=c;generalize({data:=#[71,69,84]}:ByteArray)=g;generalize({data:=#[80,79,83,84]}:ByteArray)=h;generalize({data:=#[58,112,97,116,104]}:ByteArray)=d;generalize({data:=#[47]}:ByteArray)=i;generalize({data:=#[47,105,110,100,101,120,46,104,116,109,108]}:ByteArray)=j;generalize({data:=#[58,115,99,104,101,109,101]}:ByteArray)=e;generalize({data:=#[104,116,116,112]}:ByteArray)=k;generalize({data:=#[104,116,116,112,115]}:ByteArray)=l;generalize({data:=#[58,115,116,97,116,117,115]}:ByteArray)=a;generalize({data:=#[50,48,48]}:ByteArray)=m;generalize({data:=#[50,48,52]}:ByteArray)=n;generalize({data:=#[50,48,54]}:ByteArray)=o;generalize({data:=#[51,48,52]}:ByteArray)=p;generalize({data:=#[52,48,48]}:ByteArray)=q;generalize({data:=#[52,48,52]}:ByteArray)=r;generalize({data:=#[53,48,48]}:ByteArray)=s;intro t;have w:∀b:aB,(Instr.build 358 #[(0,aS #[aA f,aA E0]),(1,aS #[aA c,aA g]),(2,aS #[aA c,aA h]),(3,aS #[aA d,aA i]),(4,aS #[aA d,aA j]),(5,aS #[aA e,aA k]),(6,aS #[aA e,aA l]),(7,aS #[aA a,aA m]),(8,aS #[aA a,aA n]),(9,aS #[aA a,aA o]),(10,aS #[aA a,aA p]),(11,aS #[aA a,aA q]),(12,aS #[aA a,aA r]),(13,aS #[aA a,aA s])]).run au b=.ok (aS #[aA f,aA E0,aA c,aA g,aA c,aA h,aA d,aA i,aA d,aA j,aA e,aA k,aA e,aA l,aA a,aA m,aA a,aA n,aA a,aA o,aA a,aA p,aA a,aA q,aA a,aA r,aA a,aA s]) b:=fun b=>run_build b 358 _ _ (u [(f,E0),(c,g),(c,h),(d,i),(d,j),(e,k),(e,l),(a,m),(a,n),(a,o),(a,p),(a,q),(a,r),(a,s)] rfl);clear u;go_wp2_with (first|refine dO rfl 358 (.tmp 0) (.tmp 15) rfl _ #[aA f,aA E0,aA c,aA g,aA c,aA h,aA d,aA i,aA d,aA j,aA e,aA k,aA e,aA l,aA a,aA m,aA a,aA n,aA a,aA o,aA a,aA p,aA a,aA q,aA a,aA r,aA a,aA s] b.heap.size rfl Y4 Y4 Y3 rfl Y3 ?_);exact aG (v:=aS v) ((results_cell_row results240 _ _ b.heap.size 358 _ (0,0) _ rfl (bH.d _ _ _) underlying358 rfl Y3).trans (by rw[t.o])) rfl ⟨rfl,(ay _ b).alloc (aD _) _⟩
set_option maxRecDepth 100000 in
def Nl (a:aB):aF au 241 #[] a fun b c=>b=av (aS (lW.map aA).toArray)∧aJ a a c:=by
 have c:Y ((lW.map aA).toArray=(lW.map aA).toArray):=aj rfl;obtain⟨d0,b⟩:=exq ((lW.map aA).toArray);rw[b];unfold lW at b;simp only[List.map_cons,List.map_nil]at b;have HR:=aj b;clear b c;have c0:∀b:List ByteArray,b.length=47→Tryz.prog.built 360 (((b.map aA).zipIdx 0).map fun c=>(c.2,c.1))=R (b.map aA).toArray:=by obtain⟨c,d,e,f,g⟩:=yh (show(Tryz.prog.info? 360).map (fun c=>c.zero.map (·.cells.size))=R (R 47) by kernel_rfl);obtain⟨h,i,d,j,k⟩:=yh (show(Tryz.prog.info? 9).map (fun c=>c.zero.map (·.cells.size))=R (R 1) by kernel_rfl);have c:(Tryz.prog.info? 9).map (·.size)=R 1:=Y3;rw[d]at c;exact fun b h=>Ja e underlying360 f d (Y6 c) b (by rw[g];exact h)
 go_enter func241,ntmps241;revert HR;generalize({data:=#[97,99,99,101,112,116,45,99,104,97,114,115,101,116]}:ByteArray)=b;generalize({data:=#[97,99,99,101,112,116,45,101,110,99,111,100,105,110,103]}:ByteArray)=c;generalize({data:=#[97,99,99,101,112,116,45,108,97,110,103,117,97,103,101]}:ByteArray)=d;generalize({data:=#[97,99,99,101,112,116,45,114,97,110,103,101,115]}:ByteArray)=e;generalize({data:=#[97,99,99,101,112,116]}:ByteArray)=f;generalize({data:=#[97,99,99,101,115,115,45,99,111,110,116,114,111,108,45,97,108,108,111,119,45,111,114,105,103,105,110]}:ByteArray)=g;generalize({data:=#[97,103,101]}:ByteArray)=h;generalize({data:=#[97,108,108,111,119]}:ByteArray)=i;generalize({data:=#[97,117,116,104,111,114,105,122,97,116,105,111,110]}:ByteArray)=j;generalize({data:=#[99,97,99,104,101,45,99,111,110,116,114,111,108]}:ByteArray)=k;generalize({data:=#[99,111,110,116,101,110,116,45,100,105,115,112,111,115,105,116,105,111,110]}:ByteArray)=l;generalize({data:=#[99,111,110,116,101,110,116,45,101,110,99,111,100,105,110,103]}:ByteArray)=m;generalize({data:=#[99,111,110,116,101,110,116,45,108,97,110,103,117,97,103,101]}:ByteArray)=n;generalize({data:=#[99,111,110,116,101,110,116,45,108,101,110,103,116,104]}:ByteArray)=o;generalize({data:=#[99,111,110,116,101,110,116,45,108,111,99,97,116,105,111,110]}:ByteArray)=p;generalize({data:=#[99,111,110,116,101,110,116,45,114,97,110,103,101]}:ByteArray)=q;generalize({data:=#[99,111,110,116,101,110,116,45,116,121,112,101]}:ByteArray)=r;generalize({data:=#[99,111,111,107,105,101]}:ByteArray)=s;generalize({data:=#[100,97,116,101]}:ByteArray)=t;generalize({data:=#[101,116,97,103]}:ByteArray)=u;generalize({data:=#[101,120,112,101,99,116]}:ByteArray)=v;generalize({data:=#[101,120,112,105,114,101,115]}:ByteArray)=w;generalize({data:=#[102,114,111,109]}:ByteArray)=x;generalize({data:=#[104,111,115,116]}:ByteArray)=y;generalize({data:=#[105,102,45,109,97,116,99,104]}:ByteArray)=z;generalize({data:=#[105,102,45,109,111,100,105,102,105,101,100,45,115,105,110,99,101]}:ByteArray)=A;generalize({data:=#[105,102,45,110,111,110,101,45,109,97,116,99,104]}:ByteArray)=B;generalize({data:=#[105,102,45,114,97,110,103,101]}:ByteArray)=C;generalize({data:=#[105,102,45,117,110,109,111,100,105,102,105,101,100,45,115,105,110,99,101]}:ByteArray)=D;generalize({data:=#[108,97,115,116,45,109,111,100,105,102,105,101,100]}:ByteArray)=E;generalize({data:=#[108,105,110,107]}:ByteArray)=F;generalize({data:=#[108,111,99,97,116,105,111,110]}:ByteArray)=G;generalize({data:=#[109,97,120,45,102,111,114,119,97,114,100,115]}:ByteArray)=H;generalize({data:=#[112,114,111,120,121,45,97,117,116,104,101,110,116,105,99,97,116,101]}:ByteArray)=I;generalize({data:=#[112,114,111,120,121,45,97,117,116,104,111,114,105,122,97,116,105,111,110]}:ByteArray)=K;generalize({data:=#[114,97,110,103,101]}:ByteArray)=L;generalize({data:=#[114,101,102,101,114,101,114]}:ByteArray)=M;generalize({data:=#[114,101,102,114,101,115,104]}:ByteArray)=N;generalize({data:=#[114,101,116,114,121,45,97,102,116,101,114]}:ByteArray)=P;generalize({data:=#[115,101,114,118,101,114]}:ByteArray)=Q;generalize({data:=#[115,101,116,45,99,111,111,107,105,101]}:ByteArray)=S;generalize({data:=#[115,116,114,105,99,116,45,116,114,97,110,115,112,111,114,116,45,115,101,99,117,114,105,116,121]}:ByteArray)=T;generalize({data:=#[116,114,97,110,115,102,101,114,45,101,110,99,111,100,105,110,103]}:ByteArray)=V;generalize({data:=#[117,115,101,114,45,97,103,101,110,116]}:ByteArray)=W;generalize({data:=#[118,97,114,121]}:ByteArray)=X;generalize({data:=#[118,105,97]}:ByteArray)=a0;generalize({data:=#[119,119,119,45,97,117,116,104,101,110,116,105,99,97,116,101]}:ByteArray)=b0;intro HR;have hb:∀a:aB,(Instr.build 360 #[(0,aA b),(1,aA c),(2,aA d),(3,aA e),(4,aA f),(5,aA g),(6,aA h),(7,aA i),(8,aA j),(9,aA k),(10,aA l),(11,aA m),(12,aA n),(13,aA o),(14,aA p),(15,aA q),(16,aA r),(17,aA s),(18,aA t),(19,aA u),(20,aA v),(21,aA w),(22,aA x),(23,aA y),(24,aA z),(25,aA A),(26,aA B),(27,aA C),(28,aA D),(29,aA E),(30,aA F),(31,aA G),(32,aA H),(33,aA I),(34,aA K),(35,aA L),(36,aA M),(37,aA N),(38,aA P),(39,aA Q),(40,aA S),(41,aA T),(42,aA V),(43,aA W),(44,aA X),(45,aA a0),(46,aA b0)]).run au a=.ok (aS #[aA b,aA c,aA d,aA e,aA f,aA g,aA h,aA i,aA j,aA k,aA l,aA m,aA n,aA o,aA p,aA q,aA r,aA s,aA t,aA u,aA v,aA w,aA x,aA y,aA z,aA A,aA B,aA C,aA D,aA E,aA F,aA G,aA H,aA I,aA K,aA L,aA M,aA N,aA P,aA Q,aA S,aA T,aA V,aA W,aA X,aA a0,aA b0]) a:=fun a=>run_build a 360 _ _ (c0 [b,c,d,e,f,g,h,i,j,k,l,m,n,o,p,q,r,s,t,u,v,w,x,y,z,A,B,C,D,E,F,G,H,I,K,L,M,N,P,Q,S,T,V,W,X,a0,b0] rfl);clear c0;go_wp2_with (first|refine dO rfl 360 (.tmp 0) (.tmp 1) rfl _ #[aA b,aA c,aA d,aA e,aA f,aA g,aA h,aA i,aA j,aA k,aA l,aA m,aA n,aA o,aA p,aA q,aA r,aA s,aA t,aA u,aA v,aA w,aA x,aA y,aA z,aA A,aA B,aA C,aA D,aA E,aA F,aA G,aA H,aA I,aA K,aA L,aA M,aA N,aA P,aA Q,aA S,aA T,aA V,aA W,aA X,aA a0,aA b0] a.heap.size rfl Y4 Y4 Y3 rfl Y3 ?_);exact aG (v:=aS d0) ((results_cell_row results241 _ _ a.heap.size 360 _ (0,0) _ rfl (bH.d _ _ _) underlying360 rfl Y3).trans (by rw[HR.o])) rfl ⟨rfl,(ay _ a).alloc (aD _) _⟩
end
def Wt (a:Nat) (b:a<14) (b:aB):(Instr.index 358 (aS (iL.map aA).toArray) (J U (a:Nat))).run au b=.ok (aS #[aA (iL.getD (2*a) E0),aA (iL.getD (2*a+1) E0)]) b:=by
 obtain rfl|rfl|rfl|rfl|rfl|rfl|rfl|rfl|rfl|rfl|rfl|rfl|rfl|rfl:a=0∨a=1∨a=2∨a=3∨a=4∨a=5∨a=6∨a=7∨a=8∨a=9∨a=10∨a=11∨a=12∨a=13:=Y0
 all_goals kernel_rfl
def Wu (a:List ByteArray) (b:a.length=47) (b:Nat) (d:b<47) (c:aB):(Instr.index 360 (aS (a.map aA).toArray) (J U (b:Nat))).run au c=.ok (aA (a.getD b E0)) c:=by have c:a[b]?=R a[b]:=aQ (by omega);simp[Instr.index,run_underlying underlying360,asIntOf,d,go_sem,Tryz.sizeOf9,Tryz.isAgg9,c]
def Rx:ENC.toList=[97,99,99,101,112,116,45,101,110,99,111,100,105,110,103]:=by decide+kernel
def UY {b:aB} {a:Nat} {h:bB} {c d f:aI} (e:bH b a h #[c,d,f]) (f c g:aI):∀d,d=(((b.setCell ⟨a,0,O⟩ f).setCell ⟨a,1,O⟩ c).setCell ⟨a,2,O⟩ g)→bH d a h #[f,c,g]∧bg [a] b d:=by rintro d rfl;have d:∀(b:aB) (h:Nat) (i:aI),bg [a] b (b.setCell ⟨a,h,O⟩ i):=fun b h i=>bg.e (F:=[a]) (p:=⟨a,h,O⟩) b Y1 i;have h:∀c∈[a],c∈[a]∨b.heap.size≤c:=fun _ e=>.inl e;exact⟨((e.f 0 f).f 1 c).f 2 g,((d _ _ _).a (d _ _ _) h).a (d _ _ _) h⟩
def Wv (d:Int) (a:aB):aF au 208 #[d] a (CS (qj d) a):=by
 obtain⟨E,l⟩:=exq ((iL.map aA).toArray);obtain⟨F,m⟩:=exq ((lW.map aA).toArray);have n:=fun a=>aj (Jb a);have B:=fun a=>aj (Nl a);rw[l]at n;rw[m]at B;by_cases o:d<1∨d>61
 ·have e:Y (qj d=(Fd.b,false)):=aj (by unfold qj;rw[aP o]);clear l m;by_cases V:d<1
  ·clear o;go_enter func208,ntmps208;go_wp2_with fail;exact aG (eH results208 _ rfl (bH.d _ _ _) underlying93 rfl (by kernel_rfl)) rfl ⟨by rw[e.o];rfl,(gU a 93 _).1⟩
  ·have W:d>61:=by omega
   clear o;go_enter func208,ntmps208;go_wp2_with fail;exact aG (eH results208 _ rfl (bH.d _ _ _) underlying93 rfl (by kernel_rfl)) rfl ⟨by rw[e.o];rfl,(gU a 93 _).1⟩
 ·obtain⟨b,C⟩:=bR (show 0≤d-1 by omega);obtain rfl:d=(b:Int)+1:=by omega
  have X:¬((b:Int)+1<1):=by omega
  have g2:¬((b:Int)+1>61):=by omega
  have hw:U.wrap ((b:Int)+1-1)=(b:Nat):=by rw[bF _ (by omega)];omega
  by_cases G:b<14
  ·have x:(b:Int)+1≤14:=by omega
   obtain⟨p,q,r⟩:∃p q,(iL.getD (2*b) E0,iL.getD (2*b+1) E0)=(p,q):=⟨_,_,rfl⟩;injection r with y z;have H:∀a,(Instr.index 358 (aS E) (J U (b:Nat))).run au a=.ok (aS #[aA p,aA q]) a:=fun a=>by rw[←l,←y,←z];exact Wt b G a
   have e:Y (qj ((b:Int)+1)=(⟨p,q,false⟩,true)):=aj (by unfold qj;rw[aL (by omega),aP x,show((b:Int)+1).toNat-1=b by omega,y,z])
   clear l m o C y z;go_enter func208,ntmps208;go_wp2_with fail;refine(n _).o.mono ?_;rintro w I ⟨rfl,s⟩;have f:=aj (kp1 s);clear s;go_wp2_with fail;refine(n _).o.mono ?_;rintro w D ⟨rfl,g⟩;have h:=aj (f.o.1.trans (g.mono f.o.1.size));have i:=aj (f.o.2.b g);have K:a.heap.size<D.heap.size:=i.o.e;obtain⟨L,M,N⟩:=bH.n i.o;have P:=i.o.c;clear g;go_wp2_with fail;obtain⟨t,u⟩:=UY i.o (aA p) (aA q) (aO false) _ rfl;exact aG (eH results208 _ rfl (t.h _) underlying93 rfl (by kernel_rfl)) rfl ⟨by rw[e.o];rfl,(h.o.trans (u.c h.o.size (by simp))).alloc (by simpa using h.o.size) _⟩
  ·have x:¬((b:Int)+1≤14):=by omega
   obtain⟨c,rfl⟩:∃c,b=c+14:=⟨b-14,by omega⟩;have a0:U.wrap (((c+14:Nat):Int)-14)=(c:Nat):=by rw[bF _ (by omega)];omega
   obtain⟨j,r⟩:=exq (lW.getD c E0);have H:∀a,(Instr.index 360 (aS F) (J U (c:Nat))).run au a=.ok (aA j) a:=fun a=>by rw[←m,←r];exact Wu lW rfl c (by omega) a
   have e:Y (qj (((c+14:Nat):Int)+1)=(⟨j,if j.toList==ENC.toList then GZ else E0,false⟩,true)):=aj (by unfold qj;rw[aL (by omega),aL x,show(((c+14:Nat):Int)+1).toNat-15=c by omega,r])
   obtain⟨Q,S⟩:=exq ((j.toList==[97,99,99,101,112,116,45,101,110,99,111,100,105,110,103]));rw[Rx,S]at e;clear l m o C r;go_enter func208,ntmps208;go_wp2_with fail;refine(n _).o.mono ?_;rintro w I ⟨rfl,s⟩;have f:=aj (kp1 s);clear s;go_wp2_with fail;refine(B _).o.mono ?_;rintro w D ⟨rfl,g⟩;have h:=aj (f.o.1.trans (g.mono f.o.1.size));have i:=aj (f.o.2.b g);clear g;go_wp2_with fail;refine(n _).o.mono ?_;rintro w T ⟨rfl,A⟩;have k:=aj (h.o.trans (A.mono h.o.size));have v:=aj (i.o.b A);have K:a.heap.size<T.heap.size:=v.o.e;obtain⟨L,M,N⟩:=bH.n v.o;have P:=v.o.c;clear A;cases Q
   ·go_wp2_with fail;obtain⟨t,u⟩:=UY v.o (aA j) (aA E0) (aO false) _ rfl;exact aG (eH results208 _ rfl (t.h _) underlying93 rfl (by kernel_rfl)) rfl ⟨by rw[e.o];rfl,(k.o.trans (u.c k.o.size (by simp))).alloc (by simpa using k.o.size) _⟩
   ·go_wp2_with fail;obtain⟨t,u⟩:=UY v.o (aA j) (aA GZ) (aO false) _ rfl;exact aG (eH results208 _ rfl (t.h _) underlying93 rfl (by kernel_rfl)) rfl ⟨by rw[e.o];rfl,(k.o.trans (u.c k.o.size (by simp))).alloc (by simpa using k.o.size) _⟩
def Ry (a:Fd×Int) (b:aB) (c:Ending) (d:aB):Prop:=c=av (aN #[agF a.1,a.2])∧aJ b b d
def qB.c.f {a:qB} (b:a.c):a.l.length≤67108864:=by have c:=rV a.l;have a:=b.b;have a:=b.d;have a:=b.c;omega
def ZK {H m n:Nat} {I:aI} {c:qB} (a:Int) (b:aB) (K:b.cell? ⟨n,2,O⟩=R (aK (R ⟨m,0,O⟩))) (L:n<b.heap.size) (M:jX b H m I c) (N:c.c) (hi:a≤2147483647) (f0:0≤a):
  aF au 176 #[qp n,a] b (Ry (OP c a) b):=by
 obtain⟨P,Q⟩:=gU b 93 #[aA {data:=#[]},aA {data:=#[]},false];have S:=aj P;have a0:=aj Q;have b0:=aj K;have c0:=aj L;have t:=fun b=>aj (Wv a b);have u:Y (∀o,aJ b b o→aF au 209 #[qp m,J U (a-61)] o (CS (c.f (a-61)) o)):=aj fun o hW=>Wi H m I c (a-61) o (M.e hW) (by have:=N.f;omega);obtain⟨⟨⟨h,i,j⟩,z⟩,A⟩:∃B,qj a=B:=⟨_,rfl⟩;obtain⟨⟨⟨p,q,r⟩,C⟩,D⟩:∃B,c.f (a-61)=B:=⟨_,rfl⟩;rw[A]at t;rw[D]at u;have T:Y (OP c a=let V:Fd×Bool:=if a>61 then(⟨p,q,r⟩,C)else(⟨h,i,j⟩,z);if V.2 then(V.1,0)else(Fd.b,12)):=aj (by unfold OP;rw[A,D]);unfold CS agF at t u;dsimp only at t u;have hw:U.wrap (a-61)=a-61:=bF _ (by omega);clear P Q K L M N A D;go_enter func176,ntmps176;go_wp2_with fail;refine(t _).o.mono ?_;rintro d0 E ⟨rfl,F⟩;have d:=aj (S.o.trans (F.mono S.o.size));have k:=aj (a0.o.b F);have G:=aj (gU E 93 #[aA h,aA i,j]);have e0:=aj (k.o.h (.cells #[aA h,aA i,j] 93));have v:=aj (d.o.trans (G.o.1.mono d.o.size));have W:(E.alloc (.cells #[aA h,aA i,j] 93)).cell? ⟨n,2,O⟩=R (aK (R ⟨m,0,O⟩)):=(v.o.cell (p:=⟨n,2,O⟩) c0.o).trans b0.o;have g0:b.heap.size<E.heap.size:=k.o.e;clear F;by_cases X:a>61
 ·have s:Y (OP c a=if C then(⟨p,q,r⟩,0)else(Fd.b,12)):=aj (by rw[T.o,aP X]);go_wp2_with fail;refine(u.o _ v.o).mono ?_;rintro d0 w3 ⟨rfl,w⟩;have l:=aj (v.o.trans (w.mono v.o.size));have x:=aj (e0.o.b w);have y:=aj (G.o.2.b w);obtain⟨y0,y1,y2⟩:=bH.n y.o;obtain⟨z0,z1,z2⟩:=bH.n x.o;have gy:=y.o.c;have gz:=x.o.c;clear w W;cases C
  ·go_wp2_with fail;obtain⟨k4,e⟩:=UY y.o (aA p) (aA q) (aO r) _ rfl;obtain⟨f,g⟩:=UY (x.o.g e (by simp;omega)) (aA E0) (aA E0) (aO false) _ rfl;exact aG (eH results176 _ rfl f underlying93 rfl (by kernel_rfl)) rfl ⟨by rw[s.o];rfl,(l.o.trans (e.c l.o.size (by simp;omega))).trans (g.c (aR l.o.size e.b) (by simp))⟩
  ·go_wp2_with fail;obtain⟨k4,e⟩:=UY y.o (aA p) (aA q) (aO r) _ rfl;obtain⟨f,g⟩:=UY (x.o.g e (by simp;omega)) (aA p) (aA q) (aO r) _ rfl;exact aG (eH results176 _ rfl f underlying93 rfl (by kernel_rfl)) rfl ⟨by rw[s.o];rfl,(l.o.trans (e.c l.o.size (by simp;omega))).trans (g.c (aR l.o.size e.b) (by simp))⟩
 ·have s:Y (OP c a=if z then(⟨h,i,j⟩,0)else(Fd.b,12)):=aj (by rw[T.o,aL X]);obtain⟨y0,y1,y2⟩:=bH.n G.o.2;obtain⟨z0,z1,z2⟩:=bH.n k.o;have gz:=k.o.c;clear W;cases z
  ·go_wp2_with fail;obtain⟨f,g⟩:=UY k.o (aA E0) (aA E0) (aO false) _ rfl;exact aG (eH results176 _ rfl (f.h _) underlying93 rfl (by kernel_rfl)) rfl ⟨by rw[s.o];rfl,(d.o.trans (g.c d.o.size (by simp))).alloc (by simpa using d.o.size) _⟩
  ·go_wp2_with fail;obtain⟨f,g⟩:=UY k.o (aA h) (aA i) (aO j) _ rfl;exact aG (eH results176 _ rfl (f.h _) underlying93 rfl (by kernel_rfl)) rfl ⟨by rw[s.o];rfl,(d.o.trans (g.c d.o.size (by simp))).alloc (by simpa using d.o.size) _⟩
structure FN (w:aB) (B X tb:Nat) (v:aI) (FA SA:Option aX) (fc sc:Nat) (x:AO):Prop where
 b:bH w X 257 #[Z FA x.a.length fc,Z SA x.b.length sc,qp tb]
 c:w.ownsRow B 93 3 (Z FA x.a.length fc) x.a.length (dx x.a)
 d:w.ownsRow B 3 1 (Z SA x.b.length sc) x.b.length (x.b.map (J U))
 a:jX w B tb v x.t
 e:B≤X∧B≤tb
 f:∀r,(Z FA x.a.length fc).ownBlock=R r→v.ownBlock≠R r
def fJ {b:aB} {f g h a:Nat} {c d:bB} {e:aI} {i:List aI} {j:Array aI} (k:b.ownsRow f c h e g i) (f:bH b a d j) (g:c≠d):e.ownBlock≠R a:=by
 intro b;rcases k.2 with⟨rfl,_⟩|⟨c,e,h,rfl,_,d,_⟩
 ·cases b
 ·have:c=a:=by simpa[Value.ownBlock]using b
  subst this;have a:=d.symm.trans f;simp only[Option.some.injEq,Obj.cells.injEq]at a;exact g a.2.1
def pQ {b:aB} {g h i j k l a:Nat} {c d:bB} {e f:aI} {m n:List aI} (o:b.ownsRow g c k e i m) (g:b.ownsRow h d l f j n) (h:c≠d) (b:e.ownBlock=R a):f.ownBlock≠R a:=by
 intro c;rcases o.2 with⟨rfl,_⟩|⟨d,f,i,rfl,_,e,_⟩
 ·cases b
 ·rcases g.2 with⟨rfl,_⟩|⟨f,j,k,rfl,_,i,_⟩
  ·cases c
  ·have g:d=a:=by simpa[Value.ownBlock]using b
   have b:f=a:=by simpa[Value.ownBlock]using c
   subst g b;have a:=e.symm.trans i;simp only[Option.some.injEq,Obj.cells.injEq]at a;exact h a.2.1
def Yu:(Tryz.prog.info? 3).map (fun a=>(a.zero,a.size,a.bytes))=R (R (J U 0),1,8):=by kernel_rfl
def CY (a d:Nat) (b:AO×Int) (e:aB) (f:Ending) (c:aB):Prop:=f=av (J U b.2)∧aJ a e c∧∃e f g h i j,FN c a d e f g h i j b.1
def Rz {j f g:Nat} {m:aI} {r n:Option aX} {s o:Nat} {c:AO} (k:Int) (p:aB) (d:FN p j f g m r n s o c) (y:j≤p.heap.size) (P:c.t.c) (a:0≤k) (v:k≤2147483647) (a:c.a.length≤100000) (a:c.b.length≤100000):
  aF au 135 #[qp f,k] p (CY j f (c.c k) p):=by
 have h:=aj d;obtain⟨H,z⟩:=exq c.a.length;obtain⟨i,w⟩:=exq c.b.length;obtain⟨D,E,I⟩:=bH.n d.b;rw[z]at D;rw[w]at E;by_cases F:H=0
 ·have t:=aj d.d;rw[w]at t;have l:Y (c.b.length=i∧c.a.length=0):=aj ⟨w,Y0⟩;subst F;rw[w]at a;clear d z w;go_enter func135,ntmps135;go_wp2_with (at_builtin;go_loud (refine oW rfl (.tmp 17) (.tmp 19) 37 rfl j 3 1 Yu rfl Y2 underlying37 #[k] rfl (Z n i o) i (c.b.map (J U)) rfl t.o rfl (by simp[Value.oneCell']) (by unfold maxLen;omega) Y0 y ?_));intro A B q K x Q S;have C:Y (bg (Z n i o).ownBlock.toList p q∧(Z n i o).ownBlock≠R f∧(Z n i o).ownBlock≠R g∧(∀a,m.ownBlock=R a→(Z n i o).ownBlock≠R a)∧(∀a,(Z r 0 s).ownBlock=R a→(Z n i o).ownBlock≠R a)):=aj ⟨x,fJ t.o h.o.b Y2,fJ t.o h.o.a.a Y2,fun a b e=>pQ t.o h.o.a.c Y2 e b,fun a b e=>pQ t.o h.o.c Y2 e (by rw[l.o.2];exact b)⟩;have u:Y (bH q f 257 #[Z r 0 s,Z n i o,qp g]):=aj (by have:=h.o.b;rw[l.o.1,l.o.2]at this;exact this.g x (fun e=>C.o.2.1 (bC.1 e)))
  have L:=aj K;have M:=aj (x.c y (fun a b=>(t.o.lt a (bC.1 b)).1));have G:=aj (h.o.a.f x (fun e=>C.o.2.2.1 (bC.1 e)) (fun a b e=>C.o.2.2.2.1 a b (bC.1 e)));have N:Y (q.ownsRow j 93 3 (Z r 0 s) 0 (dx c.a)):=aj (by have:=h.o.c;rw[l.o.2]at this;exact bO this x (fun a b e=>C.o.2.2.2.2 a b (bC.1 e)))
  clear K x Q S D E I;obtain⟨D,E,I⟩:=bH.n u.o;have t:=u.o.c;obtain⟨t,C⟩:=exq (q.setCell ⟨f,1,O⟩ (Z (R ⟨A,0,O⟩) (i+1) B));have x:bg [f] q t:=by rw[←C];exact bg.e (F:=[f]) (p:=⟨f,1,O⟩) q Y1 _
  have E:Y (bH t f 257 #[Z r 0 s,Z (R ⟨A,0,O⟩) (i+1) B,qp g]):=aj (by rw[←C];exact u.o.f 1 _);have I:=u.o.z G.o.a Y2;have q:=aj (G.o.f x (Y6 I.symm) (fun a b e=>fJ G.o.c u.o Y2 (by rw[b,aC.1 e])));have D:=aj (bO L.o x (fun a b e=>fJ L.o u.o Y2 (by rw[b,aC.1 e])));have G:=aj (bO N.o x (fun a b e=>fJ N.o u.o Y2 (by rw[b,aC.1 e])));have u:=aj (M.o.trans (x.c (aR y M.o.size) (Y6 h.o.e.1)));have i:=aj (IZ j g m c.t k t true (by unfold bV;simp;omega) q.o P);have t:=aj C;clear C x;go_wp2_with fail;rw[t.o];refine i.o.mono ?_;rintro t K i;rw[aP trivial]at i;obtain⟨rfl,⟨L,t,x⟩,C⟩:=i;have v:=C (g::m.ownBlock.toList) Y1 (fun M i=>bJ _ (bC.2 i));have i:∀a,a∈g::m.ownBlock.toList→a=g∨m.ownBlock=R a:=fun a b=>(bA.1 b).imp id bC.1;have M:Y (CY j f (c.c k) p (av (J U 0)) K):=aj (by
   have j:=dL l.o.2;have p:c.c k=({c with b:=c.b++[k],t:=c.t.g k},0):=by unfold AO.c;rw[j];rfl
   rw[p];refine⟨rfl,u.o.trans (v.c (aR y u.o.size) (fun a b=>(i a b).elim (fun d=>by rw[d];exact h.o.e.2) (fun d=>(q.o.c.lt a d).1))),g,L,r,R ⟨A,0,O⟩,s,B,?_,?_,?_,t,h.o.e,?_⟩
   ·have:=E.o.g v (fun e=>(i f e).elim I (fun d=>fJ q.o.c E.o Y2 d));simpa[l.o.1,l.o.2]using this
   ·have:=bO G.o v (fun a b e=>(i a e).elim (fun d=>fJ G.o q.o.a Y2 (by rw[←d];exact b)) (fun d=>h.o.f a (by rw[l.o.2];exact b) d));simpa[l.o.2]using this
   ·have:=bO D.o v (fun a b e=>(i a e).elim (fun d=>fJ D.o q.o.a Y2 (by rw[←d];exact b)) (fun d=>pQ D.o q.o.c Y2 b d));simpa[l.o.1]using this
   ·intro a b;rw[x];exact h.o.f a b)
  clear v i C t x;go_wp2;go_ret;exact M.o
 ·have a:((H:Nat):Int)>0:=Y0;have a:Y (c.c k=(c,13)):=aj (by unfold AO.c;rw[aL];intro d;exact F (by rw[←z,List.isEmpty_iff.1 d];rfl))
  clear d F z w;go_enter func135,ntmps135;go_wp2;go_ret;exact⟨by rw[a.o];rfl,ay _ _,g,m,r,n,s,o,by rw[a.o];exact h.o⟩
def Av (a:Fr) (b:Option aX) (c d:Nat) (e:Option aX) (f g:Nat):aI:=aS (qf a b c d e f g)
def KN (a:Fr×(Int×Int)) (b:aB) (h:Ending) (c:aB):Prop:=
 ∃d e f g,h=av (aN #[Av a.1 d a.1.c.length e f a.1.i.length g,aS #[a.2.1,a.2.2]])∧c.ownsRow b 5 1 (Z d a.1.c.length e) a.1.c.length (dP a.1.c)∧c.ownsRow b 252 2 (Z f a.1.i.length g) a.1.i.length (bN a.1.i)∧aJ b b c
def tu (a:Fr) (b:Cu):(eO a b).1.f=a.f∧(eO a b).1.c=a.c∧(eO a b).1.i=a.i:=by
 unfold eO kY;split
 ·split<;>exact⟨rfl,rfl,rfl⟩
 ·split
  ·exact⟨rfl,rfl,rfl⟩
  ·split
   ·exact⟨rfl,rfl,rfl⟩
   ·split
    ·exact⟨rfl,rfl,rfl⟩
    ·split
     ·exact⟨rfl,rfl,rfl⟩
     ·split<;>exact⟨rfl,rfl,rfl⟩
def Jc {a d e f:Int} {g:List Int} {h b:Cu} {c:Fr} (i:Ip a d ⟨g,false⟩=(f,h)) (j:eO ⟨a,d,e,f,[],[],0,0,false,0,0,0,0⟩ h=(c,b)):
  lC a d e g=if b.b then(Fr.o,(lV a,6))else if c.f>(b.r.length:Int)then(Fr.o,(2,1))else if a==4 then({c with i:=eX g},(0,0))else({c with c:=b.r.take (b.r.length-c.f.toNat)},(0,0)):=by have k:eO {Fr.o with a:=a,d:=d,b:=e,f:=f} h=(c,b):=j;simp only[lC,i,k]
abbrev Z13:Array aI:=qz
def Nt {b:Program} {n:Func} {j k:Tmp} {d e:bB} (q:n.results=#[.cell j d,.cell k e]) {c:Array aI} {a:aB} {f g:Nat} {o p:bB} {h i:Array aI} {l m:TypeDesc}
  (r:c.getD j bq=aK (R ⟨f,0,O⟩)) (s:bH a f o h) (t:b.underlying d=R l) (u:(match l with|.struct _|.array _ _=>true|_=>false)=true) (v:(b.info? d).map (·.size)=R h.size)
  (w:c.getD k bq=aK (R ⟨g,0,O⟩)) (x:bH a g p i) (y:b.underlying e=R m) (z:(match m with|.struct _|.array _ _=>true|_=>false)=true) (A:(b.info? e).map (·.size)=R i.size):
  (results n c).run b a=.ok (aN #[aS h,aS i]) a:=by have b:c[j]?.getD bq=aK (R ⟨f,0,O⟩):=Y6 r;have j:c[k]?.getD bq=aK (R ⟨g,0,O⟩):=Y6 w;simp[results,q,b,j,asAddr,run_loadVar_row a f o d h (0,0) l s t u v,run_loadVar_row a g p e i (0,0) m x y z A]
structure AP (w wx:aB) (raw:Array aI):Prop where
 f:bH wx w 30 raw
 a:bH wx (w.heap.size+1) 137 Z13
 b:bH wx (w.heap.size+1+1) 91 #[J U 0,J U 0]
 d:aJ w w wx
def AP.c {b d e:aB} {f:Array aI} {F:List Nat} (a:AP b d f) (c:bg F d e) (hF:∀d∈F,b.heap.size+1+1<d):AP b e f:=
 ⟨a.f.g c (fun b=>by have:=hF _ b;omega),a.a.g c (fun b=>by have:=hF _ b;omega),a.b.g c (fun b=>by have:=hF _ b;omega),a.d.trans (c.c a.d.size (fun d a=>by have:=hF d a;omega))⟩
def AP.e {c a wy:aB} {d:Array aI} (b:AP c a d) (e:aJ a a wy):AP c wy d:=b.c (F:=[]) (bg.d e) (fun _ b=>nomatch b)
def yt {a c:aB} {h d e:Array aI} {g:Act} {b:Fr×(Int×Int)} {D S:Option aX} {dc sc:Nat} (f:AP a c h) (i:g.defers=[]) (j:f88.results=#[.cell 2 137,.cell 3 91])
  (k:g.tmps.getD 2 bq=aK (R ⟨a.heap.size+1,0,O⟩)) (l:g.tmps.getD 3 bq=aK (R ⟨a.heap.size+1+1,0,O⟩))
  (m:d.size=13∧e.size=2∧ aS d=Av b.1 D b.1.c.length dc S b.1.i.length sc∧ aS e=aS #[b.2.1,b.2.2]∧c.ownsRow (a.heap.size+1+1+1) 5 1 (Z D b.1.c.length dc) b.1.c.length (dP b.1.c)∧c.ownsRow (a.heap.size+1+1+1) 252 2 (Z S b.1.i.length sc) b.1.i.length (bN b.1.i)):
  bodyPost au f88 (KN b a) .ret g ((c.setRow (a.heap.size+1) d).setRow (a.heap.size+1+1) e):=by
 obtain⟨n,o,p,q,g,h⟩:=m;have m:bH ((c.setRow (a.heap.size+1) d).setRow (a.heap.size+1+1) e) (a.heap.size+1) 137 d:=(f.a.p _).s Y0 _;have r:bH ((c.setRow (a.heap.size+1) d).setRow (a.heap.size+1+1) e) (a.heap.size+1+1) 91 e:=(f.b.s Y0 _).p _;have b:bg [a.heap.size+1,a.heap.size+1+1] c ((c.setRow (a.heap.size+1) d).setRow (a.heap.size+1+1) e):=(bg.h (F:=[a.heap.size+1,a.heap.size+1+1]) c _ _ Y1).a (bg.h (F:=[a.heap.size+1,a.heap.size+1+1]) _ _ _ Y1) (fun _ f=>.inl f);refine aG (Nt j k m underlying137 rfl (by rw[n];kernel_rfl) l r underlying91 rfl (by rw[o];kernel_rfl)) i ⟨D,dc,S,sc,by rw[p,q],?_,?_,f.d.trans (b.c f.d.size (by simp;omega))⟩
 ·exact dz (bO g b (fun a c d=>by have:=(g.lt a c).1;simp at d;omega)) Y0
 ·exact dz (bO h b (fun a c d=>by have:=(h.lt a c).1;simp at d;omega)) Y0
def Rv {a f c:aB} {g:Array aI} {h:Fr} {i b d:Nat} {e:Option aX} {j:List aI} (m:AP a f g) (k:bH f (a.heap.size+1+1+1) 137 (OQ h)) (l:bg [i] f c) (n:a.heap.size+1+1+1<i) (i:c.ownsRow f 5 1 (Z e b d) b j):
  AP a (c.setCell ⟨a.heap.size+1+1+1,4,O⟩ (Z e b d)) g∧bH (c.setCell ⟨a.heap.size+1+1+1,4,O⟩ (Z e b d)) (a.heap.size+1+1+1) 137 (qf h e b d O 0 0)∧(c.setCell ⟨a.heap.size+1+1+1,4,O⟩ (Z e b d)).ownsRow f 5 1 (Z e b d) b j:=by have b:=m.c l (by simp;omega);have d:=k.g l (by simp;omega);refine⟨b.c (bg.e (F:=[a.heap.size+1+1+1]) (p:=⟨a.heap.size+1+1+1,4,O⟩) c Y1 _) Y1,d.f 4 _,ownsRow_setCell_other i (fun a=>?_) _⟩;have b:=(i.lt _ a).1;have a:=k.e;simp at b;omega
def kp4 {a b:aB} {d e f g:bB} {h i j k:Array aI} (c:aJ ((((a.alloc (.cells h d)).alloc (.cells i e)).alloc (.cells j f)).alloc (.cells k g)).heap.size ((((a.alloc (.cells h d)).alloc (.cells i e)).alloc (.cells j f)).alloc (.cells k g)) b):
  aJ a a b∧bH b a d h∧bH b (a.heap.size+1) e i∧bH b (a.heap.size+1+1) f j∧bH b (a.heap.size+1+1+1) g k:=
 have b:aJ a a ((((a.alloc (.cells h d)).alloc (.cells i e)).alloc (.cells j f)).alloc (.cells k g)):=((((ay _ a).alloc (aD _) _).alloc Y1 _).alloc (by simp;omega) _).alloc (by simp;omega) _
 ⟨b.trans (c.mono b.size),bH.b ((((bH.d a _ _).h _).h _).h _) c,bH.b ((bH.w.h _).h _) c,bH.b (bH.A.h _) c,bH.b bH.G c⟩
def Je (fr i p t:Int) (c0:Bool) (z:Option aX) (r H:Nat) (b:List Int) (a:aB) (y:b.length=r) (D:r≤1000000) (A:z=O→r=0) (B:bU a z (dP b)) (u:gZ b) (G:p≤9223372036854775807) (W:i=4→r%6=0):
  aF au 88 #[fO fr i p t c0 z r H] a (KN (lC i p t b) a):=by
 obtain⟨c,j,f⟩:∃c j,Ip i p ⟨b,false⟩=(c,j):=⟨_,_,rfl⟩;obtain⟨g,v,x⟩:∃g v,eO ⟨i,p,t,c,[],[],0,0,false,0,0,0,0⟩ j=(g,v):=⟨_,_,rfl⟩;have l:=aj (Jc f x);have E:=aj (tu ⟨i,p,t,c,[],[],0,0,false,0,0,0,0⟩ j);rw[x]at E;have K:=aj f;have a0:Y (-1≤c∧c≤255):=aj (by
  have d:=bE Prod.fst f;unfold Ip Cu.a at d;dsimp only at d;split at d
  ·split at d
   ·simp at d;omega
   ·have:=Cv (u.a 1);have n:(b.take 1).length≤1:=by simp;omega
    have F:(256:Int)^(b.take 1).length≤256:=by have:(b.take 1).length=0∨(b.take 1).length=1:=Y0;rcases this with s|s<;>rw[s]<;>decide
    dsimp only at d;omega
  ·simp at d;omega)
 have M:=aj (fun e (C:aJ a a e)=>tZ z r H b e y D A (B.a C));have L:=fun e=>aj (mF i p 8 e G);obtain⟨q8,I⟩:=exq (zbX i p 8);rw[I]at L;have b0:=aj I;have V:Y (∀w m k o e,zT e w m k o ⟨i,p,t,c,[],[],0,0,false,0,0,0,0⟩ j→aF au 126 #[qp m,qp o] e fun h q=>h=av (aN #[])∧Y (zT q w m k o g v∧bg [k,m,o] e q)):=aj fun w m k o e C=>(Rq w m k o _ _ e C G).mono fun h q s=>by unfold kK at s;rw[x]at s;exact⟨s.1,aj s.2⟩
 have HL:=aj y;have k0:=aj u;have g0:Y ((z=O→r=0)∧bU a z (dP b)∧(i=4→r%6=0)):=aj ⟨A,B,W⟩;clear y A B u G W x f I;unfold fO;go_enter func88,ntmps88;go_wp2_with fail;refine(M.o _ (((((ay _ a).alloc (aD _) _).alloc Y1 _).alloc (by simp;omega) _).alloc (by simp;omega) _)).mono ?_;rintro h A ⟨k,rfl,G,I,N⟩;obtain⟨w,m⟩:∃w,w=(a.heap.size+1+1+1+1,A.heap.size):=⟨_,rfl⟩;have y:gH A w k b 0:=by rw[m];simpa using I
 have n0:=aj m;obtain⟨B,P,Q,S,T⟩:=kp4 N;have o:Y (AP a (A.alloc (.cells #[qp k,false] 243)) (qs fr i p t c0 z r H)):=aj ⟨P.h _,Q.h _,S.h _,B.alloc B.size _⟩;have X:Y (a.heap.size+1+1+1+1≤k∧k<A.heap.size):=aj (by obtain⟨_,_,n,_⟩:=y.d;have:=n.e;simp at G;omega)
 have x:Y (zT (A.alloc (.cells #[qp k,false] 243)) w A.heap.size k (a.heap.size+1+1+1) ⟨i,p,t, -1,[],[],0,0,false,0,0,0,0⟩ ⟨b,false⟩):=aj ⟨⟨b,0,rfl,⟨bH.d _ _ _,gH.f (F:=[]) y (bg.n _ _) (fun d0 u=>nomatch u),by rw[m];exact .inr (aD _)⟩,k0.o,by rw[HL.o];exact D⟩,T.h _,by rw[m];exact .inl (by show a.heap.size+1+1+1<a.heap.size+1+1+1+1;omega),by have:=X.o;omega⟩;clear G I N m y B P Q S T M;obtain⟨M,N,P,Q,S,T⟩:=bH.j o.o.f;go_wp2_with fail;refine mB ((L _).o) ?_;rintro m rfl;go_upto_if 22 with fail;go_cut [] (fun I=>Y (AP a I (qs fr i p t c0 z r H)∧zT I w A.heap.size k (a.heap.size+1+1+1) ⟨i,p,t,c,[],[],0,0,false,0,0,0,0⟩ j∧A.heap.size≤I.heap.size));case first=>
  have f:=K.o;unfold Ip at f;rw[b0.o]at f;cases q8
  ·injection(show((-1:Int),(⟨b,false⟩:Cu))=(c,j)from f)with d n;subst d n;clear f l E K;go_wp2_with fail;go_meet;exact aj ⟨o.o,x.o,Y1⟩
  ·have B:(⟨b,false⟩:Cu).a 1=(c,j):=f;have G:=aj (rY w A.heap.size k ⟨b,false⟩ 1 _ x.o.b Y2 Y2);rw[B]at G;clear f B l E K;go_wp2_with fail;refine mB G.o fun w3 ⟨F,m⟩=>?_;have y:=aj (x.o.c F m);have O3:=aj m;have gf:=y.o.a.c;have d3:=y.o.a.a 3;clear F m;go_wp2_with fail;go_meet;have O4:=kJ (i:=3) (v:=J U c) (vv (fb:=a.heap.size+1+1+1) O3.o);refine aj ⟨o.o.c O4 (fun d0 u=>by have:=X.o;simp at u;omega),y.o.d (f':=⟨i,p,t,c,[],[],0,0,false,0,0,0,0⟩) 3 (J U c) rfl,?_⟩;have:=O4.b;simp at this⊢;omega
 case rest=>
  have c:=aj hcut.o;clear hcut x o M N P Q S T;go_wp2_with fail;refine mB (V.o _ _ _ _ _ c.o.2.1) fun m j=>?_;have f:=aj (c.o.1.c j.o.2 (fun d0 u=>by have:=X.o;simp at u;omega));have y:=aj j.o.1;have o:=aj (aR c.o.2.2 j.o.2.b);obtain⟨x,o⟩:=exq v.b;have l0:Y (bH m A 243 #[qp k,x]):=aj (by obtain⟨l',k',_,n,_⟩:=y.o.b.a;rw[←o];exact n.b)
  obtain⟨e0,b1⟩:=bH.m l0.o;obtain⟨M,N,P,Q,S,T⟩:=bH.j f.o.f;rw[o]at l;clear c j V L o;cases x
  ·rw[aL Y2]at l;obtain⟨K,j⟩:=exq v.r.length;have f0:Y (∀o,aF au 127 #[qp k] (m.drewN o) fun h q=>h=av (J U (K:Nat))∧∃c,q=(m.drewN o).drewN c):=aj (fun o=>by obtain⟨l',k',d,n,F,h4⟩:=y.o.b.a;have h5:=zS k l' k' w (m.drewN o) (aj (n.a.h o)) h4;rw[←j,d,bT];exact h5)
   rw[j]at l;have h0:=aj j;obtain⟨L,x⟩:=exq g.f;have d3:m.cell? ⟨a.heap.size+1+1+1,3,O⟩=R (J U L):=by rw[←x];exact y.o.a.a 3
   rw[x]at l;have m0:Y (L=g.f∧ -1≤L∧L≤255):=aj (by have d:=E.o.1;rw[←x,d];exact⟨rfl,a0.o⟩)
   clear j x;by_cases i0:L>(K:Int)
   ·rw[aP i0]at l;go_wp2;go_quiet (first|exact Calls.quiet_of (f0.o _));go_wp2_with fail;refine mB (rW 2 1 _) fun V a0=>?_;have b0:=aj ((f.o.e (wy:=m.drewN nq) (bI (ay _ m) nq)).e a0);clear f a0 M N P Q S T e0 b1 d3;have f:=aj b0.o;have j:Y (7=7):=aj rfl;go_wp2_with (first|refine wpList_store_row rfl 137 (.tmp 2) (.tmp 45) rfl (a.heap.size+1) Z13 rfl rfl 137 Z13 f.o.a Y3 rfl Y3 ?_ |refine wpList_store_row rfl 91 (.tmp 3) (.tmp 46) rfl (a.heap.size+1+1) #[J U 2,J U 1] rfl rfl 91 #[J U 0,J U 0] (f.o.b.s Y0 _) Y3 rfl Y3 ?_);exact yt f.o rfl results88 rfl rfl ⟨rfl,rfl,by rw[l.o];rfl,by rw[l.o],by rw[l.o];exact aT _ _ _ _,by rw[l.o];exact aT _ _ _ _⟩
   ·rw[aL i0]at l;by_cases h4:i=4
    ·subst h4;obtain⟨x,G⟩:∃c,r=6*c:=⟨r/6,by have:=g0.o.2.2 rfl;omega⟩;have j0:=aj (wu x b (by rw[HL.o];exact G));have o0:Y (∀e,aJ a a e→aF au 128 #[Z z r H] e fun h q=>∃j B,h=av (aN #[Z j x B,J U 0])∧Y (q.ownsRow e 252 2 (Z j x B) x (bN (eX b))∧aJ e e q)):=aj fun e C=>(Nq z r H b e x HL.o D G g0.o.1 (g0.o.2.1.a C) k0.o).mono fun h q s=>by unfold CX at s;rw[j0.o]at s;obtain⟨j,B,d,n,F⟩:=s;exact⟨j,B,d,aj ⟨n,F⟩⟩
     clear G;go_wp2;go_quiet (first|exact Calls.quiet_of (f0.o _));go_wp2_with fail;refine(o0.o _ (bI f.o.d nq)).mono ?_;rintro h V ⟨B,j,rfl,G⟩;have b0:=aj ((f.o.e (wy:=m.drewN nq) (bI (ay _ m) nq)).e G.o.2);have D:=aj ((y.o.a.q nq).b G.o.2);have g0:=aj (D.o.f 5 (Z B x j));have k0:=bg.e (F:=[a.heap.size+1+1+1]) (p:=⟨a.heap.size+1+1+1,5,O⟩) V Y1 (Z B x j);have o0:=aj (b0.o.c k0 Y1);have g5:=D.o.c 5;have e5:=D.o.H 5;have p0:=aj k0;clear f M N P Q S T e0 b1 d3 k0;have f:=aj o0.o;have k0:lC 4 p t b=({g with i:=eX b},(0,0)):=by rw[l.o,aP Y2,m0.o.1]
     have D:=aj k0;clear k0;go_wp2_with (first|refine eT Y4 137 (.tmp 4) rfl (a.heap.size+1+1+1) 0 rfl ((qf g O 0 0 B x j):Array aI).toList (jl g0.o) underlying137 rfl Y3 (qf g O 0 0 B x j) rfl ?_ |refine wpList_store_row rfl 137 (.tmp 2) (.tmp 57) rfl (a.heap.size+1) (qf g O 0 0 B x j) rfl rfl 137 Z13 f.o.a Y3 rfl Y3 ?_ |refine wpList_store_row rfl 91 (.tmp 3) (.tmp 58) rfl (a.heap.size+1+1) #[J U 0,J U 0] rfl rfl 91 #[J U 0,J U 0] (f.o.b.s Y0 _) Y3 rfl Y3 ?_);exact yt f.o rfl results88 rfl rfl (D:=O) (dc:=0) (S:=B) (sc:=j) ⟨rfl,rfl,by rw[D.o];show _=Av _ O g.c.length 0 B (eX b).length j;rw[E.o.2.1,j0.o];rfl,by rw[D.o],by rw[D.o];show World.ownsRow _ _ _ _ (Z O g.c.length 0) g.c.length (dP g.c);rw[E.o.2.1];exact aT _ _ _ _,by rw[D.o];show World.ownsRow _ _ _ _ (Z B (eX b).length j) (eX b).length (bN (eX b));rw[j0.o];exact dz (bO G.o.1 p0.o (fun d0 u x=>by have d:=(G.o.1.lt d0 u).1;have n:=y.o.a.e;simp at d x;omega)) (by have n:=y.o.a.e;simp;omega)⟩
    ·have B:=aM.2 h4;rw[B]at l;obtain⟨B,d0⟩:=exq L.toNat;obtain⟨c,x⟩:=exq (K-B);have j0:B≤K:=Y0;have j0:max L 0=(B:Int):=Y0;have L:K≤1000000:=by obtain⟨l',k',d,n,F,h5⟩:=y.o.b.a;have:=h0.o;rw[d,bT]at this;omega
     have L:U.wrap ((K:Int)-B)=((c:Nat):Int):=by rw[bF _ Y0];omega
     have D:Y (lC i p t b=({g with c:=v.r.take c},(0,0))):=aj (by rw[l.o,aL Y2,←m0.o.1,d0,x]);have L:Y ((v.r.take c).length=c):=aj (by rw[dw,h0.o];omega);have j0:Y (∀e,(∃o,e=m.drewN o)→aF au 129 #[qp k,J U (c:Nat)] e fun h q=>∃b B,h=av (aN #[Z b c B,J U 0])∧Y (q.ownsRow m 5 1 (Z b c B) c (dP (v.r.take c))∧bg [k] m q)):=aj fun e C=>by
      obtain⟨o,rfl⟩:=C;obtain⟨l',k',d,n,F,h5⟩:=y.o.b.a;have b:=n.a.e;have b:=h0.o;rw[d,bT]at b;refine(Nn k l' k' w c (m.drewN o) (aj (n.a.h o)) h5 Y0 (by
       rw[n0.o];have W:=l0.o.e;show A.heap.size≤m.heap.size
       omega)).mono fun h q s=>?_
      obtain⟨b,B,W,w,F,A⟩:=s;rw[←d]at w;exact⟨b,B,W,aj ⟨w,(bg.j m o).a A (fun _ s=>.inl s)⟩⟩
     have mixed:Tryz.prog.follows .mixedOrders=true:=Y3;have s:Y (∀e,(∃o,e=m.drewN o)→aF au 127 #[qp k] e fun h q=>h=av (J U (K:Nat))∧∃o,q=m.drewN o):=aj fun e C=>by obtain⟨o,rfl⟩:=C;exact(f0.o o).mono fun h q ⟨d,c,n⟩=>⟨d,o+c,by rw[n,World.drewN_drewN]⟩
     have e:=y.o.a.H 4;clear x d0 h4 i0;go_wp2;go_quiet (first|exact Calls.quiet_of (f0.o _));go_upto_region 13 with fail;go_cut [] (fun I=>∃(b:Option aX) (j:Nat),Y (AP a I (qs fr i p t c0 z r H)∧bH I (a.heap.size+1+1+1) 137 (qf g b c j O 0 0)∧I.ownsRow m 5 1 (Z b c j) c (dP (v.r.take c))));case first=>
      go_region_law (first|(go_simp;refine(s.o _ ⟨_,rfl⟩).mono ?_;rintro h k ⟨rfl,p,rfl⟩;dsimp only)|(go_simp;refine(j0.o _ ⟨_,rfl⟩).mono ?_;rintro h V ⟨b,j,rfl,G⟩;have e:=aj (y.o.a.g G.o.2 (fun u=>by have d:=X.o;have n:=aC.1 u;omega));have q:=e.o.c 4;have o:=e.o.a 4;simp only[OQ]at o;dsimp only));all_goals
       go_wp2;go_meet;exact⟨b,j,aj (Rv f.o y.o.a G.o.2 (by have d:=X.o;omega) G.o.1)⟩
     case rest=>obtain⟨b,j,d⟩:=hcut;have e:=d.o.1;have g0:=aj d.o.2.1;have n:=y.o.a.e;clear f M N P Q S T e0 b1 d3;have f:=aj e;go_wp2_with (first|refine eT Y4 137 (.tmp 4) rfl (a.heap.size+1+1+1) 0 rfl ((qf g b c j O 0 0):Array aI).toList (jl g0.o) underlying137 rfl Y3 (qf g b c j O 0 0) rfl ?_ |refine wpList_store_row rfl 137 (.tmp 2) (.tmp 77) rfl (a.heap.size+1) (qf g b c j O 0 0) rfl rfl 137 Z13 f.o.a Y3 rfl Y3 ?_ |refine wpList_store_row rfl 91 (.tmp 3) (.tmp 78) rfl (a.heap.size+1+1) #[J U 0,J U 0] rfl rfl 91 #[J U 0,J U 0] (f.o.b.s Y0 _) Y3 rfl Y3 ?_);exact yt f.o rfl results88 rfl rfl (D:=b) (dc:=j) (S:=O) (sc:=0) ⟨rfl,rfl,by rw[D.o];show _=Av _ b (v.r.take c).length j O g.i.length 0;rw[E.o.2.2,L.o];rfl,by rw[D.o],by rw[D.o];show World.ownsRow _ _ _ _ (Z b (v.r.take c).length j) (v.r.take c).length (dP (v.r.take c));rw[L.o];exact dz d.o.2.2 Y0,by rw[D.o];show World.ownsRow _ _ _ _ (Z O g.i.length 0) g.i.length (bN g.i);rw[E.o.2.2];exact aT _ _ _ _⟩
  ·rw[aP rfl]at l;go_wp2_with fail;refine mB (BG i _) ?_;rintro k rfl;go_wp2_with fail;refine mB (rW (lV i) 6 _) fun V a0=>?_;have b0:=aj (f.o.e a0);clear f a0 M N P Q S T e0 b1;have f:=aj b0.o;go_wp2_with (first|refine wpList_store_row rfl 137 (.tmp 2) (.tmp 32) rfl (a.heap.size+1) Z13 rfl rfl 137 Z13 f.o.a Y3 rfl Y3 ?_ |refine wpList_store_row rfl 91 (.tmp 3) (.tmp 36) rfl (a.heap.size+1+1) #[J U (lV i),J U 6] rfl rfl 91 #[J U 0,J U 0] (f.o.b.s Y0 _) Y3 rfl Y3 ?_);exact yt f.o rfl results88 rfl rfl ⟨rfl,rfl,by rw[l.o];rfl,by rw[l.o],by rw[l.o];exact aT _ _ _ _,by rw[l.o];exact aT _ _ _ _⟩
section
variable {w w':aB} {B X tb:Nat} {v:aI} {FA SA:Option aX} {fc sc:Nat} {x:AO}
def FN.g (a:FN w B X tb v FA SA fc sc x) (b:aJ w w w'):FN w' B X tb v FA SA fc sc x:=
 ⟨a.b.b b,dF a.c b,dF a.d b,a.a.e b,a.e,a.f⟩
end
def RF {k:Program} {w:aB} {s:Array Oper} {f:Oper} {g:Act} {r:Act→aB→Prop} {t:Exit→Act→aB→Prop} {u:Prop} (y:f.guard=O) (l x:Operand) (h:bB)
  (z:f.op=.call {callee:=.builtin .append,args:=#[l,x],argTypes:=#[h,h]})
  (i:Nat) (a:bB) (c:Nat) {m:aI} {n:Nat} (A:(k.info? a).map (fun b=>(b.zero,b.size,b.bytes))=R (R m,c,n)) (C:m.cells.size=c) (D:0<c) (E:k.underlying h=R (.slice a))
  (b:Array aI) (F:b.size=c) (v:aI) (d:Nat) (o:List aI) (G:g.eval l=v) (H:w.ownsRow i a c v d o) (I:g.eval x=Z (R ⟨w,0,O⟩) 1 1)
  (K:∀p∈b.toList,p.oneCell'=true) (L:d+1≤maxLen) (M:(d+1)*n≤140737488355328) (e:i≤w.heap.size)
  (q:∀e j w',w'.ownsRow i a c (Z (R ⟨e,0,O⟩) (d+1) j) (d+1) (o++b.toList)→bg v.ownBlock.toList w w'→(e∈v.ownBlock.toList∨w.heap.size≤e)→e<w'.heap.size→r (g.put f.dst (Z (R ⟨e,0,O⟩) (d+1) j)) w'):
  if Region.wanted f (yielded s g.tmps)=true then Oper.wp k f g (w.alloc (.cells b a)) r t else u:=by
 obtain⟨g,k,r,s,t⟩:=info_parts A;refine step_append_lies _ y l x h z i a g m c n E k r s t C D v d o G (dF H (gU w a b).1) _ 1 1 b.toList I (by simp[F]) (fun d p g=>?_) K Y2 L M (by simp;omega) _ rfl ?_
 ·obtain⟨h,f,c,i⟩:=bU.i w a b (0,0) d p g;injection c with c;rw[c,Addr.add_lit];exact i
 ·intro e j w' d f c g;refine q e j w' d ((bg.d (F:=v.ownBlock.toList) (gU w a b).1).a (bg.k f (F:=v.ownBlock.toList) (fun h a=>.inl (by rw[a];simp))) (fun _ q=>.inl q)) ?_ g;rcases c with c|c
  ·exact .inl (by rw[c];simp)
  ·exact .inr (by rw[c];simp)
def Jh {B X tb:Nat} {v:aI} {FA SA:Option aX} {fc sc:Nat} {x:AO} (a:Rp) (w:aB) (b:FN w B X tb v FA SA fc sc x) (p:B≤w.heap.size) (c:x.t.c) (d:0≤a.i) (h:a.i≤2147483647) (T:x.a.length≤100000)
  (C:∀e,(x.d a)=(e,0)→jM e.a):
  aF au 136 #[qp X,rpV a] w (CY B X (x.d a) w):=by
 obtain⟨⟨⟨G,V,W⟩,n⟩,j⟩:∃e,(if a.i>0 then OP x.t a.i else((⟨a.c,E0,false⟩:Fd),(0:Int)))=e:=⟨_,rfl⟩;obtain⟨⟨f,g,i⟩,A⟩:∃e:Fd,(if a.k=1 then(⟨G,V,W⟩:Fd)else⟨G,a.d,a.k==4⟩)=e:=⟨_,rfl⟩;have HE:Y (x.d a=if n≠0 then(x,n)else({a:=x.a++[⟨f,g,i⟩],b:=x.b,t:=if a.k=2 then x.t.e ⟨f,g,i⟩else x.t},0)):=aj (by unfold AO.d;rw[j];simp only;rw[A])
 have m:=aj b;have HF:=aj A;have c0:=aj j;have e:=aj (And.intro d h);have d0:Y (∀e,aJ w w e→aF au 176 #[qp X,a.i] e (Ry (OP x.t a.i) e)):=aj fun e k=>ZK a.i e ((b.g k).b.a 2) (b.g k).b.e (b.g k).a c h d;obtain⟨l,o,D,H,I,K,L⟩:=a;unfold rpV;dsimp only at*;have k:=aj (sK w 261 93 (Rs ⟨l,o,D,H,I,K,L⟩) #[aA D,aA E0,false]);obtain⟨q,r,s,t,u,y,z⟩:=bH.r k.o.2.1;have HK:=aj c;have e0:=aj C;unfold Rs at q r s t u y z;clear b A j d h c C;go_enter func136,ntmps136;go_upto_if 14 with fail;go_cut [] (fun d=>Y (n=0)∧Y (aJ w w d∧bH d w 261 (Rs ⟨l,o,D,H,I,K,L⟩)∧bH d (w.heap.size+1) 93 #[aA G,aA V,W]));case first=>
  by_cases f0:o>0
  ·have g0:Y (∀e,aJ w w e→aF au 176 #[qp X,o] e fun E w'=>E=av (aN #[aS #[aA G,aA V,W],n])∧aJ e e w'):=aj (by have h:=c0.o;rw[aP f0]at h;have j:=d0.o;rw[h]at j;exact j)
   clear d0;go_wp2_with fail;refine mB (g0.o _ k.o.1) fun w2 a0=>?_;have A:=aj (k.o.1.trans (a0.mono k.o.1.size));have c:=aj (k.o.2.1.b a0);have b0:=aj (k.o.2.2.b a0);have h0:=b0.o.e;have gf:=b0.o.c;obtain⟨M,N,P⟩:=bH.n b0.o;clear a0 q r s t u y z;by_cases he:n=0
   ·subst he;go_wp2;go_meet;obtain⟨k5,o5⟩:=UY b0.o (aA G) (aA V) (aO W) _ rfl;exact⟨aj (by first|rfl|trivial),aj ⟨(A.o.trans (o5.c A.o.size Y1)).alloc (Y6 A.o.size) _,(c.o.g o5 Y1).h _,k5.h _⟩⟩
   ·have ne:(n !=0)=true:=Y6 he;have C:=aj (HE.o.trans (aP he));clear he;go_wp2;go_ret;rw[C.o];exact⟨rfl,(A.o.alloc A.o.size _).mono p,tb,v,FA,SA,fc,sc,m.o.g (A.o.alloc A.o.size _)⟩
  ·have h:=c0.o;rw[aL f0]at h;injection h with h j;injection h with F Q S;subst j F Q S;go_wp2;go_meet;exact⟨aj (by first|rfl|trivial),aj ⟨k.o.1,k.o.2.1,k.o.2.2⟩⟩
 case rest=>
  obtain⟨n,e⟩:=hcut;have A:=n.o;subst A;have C:=aj (HE.o.trans (aL Y2));clear HE n c0 d0 q r s t u y z k;obtain⟨q,r,s,t,u,y,z⟩:=bH.r e.o.2.1;obtain⟨M,N,P⟩:=bH.n e.o.2.2;have gf:=e.o.2.2.c;go_upto_if 28 with fail;go_cut [] (fun d=>Y (aJ w w d∧bH d w 261 (Rs ⟨l,o,D,H,I,K,L⟩)∧bH d (w.heap.size+1) 93 #[aA f,aA g,i]));case first=>
   by_cases h:l=1
   ·have k:=HF.o;rw[aP h]at k;injection k with F Q S;subst h F Q S;go_wp2;go_meet;exact aj e.o
   ·have k:=HF.o;rw[aL h]at k;injection k with F Q S;have n:(l !=1)=true:=Y6 h;subst F Q S;clear h HF C e0;go_wp2;go_meet;exact aj ⟨(e.o.1.setCell Y1 _).setCell Y1 _,(e.o.2.1.i Y1 _).i Y1 _,(e.o.2.2.f 1 _).f 2 _⟩
  case rest=>
   have k:=aj hcut.o;clear hcut e q r s t u y z M N P gf HF;obtain⟨q,r,s,t,u,y,z⟩:=bH.r k.o.2.1;obtain⟨M,N,P⟩:=bH.n k.o.2.2;obtain⟨G,e⟩:=exq ((if l=2 then x.t.e ⟨f,g,i⟩else x.t));rw[e]at C;have K:=aj e;have S:Y (f.size≤1000000∧g.size≤1000000):=aj (e0.o _ C.o ⟨f,g,i⟩ Y1);have c:=aj (m.o.g k.o.1);have n:=aj m.o.b.e;clear e e0;go_upto_if 39 with fail;go_cut [] (fun d=>∃n,Y (aJ B w d∧w.heap.size+1<d.heap.size∧bH d (w.heap.size+1) 93 #[aA f,aA g,i]∧FN d B X tb n FA SA fc sc ⟨x.a,x.b,G⟩));case first=>
    by_cases j:l=2
    ·have L:Y (x.t.e ⟨f,g,i⟩=G):=aj (by have:=K.o;rwa[aP j]at this);have W:=c.o.b.H 2;have a0:Y (∀A,aF au 177 #[qp tb,aS #[aA f,aA g,i]] (wc.drewN A) fun E w'=>E=av (aN #[])∧(w'.cell? ⟨X,2,O⟩=R (aK (R ⟨tb,0,O⟩))∧w'.cell? ⟨w.heap.size+1,0,O⟩=R (aA f)∧w'.cell? ⟨w.heap.size+1,1,O⟩=R (aA g)∧w'.cell? ⟨w.heap.size+1,2,O⟩=R (aO i))∧Y ((∃n,jX w' B tb n G∧(n.ownBlock=v.ownBlock∨∃H,n.ownBlock=R H∧wc.heap.size≤H))∧bg (tb::v.ownBlock.toList) wc w'∧X∉tb::v.ownBlock.toList∧w.heap.size+1∉tb::v.ownBlock.toList)):=aj fun A=>by refine mB (Wh B tb v x.t ⟨f,g,i⟩ (wc.drewN A) (c.o.a.e (w':=wc.drewN A) (bI (ay _ wc) A)) HK.o S.o.1 S.o.2 (aR p k.o.1.size)) fun w' ⟨h,j⟩=>?_;rw[L.o]at h;have o:bg (tb::v.ownBlock.toList) wc w':=bg.a (bg.j wc A) (j _ Y1 (fun H V=>bJ _ (bC.2 V))) (fun _ b=>.inl b);have I:X∉tb::v.ownBlock.toList:=fun e=>(bA.1 e).elim (fun b=>c.o.b.z c.o.a.a Y2 b) (fun b=>fJ c.o.a.c c.o.b Y2 (bC.1 b));have T:w.heap.size+1∉tb::v.ownBlock.toList:=fun e=>(bA.1 e).elim (fun b=>by have:=m.o.a.a.e;omega) (fun b=>by have:=(m.o.a.c.lt _ (bC.1 b)).2;omega);exact⟨rfl,⟨(c.o.b.g o I).a 2,bH.n (k.o.2.2.g o T)⟩,aj ⟨h,o,I,T⟩⟩
     subst j;go_wp2;go_region_held3 (fun w'=>w'.cell? ⟨X,2,O⟩=R (aK (R ⟨tb,0,O⟩))∧w'.cell? ⟨w.heap.size+1,0,O⟩=R (aA f)∧w'.cell? ⟨w.heap.size+1,1,O⟩=R (aA g)∧w'.cell? ⟨w.heap.size+1,2,O⟩=R (aO i)) (go_keep) (first|(go_at_call 177;refine(a0.o _).mono ?_;rintro E Q ⟨rfl,⟨d0,d1,d2,d3⟩,HP⟩));go_wp2;go_meet;obtain⟨⟨n,ht,hv⟩,o,I,b0⟩:=HP.o;have c0:∀a,(Z FA x.a.length fc).ownBlock=R a→a∉tb::v.ownBlock.toList:=fun a d e=>(bA.1 e).elim (fun b=>fJ c.o.c c.o.a.a Y2 (by rw[←b];exact d)) (fun b=>c.o.f a d (bC.1 b));have e0:∀a,(Z SA x.b.length sc).ownBlock=R a→a∉tb::v.ownBlock.toList:=fun a d e=>(bA.1 e).elim (fun b=>fJ c.o.d c.o.a.a Y2 (by rw[←b];exact d)) (fun b=>pQ c.o.d c.o.a.c Y2 d (bC.1 b));refine⟨n,aj ⟨(k.o.1.mono p).trans (o.c (aR p k.o.1.size) (fun a d=>(bA.1 d).elim (fun b=>by rw[b];exact m.o.e.2) (fun b=>(m.o.a.c.lt a (bC.1 b)).1))),aV k.o.2.2.e o.b,k.o.2.2.g o b0,c.o.b.g o I,bO c.o.c o c0,bO c.o.d o e0,ht,m.o.e,fun a d D=>?_⟩⟩;rcases hv with b|⟨H,b,V⟩
     ·exact c.o.f a d (by rw[←b];exact D)
     ·have F:=(c.o.c.lt a d).2;rw[D]at b;injection b with b;omega
    ·have n2:=aM.2 j;have L:G=x.t:=by have:=K.o;rw[aL j]at this;exact this.symm
     subst L;clear j K C;go_wp2;go_meet;exact⟨v,aj ⟨k.o.1.mono p,k.o.2.2.e,k.o.2.2,c.o⟩⟩
   case rest=>
    obtain⟨n,c⟩:=hcut;have h:=aj c.o.2.2.2.b;have j:=aj c.o.2.2.2.c;obtain⟨o,k⟩:=exq x.a.length;have A:=aj k;dsimp only at h j;rw[k]at h j T;clear k q r s t u y z M N P;obtain⟨k,l,W⟩:=bH.n h.o;obtain⟨M,N,P⟩:=bH.n c.o.2.2.1;obtain⟨k,l,q⟩:=bH.n (h.o.h (.cells #[aA f,aA g,i] 93));have mixed:Tryz.prog.follows .mixedOrders=true:=Y3;go_wp2;go_region_law (refine RF rfl (.tmp 51) (.tmp 53) 50 rfl B 93 3 zD rfl Y2 underlying50 #[aA f,aA g,i] rfl (Z FA o fc) o (dx x.a) (by simp[Act.eval,Act.put]) (nX j.o 1) (by simp[Act.eval,Act.put]) (by simp[Value.oneCell']) (by unfold maxLen;omega) Y0 (by have:=c.o.1.size;simp;omega) ?_;intro k t Q r l u y;have q:=aj (bH.g (h.o.q 1) l (fun e=>fJ j.o h.o Y2 (bC.1 e)));obtain⟨d0,d1,d2⟩:=bH.n q.o;have N:=q.o.c;have K:=aj (And.intro r (And.intro l (And.intro u y)));clear r l u y);all_goals
     go_wp2;go_ret;rw[C.o];obtain⟨r,l,u,y⟩:=K.o;have s:=c.o.2.2.2.a;have z:=c.o.2.2.2.d;dsimp only at s z;have L:=h.o.z s.a Y2;have E:∀a,n.ownBlock=R a→a∉(Z FA o fc).ownBlock.toList:=fun a d e=>c.o.2.2.2.f a (by dsimp only;rw[A.o];exact bC.1 e) d;have F:=jX.f (s.e (w':=wc.drewN 1) (bI (ay _ wc) 1)) l (fun e=>fJ j.o s.a Y2 (bC.1 e)) E;have G:=bO (nX z 1) l (fun a d e=>pQ z j.o Y2 d (bC.1 e));have H:=bg.e (F:=[X]) (p:=⟨X,0,O⟩) Q Y1 (Z (R ⟨k,0,O⟩) (o+1) t);have I:aJ B w Q:=(c.o.1.trans (bI (ay B wc) 1)).trans (l.c (aR p c.o.1.size) (fun a d=>(j.o.lt a (bC.1 d)).1));refine⟨rfl,I.trans (H.c (aR p I.size) (Y6 m.o.e.1)),tb,n,R ⟨k,0,O⟩,SA,t,sc,?_,?_,?_,?_,m.o.e,?_⟩
     ·have:=q.o.f 0 (Z (R ⟨k,0,O⟩) (o+1) t);simpa[A.o]using this
     ·have:=ownsRow_setCell_other r (a:=⟨X,0,O⟩) (fJ r q.o Y2) (Z (R ⟨k,0,O⟩) (o+1) t);simpa[A.o,dx]using this
     ·exact ownsRow_setCell_other G (fJ G q.o Y2) _
     ·exact jX.f F H (Y6 L.symm) (fun a d e=>fJ F.c q.o Y2 (by rw[d,aC.1 e]))
     ·intro a d D;have M:k=a:=by simpa[Value.ownBlock]using d
      subst M;rcases u with b|b
      ·exact E k D b
      ·have:=(s.c.lt k D).2;simp at b;omega
section
open Go.ChangeMaps Go.WideMaps
def K8:Array aI:=#[J .u8 0,J .u8 0,J .u8 0,J .u8 0,J .u8 0,J .u8 0,J .u8 0,J .u8 0]
def mJ {w w':aB} {a:bB} {c:aI→Option (DataW Unit×List MemPlace)} {m T:Nat} {d:DataW Unit} {F:List Nat} (e:w.ownsMap au a c m T d) (f:bg F w w') (g:m∉F):w'.ownsMap au a c m T d:=by obtain⟨c,d,a,h⟩:=e;exact⟨c,d,(f.m m (Array.getElem?_eq_some_iff.1 a).1 g).trans a,h⟩
structure KU (w:aB) (b m:Nat) (M:Int) (pg:Pg) (F:List Nat) (T:Nat):Prop where
 a:bH w b 198 #[M,pg.n,.map (R m)]
 e:w.ownsMap au 309 (plainElem (H:=Unit) au 3) m T pg.D
 c:b∈F∧m∈F
 f:∀x∈F,x<w.heap.size
 d:b≠m
def Jt (w:aB) (b:Nat) (M:Int) (pg:Pg) (F:List Nat) (T:Nat):Prop:=∃m,KU w b m M pg F T
section
variable {w w':aB} {b m T:Nat} {M:Int} {pg:Pg} {F F1:List Nat}
def KU.g (a:KU w b m M pg F T) (c:bg F1 w w') (hF:∀d∈F,d∉F1):KU w' b m M pg F T:=
 ⟨a.a.g c (hF b a.c.1),mJ a.e c (hF m a.c.2),a.c,fun d e=>aV (a.f d e) c.b,a.d⟩
def KU.i (a:KU w b m M pg F T) (c:aJ w w w'):KU w' b m M pg F T:=a.g (F1:=[]) (bg.d c) (fun _ _=>by simp)
def Jt.a (a:Jt w b M pg F T) (c:bg F1 w w') (hF:∀d∈F,d∉F1):Jt w' b M pg F T:=by obtain⟨m,a⟩:=a;exact⟨m,a.g c hF⟩
end
def ZM {a:DataW Unit} {c:Lit} {d:Int} (e:a.atKey c (.lit (.int U 0))=.lit (.int U d)):Zw (a.atKey c (.lit (.int U 0)))=d:=by rw[e];rfl
def KU.h {w:aB} {b m T:Nat} {M:Int} {pg:Pg} {F:List Nat} (c:KU w b m M pg F T) {a:List Int} (d:a.length=8) (e:gZ a):(Instr.lookup 196 (.map (R m)) (nR a) false).run au w=.ok (J U (pg.c a)) w:=by obtain⟨g,a,f,_⟩:=c.e.lookup_int ou underlying196 underlying3 (qH _) (IB d e);rw[a,←ZM f];rfl
def RZ (M:Int) (w:aB) (a:0≤M):aF au 54 #[M] w fun a w'=>∃b F,a=av (aK (R ⟨b,0,O⟩))∧Jt w' b M .g F 0∧(∀a∈F,w.heap.size≤a)∧aJ w w w':=by have a:= @run_makeMap au;have a:max M 0=M:=Y0;go_enter func54,ntmps54;go_wp2;go_ret;have a:=(ay w.heap.size w).alloc (aD _) (.map #[] 0);refine⟨w.heap.size+1,[w.heap.size,w.heap.size+1],rfl,⟨w,bH.w,?_,Y1,by simp;omega,Y0⟩,Y1,a.alloc Y1 _⟩;exact(World.ownsMap_made w au 309 _).alloc _
def Db (d:Option aX) (a o:Nat) (c:List Int) (w:aB) (p:c.length=a) (e:a=8) (q:bU w d (dP c)):aF au 197 #[Z d a o] w fun a w'=>a=av (nR c)∧aJ w w w':=by
 subst e;obtain⟨b,r,rfl,_⟩:=q 0 (J .u8 (c.getD 0 0)) (by obtain⟨c,b,o,d,a,e,f,g,rfl⟩:=KF p;rfl);have c:=aj (sK w 309 309 K8 K8);have s:=aj q;obtain⟨d,e,f,g,h,i,j,k,rfl⟩:=KF p;have t:Y (∀(l:Nat) (n:aI),(dP [d,e,f,g,h,i,j,k])[l]?=R n→((w.alloc (.cells K8 309)).alloc (.cells K8 309)).cell? ((⟨b,r,O⟩:aX).add l)=R n):=aj fun l n u=>by obtain⟨x,y,a,v⟩:=(s.o.a c.o.1) l n u;injection a with a;injection a with a l;subst a l;rw[Addr.add_lit];exact v
 clear q p;go_enter func197,ntmps197;go_wp2_with (refine wpList_copy_splice rfl (.tmp 4) (.tmp 5) 28 28 rfl 5 underlying28 Y3 (R ⟨w.heap.size+1,0,O⟩) (R ⟨b,r,O⟩) 8 8 8 o rfl rfl (w.heap.size+1) 0 K8.toList 309 c.o.2.2 (dP [d,e,f,g,h,i,j,k]) rfl (fun _=>⟨rfl,_,rfl,t.o⟩) (aD 8) Vt (w.heap.size+1) _ (ay _ _) (aD _) ?_);intro l p n;have a:Y (bH l (w.heap.size+1) 309 #[J .u8 d,J .u8 e,J .u8 f,J .u8 g,J .u8 h,J .u8 i,J .u8 j,J .u8 k]):=aj p.out;have o:Y (bH l w 309 K8):=aj (c.o.2.1.B n (Nat.lt_succ_self _));have q:Y (aJ w w l):=aj (c.o.1.trans (n.mono (Nat.le_succ _)));clear p n t s;have c:=a.o.a 0;have c:=a.o.a 1;have c:=a.o.a 2;have c:=a.o.a 3;have c:=a.o.a 4;have c:=a.o.a 5;have c:=a.o.a 6;have c:=a.o.a 7;go_wp2_with (refine wpList_store_row rfl 309 (.tmp 2) (.tmp 7) rfl w.heap.size #[J .u8 d,J .u8 e,J .u8 f,J .u8 g,J .u8 h,J .u8 i,J .u8 j,J .u8 k] rfl rfl 309 K8 o.o Y3 rfl Y3 ?_);exact aG (iC results197 w.heap.size rfl (o.o.p _) underlying309 rfl Y3) rfl ⟨rfl,q.o.trans ((bg.h (F:=[w.heap.size]) l w.heap.size _ Y1).c q.o.size Y1)⟩
def wF {b T:Nat} {M:Int} {pg:Pg} {F:List Nat} (f:Option aX) (d h:Nat) (a:List Int) (w:aB) (c:Jt w b M pg F T) (k:a.length=d) (l:d=8) (q:gZ a) (n:bU w f (dP a)):aF au 196 #[qp b,Z f d h] w fun e w'=>e=av (aO (pg.b a))∧aJ w w w':=by
 obtain⟨m,c⟩:=c;have g:=c.a.H 2;obtain⟨o,i⟩:=exq (nR a);obtain⟨p,j⟩:=exq (pg.c a);have r:Y (∀g,aF au 197 #[Z f d h] (w.drewN g) fun e w'=>e=av o∧w'.cell? ⟨b,2,O⟩=R (.map (R m))∧(Instr.lookup 196 (.map (R m)) o false).run au w'=.ok (J U p) w'∧Y (aJ w w w')):=aj fun g=>by refine mB (Db f d h a (w.drewN g) k l (n.c g)) fun w' f=>?_;have d:=sQ f;exact⟨by rw[i],(c.a.b d).a 2,by rw[←i,←j];exact(c.i d).h Y0 q,aj d⟩
 have d:Y (pg.b a=decide (p>0)):=aj (by unfold Pg.b;rw[j]);subst l;clear c j i k n;go_enter func196,ntmps196;go_wp2;go_region_held3 (fun w'=>w'.cell? ⟨b,2,O⟩=R (.map (R m))) (go_keep) (first|(go_at_call 197;refine(r.o _).mono ?_;rintro e c ⟨rfl,f,g,a⟩));go_wp2;go_ret;exact⟨by rw[d.o];rfl,a.o⟩
def FW {d:Program} {w w':aB} {e:Array Oper} {a:Oper} {c:Act} {f:Act→aB→Prop} {k:Exit→Act→aB→Prop} {l:Prop} (n:a.guard=O) (m g:Operand) (h i:bB)
  (o:a.op=.call {callee:=.builtin .delete,args:=#[m,g],argTypes:=#[h,i]}) (b:Nat) (j:aI) (p:c.eval m=.map (R b)) (q:c.eval g=j)
  (g:(Builtin.delete_ #[h,i] a.type #[.map (R b),j]).run d w=.ok (aN #[]) w') (h:f (c.put a.dst (aN #[])) w'):
  if Region.wanted a (yielded e c.tmps)=true then Oper.wp d a c w f k else l:=by
 have d:Region.wanted a (yielded e c.tmps)=true:=by simp[Region.wanted,n]
 rw[aP d];unfold Oper.wp execOp;simp only[o,resolve,invoke,builtin,Sem.run_bind,Sem.run_pure,Result.andThen_ok,List.map_toArray,List.map_cons,List.map_nil,p,q,g];exact h
def bH.E {w:aB} {a:Nat} {k:bB} {d b e f g h i j:aI} (c:bH w a k #[d,b,e,f,g,h,i,j]):w.cell? ⟨a,0,O⟩=R d∧w.cell? ⟨a,1,O⟩=R b∧w.cell? ⟨a,2,O⟩=R e∧w.cell? ⟨a,3,O⟩=R f∧w.cell? ⟨a,4,O⟩=R g∧w.cell? ⟨a,5,O⟩=R h∧w.cell? ⟨a,6,O⟩=R i∧w.cell? ⟨a,7,O⟩=R j:=⟨c.a 0,c.a 1,c.a 2,c.a 3,c.a 4,c.a 5,c.a 6,c.a 7⟩
def vE {w:aB} {a:bB} {c:aI→Option (DataW Unit×List MemPlace)} {m T d:Nat} {e:DataW Unit} (f:w.ownsMap au a c m T e) (g:T≤d):w.ownsMap au a c m d e:=f.mono g
def KU.j {w:aB} {b m T:Nat} {M:Int} {pg:Pg} {F:List Nat} (h:KU w b m M pg F T) (hT:T<maxLen) {l:List Int} (h8:l.length=8) (hl:gZ l):
  ∃(v0:aI) (st:Nat) (w2:aB),(Instr.mapEntry 196 (.map (R m)) (nR l)).run au w=.ok (aN #[v0,J U st]) w2∧(Instr.lookup 196 (.map (R m)) (nR l) false).run au w2=.ok (J U (pg.c l)) w2∧bg [m] w w2∧
   ∀x:Int,(Lit.int U x).wf=true→∃w3,(Instr.entryStore 196 (.map (R m)) (J U st) (J U x)).run au w2=.ok () w3∧KU w3 b m M ⟨pg.D.put (MU l) (.lit (.int U x)),pg.n⟩ F (T+1)∧bg [m] w w3:=by
 have hkey:=IB h8 hl
 obtain⟨es,clock,hb,Fi,hs,hD⟩:=h.e
 obtain⟨v0,st,es1,ck1,hrun,hv,hst⟩:=WideElems.entry_then_store (R:=plainElem (H:=Unit) au 3) nJ underlying196 (fun u=>qH u) hb Fi hkey
 have hO:∀o:Obj,bg [m] w (setBlock w m o):=fun o=>⟨rfl,rfl,rfl,by simp[setBlock],fun i _ hi=>heap_setBlock_other hb _ (fun e=>hi (by rw[e];simp))⟩
 refine⟨v0,st,_,hrun,?_,hO _,fun x hx=>?_⟩
 ·have hkp:KU w b m M pg F T:=h
  rcases nJ.find w hkey es.toList (fun x hx=>by obtain⟨y,hy⟩:=Fi.reads x hx;exact⟨_,WideElems.rd_key hy⟩)with⟨f1,f2⟩|⟨j,e0,f1,f2,f3⟩
  ·have hE:(Instr.mapEntry 196 (.map (R m)) (nR l)).run au w=.ok (aN #[J U 0,goInt clock]) (setBlock w m (.map (es.push ⟨nR l,J U 0,clock⟩) (clock+1))):=by
    simp[Instr.mapEntry,run_underlying underlying196,MapKept.run_getObj_map hb,nJ.check w false hkey,f1,qH,MapKept.run_setObj_map _ hb,Result.andThen,setBlock]
   have hU:(Instr.mapUpdate 196 (.map (R m)) (nR l) (J U 0)).run au w=.ok () (setBlock w m (.map (es.push ⟨nR l,J U 0,clock⟩) (clock+1))):=by
    simp[Instr.mapUpdate,run_underlying underlying196,MapKept.run_getObj_map hb,nJ.check w false hkey,f1,MapKept.run_setObj_map _ hb,Result.andThen,setBlock]
   obtain⟨w4,e3,e4,_⟩:=h.e.store ou underlying196 hT hkey (plainElem_int underlying3 (a:=0) (by decide))
   have e5:w4=setBlock w m (.map es1 ck1):=by
    have a1:=e3.symm.trans hU
    have a2:=hE.symm.trans hrun
    injection a1 with _ a1
    injection a2 with _ a2
    rw[a1,a2]
   rw[e5]at e4
   obtain⟨c,g1,g2,_⟩:=e4.lookup_int ou underlying196 underlying3 (qH _) hkey
   have hat:=atKey_put_same h.e.isMap (ou.key hkey) (.lit (.int U 0)) (.lit (.int U 0))
   have hc:c=0:=xV (g2.symm.trans hat)
   have hL:(Instr.lookup 196 (.map (R m)) (nR l) false).run au w=.ok (J U 0) w:=by
    simp[Instr.lookup,run_underlying underlying196,MapKept.run_getObj_map hb,nJ.check w es.isEmpty hkey,f1,qH,Result.andThen]
   have hp:pg.c l=0:=by
    have a1:=(hkp.h h8 hl).symm.trans hL
    injection a1 with a1
    injection a1
   rw[g1,hc,hp]
  ·have hj:es[j]?=R e0:=by simpa using f2
   have hE:(Instr.mapEntry 196 (.map (R m)) (nR l)).run au w=.ok (aN #[e0.val,goInt e0.born]) (setBlock w m (.map es clock)):=by
    have hsame:es.modify j (fun e=>{e with key:=nR l})=es:=by
     apply Array.ext'
     rw[Array.toList_modify,modify_eq_set _ _ _ _ f2,show({e0 with key:=nR l}:MapEntry)=e0 by rw[←f3]]
     exact WideElems.set_self _ _ _ f2
    simp[Instr.mapEntry,run_underlying underlying196,MapKept.run_getObj_map hb,nJ.check w false hkey,f1,hj,f3,nJ.stays w hkey,hsame,MapKept.run_setObj_map _ hb,Result.andThen,setBlock]
   have hw:setBlock w m (.map es clock)=w:=by
    have hm:=(Array.getElem?_eq_some_iff.1 hb).1
    have hs2:w.heap.setIfInBounds m (.map es clock)=w.heap:=by
     apply Array.ext (by simp)
     intro i h1 h2
     rw[Array.getElem_setIfInBounds]
     split
     ·rename_i hi
      subst hi
      have:=Array.getElem?_eq_some_iff.1 hb
      exact this.2.symm
     ·rfl
    unfold setBlock
    rw[hs2]
   have a2:=hE.symm.trans hrun
   have a3:setBlock w m (.map es clock)=setBlock w m (.map es1 ck1):=by injection a2
   rw[←a3,hw]
   exact hkp.h h8 hl
 ·obtain⟨es2,ck2,e1,e2⟩:=hst (setBlock w m (.map es1 ck1)) (J U x) (heap_setBlock_same hb _)
  obtain⟨w4,e3,e4,_⟩:=h.e.store ou underlying196 hT hkey (plainElem_int underlying3 hx)
  have e5:w4=setBlock w m (.map es2 ck2):=by
   have:=e3.symm.trans e2
   injection this
  have e6:∀o o':Obj,setBlock (setBlock w m o) m o'=setBlock w m o':=fun o o'=>by simp[setBlock]
  rw[e6]at e1
  refine⟨_,e1,?_,hO _⟩
  rw[e5]at e4
  exact⟨h.a.g (hO _) (by simpa using h.d),e4,h.c,fun y hy=>aV (h.f y hy) (hO _).b,h.d⟩
def KV (a:Int):(Lit.int U (U.wrap a)).wf=true:=bX (by rw[IntKind.wrap_i64];omega)
noncomputable def Pg.a (a:Pg) (M:Int) (c:List Int):Pg×Int:=if a.n≥M then(a,6)else(a.e c,0)
def zaX (b:Nat) (M:Int) (F:List Nat) (T:Nat) (a:Pg×Int) (w:aB) (c:Ending) (w':aB):Prop:=c=av (J U a.2)∧Jt w' b M a.1 F T∧bg F w w'
def FX {b T:Nat} {M:Int} {pg:Pg} {F:List Nat} (l:Option aX) (i u:Nat) (d:List Int) (w:aB) (a:Jt w b M pg F T) (c:T<1000000) (v:d.length=i) (x:i=8) (n:gZ d) (y:bU w l (dP d)) (C: -1000000≤pg.n∧pg.n≤1000000):
  aF au 159 #[qp b,Z l i u] w (zaX b M F (T+1) (pg.a M d) w):=by
 obtain⟨m,a⟩:=a;obtain⟨H,D,I⟩:=bH.n a.a;obtain⟨h,j⟩:=exq pg.n;rw[j]at D C;by_cases c:h≥M
 ·have c:Y (KU w b m M pg F (T+1)∧pg.a M d=(pg,6)):=aj ⟨⟨a.a,vE a.e Y0,a.c,a.f,a.d⟩,by unfold Pg.a;rw[aP Y0]⟩;subst x;clear a v n y j;go_enter func159,ntmps159;go_wp2;go_quiet (fail);go_wp2;go_ret;exact⟨by rw[c.o.2];rfl,⟨m,by rw[c.o.2];exact c.o.1.g (F1:=[]) (bg.j _ _) (fun _ _=>Y1)⟩,bg.j _ _⟩
 ·obtain⟨o,p⟩:=exq (nR d);obtain⟨z,q⟩:=exq (pg.c d);obtain⟨r,E⟩:=exq (U.wrap (z+1));have K:Y (∀s,aF au 197 #[Z l i u] (w.drewN s) fun A f=>A=av o∧f.cell? ⟨b,2,O⟩=R (.map (R m))∧(Instr.lookup 196 (.map (R m)) o false).run au f=.ok (J U z) f∧
    ∃(t:aI) (k:Nat) (g e:aB),(Instr.mapEntry 196 (.map (R m)) o).run au f=.ok (aN #[t,k]) g∧g.cell? ⟨b,2,O⟩=R (.map (R m))∧(Instr.lookup 196 (.map (R m)) o false).run au g=.ok (J U z) g∧(Instr.entryStore 196 (.map (R m)) (J U k) (J U r)).run au g=.ok () e∧
     Y (KU e b m M ⟨pg.D.put (MU d) (.lit (.int U r)),pg.n⟩ F (T+1)∧bg F w e)):=aj fun s=>by
   refine mB (Db l i u d (w.drewN s) v x (y.c s)) fun f i=>?_;have G:=sQ i;have o:=a.i G;obtain⟨t,k,g,s,l,u,z⟩:=o.j (by unfold maxLen;omega) Y0 n;obtain⟨e,L,N,i⟩:=z r (by rw[←E];exact KV _);rw[p]at s l;rw[q]at l;have P:=i.g (fun B i=>.inl (by rw[aC.1 i];exact a.c.2));exact⟨by rw[p],o.a.a 2,by rw[←p,←q];exact o.h Y0 n,t,k,g,e,s,(o.a.g u (Y6 a.d)).a 2,l,L,aj ⟨N,(bg.d G).a P (fun _ i=>.inl i)⟩⟩
  have o:Y (pg.a M d=(⟨pg.D.put (MU d) (.lit (.int U r)),h+1⟩,0)∧pg.n=h∧b∈F∧b≠m):=aj ⟨by unfold Pg.a;rw[aL Y0];unfold Pg.e;rw[q,E,j],j,a.c.1,a.d⟩;have d:U.wrap (h+1)=h+1:=bF _ Y0;subst x;clear a v n y j q p C;go_enter func159,ntmps159;go_wp2;go_quiet (fail);go_wp2_with fail;go_region_law (go_simp;refine(K.o _).mono ?_;rintro A f ⟨rfl,d,j,t,k,g,e,s,l,u,z,c⟩;dsimp only);all_goals
   have n:e.cell? ⟨b,1,O⟩=R (J U h):=by rw[←o.o.2.1];exact c.o.1.a.a 1
   have p:=c.o.1.a.c 1;clear d j s l u z H D I;go_wp2;go_ret;have a:bg [b] e (e.setCell ⟨b,1,O⟩ (J U (h+1))):=bg.e (F:=[b]) (p:=⟨b,1,O⟩) e Y1 _;rw[o.o.1];exact⟨rfl,⟨m,c.o.1.a.f 1 _,mJ c.o.1.e a (by simpa using Ne.symm o.o.2.2.2),c.o.1.c,fun B i=>aV (c.o.1.f B i) a.b,c.o.1.d⟩,c.o.2.a a (fun B i=>.inl (by rw[aC.1 i];exact o.o.2.2.1))⟩
noncomputable def Pg.d (a:Pg) (c:List Int):Pg×Bool:=if a.b c then(a.f c,true)else(a,false)
def zaY (b:Nat) (M:Int) (F:List Nat) (T:Nat) (a:Pg×Bool) (w:aB) (c:Ending) (w':aB):Prop:=c=av (aO a.2)∧Jt w' b M a.1 F T∧bg F w w'
def Aa {b T:Nat} {M:Int} {pg:Pg} {F:List Nat} (o:Option aX) (n t:Nat) (k:List Int) (w:aB) (a:Jt w b M pg F T) (c:T<1000000) (v:k.length=n) (A:n=8) (l:gZ k) (B:bU w o (dP k)) (P: -1000000≤pg.n∧pg.n≤1000000):
  aF au 158 #[qp b,Z o n t] w (zaY b M F (T+1) (pg.d k) w):=by
 have E:=aj (wF o n t k w a v A l B);obtain⟨m,a⟩:=a;obtain⟨u,q⟩:=exq (pg.b k);rw[q]at E;cases u
 ·have r:Y (KU w b m M pg F (T+1)∧pg.d k=(pg,false)):=aj ⟨⟨a.a,vE a.e Y0,a.c,a.f,a.d⟩,by unfold Pg.d;rw[q];rfl⟩;subst A;clear a v l B q P;go_enter func158,ntmps158;go_wp2_with fail;refine mB E.o fun N l=>?_;have c:=aj l;clear l;go_wp2;go_ret;exact⟨by rw[r.o.2];rfl,⟨m,by rw[r.o.2];exact r.o.1.i c.o⟩,bg.d c.o⟩
 ·obtain⟨c,d,e,f,g,h,i,j,rfl⟩:=KF (l:=k) Y0;obtain⟨x,C⟩:=exq (pg.c [c,d,e,f,g,h,i,j]);obtain⟨p,L⟩:=exq (U.wrap (x-1));obtain⟨s,G⟩:=exq pg.n;have HK:=fun k (y:aJ w w k)=>aj (Db o n t _ k v A (B.a y));have Q:Y (∀k,aJ w w k→k.cell? ⟨b,2,O⟩=R (.map (R m))∧(Instr.lookup 196 (.map (R m)) (aS #[J .u8 c,J .u8 d,J .u8 e,J .u8 f,J .u8 g,J .u8 h,J .u8 i,J .u8 j]) false).run au k=.ok (J U x) k∧
    ∃(D:aI) (t:Nat) (n o:aB),(Instr.mapEntry 196 (.map (R m)) (aS #[J .u8 c,J .u8 d,J .u8 e,J .u8 f,J .u8 g,J .u8 h,J .u8 i,J .u8 j])).run au k=.ok (aN #[D,t]) n∧n.cell? ⟨b,2,O⟩=R (.map (R m))∧(Instr.lookup 196 (.map (R m)) (aS #[J .u8 c,J .u8 d,J .u8 e,J .u8 f,J .u8 g,J .u8 h,J .u8 i,J .u8 j]) false).run au n=.ok (J U x) n∧(Instr.entryStore 196 (.map (R m)) (J U t) (J U p)).run au n=.ok () o∧
     Y (KU o b m M ⟨pg.D.put (MU [c,d,e,f,g,h,i,j]) (.lit (.int U p)),pg.n⟩ F (T+1)∧bg [m] k n∧bg [m] k o)):=aj fun k y=>by
   have x:=a.i y;obtain⟨D,t,n,z,k,y,H⟩:=x.j (by unfold maxLen;omega) rfl l;obtain⟨o,I,S,V⟩:=H p (by rw[←L];exact KV _);rw[C]at k;exact⟨x.a.a 2,by rw[←C];exact x.h rfl l,D,t,n,o,z,(x.a.g y (Y6 a.d)).a 2,k,I,aj ⟨S,y,V⟩⟩
  obtain⟨y,H⟩:=exq (pg.D.put (MU [c,d,e,f,g,h,i,j]) (.lit (.int U p)));obtain⟨z,I⟩:=exq ((⟨y,pg.n⟩:Pg).c [c,d,e,f,g,h,i,j]);have k:Y (pg.d [c,d,e,f,g,h,i,j]=(⟨if z=0 then y.del (MU [c,d,e,f,g,h,i,j])else y,s-1⟩,true)∧pg.n=s∧(⟨y,pg.n⟩:Pg).c [c,d,e,f,g,h,i,j]=z∧b∈F∧m∈F∧b≠m∧gZ [c,d,e,f,g,h,i,j]∧∀p∈F,p<w.heap.size):=aj ⟨by unfold Pg.d;rw[q,aP rfl];unfold Pg.f;rw[C,L,H,←I,G];rfl,G,I,a.c.1,a.c.2,a.d,l,a.f⟩;rw[H]at Q;have L:U.wrap (s-1)=s-1:=bF _ Y0;subst A;clear v B q C G P I l H a;go_enter func158,ntmps158;go_wp2_with fail;refine mB E.o fun N l=>?_;have a:=aj l;clear l;go_wp2_with fail;refine mB ((HK _ a.o).o) fun n l=>?_;have L:=aj (a.o.trans (l.mono a.o.size));have S:=aj (gU n 309 #[J .u8 c,J .u8 d,J .u8 e,J .u8 f,J .u8 g,J .u8 h,J .u8 i,J .u8 j]);clear l;unfold nR;go_wp2;have a:aJ w w (n.alloc (.cells #[J .u8 c,J .u8 d,J .u8 e,J .u8 f,J .u8 g,J .u8 h,J .u8 i,J .u8 j] 309)).drew:=(L.o.trans (S.o.1.mono L.o.size)).drew;obtain⟨A,V,D,t,o,q,e2,c3,e3,e4,r⟩:=Q.o _ a;have c0:=aj a;obtain⟨B,C,D,E,G,H,I,K⟩:=bH.E S.o.2.x;clear a;go_region_law (fail);all_goals
   have d0:Y (bH q n 309 #[J .u8 c,J .u8 d,J .u8 e,J .u8 f,J .u8 g,J .u8 h,J .u8 i,J .u8 j]∧w.heap.size≤n.heap.size):=aj ⟨S.o.2.x.g r.o.2.2 (by have P:=k.o.2.2.2.2.2.2.2 m k.o.2.2.2.2.1;have x:=L.o.size;simp;omega),L.o.size⟩;have f0:Y (bg F w q):=aj ((bg.d c0.o).a r.o.2.2 (fun p a=>.inl (by rw[aC.1 a];exact k.o.2.2.2.2.1)));have W:=aj r.o.1;clear A V e2 c3 e3 e4 r B C D E G H I K Q HK c0;have A:=W.o.a.H 2;have V:∀u,(Instr.lookup 196 (.map (R m)) (aS #[J .u8 c,J .u8 d,J .u8 e,J .u8 f,J .u8 g,J .u8 h,J .u8 i,J .u8 j]) false).run au (q.drewN u)=.ok (J U z) (q.drewN u):=fun u=>by rw[←k.o.2.2.1];exact(W.o.g (F1:=[]) (bg.j q u) (fun _ _=>Y1)).h rfl k.o.2.2.2.2.2.2.1
   obtain⟨B,C,D,E,G,H,I,K⟩:=bH.E d0.o.1;go_wp2;go_quiet (fail);obtain⟨o,X⟩:=exq (q.drewN nq);have l:Y (KU o b m M ⟨y,pg.n⟩ F (T+1)∧bg F w o∧bH o n 309 #[J .u8 c,J .u8 d,J .u8 e,J .u8 f,J .u8 g,J .u8 h,J .u8 i,J .u8 j]):=aj (by rw[←X];exact⟨W.o.g (F1:=[]) (bg.j q _) (fun _ _=>Y1),f0.o.a (F1:=[]) (bg.j q _) (fun _ a=>by simp at a),d0.o.1.q _⟩);clear A V B C D E G H I K;rw[X];clear X;by_cases N:z=0
   ·subst N;go_wp2_with fail;obtain⟨B,C,D,E,G,H,I,K⟩:=bH.E l.o.2.2.x;have A:=l.o.1.a.H 2;obtain⟨v,r1,r2,r3⟩:=(l.o.1.g (F1:=[]) (bg.l o) (fun _ _=>Y1)).e.drop (ty:=0) ou underlying196 (IB rfl k.o.2.2.2.2.2.2.1);have HD:=aj (And.intro r1 (And.intro r2 r3));clear r1 r2 r3;go_region_law (refine FW rfl (.tmp 31) (.tmp 32) 196 309 rfl m (nR [c,d,e,f,g,h,i,j]) (by simp[Act.eval,Act.put]) (by simp[Act.eval,Act.put,nR]) HD.o.1 ?_);all_goals
     have a0:bg [m] o v:=(bg.l (F:=[m]) o).a (bg.k (F:=[m]) (row:=R m) (HD.o.2.2.grown) (fun p a=>.inl (by injection a with a;rw[←a];simp))) (fun _ a=>.inl a);have b0:Y (bH v b 198 #[M,pg.n,.map (R m)]):=aj (l.o.1.a.g a0 (Y6 k.o.2.2.2.2.2.1));have e0:=aj a0;clear A B C D E G H I K a0;have gf:=b0.o.c 1;have c1:v.cell? ⟨b,1,O⟩=R (J U s):=by rw[←k.o.2.1];exact b0.o.a 1
     go_wp2_with fail;go_ret;have t:bg [b] v (v.setCell ⟨b,1,O⟩ (J U (s-1))):=bg.e (F:=[b]) (p:=⟨b,1,O⟩) v Y1 _;rw[k.o.1];simp only[if_true];have g0:=e0.o.b;have h0:=t.b;exact⟨rfl,⟨m,b0.o.f 1 _,mJ HD.o.2.1 t (by simpa using Ne.symm k.o.2.2.2.2.2.1),l.o.1.c,fun p a=>aV (l.o.1.f p a) (aR g0 h0),l.o.1.d⟩,(l.o.2.1.a e0.o (fun p a=>.inl (by rw[aC.1 a];exact k.o.2.2.2.2.1))).a t (fun p a=>.inl (by rw[aC.1 a];exact k.o.2.2.2.1))⟩
   ·have n0:=aM.2 N;have gf:=l.o.1.a.c 1;have c1:o.cell? ⟨b,1,O⟩=R (J U s):=by rw[←k.o.2.1];exact l.o.1.a.a 1
    have HN:=aj N;clear N;go_wp2;go_ret;have t:bg [b] o (o.setCell ⟨b,1,O⟩ (J U (s-1))):=bg.e (F:=[b]) (p:=⟨b,1,O⟩) o Y1 _;rw[k.o.1,aL HN.o];exact⟨rfl,⟨m,l.o.1.a.f 1 _,mJ l.o.1.e t (by simpa using Ne.symm k.o.2.2.2.2.2.1),l.o.1.c,fun p a=>aV (l.o.1.f p a) t.b,l.o.1.d⟩,l.o.2.1.a t (fun p a=>.inl (by rw[aC.1 a];exact k.o.2.2.2.1))⟩
end
def wB (d:List Int):∀(c a:Nat) (e:Int) (f:Nat) (b:List Int),(kL d c a e f b).1.length≤b.length+c
 |0,a,e,f,b=>by unfold kL;split<;>simp
 |c+1,a,e,f,b=>by
  unfold kL
  split
  ·have:=wB d c (a+1) (ng e (zB d a)) (f+1) b
   omega
  ·rename_i e _
   split
   ·simp
   ·have:=wB d c (a+1) 0 0 (b++[(e:Int)])
    simp at this
    omega
def Nv (a:List Int):(qd a).1.length≤8*a.length:=by have:=wB a (8*a.length) 0 0 0 [];simpa[qd]using this
def rz (a:List Int):(strOfNums a).size=a.length:=by have b:=bE List.length (wQ a);rw[ByteArray.toList_eq]at b;simpa using b
def BK {a:List Int} {b:Int} (c:a.length≤100000):(qA a b).1.1.size≤1000000:=by
 have b:E0.size=0:=rfl;unfold qA;simp only;split
 ·simp[b]
 ·split
  ·simp[b]
  ·split
   ·simp[b]
   ·split
    ·split
     ·simp[b]
     ·simp only[rz];have:=Nv ((a.drop (om a 7).2.1.toNat).take (om a 7).1.toNat);have b:((a.drop (om a 7).2.1.toNat).take (om a 7).1.toNat).length≤a.length:=by simp;omega
      omega
    ·simp only[rz];have b:((a.drop (om a 7).2.1.toNat).take (om a 7).1.toNat).length≤a.length:=by simp;omega
     omega
structure Ww (n:Nat) (g:Rp×Int×Int):Prop where
 a:1≤g.2.1
 f:g.2.1≤n
 h:0≤g.1.i
 i:g.1.i≤2147483647
 b:0≤g.1.e
 c:g.1.e≤2147483647
 d:g.1.c.size≤1000000
 e:g.1.d.size≤1000000
def RG {e d c:Int} {a:List Int} (b:a.length≤100000) (i:0≤d) (j:d≤2147483647) (b:1≤c) (b:c≤a.length) (b:(zL e d c a).2.2=0):Ww a.length (zL e d c a):=by
 have k:E0.size=0:=rfl;have g:∀e:Nat,(a.drop e).length≤100000:=fun e=>by simp;omega
 unfold zL at b⊢;simp only at b⊢;obtain⟨f,h⟩:=exq ((if d>0 then((E0,false),(0:Int),(0:Int))else qA (a.drop c.toNat) a.length));rw[h]at b⊢;by_cases e:f.2.2=0
 ·have l:0≤f.2.1∧f.2.1≤a.length-c∧f.1.1.size≤1000000:=by
   rw[←h]at e⊢;by_cases h:d>0
   ·rw[aP h];simp[k];omega
   ·rw[aL h]at e⊢;have:=yj e;simp at this;exact⟨this.1,Y0,BK (g _)⟩
  rw[aL (Y6 e)]at b⊢;by_cases d:(qA (a.drop (c+f.2.1).toNat) a.length).2.2=0
  ·rw[aL (Y6 d)];have a:=yj d;simp at a;exact⟨by dsimp only;omega,by dsimp only;omega,i,j,Y1,Y1,l.2.2,BK (g _)⟩
  ·rw[aP d]at b;exact absurd b d
 ·rw[aP e]at b;exact absurd b e
def KO {b:List Int} (f:b.length≤100000) (a:(qZ b).2.2=0):Ww b.length (qZ b):=by
 have c:E0.size=0:=rfl;unfold qZ at a⊢;by_cases d:b=[]
 ·rw[aP d]at a;exact absurd a Y2
 ·rw[aL d]at a⊢;simp only at a⊢;obtain⟨g,gk,h,e⟩:∃d i j,om b (xw (jr (b.headD 0)))=(d,i,j):=⟨_,_,_,rfl⟩;simp only[e]at a⊢;by_cases d:h=0
  ·subst d;have h:=FJ (xu _) e;rw[aL Y2]at a⊢;by_cases e:jr (b.headD 0)=5
   ·rw[aP e];exact⟨by dsimp only;omega,by dsimp only;omega,by simp[Rp.a],by simp[Rp.a],by dsimp only;omega,by dsimp only;omega,by simp[Rp.a,c],by simp[Rp.a,c]⟩
   ·rw[aL e]at a⊢;by_cases e:jr (b.headD 0)=1
    ·rw[aP e]at a⊢;by_cases b:g=0
     ·rw[aP b]at a;exact absurd a Y2
     ·rw[aL b];exact⟨by dsimp only;omega,by dsimp only;omega,by dsimp only;omega,by dsimp only;omega,by simp[Rp.a],by simp[Rp.a],by simp[Rp.a,c],by simp[Rp.a,c]⟩
    ·rw[aL e]at a⊢;exact RG f Y0 Y0 Y0 Y0 a
  ·rw[aP d]at a;exact absurd a d
def zU:∀a∈iL++lW,a.size≤1000000:=by decide+kernel
def zV {a:Type} {b:List a} {d:a} {p:a→Prop} (e:∀a∈b,p a) (f:p d) (c:Nat):p (b.getD c d):=by
 rw[aY];cases hi:b[c]? with
 |none=>exact f
 |some a=>exact e a (bP hi)
def FP (a:Int):(qj a).1.n.size≤1000000∧(qj a).1.v.size≤1000000:=by
 have b:E0.size≤1000000:=Y2;have d:=zV (d:=E0) (p:=fun a:ByteArray=>a.size≤1000000) (fun a c=>zU a (List.mem_append_left lW c)) b;have e:=zV (d:=E0) (p:=fun a:ByteArray=>a.size≤1000000) (fun a c=>zU a (List.mem_append_right iL c)) b;unfold qj;split
 ·exact⟨b,b⟩
 ·split
  ·exact⟨d _,d _⟩
  ·refine⟨e _,?_⟩;dsimp only;split
   ·decide
   ·exact b
def zcn {b:qB} (e:b.c) (c:Int):(OP b c).1.n.size≤1000000∧(OP b c).1.v.size≤1000000:=by
 have a:E0.size≤1000000:=Y2;have f:∀d,(b.f d).1.n.size≤1000000∧(b.f d).1.v.size≤1000000:=fun d=>by
  unfold qB.f;split
  ·exact⟨a,a⟩
  ·exact zV (p:=fun b:Fd=>b.n.size≤1000000∧b.v.size≤1000000) e.a ⟨a,a⟩ _
 unfold OP;simp only;by_cases b:c>61
 ·rw[aP b];split
  ·exact f _
  ·exact⟨a,a⟩
 ·rw[aL b];split
  ·exact FP c
  ·exact⟨a,a⟩
def FQ {c d:AO} {b:Rp} (j:jM c.a) (e:c.t.c) (h:b.c.size≤1000000) (k:b.d.size≤1000000) (a:c.d b=(d,0)):jM d.a∧d.t.c∧d.a.length=c.a.length+1∧d.b=c.b:=by
 have i:E0.size≤1000000:=Y2;unfold AO.d at a;simp only at a;obtain⟨d,f⟩:=exq ((if b.i>0 then OP c.t b.i else((⟨b.c,E0,false⟩:Fd),(0:Int))));have g:d.1.n.size≤1000000∧d.1.v.size≤1000000:=by
  rw[←f];split
  ·exact zcn e _
  ·exact⟨h,i⟩
 rw[f]at a;split at a
 ·rename_i c;injection a with f h;exact absurd h c
 ·obtain⟨c,i⟩:∃c:Fd,(if b.k=1 then d.1 else⟨d.1.n,b.d,b.k==4⟩)=c:=⟨_,rfl⟩;have b:c.n.size≤1000000∧c.v.size≤1000000:=by
   rw[←i];split
   ·exact g
   ·exact⟨g.1,k⟩
  rw[i]at a;injection a with f h;subst f;refine⟨fun c d=>?_,?_,Y1,rfl⟩
  ·rcases bK.1 d with a|a
   ·exact j c a
   ·rw[aC.1 a];exact b
  ·dsimp only;split
   ·exact e.h b.1 b.2
   ·exact e
def Ny {a b:AO} {d:Int} (e:jM a.a) (f:a.t.c) (g:0≤d) (h:d≤2147483647) (c:a.c d=(b,0)):jM b.a∧b.t.c∧b.a=a.a∧b.b.length=a.b.length+1:=by
 unfold AO.c at c;split at c
 ·injection c with a b;subst a;exact⟨e,f.g g h,rfl,Y1⟩
 ·injection c with a b;exact absurd b Y2
section
open Go.Lib Go.Shelf Go.Sort
def rA (a b:Ft):Bool:=if a.1=b.1 then decide (a.2<b.2)else decide (a.1<b.1)
def AQ (a b:Ft):Int:=if a=b then 0 else if rA a b then-1 else 1
def Ji (c:Ft) (a:aB):aF au 219 #[CB c] a fun b d=>b=av (aO (ni c))∧aJ a a d:=by obtain⟨b,d⟩:=c;have c:=aj fun b=>(gU a 91 #[b,d]).1;obtain⟨e,f⟩:=bH.m (gU a 91 #[b,d]).2;obtain⟨e,a⟩:=exq (ni (b,d));rw[a];unfold ni at a;unfold CB;go_enter func219,ntmps219;go_wp2;all_goals(go_ret;refine⟨fB ?_,c.o _⟩;subst a;simp_all<;>(try omega))
def RO (d f:Ft) (a:aB):aF au 262 #[CB d,CB f] a fun b c=>b=av (aO (rA d f))∧∃g,c=grow a g:=by
 obtain⟨b,c⟩:=d;obtain⟨d,e⟩:=f;have f:=aj fun(b c d e:Int)=>show∃g,((a.alloc (.cells #[b,c] 91)).alloc (.cells #[d,e] 91))=grow a g from⟨_,by rw[alloc_eq_grow,alloc_eq_grow,grow_grow]⟩
 obtain⟨g,h⟩:=bH.m (sK a 91 91 #[b,c] #[d,e]).2.1;obtain⟨g,h⟩:=bH.m (sK a 91 91 #[b,c] #[d,e]).2.2;obtain⟨g,a⟩:=exq (rA (b,c) (d,e));rw[a];unfold rA at a;unfold CB;go_enter func262,ntmps262;go_wp2;all_goals(go_ret;refine⟨fB ?_,f.o ..⟩;rw[←a];simp_all)
def FT (j k:Ft) (a:aB):aF au 221 #[CB j,CB k] a fun n o=>n=av (J U (AQ j k))∧∃b c,o=grow (a.drewN b) c:=by
 have l:=fun a=>aj (RO j k a);obtain⟨d,e⟩:=j;obtain⟨f,g⟩:=k;have r:=aj fun(t:Array Obj)=>show∃b c,grow ((a.alloc (.cells #[d,e] 91)).alloc (.cells #[f,g] 91)) t=grow (a.drewN b) c from⟨0,_,by rw[alloc_eq_grow,alloc_eq_grow,grow_grow,grow_grow];rfl⟩
 have u:=aj (show∃b c,((a.alloc (.cells #[d,e] 91)).alloc (.cells #[f,g] 91))=grow (a.drewN b) c from⟨0,_,by rw[alloc_eq_grow,alloc_eq_grow,grow_grow];rfl⟩);obtain⟨w,x⟩:=bH.m (sK a 91 91 #[d,e] #[f,g]).2.1;obtain⟨y,z⟩:=bH.m (sK a 91 91 #[d,e] #[f,g]).2.2;obtain⟨b,p⟩:=exq (rA (d,e) (f,g));rw[p]at l;obtain⟨s,h⟩:=exq (AQ (d,e) (f,g));rw[h];unfold AQ at h;rw[p]at h;unfold CB at l⊢;by_cases i:d=f∧e=g
 ·obtain⟨rfl,rfl⟩:=i;obtain rfl:0=s:=by simpa using h
  clear h;go_enter func221,ntmps221;go_wp2_with fail;go_ret;exact⟨rfl,u.o⟩
 ·obtain rfl:(if b=true then-1 else 1)=s:=by rw[←h,aL (fun m=>i ⟨bE Prod.fst m,bE Prod.snd m⟩)]
  clear h p;by_cases v:d=f
  ·subst v;have A:¬e=g:=fun m=>i ⟨rfl,m⟩;clear i;cases b;all_goals
    go_enter func221,ntmps221;go_wp2_with fail;refine(l _).o.mono ?_;rintro n o ⟨rfl,c,rfl⟩;have q:=aj (r.o c);go_wp2_with fail;go_ret;exact⟨rfl,q.o⟩
  ·clear i;cases b;all_goals
    go_enter func221,ntmps221;go_wp2_with fail;refine(l _).o.mono ?_;rintro n o ⟨rfl,c,rfl⟩;have q:=aj (r.o c);go_wp2_with fail;go_ret;exact⟨rfl,q.o⟩
end
end Go.Proofs.YtdcacpeaimjdlaaGreatDoor
