/- Part of the proof. -/
import Derived.Test.YtdcacpeaimjdlaaGreatDoorPat
namespace Go.Proofs.YtdcacpeaimjdlaaGreatDoor
open Go.RowKit Go.Maps Go.Proofs.Tryz Mq MFr MRw
open Go.Value renaming int→J,slice→Z,string→aA,pointer→aK,bool→aO,tuple→aN,agg→aS,complex→aH
open Go.IntKind renaming i64→U
open Option renaming none→O,some→R
open Go.Ending renaming returned→av
open Go renaming World→aB,Value→aI,Calls→aF,Addr→aX,TypeId→bB
open Go.RowKit renaming Below→aJ
open Go.Proofs.Tryz renaming prog→au
open Go.FloatKind renaming f64→aW
set_option maxRecDepth 20000
set_option maxHeartbeats 0
set_option linter.all false
def Aw.b {w:aB} {f:List Nat} {e:Option aX} {i c:Nat} {a:Int} {g:List Int} (j:Aw w f e i c ((a::g).map (J U))):∃b d,e=R ⟨b,d,O⟩∧∀(h:aB),Aw h f e i c ((a::g).map (J U))→∀e f,(a::g)[e]?=R f→h.cell? ⟨b,d+e,O⟩=R (J U f):=by obtain⟨b,d,g,_⟩:=j.d 0 (J U a) rfl;refine⟨b,d,g,fun h b e f d=>?_⟩;obtain⟨i,j,a,h⟩:=b.d e (J U f) (by rw[bS,d];rfl);rw[g]at a;injection a with a;injection a with a b;subst a b;exact h
section
variable {w:aB} {c:Co} {P:Pt} {p:fq}
def Ld (a:Int) (b:List Int) (g:Option aX) (e f:Nat) (m:List Nat) (d:aB) (h:Aw d m g e f ((a::b).map (J U))) (n:(a::b).length=e) (s:e≤1000000):aF au 101 #[Z g e f] d fun i j=>i=av (J U (uZ (a::b)))∧aJ d d j:=by
 obtain⟨o,q,rfl,r⟩:=h.b;subst n;refine(Tryz.slices_Max_int o q (a::b).length f (a::b) d Y1 (aD _) Y0 (fun k l=>?_)).mono ?_
 ·rw[aY];rw[r d h k (a::b)[k] (aQ l),aQ l];rfl
 ·rintro i j ⟨rfl,rfl⟩;exact⟨by rw[List.take_length];unfold Lib.maxOf uZ;simp[List.foldl],ay _ _⟩
def NM (F:Nat→List Nat) (h:lX w c P (R p) F) (hk:Ok c.l) (hl:c.l.length≤1000) (hx:iZ p.x) (v:Vl) (kept:Bool):
  aF au 248 #[qp P.g,qp p.b,aS v,kept] w (rC (iB c p.x v kept) c P p F w):=by
 have hs:=dN hx.a;obtain⟨fr,hfr⟩:=exq p.x.r.a;obtain⟨ty,hty⟩:=exq p.x.r.c;obtain⟨wt,hwt⟩:=exq p.x.a.a;obtain⟨g,hg⟩:=exq P.g;obtain⟨sz,hsz⟩:=exq p.x.d;obtain⟨n,hn⟩:=exq sz.length;obtain⟨bd,hbd⟩:=exq ((c.p fr).e);obtain⟨bo,hbo⟩:=exq ((c.p fr).i);obtain⟨en,hen⟩:=exq p.x.c;obtain⟨ZA,hZA⟩:=exq p.k;obtain⟨ba,hba⟩:=exq p.x.h;obtain⟨vt,hvt⟩:=exq v.d;have hnl:n≤1000000:=by have:=hx.d;rw[hsz,hn]at this;omega
 rw[hfr]at hs;obtain⟨q,hfi,hX⟩:∃q,((fr=0∧q=6)∨(fr=1∧q=18))∧Y (∀W,aJ w w W→W.cell? ⟨g,q+5,O⟩=R (aO bd)∧W.cell? ⟨g,q+4,O⟩=R (J U bo)):=by
  rcases Lc (P:=P) (c:=c) hs with⟨h0,_,_,h1,_⟩|⟨h0,_,_,h1,_⟩
  ·exact⟨6,.inl ⟨h0,rfl⟩,aj fun W hW=>by rw[←hbd,←hbo,h1,←hg];exact⟨(h.a hW).f.a 11,(h.a hW).f.a 10⟩⟩
  ·exact⟨18,.inr ⟨h0,rfl⟩,aj fun W hW=>by rw[←hbd,←hbo,h1,←hg];exact⟨(h.a hW).f.a 23,(h.a hW).f.a 22⟩⟩
 have HX:Y (∀W,aJ w w W→W.cell? ⟨p.b,0,O⟩=R (J U fr)∧W.cell? ⟨p.b,1,O⟩=R (J U ty)∧W.cell? ⟨p.b,23,O⟩=R (aO en)∧W.cell? ⟨p.b,24,O⟩=R (J U wt)∧W.cell? ⟨p.b,38,O⟩=R (Z ZA n p.j)∧W.cell? ⟨p.b,39,O⟩=R (aO ba)):=aj fun W hW=>by have hL:=(h.a hW).e.a;exact⟨by rw[←hfr];exact hL.a 0,by rw[←hty];exact hL.a 1,by rw[←hen];exact hL.a 23,by rw[←hwt];exact hL.a 24,by rw[←hn,←hsz,←hZA];exact hL.a 38,by rw[←hba];exact hL.a 39⟩
 have HSL:Y (∀W,aJ w w W→Aw W (F 14) ZA n p.j (sz.map (J U))):=aj fun W hW=>by rw[←hn,←hsz,←hZA];exact(h.a hW).e.f
 have HP:Y (∀W,aJ w w W→aF au 278 #[qp g,qp p.b,aS #[vt,v.e,v.c,v.a,v.b,v.f],kept] W (rC (je c p.x v kept) c P p F W)):=aj fun W hW=>by rw[←hg,←hvt];exact Dl F (h.a hW) hk hl hx v kept
 have HH:Y (∀W,aJ w w W→aF au 279 #[qp g,qp p.b,aS #[vt,v.e,v.c,v.a,v.b,v.f],kept] W (rC (lN c p.x v kept) c P p F W)):=aj fun W hW=>by rw[←hg,←hvt];exact Gh F (h.a hW) hk hl hx v kept
 have HZ:Y (iB c p.x v kept=if ty=5∧fr=0 then(3,35)else if en=false then(1,0)else if ba then(3,25)else if bd=true∧(sz=[]∨sz.headD 0>bo)then(3,27)else if sz≠[]∧uZ sz>vt then(3,26)else if wt=5 then je c p.x v kept else lN c p.x v kept):=aj (by unfold iB;rw[hty,hfr,hen,hba,hbd,hsz,hbo,hvt,hwt]);have HC:=aj h;have HK:=aj (gU w 213 v);rw[hvt]at HK;rw[hg,hvt];have HN:=aj (And.intro hn hnl);clear h hk hl hx hs hfr hty hwt hg hsz hbd hbo hen hba hvt hn hnl hZA;have hw0:U.wrap 0=0:=rfl;obtain⟨b3,hb3⟩:∃b:Bool,b=(ty==5&&fr==0):=⟨_,rfl⟩;obtain⟨HZ35,HZ1,HZ25,HZ⟩:(Y (b3=true→iB c p.x v kept=(3,35)))∧(Y (b3=false→en=false→iB c p.x v kept=(1,0)))∧(Y (b3=false→en=true→ba=true→iB c p.x v kept=(3,25)))∧Y (b3=false→en=true→ba=false→iB c p.x v kept=if bd=true∧(sz=[]∨sz.headD 0>bo)then(3,27)else if sz≠[]∧uZ sz>vt then(3,26)else if wt=5 then je c p.x v kept else lN c p.x v kept):=by
  have hd:(ty=5∧fr=0)↔b3=true:=by rw[hb3];simp
  refine⟨aj fun h1=>by rw[HZ.o,aP (hd.2 h1)],aj fun h1 h2=>?_,aj fun h1 h2 h3=>?_,aj fun h1 h2 h3=>?_⟩;all_goals rw[HZ.o,aL (fun h=>by rw[hd.1 h]at h1;cases h1)]
  ·rw[aP h2]
  ·rw[aL (by rw[h2];decide),aP h3]
  ·rw[aL (by rw[h2];decide),aL (by rw[h3];decide)]
 have hw0:U.wrap 0=0:=rfl;go_enter func248,ntmps248;go_upto_region 1 with fail;generalize hW1:w.alloc (.cells #[vt,v.e,v.c,v.a,v.b,v.f] 213)=W1 at HK⊢;clear hW1;go_cut [10] (fun v10 wx=>v10=aK (R ⟨g,q,O⟩)∧Y (aJ w w wx)∧Y (bH wx w 213 #[vt,v.e,v.c,v.a,v.b,v.f]));case first=>
  obtain⟨x0,x1,x23,x24,x38,x39⟩:=HX.o _ HK.o.1;clear HZ35 HZ1 HZ25 HZ HP HH HX hX HSL HC;rcases hfi with⟨rfl,rfl⟩|⟨rfl,rfl⟩
  all_goals
   go_quiet (fail);go_wp2;go_meet;exact⟨rfl,aj (bI HK.o.1 nq),aj (HK.o.2.q nq)⟩
 case rest=>
  clear HK W1;obtain⟨rfl,HB2,HV2⟩:=hcut;obtain⟨x0,x1,x23,x24,x38,x39⟩:=HX.o _ HB2.o;go_upto_region 3 with fail;go_cut [26] (fun v wx=>v=aO b3∧wx=wc);case first=>
   clear HZ35 HZ1 HZ25 HZ HP HH HX hX HSL HC;have h5:(ty=5∧b3=(fr==0))∨(ty==5)=false∧b3=false:=by
    by_cases h1:ty=5
    ·exact .inl ⟨h1,by rw[hb3,h1];rfl⟩
    ·exact .inr ⟨aM.2 h1,by rw[hb3,aM.2 h1];rfl⟩
   rcases h5 with⟨rfl,rfl⟩|⟨b5,rfl⟩
   all_goals
    clear hb3;go_wp2;go_meet;exact⟨Y1,rfl⟩
  case rest=>
   obtain⟨rfl,rfl⟩:=hcut;clear hb3;cases b3;rotate_left
   ·go_wp2_with fail;refine mB (dR 35 _) ?_;rintro w4 rfl;go_wp2;go_ret2;exact⟨by rw[HZ35.o Y1];rfl,HC.o.g HB2.o⟩
   cases en
   ·go_wp2;go_ret2;exact⟨by rw[HZ1.o Y1 Y1];rfl,HC.o.g HB2.o⟩
   cases ba;rotate_left
   ·go_wp2_with fail;refine mB (dR 25 _) ?_;rintro w4 rfl;go_wp2;go_ret2;exact⟨by rw[HZ25.o Y1 Y1 Y1];rfl,HC.o.g HB2.o⟩
   clear HZ35 HZ1 HZ25;have HZ:=aj (HZ.o Y1 Y1 Y1);obtain⟨b9,hb9⟩:∃b:Bool,b=decide (bd=true∧(sz=[]∨sz.headD 0>bo)):=⟨_,rfl⟩;obtain⟨b11,hb11⟩:∃b:Bool,b=decide (sz≠[]∧uZ sz>vt):=⟨_,rfl⟩;have HZ2:Y (iB c p.x v kept=if b9=true then(3,27)else if b11=true then(3,26)else if wt=5 then je c p.x v kept else lN c p.x v kept):=aj (by rw[HZ.o,hb9,hb11];simp only[decide_eq_true_eq]);clear HZ;go_upto_region 9 with fail;clear x0 x1 x23 x24 x38 x39;go_cut [58] (fun y wx=>y=aO b9∧Y (aJ w w wx)∧Y (bH wx w 213 #[vt,v.e,v.c,v.a,v.b,v.f]));case first=>
    have y5:∀u:Gw wc,u.W.cell? ⟨g,q+5,O⟩=R (aO bd):=fun u=>(hX.o _ (u.a HB2.o)).1;have y4:∀u:Gw wc,u.W.cell? ⟨g,q+4,O⟩=R (J U bo):=fun u=>(hX.o _ (u.a HB2.o)).2;have hs0:(n=0∧b9=bd)∨(bd=false∧b9=false)∨(∃z b o,bd=true∧0<n∧((n:Int)==0)=false∧ZA=R ⟨b,o,O⟩∧(∀u:Gw wc,u.W.cell? ⟨b,o,O⟩=R (J U z))∧b9=decide (z>bo)):=by
     cases hbd:bd
     ·exact .inr (.inl ⟨rfl,by rw[hb9,hbd];simp⟩)
     cases sz with
     |nil=>exact .inl ⟨by rw[←HN.o.1];rfl,by rw[hb9,hbd];simp⟩
     |cons z l=>
      have h1:=HN.o.1;have h2:0<n:=by rw[←h1];exact Nat.succ_pos _
      obtain⟨b,o,e,hc⟩:=(HSL.o _ HB2.o).b;exact .inr (.inr ⟨z,b,o,rfl,h2,aM.2 Y0,e,fun u=>hc _ (HSL.o _ (u.a HB2.o)) 0 z rfl,by rw[hb9,hbd];simp⟩)
    have HS2:=HN;clear HZ2 HP HH HX hX HSL HC hb9 hb11 HN;rcases hs0 with⟨rfl,rfl⟩|⟨rfl,rfl⟩|⟨z,b,o,rfl,hn0,bn0,rfl,yz,rfl⟩
    ·cases b9;all_goals
      refine dJ Y3 Y3 ?_;repeat(refine WQ.d (fun K hK=>?_);go_simp;refine hK _ ?_;clear hK K)
      refine WQ.b ?_;rintro _ ⟨u3,rfl⟩;go_wp2;go_meet;exact⟨rfl,aj (u3.a HB2.o),aj (HV2.o.b u3.h)⟩
    ·refine dJ Y3 Y3 ?_;repeat(refine WQ.d (fun K hK=>?_);go_simp;refine hK _ ?_;clear hK K)
     refine WQ.b ?_;rintro _ ⟨u3,rfl⟩;go_wp2;go_meet;exact⟨rfl,aj (u3.a HB2.o),aj (HV2.o.b u3.h)⟩
    ·refine dJ Y3 Y3 ?_;repeat(refine WQ.d (fun K hK=>?_);go_simp;refine hK _ ?_;clear hK K)
     refine WQ.b ?_;rintro _ ⟨u3,rfl⟩;go_wp2;go_meet;exact⟨rfl,aj (u3.a HB2.o),aj (HV2.o.b u3.h)⟩
   case rest=>
    obtain⟨rfl,HB3,HV3⟩:=hcut;clear HB2 HV2 hb9 hX;cases b9;rotate_left
    ·have HZ3:Y (iB c p.x v kept=(3,27)):=aj (by rw[HZ2.o,aP rfl]);clear HZ2;go_wp2_with fail;refine mB (dR 27 _) ?_;rintro w4 rfl;go_wp2;go_ret2;exact⟨by rw[HZ3.o];rfl,HC.o.g HB3.o⟩
    have HZ3:Y (iB c p.x v kept=if b11=true then(3,26)else if wt=5 then je c p.x v kept else lN c p.x v kept):=aj (by rw[HZ2.o,aL Y2]);clear HZ2;go_upto_region 11 with fail;go_cut [81] (fun y wx=>y=aO b11∧Y (aJ w w wx)∧Y (bH wx w 213 #[vt,v.e,v.c,v.a,v.b,v.f]));case first=>
     have ym:∀u:Gw wc,u.W.cell? ⟨w,0,O⟩=R (J U vt):=fun u=>(HV3.o.b u.h).a 0;have hs0:(n=0∧b11=false)∨(∃m,0<n∧b11=decide (m>vt)∧Y (∀u:Gw wc,aF au 101 #[Z ZA n p.j] u.W fun e w'=>e=av m∧∃u':Gw wc,w'=u'.W)):=by
      cases sz with
      |nil=>exact .inl ⟨by rw[←HN.o.1];rfl,by rw[hb11];simp⟩
      |cons z l=>
       have h1:=HN.o.1;have h2:0<n:=by rw[←h1];exact Nat.succ_pos _
       exact .inr ⟨uZ (z::l),h2,by rw[hb11];simp,aj fun u=>Calls.gw (Ld z l ZA n p.j (F 14) u.W (HSL.o _ (u.a HB3.o)) HN.o.1 HN.o.2)⟩
     clear HZ3 HP HH HSL HC hb11 HN;rcases hs0 with⟨rfl,rfl⟩|⟨m,hn0,rfl,HM⟩
     ·refine dJ Y3 Y3 ?_;repeat(refine WQ.d (fun K hK=>?_);go_simp;refine hK _ ?_;clear hK K)
      refine WQ.b ?_;rintro _ ⟨u3,rfl⟩;go_wp2;go_meet;exact⟨rfl,aj (u3.a HB3.o),aj (HV3.o.b u3.h)⟩
     ·refine dJ Y3 Y3 ?_;repeat(refine WQ.d (fun K hK=>?_);go_simp;first|(refine hK _ ?_;clear hK K)|(apply Exists.intro;refine⟨fun _=>?_,hK _ ?_⟩;(go_at_call 101;exact HM.o _);clear hK K))
      refine WQ.b ?_;rintro _ ⟨u3,rfl⟩;go_wp2;go_meet;exact⟨rfl,aj (u3.a HB3.o),aj (HV3.o.b u3.h)⟩
    case rest=>
     obtain⟨rfl,HB4,HV4⟩:=hcut;clear HB3 HV3 hb11;cases b11;rotate_left
     ·have HZ4:Y (iB c p.x v kept=(3,26)):=aj (by rw[HZ3.o,aP rfl]);clear HZ3;go_wp2_with fail;refine mB (dR 26 _) ?_;rintro w4 rfl;go_wp2;go_ret2;exact⟨by rw[HZ4.o];rfl,HC.o.g HB4.o⟩
     have HZ4:Y (iB c p.x v kept=if wt=5 then je c p.x v kept else lN c p.x v kept):=aj (by rw[HZ3.o,aL Y2]);clear HZ3;obtain⟨x0,x1,x23,x24,x38,x39⟩:=HX.o _ HB4.o;have xv:=bH.j HV4.o;by_cases h5:wt=5
     ·have HZ5:Y (iB c p.x v kept=je c p.x v kept):=aj (by rw[HZ4.o,aP h5]);clear HZ4;subst h5;go_wp2_with fail;refine mB (HP.o _ HB4.o) fun w4 hp=>?_;have HQ:=aj (Cp.a HB4.o hp);clear hp;go_wp2;go_ret2;exact⟨by rw[HZ5.o];rfl,HQ.o⟩
     ·have HZ5:Y (iB c p.x v kept=lN c p.x v kept):=aj (by rw[HZ4.o,aL h5]);have b5:=aM.2 h5;clear HZ4;go_wp2_with fail;refine mB (HH.o _ HB4.o) fun w4 hp=>?_;have HQ:=aj (Cp.a HB4.o hp);clear hp;go_wp2;go_ret2;exact⟨by rw[HZ5.o];rfl,HQ.o⟩
end
def Sw {a f:aB} {b:bB} {d:Array aI} (e:aI) (g:aJ (a.drew.alloc (.cells d b)).heap.size (a.drew.alloc (.cells d b)) f) (h:d.size=1):Di a (f.setCell ⟨a,0,O⟩ e) a.heap.size b #[e]:=Sq [e] g h.symm
def iZ.l {a:Lk} (b:iZ a):a.f.c.length≤300:=by
 by_cases d:a.w=(0,0)
 ·by_cases e:a.r.c= -1
  ·rw[b.e (.inr e)];exact aZ _
  ·exact(b.c d e).b
 ·rw[b.e (.inl d)];exact aZ _
section
variable {w:aB} {c:Co} {P:Pt} {p:fq}
def NP {a:Nat} (x:Nat→List Nat) (o:lX w c P (R p) x) (y:dU c a) (hk:a≤1000) (k:iZ p.x) (e0:p.x.r.c≠ -1) (f:Vl) (j:Bool):
  aF au 243 #[qp P.g,qp p.b,aS f,j] w fun d e=>d=av (aN #[J U (kP c p.x f j).1,J U (kP c p.x f j).2])∧aJ w w e:=by
 have N:=aR y.d hk;have G:=dN k.a;have h0:=k.b e0;have T:(Lit.int U p.x.r.d).wf=true:=bX (by omega);have I:=lH y.e p.x.r.d;have K:=lF I.x;have L:=lF I.y;obtain⟨h,M⟩:=exq p.x.r.a;obtain⟨q,t⟩:=exq p.x.r.d;obtain⟨r,z⟩:=exq P.g;obtain⟨H,V⟩:=exq P.c;obtain⟨s,W⟩:=exq p.x.r.b.length;obtain⟨b,E⟩:=exq ((fG c.l q).1);obtain⟨A,hq⟩:=exq ((fG c.l q).2);obtain⟨i,X⟩:=exq (zbY c p.x.r q j);obtain⟨Q,y1,B,a0⟩:∃a m A,mh c.c c.d h s 65535=(a,m,A):=⟨_,_,_,rfl⟩;rw[t,E]at K L;obtain⟨x2,y2,u,b0⟩:∃a m A,mh (fM b.d) (fM b.e) h s f.a=(a,m,A):=⟨_,_,_,rfl⟩;obtain⟨C,c0⟩:=exq (tY p.x.r);obtain⟨D,F⟩:=exq (b.u h);obtain⟨n,hd⟩:=exq (D.f p.x.f.c.length C);obtain⟨S,d0⟩:=exq p.x.f.c.length;have v:Y (∀a,aJ w w a→a.cell? ⟨p.b,3,O⟩=R (J U q)∧a.cell? ⟨p.b,0,O⟩=R (J U h)∧a.cell? ⟨p.b,5,O⟩=R (Z p.h s p.i)∧a.cell? ⟨p.b,10,O⟩=R (Z p.a S p.c)∧a.cell? ⟨r,30,O⟩=R (aH aW (fw c.c) (fw c.d))∧a.cell? ⟨r,31,O⟩=R (aK (R ⟨H,0,O⟩))):=aj fun a g=>by have l:=(o.a g).e.a;have hC:=(o.a g).f;exact⟨by rw[←t];exact l.a 3,by rw[←M];exact l.a 0,by rw[←W];exact l.a 5,by rw[←d0];exact l.a 10,by rw[←z];exact hC.a 30,by rw[←z,←V];exact hC.a 31⟩
 have HL:Y (∀a,aJ w w a→aF au 244 #[qp r,qp p.b,q,j] a fun d e=>d=av (aN #[i.1,i.2])∧aJ a a e):=aj fun a g=>by rw[←z,←X];exact wH x q j (o.a g) y.l N k.a (by rw[←t];exact T)
 have f0:Y (∀a,aJ w w a→aF au 102 #[aS #[aH aW (fw c.c) (fw c.d)],h,s,J U 65535] a fun d e=>d=av (aN #[aS #[aH aW (fw Q) (fw y1)],B])∧(e.cell? ⟨r,30,O⟩=R (aH aW (fw c.c) (fw c.d))∧e.cell? ⟨p.b,0,O⟩=R (J U h))∧Y (aJ a a e)):=aj fun a g=>by refine mB (Cz c.c c.d h s 65535 Q y1 B a (aj y.f) (aj y.g) (aj a0)) fun e l=>?_;have k:=v.o _ (bG g l);exact⟨rfl,⟨k.2.2.2.2.1,k.2.1⟩,aj l⟩
 have HG:Y (∀a,aJ w w a→aF au 104 #[qp H,q] a fun d e=>d=av (aN #[pV b,A])∧(e.cell? ⟨r,31,O⟩=R (aK (R ⟨H,0,O⟩))∧e.cell? ⟨p.b,3,O⟩=R (J U q))∧Y (aJ a a e)):=aj fun a g=>by refine mB (nu (M:=c.a.b) (F:=x 13) H q a N (by rw[←V];exact(o.a g).d 13) (aj (by rw[←t];exact T))) fun e l=>?_;have k:=v.o _ (bG g l);exact⟨by rw[E,hq],⟨k.2.2.2.2.2,k.1⟩,aj l⟩
 have g0:Y (∀a,aJ w w a→aF au 102 #[aS #[aH aW b.d b.e],h,s,f.a] a fun d e=>d=av (aN #[aS #[aH aW (fw x2) (fw y2)],u])∧aJ a a e):=aj fun a g=>by have:=Cz (fM b.d) (fM b.e) h s f.a x2 y2 u a (aj K.1) (aj L.1) (aj b0);rw[K.2,L.2]at this;exact this
 have HE:Y (∀a,aJ w w a→aF au 146 #[qp p.b] a fun d e=>d=av C∧aJ a a e):=aj fun a g=>by refine mB (BP (o.a g).e.a Y0) ?_;rintro e ⟨s,rfl⟩;exact⟨by rw[c0],bI (ay _ _) s⟩
 have HD:Y (∀a,aF au 145 #[aS D,S,C] a fun d e=>d=av (aN #[lS n.1,n.2])∧aJ a a e):=aj fun a=>by have:=I.f h;rw[t,E,F]at this;rw[←hd,←d0];exact Fa D _ C a (by have:=k.l;omega) Y0 this.a (by have:=this.b;omega)
 have Q:Y (kP c p.x f j=if i.1=3 then i else if B=false then(3,19)else if i.1=2 then(2,0)else if u=false then(3,20)else nC n.2):=aj (by unfold kP;rw[t,M,W,X,a0,E,b0,F,c0,hd]);have HS:Y ((h=0∧D=⟨b.f,b.g,b.h,b.i,b.j⟩)∨(h=1∧D=⟨b.l,b.m,b.n,b.p,b.q⟩)):=aj (by
  rw[M]at G;rcases G with x|x
  ·exact .inl ⟨x,by rw[←F,x];rfl⟩
  ·exact .inr ⟨x,by rw[←F,x];rfl⟩)
 have x:=aj (gU w 213 f);have n1:r<w.heap.size:=by rw[←z];exact o.f.e
 have n2:=o.e.a.e;have i0:=ku;unfold pV fD at HG;rw[z];clear o N G hk y k e0 h0 T I K L M t z V W E hq X a0 b0 c0 F hd d0;go_enter func243,ntmps243;go_upto_region 1 with fail;generalize k:w.alloc (.cells f 213)=o at x⊢;clear k;obtain⟨I,y,K,L,M,N⟩:=v.o _ x.o.1;go_wp2_with fail;refine mB (HL.o _ x.o.1) fun k l=>?_;have t:=aj (x.o.1.trans (l.mono x.o.1.size));have V:=aj (x.o.2.b l);clear l x HL I y K L M N;by_cases E:i.1=3
 ·have F:Y (kP c p.x f j=i):=aj (by rw[Q.o,aP E]);clear Q;obtain⟨a1,a2⟩:=i;dsimp only at E⊢;subst E;go_wp2;go_ret2;exact⟨by rw[F.o];rfl,t.o⟩
 have F:Y (kP c p.x f j=if B=false then(3,19)else if i.1=2 then(2,0)else if u=false then(3,20)else nC n.2):=aj (by rw[Q.o,aL E]);have o:=aM.2 E;clear Q;obtain⟨I,y,K,L,M,N⟩:=v.o _ t.o;have T:k.heap.size≠r:=by have:=t.o.size;omega
 have Q:k.heap.size≠p.b:=by have:=t.o.size;omega
 go_upto_region 5 with fail;go_cut [14] (fun m z=>m=aO B∧Y (aJ k k z));case first=>
  go_region_held3 (fun a=>a.cell? ⟨r,30,O⟩=R (aH aW (fw c.c) (fw c.d))∧a.cell? ⟨p.b,0,O⟩=R (J U h)) (go_keep) (first|(go_at_call 102;refine(f0.o _ (by first|exact t.o.drew|exact t.o.drew.alloc t.o.size _)).mono ?_;rintro d w3 ⟨rfl,⟨k,d0⟩,o⟩;first|(have x:=aj (jG o.o);have W:=x.o.c;have X:=x.o.a 0)|skip));all_goals
   go_wp2;go_meet;first|exact⟨rfl,aj (Sw _ o.o rfl).a⟩|exact⟨rfl,aj (vG (ay _ _).drew o.o).a⟩
 case rest=>
  obtain⟨rfl,k⟩:=hcut;have a0:=aj (V.o.b k.o);have k:=aj (t.o.trans (k.o.mono t.o.size));clear t V f0 I y K L M N T Q;cases B
  ·have t:Y (kP c p.x f j=(3,19)):=aj (by rw[F.o,aP rfl]);clear F;go_wp2_with fail;refine mB (dR 19 _) ?_;rintro V rfl;go_wp2;go_ret2;exact⟨by rw[t.o];rfl,k.o⟩
  have t:Y (kP c p.x f j=if i.1=2 then(2,0)else if u=false then(3,20)else nC n.2):=aj (by rw[F.o,aL Y2]);clear F;by_cases B:i.1=2
  ·have F:Y (kP c p.x f j=(2,0)):=aj (by rw[t.o,aP B]);clear t;obtain⟨a1,a2⟩:=i;dsimp only at B⊢;subst B;go_wp2;go_ret2;exact⟨by rw[F.o];rfl,k.o⟩
  have F:Y (kP c p.x f j=if u=false then(3,20)else nC n.2):=aj (by rw[t.o,aL B]);have b2:=aM.2 B;clear t E B;obtain⟨I,y,K,L,M,N⟩:=v.o _ k.o;have T:wc.heap.size≠r:=by have:=k.o.size;omega
  have Q:wc.heap.size≠p.b:=by have:=k.o.size;omega
  go_upto_region 10 with fail;go_cut [15,16] (fun m t z=>∃i,m=aK (R ⟨i,0,O⟩)∧t=aO A∧Y (Di wc z i 211 (fD b)));case first=>
   go_region_held3 (fun a=>a.cell? ⟨r,31,O⟩=R (aK (R ⟨H,0,O⟩))∧a.cell? ⟨p.b,3,O⟩=R (J U q)) (go_keep) (first|(go_at_call 104;refine(HG.o _ (by first|exact k.o.drew|exact k.o.drew.alloc k.o.size _)).mono ?_;rintro d V ⟨rfl,⟨t,A⟩,o⟩;first|(have x:=aj (jG o.o);have W:=x.o.c;obtain⟨X,z1,z2,z3,z4,z5,z6,B,E,z9,b0,c0,e0,f0,h0,i0,j0⟩:=bH.t x.o)|skip));all_goals
    go_wp2;go_meet;first|(rw[Dj];exact⟨_,rfl,rfl,aj (Sr o.o rfl)⟩)|exact⟨_,rfl,rfl,aj (vG (ay _ _).drew o.o)⟩
  case rest=>
   obtain⟨i,rfl,rfl,r⟩:=hcut;have A:=aj (a0.o.b r.o.a);have q:=aj (k.o.trans (r.o.a.mono k.o.size));have t:=aj r.o.c;clear r k a0 HG I y K L M N T Q;have r:Y (∀a,aJ wc wc a→a.cell? ⟨p.b,0,O⟩=R (J U h)∧a.cell? ⟨i,6,O⟩=R (aH aW b.d b.e)∧a.cell? ⟨w,3,O⟩=R (J U f.a)):=aj fun a g=>⟨(v.o _ (bG q.o g)).2.1,(t.o.b g).a 6,(A.o.b g).a 3⟩;have H:Y (∀a,aJ wc wc a→aF au 102 #[aS #[aH aW b.d b.e],h,s,f.a] a fun d e=>d=av (aN #[aS #[aH aW (fw x2) (fw y2)],u])∧(e.cell? ⟨p.b,0,O⟩=R (J U h)∧e.cell? ⟨i,6,O⟩=R (aH aW b.d b.e)∧e.cell? ⟨w,3,O⟩=R (J U f.a))∧Y (aJ a a e)):=aj fun a g=>by refine mB (g0.o a (bG q.o g)) fun e l=>?_;exact⟨rfl,r.o _ (bG g l),aj l⟩
   have Q:wc.heap.size≠p.b:=by have:=q.o.size;omega
   have l:wc.heap.size≠i:=by have:=t.o.e;omega
   have s:wc.heap.size≠w.heap.size:=by have:=A.o.e;omega
   obtain⟨y,I,K⟩:=r.o _ (ay _ _);go_upto_region 11 with fail;go_cut [18] (fun m z=>m=aO u∧Y (aJ wc wc z));case first=>
    go_region_held3 (fun a=>a.cell? ⟨p.b,0,O⟩=R (J U h)∧a.cell? ⟨i,6,O⟩=R (aH aW b.d b.e)∧a.cell? ⟨w,3,O⟩=R (J U f.a)) (go_keep) (first|(go_at_call 102;refine(H.o _ (by first|exact(ay _ _).drew|exact(ay _ _).drew.alloc (aD _) _)).mono ?_;rintro d w3 ⟨rfl,⟨d0,g,k⟩,o⟩;first|(have x:=aj (jG o.o);have W:=x.o.c;have X:=x.o.a 0)|skip));all_goals
     go_wp2;go_meet;first|exact⟨rfl,aj (Sw _ o.o rfl).a⟩|exact⟨rfl,aj (vG (ay _ _).drew o.o).a⟩
   case rest=>
    obtain⟨rfl,a⟩:=hcut;have k:=aj (q.o.trans (a.o.mono q.o.size));have g:=aj (t.o.b a.o);clear q A t r H g0 Q l s y I K a;cases u
    ·have l:Y (kP c p.x f j=(3,20)):=aj (by rw[F.o,aP rfl]);clear F;go_wp2_with fail;refine mB (dR 20 _) ?_;rintro V rfl;go_wp2;go_ret2;exact⟨by rw[l.o];rfl,k.o⟩
    have l:Y (kP c p.x f j=nC n.2):=aj (by rw[F.o,aL Y2]);clear F;go_upto_region 14 with fail;go_cut [11] (fun m z=>m=J U n.2∧Y (aJ w w z));case first=>
     have r:∀a:Gw wc,a.W.cell? ⟨p.b,0,O⟩=R (J U h):=fun a=>(v.o _ (a.a k.o)).2.1;have s:∀a:Gw wc,a.W.cell? ⟨p.b,10,O⟩=R (Z p.a S p.c):=fun a=>(v.o _ (a.a k.o)).2.2.2.1;have q:Y (∀a:Gw wc,aF au 146 #[qp p.b] a.W fun d e=>d=av C∧∃m:Gw wc,e=m.W):=aj fun a=>Calls.gw (HE.o _ (a.a k.o));have o:Y (∀a:Gw wc,aF au 145 #[aS D,S,C] a.W fun d e=>d=av (aN #[lS n.1,n.2])∧∃m:Gw wc,e=m.W):=aj fun a=>Calls.gw (HD.o _);have G:=HS.o;have t:U.wrap 0=0:=rfl;unfold lS at o;clear v HE HD l HS;rcases G with⟨rfl,rfl⟩|⟨rfl,rfl⟩
     ·have B:∀a:Gw wc,a.W.cell? ⟨i,7,O⟩=R (aO b.f):=fun a=>(g.o.b a.h).a 7;have E:∀a:Gw wc,a.W.cell? ⟨i,8,O⟩=R (aA b.g):=fun a=>(g.o.b a.h).a 8;have z9:∀a:Gw wc,a.W.cell? ⟨i,9,O⟩=R (J U b.h):=fun a=>(g.o.b a.h).a 9;have b0:∀a:Gw wc,a.W.cell? ⟨i,10,O⟩=R (J U b.i):=fun a=>(g.o.b a.h).a 10;have c0:∀a:Gw wc,a.W.cell? ⟨i,11,O⟩=R (J U b.j):=fun a=>(g.o.b a.h).a 11;refine dJ Y3 Y3 ?_;repeat(refine WQ.d (fun j f=>?_);go_simp;first|(refine f _ ?_;clear f j)|(apply Exists.intro;refine⟨fun _=>?_,f _ ?_⟩;(first|(go_at_call 146;exact q.o _)|(go_at_call 145;exact o.o _));clear f j))
      refine WQ.b ?_;rintro _ ⟨u3,rfl⟩;go_wp2;go_meet;exact⟨rfl,aj (u3.a k.o)⟩
     ·have B:∀a:Gw wc,a.W.cell? ⟨i,12,O⟩=R (aO b.l):=fun a=>(g.o.b a.h).a 12;have E:∀a:Gw wc,a.W.cell? ⟨i,13,O⟩=R (aA b.m):=fun a=>(g.o.b a.h).a 13;have z9:∀a:Gw wc,a.W.cell? ⟨i,14,O⟩=R (J U b.n):=fun a=>(g.o.b a.h).a 14;have b0:∀a:Gw wc,a.W.cell? ⟨i,15,O⟩=R (J U b.p):=fun a=>(g.o.b a.h).a 15;have c0:∀a:Gw wc,a.W.cell? ⟨i,16,O⟩=R (J U b.q):=fun a=>(g.o.b a.h).a 16;refine dJ Y3 Y3 ?_;repeat(refine WQ.d (fun j f=>?_);go_simp;first|(refine f _ ?_;clear f j)|(apply Exists.intro;refine⟨fun _=>?_,f _ ?_⟩;(first|(go_at_call 146;exact q.o _)|(go_at_call 145;exact o.o _));clear f j))
      refine WQ.b ?_;rintro _ ⟨u3,rfl⟩;go_wp2;go_meet;exact⟨rfl,aj (u3.a k.o)⟩
    case rest=>obtain⟨rfl,a⟩:=hcut;go_wp2_with fail;refine mB (uj n.2 _) ?_;rintro b rfl;go_wp2;go_ret2;exact⟨by rw[l.o];rfl,a.o⟩
end
def WR (b d c a e f:Int) (w:aB):(Instr.field 213 (aS #[b,d,c,a,e,f]) 3).run au w=.ok (J U a) w:=by kernel_rfl
section
variable {w:aB} {c:Co} {P:Pt} {p:fq}
def Gj {x0:Nat} (j:Nat→List Nat) (h:lX w c P (R p) j) (L:dU c x0) (hk:x0≤900) (q:iZ p.x) (y0:p.x.r.c≠ -1) (r:Bool):
  aF au 247 #[qp P.g,qp p.b,r] w (rC (sM c p.x r) c P p j w):=by
 have hl:c.l.length≤1000:=by have:=L.d;omega
 have T:=dN q.a;have E0:=q.b y0;have o0:(Lit.int U p.x.r.d).wf=true:=bX (by omega);have p0:=lH L.e p.x.r.d;have q0:=lF p0.x;have r0:=lF p0.y;obtain⟨e,i0⟩:=exq p.x.r.a;obtain⟨l,V⟩:=exq p.x.r.d;obtain⟨t,G⟩:=exq P.g;obtain⟨al,s0⟩:=exq P.c;obtain⟨g,t0⟩:=exq p.x.f.g;obtain⟨b,hm⟩:=exq ((fG c.l l).1);obtain⟨j0,hq⟩:=exq ((fG c.l l).2);obtain⟨B,ha⟩:=exq (zbY c p.x.r l r);rw[V,hm]at q0 r0;rw[i0]at T;obtain⟨M,u0⟩:=exq ((c.p e).q.e);obtain⟨W,k0⟩:=exq (qS P e);obtain⟨i6,l0⟩:∃i6,(e=0∧i6=12)∨(e=1∧i6=24):=by
  rcases T with h|h
  ·exact⟨12,.inl ⟨h,rfl⟩⟩
  ·exact⟨24,.inr ⟨h,rfl⟩⟩
 have v:Y (∀m a,St c P (R p) j w m a→a.cell? ⟨t,30,O⟩=R (aH aW (fw c.c) (fw c.d))∧a.cell? ⟨t,31,O⟩=R (aK (R ⟨al,0,O⟩))∧a.cell? ⟨t,i6,O⟩=R (aK (R ⟨W,0,O⟩))∧a.cell? ⟨p.b,0,O⟩=R (J U e)∧a.cell? ⟨p.b,3,O⟩=R (J U l)∧a.cell? ⟨p.b,18,O⟩=R (J U g)):=aj fun m a i=>by
  have hC:=i.d;obtain⟨F',hL⟩:=i.f;have hL:=hL.a;refine⟨by rw[←G];exact hC.a 30,by rw[←G,←s0];exact hC.a 31,?_,by rw[←i0];exact hL.a 0,by rw[←V];exact hL.a 3,by rw[←t0];exact hL.a 18⟩;rcases l0 with⟨H,h2⟩|⟨H,h2⟩
  ·rw[h2,←G,←k0,H];exact hC.a 12
  ·rw[h2,←G,←k0,H];exact hC.a 24
 have HL:Y (∀m a,St c P (R p) j w m a→aF au 244 #[qp t,qp p.b,l,r] a fun d f=>d=av (aN #[B.1,B.2])∧St c P (R p) j w m f):=aj fun m a i=>by obtain⟨F',hF⟩:=id i;rw[←G,←ha];refine(wH F' l r hF.a L.l hl q.a (by rw[←V];exact o0)).mono ?_;rintro d f ⟨rfl,K⟩;exact⟨rfl,i.a K⟩
 have HG:Y (∀m a,St c P (R p) j w m a→aF au 104 #[qp al,l] a fun d f=>d=av (aN #[pV b,j0])∧(f.cell? ⟨t,31,O⟩=R (aK (R ⟨al,0,O⟩))∧f.cell? ⟨p.b,3,O⟩=R (J U l))∧Y (aJ a a f)):=aj fun m a i=>by obtain⟨F',hF⟩:=id i;refine(nu (M:=c.a.b) (F:=F' 13) al l a hl (by rw[←s0];exact hF.a.d 13) (aj (by rw[←V];exact o0))).mono ?_;rintro d f ⟨rfl,K⟩;have q:=v.o m f (i.a K);exact⟨by rw[hm,hq],⟨q.2.1,q.2.2.2.2.1⟩,aj K⟩
 have HN:Y (∀m a,St c P (R p) j w m a→aF au 154 #[qp W] a fun d f=>d=av (EM M)∧St c P (R p) j w m f):=aj fun m a i=>by rw[←k0,←u0];exact wI i L hk e
 have HZ:Y (sM c p.x r=if l=0 then(if g=0 then(3,17)else jv (iG c.c c.d (1-e) g 65535).2.2 18)else if B.1≠1 then B else if g=0 then(3,17)else jv (iG (fM b.d) (fM b.e) (1-e) g M.a).2.2 18):=aj (by
  unfold sM;rw[V,i0,t0,ha,hm,u0];by_cases n:l=0
  ·simp only[n,if_true];rfl
  ·simp only[n,if_false])
 have N:Y ((Am c.c∧Am c.d)∧(Am (fM b.d)∧fw (fM b.d)=b.d)∧Am (fM b.e)∧fw (fM b.e)=b.e):=aj ⟨⟨L.f,L.g⟩,q0,r0⟩;have HC:=aj (St.y h);have F0:=aj G;obtain⟨x,C,D,u,E,F⟩:=v.o _ _ (St.y h);have n1:t<w.heap.size:=by rw[←G];exact h.f.e
 have n2:p.b<w.heap.size:=h.e.a.e;have S0:=ku;unfold pV fD at HG;unfold EM at HN;rw[G];clear h hl T hk L q y0 E0 o0 p0 q0 r0 i0 V G s0 hm hq ha t0 u0 k0;go_enter func247,ntmps247;go_upto_region 2 with fail;have X:Y (St c P (R p) j w [(w.heap.size,125,#[aH aW (fw c.c) (fw c.d)])] (w.alloc (.cells #[aH aW (fw c.c) (fw c.d)] 125))):=aj (HC.o.i _ _);generalize G0:w.alloc (.cells #[aH aW (fw c.c) (fw c.d)] 125)=W1 at X⊢;obtain⟨k,e0⟩:=exq w.heap.size;rw[e0]at X⊢;clear G0 x C D u E F HC;obtain⟨x,C,D,u,E,F⟩:=v.o _ _ X.o;go_upto_if 25 with fail;go_cut [9] (fun I Q=>∃y z a0,I=J U a0∧Y (St c P (R p) j w [(k,125,#[aH aW (fw y) (fw z)])] Q)∧Y ((Am y∧Am z)∧sM c p.x r=if g=0 then(3,17)else jv (iG y z (1-e) g a0).2.2 18));case first=>
  by_cases n:l=0
  ·have b0:Y (sM c p.x r=if g=0 then(3,17)else jv (iG c.c c.d (1-e) g 65535).2.2 18):=aj (by rw[HZ.o,aP n]);clear HZ v HL HG HN;subst n;go_wp2_with fail;go_meet;exact⟨c.c,c.d,65535,rfl,X,aj ⟨N.o.1,b0.o⟩⟩
  ·have b0:Y (sM c p.x r=if B.1≠1 then B else if g=0 then(3,17)else jv (iG (fM b.d) (fM b.e) (1-e) g M.a).2.2 18):=aj (by rw[HZ.o,aL n]);have H0:(l==0)=false:=aM.2 n;clear HZ n;go_wp2_with fail;refine(HL.o _ _ X.o).mono ?_;rintro d S ⟨rfl,A0⟩;have f0:=aj A0;clear A0 x C D u E F HL;by_cases H:B.1=1
   ·have m0:Y (sM c p.x r=if g=0 then(3,17)else jv (iG (fM b.d) (fM b.e) (1-e) g M.a).2.2 18):=aj (by rw[b0.o,aL (fun h=>h H)]);clear b0;obtain⟨a1,a2⟩:=B;dsimp only at H⊢;subst H;obtain⟨x,C,D,u,E,F⟩:=v.o _ _ f0.o;have m1:S.heap.size≠t:=fun d=>by have:=bf S _ x;dsimp only at this;omega
    have m2:S.heap.size≠p.b:=fun d=>by have:=bf S _ u;dsimp only at this;omega
    go_upto_region 6 with fail;go_cut [12,13] (fun I I0 Q=>∃o,I=aK (R ⟨o,0,O⟩)∧I0=aO j0∧Y (Di S Q o 211 (fD b)));case first=>
     have K0:Y (∀a,aJ S S a→_):=aj fun a i=>HG.o _ a (f0.o.a i);go_region_held3 (fun a=>a.cell? ⟨t,31,O⟩=R (aK (R ⟨al,0,O⟩))∧a.cell? ⟨p.b,3,O⟩=R (J U l)) (go_keep) (first|(go_at_call 104;refine(K0.o _ (by first|exact(ay _ _).drew|exact(ay _ _).drew.alloc (aD _) _)).mono ?_;rintro d w4 ⟨rfl,⟨T0,d3⟩,s⟩;first|(have g0:=aj (jG s.o);have L0:=g0.o.c;obtain⟨z0,z1,z2,z3,z4,z5,z6,z7,z8,z9,V0,W0,X0,b1,c1,d1,e1⟩:=bH.t g0.o)|skip));all_goals
      go_wp2_with fail;go_meet;first|(rw[Dj];exact⟨_,rfl,rfl,aj (Sr s.o rfl)⟩)|exact⟨_,rfl,rfl,aj (vG (ay _ _).drew s.o)⟩
    case rest=>
     obtain⟨o,rfl,rfl,HR⟩:=hcut;have A:Y (St c P (R p) j w [(k,125,#[aH aW (fw c.c) (fw c.d)]),(o,211,fD b)] wc):=aj (f0.o.J HR.o).v;clear f0 HR HG m1 m2 x C D u E F;obtain⟨x,C,D,u,E,F⟩:=v.o _ _ A.o;have z6:wc.cell? ⟨o,6,O⟩=R (aH aW b.d b.e):=(A.o.h (x:=(o,211,fD b)) (by simp)).a 6;have e0:=A.o.h (x:=(k,125,#[aH aW (fw c.c) (fw c.d)])) (by simp);have z0:wc.cell? ⟨k,0,O⟩=R (aH aW (fw c.c) (fw c.d)):=e0.a 0;have zf:=e0.c;have m1:k≠p.b:=A.o.B;have m2:k≠o:=fun d=>(List.nodup_cons.1 A.o.choose_spec.f).1 (by simp[d]);have m3:k≠t:=by have:=A.o.A.2;rw[F0.o]at this;exact this
     go_upto_region 7 with fail;go_cut [9] (fun I Q=>I=J U M.a∧Y (St c P (R p) j w [(k,125,#[aH aW b.d b.e]),(o,211,fD b)] Q));case first=>
      have B0:Y (∀a v0,St c P (R p) j w [(k,125,#[v0]),(o,211,fD b)] a→aF au 154 #[qp W] a fun d f=>d=av (aS M)∧(f.cell? ⟨o,6,O⟩=R (aH aW b.d b.e)∧f.cell? ⟨p.b,0,O⟩=R (J U e)∧f.cell? ⟨t,i6,O⟩=R (aK (R ⟨W,0,O⟩)))∧Y (St c P (R p) j w [(k,125,#[v0]),(o,211,fD b)] f)):=aj fun a v0 i=>by refine(HN.o _ a i).mono ?_;rintro d f ⟨rfl,h⟩;have q:=v.o _ _ h;exact⟨rfl,⟨(h.h (x:=(o,211,fD b)) (by simp)).a 6,q.2.2.2.1,q.2.2.1⟩,aj h⟩
      clear HN v N m0;have f1:=WR;rcases l0 with⟨rfl,rfl⟩|⟨rfl,rfl⟩
      ·go_region_held3 (fun a=>a.cell? ⟨o,6,O⟩=R (aH aW b.d b.e)∧a.cell? ⟨p.b,0,O⟩=R (J U 0)∧a.cell? ⟨t,12,O⟩=R (aK (R ⟨W,0,O⟩))) (go_keep) (first|(go_at_call 154;refine(B0.o _ _ (by first|exact A.o.e|exact A.out.drew.put1 _ rfl)).mono ?_;rintro d w4 ⟨rfl,⟨d6,C0,di⟩,s⟩;have h0:=s.o.h (bM ..);have z4:=h0.a 0;have f4:=h0.c;dsimp only at z4 f4));all_goals
        go_wp2_with fail;go_meet;exact⟨rfl,aj (s.o.C _ rfl)⟩
      ·go_region_held3 (fun a=>a.cell? ⟨o,6,O⟩=R (aH aW b.d b.e)∧a.cell? ⟨p.b,0,O⟩=R (J U 1)∧a.cell? ⟨t,24,O⟩=R (aK (R ⟨W,0,O⟩))) (go_keep) (first|(go_at_call 154;refine(B0.o _ _ (by first|exact A.o.e|exact A.out.drew.put1 _ rfl)).mono ?_;rintro d w4 ⟨rfl,⟨d6,C0,di⟩,s⟩;have h0:=s.o.h (bM ..);have z4:=h0.a 0;have f4:=h0.c;dsimp only at z4 f4));all_goals
        go_wp2_with fail;go_meet;exact⟨rfl,aj (s.o.C _ rfl)⟩
     case rest=>obtain⟨rfl,M0⟩:=hcut;clear A z6 e0 z0 zf m1 m2 m3 x C D u E F;go_wp2_with fail;go_meet;exact⟨fM b.d,fM b.e,M.a,rfl,aj (by rw[N.o.2.1.2,N.o.2.2.2];exact M0.o.v.g),aj ⟨⟨N.o.2.1.1,N.o.2.2.1⟩,m0.o⟩⟩
   ·have m0:Y (sM c p.x r=B):=aj (by rw[b0.o,aP H]);have g1:(B.1==1)=false:=aM.2 H;clear b0;go_wp2_with fail;go_ret2;exact⟨by rw[m0.o];rfl,f0.o.m⟩
 case rest=>
  obtain⟨y,z,a0,rfl,c0,d0⟩:=hcut;clear X x C D u E F HZ HL HG HN N;obtain⟨x,C,D,u,E,F⟩:=v.o _ _ c0.o;by_cases n:g=0
  ·have n0:Y (sM c p.x r=(3,17)):=aj (by rw[d0.o.2,aP n]);clear d0;subst n;go_wp2_with fail;refine(dR 17 _).mono ?_;rintro d w4 ⟨rfl,rfl⟩;go_wp2_with fail;go_ret2;exact⟨by rw[n0.o];rfl,c0.o.m⟩
  have H0:(g==0)=false:=aM.2 n;obtain⟨x1,y1,q1,w0⟩:∃N0 I j0,iG y z (1-e) g a0=(N0,I,j0):=⟨_,_,_,rfl⟩;have n0:Y (sM c p.x r=jv q1 18):=aj (by rw[d0.o.2,aL n,w0]);have HT:Y (∀a,St c P (R p) j w [(k,125,#[aH aW (fw y) (fw z)])] a→aF au 160 #[aS #[aH aW (fw y) (fw z)],J U (1-e),g,a0] a fun d f=>d=av (aN #[aS #[aH aW (fw x1) (fw y1)],q1])∧(f.cell? ⟨k,0,O⟩=R (aH aW (fw y) (fw z))∧f.cell? ⟨p.b,0,O⟩=R (J U e)∧f.cell? ⟨p.b,18,O⟩=R (J U g))∧Y (aJ a a f)):=aj fun a i=>by refine(Iz y z (1-e) g a0 x1 y1 q1 a (aj d0.o.1.1) (aj d0.o.1.2) (aj w0)).mono ?_;rintro d f ⟨rfl,K⟩;have q:=v.o _ _ (i.a K);exact⟨rfl,⟨((i.a K).h (bM ..)).a 0,q.2.2.2.1,q.2.2.2.2.2⟩,aj K⟩
  have z0:wc.cell? ⟨k,0,O⟩=R (aH aW (fw y) (fw z)):=(c0.o.h (bM ..)).a 0;have m1:wc.heap.size≠k:=fun d=>by have:=bf wc _ z0;dsimp only at this;omega
  have m2:wc.heap.size≠p.b:=fun d=>by have:=bf wc _ u;dsimp only at this;omega
  have T:e=0∨e=1:=by rcases l0 with h|h;exact .inl h.1;exact .inr h.1
  have h1:U.wrap (1-e)=1-e:=by rcases T with rfl|rfl<;>rfl
  clear d0 n w0 T l0 v;go_upto_region 10 with fail;go_cut [15] (fun I Q=>I=aO q1∧Y (aJ wc wc Q));case first=>
   have P0:Y (∀a,aJ wc wc a→_):=aj fun a i=>HT.o a (c0.o.a i);clear HT n0;go_region_held3 (fun a=>a.cell? ⟨k,0,O⟩=R (aH aW (fw y) (fw z))∧a.cell? ⟨p.b,0,O⟩=R (J U e)∧a.cell? ⟨p.b,18,O⟩=R (J U g)) (go_keep) (first|(go_at_call 160;refine(P0.o _ (by first|exact(ay _ _).drew|exact(ay _ _).drew.alloc (aD _) _)).mono ?_;rintro d w3 ⟨rfl,⟨C0,dp,i1⟩,s⟩;first|(have g0:=aj (jG s.o);have L0:=g0.o.c;have z9:=g0.o.a 0)|skip));all_goals
    go_wp2_with fail;go_meet;first|exact⟨rfl,aj (Sw _ s.o rfl).a⟩|exact⟨rfl,aj (vG (ay _ _).drew s.o).a⟩
  case rest=>obtain⟨rfl,D0⟩:=hcut;have Q0:=aj (c0.o.a D0.o);clear c0 D0 HT m1 m2 x C D u E F z0;go_wp2_with fail;refine(ny q1 18 _).mono ?_;rintro d w7 ⟨rfl,rfl⟩;go_wp2_with fail;go_ret2;exact⟨by rw[n0.o];rfl,Q0.o.m⟩
end
def Sy {a e:aB} {t:bB} {cs:Array aI} (d:List aI) (f:aJ (a.drew.alloc (.cells cs t)).heap.size (a.drew.alloc (.cells cs t)) e) (g:cs.size=d.length):Di a (e.setCells a.heap.size 0 d) a.heap.size t d.toArray:=Sq d f g.symm
def Ju (w:aB) (a:Nat) (d b:aI):(w.setCell ⟨a,0,O⟩ d).setCell ⟨a,1,O⟩ b=w.setCells a 0 [d,b]:=rfl
def Sz (w:aB) (a:Nat) (d b c e f g:aI):(((((w.setCell ⟨a,0,O⟩ d).setCell ⟨a,1,O⟩ b).setCell ⟨a,2,O⟩ c).setCell ⟨a,3,O⟩ e).setCell ⟨a,4,O⟩ f).setCell ⟨a,5,O⟩ g=w.setCells a 0 [d,b,c,e,f,g]:=rfl
noncomputable def rD (c:Co) (d e:Int) (a:Sm):Bool:=(a.k==2||a.k==3)&&decide (lK (fM a.d) (fM a.e) d e>2147483647)
section
variable {w W W':aB} {c:Co} {P:Pt} {p:fq} {X:Option fq} {F:Nat→List Nat} {L:List Ow} {b:Nat} {t:bB} {cs:Array aI}
def St.D (d:St c P X F w ((b,t,cs)::L) W) (a:List aI) (e:cs.size=a.length):St c P X F w ((b,t,a.toArray)::L) (W.setCells b 0 a):=
 d.k (bg.f (F:=[b]) Y1 a 0 W) ((d.h (bM ..)).y a e.symm)
def St.r (a:St c P X F w ((b,t,cs)::L) W):bH W b t cs:=a.h (bM ..)
def St.E (a:St c P X F w L W) (t:bB) (cs:Array aI):St c P X F w ((W.heap.size,t,cs)::L) (W.drew.alloc (.cells cs t)):=a.e.i t cs
def AV {n:Nat} (F:Nat→List Nat) (j:lX w c P (R p) F) (ho:dU c n) (hk:n≤900) (s:iZ p.x) (h4:p.x.r.c=4) (hw:p.x.w=(0,0)):
  aF au 245 #[qp P.g,qp p.b] w (rC (jV c p.x) c P p F w):=by
 have G0:p.x.r.c≠ -1:=Y0;have hl:c.l.length≤1000:=by have:=ho.d;omega
 have hs:=dN s.a;have o1:=s.b G0;have p1:=(s.c hw G0).d;obtain⟨e,r0⟩:=exq p.x.r.a;obtain⟨ty,H0⟩:=exq p.x.r.c;obtain⟨fl,x0⟩:=exq p.x.r.e;obtain⟨o,hg⟩:=exq P.g;obtain⟨al,I0⟩:=exq P.c;obtain⟨ss,c0⟩:=exq p.x.f.i;obtain⟨A,l0⟩:=exq ss.length;rw[r0]at hs;obtain⟨m,K0⟩:=exq (oN (c.p e).q.e ss);obtain⟨nw,L0⟩:=exq ((c.p e).q.e);obtain⟨sn,s0⟩:=exq (qS P e);obtain⟨so,e0⟩:=exq (qS P (1-e));obtain⟨V,M0⟩:=exq (jw ss e);obtain⟨ak,N0⟩:=exq ((c.p (1-e)).q.c);obtain⟨se,P0⟩:=exq ((c.p (1-e)).q.b);obtain⟨op,Q0⟩:=exq (iU ty fl);obtain⟨z0,i6,j6,f0⟩:∃z0 i6 j6,(e=0∧z0=18∧i6=12∧j6=24)∨(e=1∧z0=6∧i6=24∧j6=12):=by
  rcases hs with j|j
  ·exact⟨18,12,24,.inl ⟨j,rfl,rfl,rfl⟩⟩
  ·exact⟨6,24,12,.inr ⟨j,rfl,rfl,rfl⟩⟩
 have u:Y (∀L W,St c P (R p) F w L W→W.cell? ⟨o,31,O⟩=R (aK (R ⟨al,0,O⟩))∧W.cell? ⟨o,i6,O⟩=R (aK (R ⟨sn,0,O⟩))∧W.cell? ⟨o,j6,O⟩=R (aK (R ⟨so,0,O⟩))∧W.cell? ⟨p.b,0,O⟩=R (J U e)∧W.cell? ⟨p.b,11,O⟩=R (Z p.d A p.e)):=aj fun L W k=>by
  have hC:=k.d;obtain⟨F',r⟩:=k.f;have r:=r.a;refine⟨by rw[←hg,←I0];exact hC.a 31,?_,?_,by rw[←r0];exact r.a 0,by rw[←l0,←c0];exact r.a 11⟩
  ·rcases f0 with⟨h1,_,v,_⟩|⟨h1,_,v,_⟩
   ·rw[v,←hg,←s0,h1];exact hC.a 12
   ·rw[v,←hg,←s0,h1];exact hC.a 24
  ·rcases f0 with⟨h1,_,_,v⟩|⟨h1,_,_,v⟩
   ·rw[v,←hg,←e0,h1];exact hC.a 24
   ·rw[v,←hg,←e0,h1];exact hC.a 12
 have S0:Y (∀L W,St c P (R p) F w L W→W.cell? ⟨p.b,0,O⟩=R (J U e)∧W.cell? ⟨p.b,1,O⟩=R (J U ty)∧W.cell? ⟨p.b,2,O⟩=R (J U fl)∧W.cell? ⟨p.b,3,O⟩=R (J U p.x.r.d)∧W.cell? ⟨p.b,4,O⟩=R (aO p.m)∧W.cell? ⟨p.b,5,O⟩=R (Z p.h p.x.r.b.length p.i)):=aj fun L W k=>by obtain⟨F',r⟩:=k.f;have r:=r.a;exact⟨by rw[←r0];exact r.a 0,by rw[←H0];exact r.a 1,by rw[←x0];exact r.a 2,r.a 3,r.a 4,r.a 5⟩
 have HO:Y (∀W,aF au 89 #[aS (qs e ty fl p.x.r.d p.m p.h p.x.r.b.length p.i)] W fun d f=>d=av op∧aJ W W f):=aj fun W=>by rw[←Q0];exact sj e ty fl _ _ _ _ _ W (by rw[←x0];omega)
 have m0:Y (∀L W,St c P (R p) F w L W→aF au 224 #[Z p.d A p.e,e] W fun d f=>d=av (aN #[CB V.1,V.2])∧(f.cell? ⟨p.b,0,O⟩=R (J U e)∧f.cell? ⟨p.b,11,O⟩=R (Z p.d A p.e))∧Y (aJ W W f)):=aj fun L W k=>by obtain⟨F',r⟩:=k.f;refine mB (zo p.d A p.e ss e W l0 (by rw[←l0,←c0];omega) (by rw[←c0];exact r.e.d)) fun f B=>?_;have s:=u.o L f (k.a B);exact⟨by rw[M0],⟨s.2.2.2.1,s.2.2.2.2⟩,aj B⟩
 have g0:Y (∀L W,St c P (R p) F w L W→aF au 193 #[aS nw,Z p.d A p.e] W fun d f=>d=av (EM m)∧(f.cell? ⟨o,i6,O⟩=R (aK (R ⟨sn,0,O⟩))∧f.cell? ⟨p.b,0,O⟩=R (J U e)∧f.cell? ⟨p.b,11,O⟩=R (Z p.d A p.e))∧Y (St c P (R p) F w L f)):=aj fun L W k=>by obtain⟨F',r⟩:=k.f;refine mB (Bu nw p.d A p.e ss W l0 (by rw[←l0,←c0];omega) (by rw[←c0];exact r.e.d)) fun f B=>?_;have s:=u.o L f (k.a B);exact⟨by rw[←K0,L0],⟨s.2.1,s.2.2.2.1,s.2.2.2.2⟩,aj (k.a B)⟩
 have HN:Y (∀L W,St c P (R p) F w L W→aF au 154 #[qp sn] W fun d f=>d=av (EM nw)∧(f.cell? ⟨o,i6,O⟩=R (aK (R ⟨sn,0,O⟩))∧f.cell? ⟨p.b,0,O⟩=R (J U e)∧f.cell? ⟨p.b,11,O⟩=R (Z p.d A p.e))∧Y (St c P (R p) F w L f)):=aj fun L W k=>by rw[←s0,←L0];refine mB (wI k ho hk e) fun f j=>?_;have s:=u.o L f j;exact⟨rfl,⟨by rw[s0];exact s.2.1,s.2.2.2.1,s.2.2.2.2⟩,aj j⟩
 have A0:Y (∀L W,St c P (R p) F w L W→aF au 152 #[qp so] W fun d f=>d=av ak∧(f.cell? ⟨o,j6,O⟩=R (aK (R ⟨so,0,O⟩)))∧Y (St c P (R p) F w L f)):=aj fun L W k=>by rw[←e0,←N0];refine mB (Gi k (1-e)) ?_;rintro f rfl;exact⟨rfl,by rw[e0];exact(u.o L _ k).2.2.1,aj k⟩
 have B0:Y (∀L W,St c P (R p) F w L W→aF au 151 #[qp so] W fun d f=>d=av se∧(f.cell? ⟨o,j6,O⟩=R (aK (R ⟨so,0,O⟩)))∧Y (St c P (R p) F w L f)):=aj fun L W k=>by rw[←e0,←P0];refine mB (Le k ho hk (1-e)) fun f j=>?_;exact⟨rfl,by rw[e0];exact(u.o L _ j).2.2.1,aj j⟩
 obtain⟨H,n0⟩:=exq c.l;obtain⟨C,hn⟩:=exq H.length;have o0:Y (∀L W,St c P (R p) F w L W→aF au 277 #[qp al] W fun d f=>∃T0 c',d=av (Z T0 C c')∧f.ownsRow W 211 17 (Z T0 C c') C (jk H)∧aJ W W f):=aj fun L W k=>by obtain⟨F',hF⟩:=k;have t0:=hF.a.d 13;rw[←I0,←n0];exact Zp (M:=c.a.b) (F:=F' 13) P.c C W (aj hl) (aj t0) (by rw[n0,hn])
 have I:Y (H.length=C∧C≤1000∧∀a∈H,lQ a):=aj ⟨hn,by rw[←hn,←n0];exact hl,by rw[←n0];exact ho.e⟩;have HZ:Y (jV c p.x=if op=false then jv (decide (ak<se)) 7 else if V.2=false then(3,6)else if H.any (rD c (1-e) m.a)then(3,8)else(1,0)):=aj (by unfold jV;rw[H0,x0,Q0,r0,N0,P0,c0,M0,K0,n0];rfl)
 have HC:=aj (St.y j);rw[hg];unfold CB at m0;unfold EM at g0 HN;clear j hl hs hk ho s G0 o1 p1 h4 hw r0 H0 x0 hg I0 c0 l0 K0 L0 s0 e0 M0 N0 P0 Q0 n0 hn;obtain⟨K,xi,xj,M,h0⟩:=u.o _ _ HC.o;go_enter func245,ntmps245;go_upto_region 1 with fail;go_cut [6] (fun u0 wx=>u0=aK (R ⟨o,z0,O⟩)∧Y (St c P (R p) F w [] wx));case first=>
  clear u S0 HO m0 g0 HN A0 B0 o0 I HZ;rcases f0 with⟨rfl,rfl,rfl,rfl⟩|⟨rfl,rfl,rfl,rfl⟩
  ·have k1:U.wrap (1-0)=1:=rfl;have q1:U.wrap 1=1:=rfl;go_quiet (fail);go_wp2;go_meet;exact⟨rfl,aj (HC.o.n nq)⟩
  ·have k1:U.wrap (1-1)=0:=rfl;have q1:U.wrap 0=0:=rfl;go_quiet (fail);go_wp2;go_meet;exact⟨rfl,aj (HC.o.n nq)⟩
 case rest=>
  obtain⟨rfl,V0⟩:=hcut;clear HC K xi xj M h0;have r1:=S0.o _ _ V0.o;go_wp2_with fail;refine mB (HO.o _) fun w2 B=>?_;have a0:=aj (V0.o.a B);clear B V0 r1 S0 HO;obtain⟨K,xi,xj,M,h0⟩:=u.o _ _ a0.o;cases op
  ·have i0:Y (jV c p.x=jv (decide (ak<se)) 7):=aj (by rw[HZ.o,aP rfl]);clear HZ u m0 g0 HN o0 I;go_upto_region 3 with fail;rcases f0 with⟨rfl,rfl,rfl,rfl⟩|⟨rfl,rfl,rfl,rfl⟩
   ·go_region_held3 (fun W=>W.cell? ⟨o,24,O⟩=R (aK (R ⟨so,0,O⟩))) (go_keep) (first|(go_at_call 152;refine(A0.o _ _ (by first|exact g.out|exact a0.o.e)).mono ?_;rintro d i ⟨rfl,dj,g⟩)|(go_at_call 151;refine(B0.o _ _ (by first|exact g.o|exact a0.out.drew)).mono ?_;rintro d i ⟨rfl,dj,g⟩)|(go_at_call 211;refine(ny _ 7 _).mono ?_;rintro d w5 ⟨rfl,rfl⟩));all_goals
     go_wp2;go_ret2;exact⟨by rw[i0.o];rfl,g.o.m⟩
   ·go_region_held3 (fun W=>W.cell? ⟨o,12,O⟩=R (aK (R ⟨so,0,O⟩))) (go_keep) (first|(go_at_call 152;refine(A0.o _ _ (by first|exact g.out|exact a0.o.e)).mono ?_;rintro d i ⟨rfl,dj,g⟩)|(go_at_call 151;refine(B0.o _ _ (by first|exact g.o|exact a0.out.drew)).mono ?_;rintro d i ⟨rfl,dj,g⟩)|(go_at_call 211;refine(ny _ 7 _).mono ?_;rintro d w5 ⟨rfl,rfl⟩));all_goals
     go_wp2;go_ret2;exact⟨by rw[i0.o];rfl,g.o.m⟩
  have i0:Y (jV c p.x=if V.2=false then(3,6)else if H.any (rD c (1-e) m.a)then(3,8)else(1,0)):=aj (by rw[HZ.o,aL Y2]);clear HZ A0 B0;have m1:w2.heap.size≠o:=fun d=>by have:=bf w2 _ K;dsimp only at this;omega
  have m2:w2.heap.size≠p.b:=fun d=>by have:=bf w2 _ M;dsimp only at this;omega
  go_upto_region 4 with fail;go_cut [8] (fun u0 wx=>u0=aO V.2∧Y (aJ w2 w2 wx));case first=>
   have s1:Y (∀W,aJ w2 w2 W→_):=aj fun W k=>m0.o [] W (a0.o.a k);clear u m0 g0 HN o0 I i0;go_region_held3 (fun W=>W.cell? ⟨p.b,0,O⟩=R (J U e)∧W.cell? ⟨p.b,11,O⟩=R (Z p.d A p.e)) (go_keep) (first|(go_at_call 224;refine(s1.o _ (by first|exact(ay _ _).drew|exact(ay _ _).drew.alloc (aD _) _)).mono ?_;rintro d w3 ⟨rfl,⟨d0,C0⟩,g⟩;first|(have W0:=aj (jG g.o);have D0:=W0.o.c;have E0:=W0.o.a 0;have z1:=W0.o.a 1)|skip));all_goals
    go_wp2;go_meet;first|(rw[Ju];exact⟨rfl,aj (Sy [J U V.1.1,J U V.1.2] g.o rfl).a⟩)|exact⟨rfl,aj (vG (ay _ _).drew g.o).a⟩
  case rest=>
   obtain⟨rfl,l1⟩:=hcut;have D:=aj (a0.o.a l1.o);clear a0 l1 m0 m1 m2 K xi xj M h0;obtain⟨K,xi,xj,M,h0⟩:=u.o _ _ D.o;obtain⟨w1,t1⟩:=V;cases t1
   ·have p0:Y (jV c p.x=(3,6)):=aj (by rw[i0.o,aP rfl]);go_wp2_with fail;refine mB (dR 6 _) ?_;rintro i rfl;go_wp2;go_ret2;exact⟨by rw[p0.o];rfl,D.o.m⟩
   have p0:Y (jV c p.x=if H.any (rD c (1-e) m.a)then(3,8)else(1,0)):=aj (by rw[i0.o,aL Y1]);clear i0;have m1:wc.heap.size≠o:=fun d=>by have:=bf wc _ K;dsimp only at this;omega
   have m2:wc.heap.size≠p.b:=fun d=>by have:=bf wc _ M;dsimp only at this;omega
   go_upto_region 7 with fail;go_cut [9] (fun u0 wx=>∃b,u0=aK (R ⟨b,0,O⟩)∧Y (St c P (R p) F w [(b,213,m)] wx));case first=>
    clear u o0 I p0;rcases f0 with⟨rfl,rfl,rfl,rfl⟩|⟨rfl,rfl,rfl,rfl⟩
    ·go_region_held3 (fun W=>W.cell? ⟨o,12,O⟩=R (aK (R ⟨sn,0,O⟩))∧W.cell? ⟨p.b,0,O⟩=R (J U 0)∧W.cell? ⟨p.b,11,O⟩=R (Z p.d A p.e)) (go_keep) (first|(go_at_call 154;refine(HN.o _ _ (by first|exact g.out|exact g.out.alloc _ _|exact D.o.e|exact D.o.E _ _)).mono ?_;rintro d i ⟨rfl,⟨dg,d0,C0⟩,g⟩;have m3:i.heap.size≠o:=fun d=>by{have:=bf i _ dg;dsimp only at this;omega};have m4:i.heap.size≠p.b:=fun d=>by{have:=bf i _ d0;dsimp only at this;omega};first|(have E:=g.o.r;have D0:=E.c;obtain⟨E0,z1,z2,z3,z4,z5⟩:=bH.j E)|skip)|(go_at_call 193;refine(g0.o _ _ (by first|exact g.o|exact g.o.i _ _|exact D.out.drew|exact D.out.dalloc _ _)).mono ?_;rintro d i ⟨rfl,⟨dg,d0,C0⟩,g⟩;have m3:i.heap.size≠o:=fun d=>by{have:=bf i _ dg;dsimp only at this;omega};have m4:i.heap.size≠p.b:=fun d=>by{have:=bf i _ d0;dsimp only at this;omega};first|(have E:=g.o.r;have D0:=E.c;obtain⟨E0,z1,z2,z3,z4,z5⟩:=bH.j E)|skip));all_goals
      go_wp2;go_meet;first|(rw[Sz];exact⟨_,rfl,aj (g.o.D [_,_,_,_,_,_] rfl)⟩)|exact⟨_,rfl,aj (g.o.i _ _)⟩
    ·go_region_held3 (fun W=>W.cell? ⟨o,24,O⟩=R (aK (R ⟨sn,0,O⟩))∧W.cell? ⟨p.b,0,O⟩=R (J U 1)∧W.cell? ⟨p.b,11,O⟩=R (Z p.d A p.e)) (go_keep) (first|(go_at_call 154;refine(HN.o _ _ (by first|exact g.out|exact g.out.alloc _ _|exact D.o.e|exact D.o.E _ _)).mono ?_;rintro d i ⟨rfl,⟨dg,d0,C0⟩,g⟩;have m3:i.heap.size≠o:=fun d=>by{have:=bf i _ dg;dsimp only at this;omega};have m4:i.heap.size≠p.b:=fun d=>by{have:=bf i _ d0;dsimp only at this;omega};first|(have E:=g.o.r;have D0:=E.c;obtain⟨E0,z1,z2,z3,z4,z5⟩:=bH.j E)|skip)|(go_at_call 193;refine(g0.o _ _ (by first|exact g.o|exact g.o.i _ _|exact D.out.drew|exact D.out.dalloc _ _)).mono ?_;rintro d i ⟨rfl,⟨dg,d0,C0⟩,g⟩;have m3:i.heap.size≠o:=fun d=>by{have:=bf i _ dg;dsimp only at this;omega};have m4:i.heap.size≠p.b:=fun d=>by{have:=bf i _ d0;dsimp only at this;omega};first|(have E:=g.o.r;have D0:=E.c;obtain⟨E0,z1,z2,z3,z4,z5⟩:=bH.j E)|skip));all_goals
      go_wp2;go_meet;first|(rw[Sz];exact⟨_,rfl,aj (g.o.D [_,_,_,_,_,_] rfl)⟩)|exact⟨_,rfl,aj (g.o.i _ _)⟩
   case rest=>
    obtain⟨bv,rfl,X0⟩:=hcut;clear D m1 m2 K xi xj M h0 HN g0;obtain⟨K,xi,xj,M,h0⟩:=u.o _ _ X0.o;go_wp2_with fail;refine(o0.o _ _ X0.o).mono ?_;rintro d w5 ⟨T0,c',rfl,n1,B⟩;have j0:=aj (X0.o.a B);have a1:=aj n1;clear B n1 o0 K xi xj M h0;have x1:=(fH a1.o).2;go_wp2_with fail;have hs:e=0∨e=1:=by rcases f0 with j|j;exact .inl j.1;exact .inr j.1
    have k1:U.wrap (1-e)=1-e:=by rcases hs with rfl|rfl<;>rfl
    clear hs f0;have u1:=aj I.o.2.1;go_loopw [86] (fun ii wr=>∃n:Nat,ii=J U (n:Nat)∧n≤C∧Y (aJ w5 w5 wr)∧Y (∀x a,x<n→H[x]?=R a→rD c (1-e) m.a a=false)) (fun ii _=>C- (intOf ii).toNat);case atStart=>exact⟨0,rfl,aZ _,aj (ay _ _),aj (fun x a j=>absurd j (Nat.not_lt_zero _))⟩
    case round=>
     obtain⟨n,rfl,hk,HW,HA⟩:=hrel;have y1:=u1.o;by_cases A1:n<C
     ·have B1:(n:Int)<(C:Int):=Y0;obtain⟨a,hm⟩:∃a,H[n]?=R a:=⟨_,aQ (by have:=I.o.1;omega)⟩;have b1:=I.o.2.2 a (bP hm);have c1:=lF b1.x;have d1:=lF b1.y;obtain⟨N,t0⟩:=exq (lK (fM a.d) (fM a.e) (1-e) m.a);have q0:Y (rD c (1-e) m.a a=((a.k==2||a.k==3)&&decide (N>2147483647))):=aj (by unfold rD;rw[t0]);have HR:Y (∀W,aF au 143 #[aS #[aH aW a.d a.e],J U (1-e),m.a] W fun d f=>d=av N∧aJ W W f):=aj fun W=>by have:=uS (fM a.d) (fM a.e) (1-e) m.a N W (aj c1.1) (aj d1.1) (aj t0);rw[c1.2,d1.2]at this;exact this
      have k0:Y (rD c (1-e) m.a a=true→jV c p.x=(3,8)):=aj fun j=>by rw[p0.o,aP (List.any_eq_true.2 ⟨a,bP hm,j⟩)]
      have b0:Y (rD c (1-e) m.a a=false→∀x a,x<n+1→H[x]?=R a→rD c (1-e) m.a a=false):=aj fun j x m' hj e1=>by
       rcases Nat.lt_succ_iff_lt_or_eq.1 hj with hj|rfl
       ·exact HA.o x m' hj e1
       ·rw[hm]at e1;injection e1 with d;rw[←d];exact j
      obtain⟨F0,c2,f1⟩:=eu a1.o Y0;injection f1 with f1 e2 e3;subst f1 e3;have g1:Y (∀x G,(eU a)[x]?=R G→wr.cell? ⟨F0,n*17+x,O⟩=R G):=aj fun x G hv=>dG (dF a1.o HW.o) ((mU mK hm x (aU.1 hv).1).trans hv);clear hm b1 c1 d1 t0 p0 I;have C1:=ku;obtain⟨G,hv⟩:=exq wr.heap.size;obtain⟨y,v0⟩:=exq (wr.alloc (.cells a 211));have q:Y (aJ w5 w5 y):=aj (by rw[←v0];exact HW.o.alloc HW.o.size _);have HC:Y (bH y G 211 a):=aj (by rw[←v0,←hv];exact bH.d wr 211 _);have D1:=HC.o.H 1;have v1:(a.k=2)∨((a.k==2)=false∧a.k=3)∨((a.k==2)=false∧(a.k==3)=false):=by
       by_cases v:a.k=2
       ·exact .inl v
       ·by_cases h3:a.k=3
        ·exact .inr (.inl ⟨aM.2 v,h3⟩)
        ·exact .inr (.inr ⟨aM.2 v,aM.2 h3⟩)
      rcases v1 with v|⟨b2,h3⟩|⟨b2,b3⟩
      ·have Q:Y (rD c (1-e) m.a a=decide (N>2147483647)):=aj (by rw[q0.o];simp[v]);have b2:(a.k==2)=true:=by rw[dX];exact v
       clear v;clear q0;go_wp2_with (first|refine fV rfl 211 (.tmp 88) rfl F0 (n*17) Y4 (eU a) g1.o underlying211 rfl dW a rfl ?_ |refine dO rfl 211 (.tmp 11) (.tmp 89) rfl _ a G hv Y4 Y4 dW rfl (all_oneCell_toArray (iP a)) ?_;rw[v0]);have y6:∀h:Gw y,h.W.cell? ⟨G,6,O⟩=R (aH aW a.d a.e):=fun h=>(HC.o.b h.h).a 6;have y0:∀h:Gw y,h.W.cell? ⟨p.b,0,O⟩=R (J U e):=fun h=>(u.o _ _ (j0.o.a (q.o.trans (h.h.mono q.o.size)))).2.2.2.1;have y3:∀h:Gw y,h.W.cell? ⟨bv,3,O⟩=R (J U m.a):=fun h=>((j0.o.a (q.o.trans (h.h.mono q.o.size))).r).a 3;have S:Y (∀h:Gw y,aF au 143 #[aS #[aH aW a.d a.e],J U (1-e),m.a] h.W fun d f=>d=av N∧∃u':Gw y,f=u'.W):=aj fun h=>Calls.gw (HR.o _);by_cases i1:N>2147483647
       ·have j1:Y (jV c p.x=(3,8)):=aj (k0.o (by rw[Q.o];simp[i1]));clear Q k0 b0;refine dJ Y3 Y3 ?_;repeat(refine WQ.d (fun z l=>?_);go_simp;first|(refine l _ ?_;clear l z)|(apply Exists.intro;refine⟨fun _=>?_,l _ ?_⟩;(go_at_call 143;exact S.o _);clear l z))
        refine WQ.b ?_;rintro _ ⟨u3,rfl⟩;have T:=aj (q.o.trans (u3.h.mono q.o.size));clear y6 y0 y3 S;go_wp2_with fail;refine mB (dR 8 _) ?_;rintro i rfl;go_wp2_with fail;go_ret2;exact⟨by rw[j1.o];rfl,(j0.o.a T.o).m⟩
       ·have w0:=aj (b0.o (by rw[Q.o];simp;omega));clear Q k0 b0;refine dJ Y3 Y3 ?_;repeat(refine WQ.d (fun z l=>?_);go_simp;first|(refine l _ ?_;clear l z)|(apply Exists.intro;refine⟨fun _=>?_,l _ ?_⟩;(go_at_call 143;exact S.o _);clear l z))
        refine WQ.b ?_;rintro _ ⟨u3,rfl⟩;have T:=aj (q.o.trans (u3.h.mono q.o.size));clear y6 y0 y3 S;go_wp2_with fail;go_roundw;case rel=>exact⟨n+1,by go_num,Y0,T,w0⟩
        case measure=>simp[intOf];omega
      ·have Q:Y (rD c (1-e) m.a a=decide (N>2147483647)):=aj (by rw[q0.o];simp[h3]);have b3:(a.k==3)=true:=by rw[dX];exact h3
       clear h3;clear q0;go_wp2_with (first|refine fV rfl 211 (.tmp 88) rfl F0 (n*17) Y4 (eU a) g1.o underlying211 rfl dW a rfl ?_ |refine dO rfl 211 (.tmp 11) (.tmp 89) rfl _ a G hv Y4 Y4 dW rfl (all_oneCell_toArray (iP a)) ?_;rw[v0]);have y6:∀h:Gw y,h.W.cell? ⟨G,6,O⟩=R (aH aW a.d a.e):=fun h=>(HC.o.b h.h).a 6;have y0:∀h:Gw y,h.W.cell? ⟨p.b,0,O⟩=R (J U e):=fun h=>(u.o _ _ (j0.o.a (q.o.trans (h.h.mono q.o.size)))).2.2.2.1;have y3:∀h:Gw y,h.W.cell? ⟨bv,3,O⟩=R (J U m.a):=fun h=>((j0.o.a (q.o.trans (h.h.mono q.o.size))).r).a 3;have S:Y (∀h:Gw y,aF au 143 #[aS #[aH aW a.d a.e],J U (1-e),m.a] h.W fun d f=>d=av N∧∃u':Gw y,f=u'.W):=aj fun h=>Calls.gw (HR.o _);by_cases i1:N>2147483647
       ·have j1:Y (jV c p.x=(3,8)):=aj (k0.o (by rw[Q.o];simp[i1]));clear Q k0 b0;refine dJ Y3 Y3 ?_;repeat(refine WQ.d (fun z l=>?_);go_simp;first|(refine l _ ?_;clear l z)|(apply Exists.intro;refine⟨fun _=>?_,l _ ?_⟩;(go_at_call 143;exact S.o _);clear l z))
        refine WQ.b ?_;rintro _ ⟨u3,rfl⟩;have T:=aj (q.o.trans (u3.h.mono q.o.size));clear y6 y0 y3 S;go_wp2_with fail;refine mB (dR 8 _) ?_;rintro i rfl;go_wp2_with fail;go_ret2;exact⟨by rw[j1.o];rfl,(j0.o.a T.o).m⟩
       ·have w0:=aj (b0.o (by rw[Q.o];simp;omega));clear Q k0 b0;refine dJ Y3 Y3 ?_;repeat(refine WQ.d (fun z l=>?_);go_simp;first|(refine l _ ?_;clear l z)|(apply Exists.intro;refine⟨fun _=>?_,l _ ?_⟩;(go_at_call 143;exact S.o _);clear l z))
        refine WQ.b ?_;rintro _ ⟨u3,rfl⟩;have T:=aj (q.o.trans (u3.h.mono q.o.size));clear y6 y0 y3 S;go_wp2;go_roundw;case rel=>exact⟨n+1,by go_num,Y0,T,w0⟩
        case measure=>simp[intOf];omega
      ·have w0:=aj (b0.o (by rw[q0.o,b2,b3];rfl));clear q0 k0 b0 HR;go_wp2_with (first|refine fV rfl 211 (.tmp 88) rfl F0 (n*17) Y4 (eU a) g1.o underlying211 rfl dW a rfl ?_ |refine dO rfl 211 (.tmp 11) (.tmp 89) rfl _ a G hv Y4 Y4 dW rfl (all_oneCell_toArray (iP a)) ?_;rw[v0]);refine dJ Y3 Y3 ?_;repeat(refine WQ.d (fun z l=>?_);go_simp;refine l _ ?_;clear l z)
       refine WQ.b ?_;rintro _ ⟨u3,rfl⟩;have T:=aj (q.o.trans (u3.h.mono q.o.size));go_wp2;go_roundw;case rel=>exact⟨n+1,by go_num,Y0,T,w0⟩
       case measure=>simp[intOf];omega
     ·have HE:Y (jV c p.x=(1,0)):=aj (by rw[p0.o,aL (fun j=>?_)];obtain⟨a,hm,hf⟩:=List.any_eq_true.1 j;obtain⟨x,hj⟩:=List.mem_iff_getElem?.1 hm;have:=HA.o x a (by have:=(aU.1 hj).1;have:=I.o.1;omega) hj;rw[this]at hf;cases hf)
      go_wp2;go_ret2;exact⟨by rw[HE.o];rfl,(j0.o.a HW.o).m⟩
end
end Go.Proofs.YtdcacpeaimjdlaaGreatDoor
