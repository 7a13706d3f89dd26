/- Part of the proof. -/
import Derived.Test.YtdcacpeaimjdlaaGreatDoorPag
import Derived.DeepKeys4
import Derived.Laws.ComplexArith
import Derived.Laws.FloatArith
namespace Go.Proofs.YtdcacpeaimjdlaaGreatDoor
open Go.RowKit Go.Maps Go.Proofs.Tryz Mq MFr
open Go.Value renaming int→J,slice→Z,string→aA,pointer→aK,bool→aO,tuple→aN,agg→aS,complex→aH
open Go.IntKind renaming i64→U
open Option renaming none→O,some→R
open Go.Ending renaming returned→av
open Go renaming World→aB,Value→aI,Calls→aF,Addr→aX,TypeId→bB,undef→bq
open Go.RowKit renaming Below→aJ
open Go.Proofs.Tryz renaming prog→au
open Go.FloatKind renaming f64→aW
set_option maxRecDepth 20000
set_option maxHeartbeats 0
set_option linter.all false
def Cx (a:Nat):Nat:=if a=0 then 0 else(a.log2+1022)*4503599627370496+a*2^(52-a.log2)
def wd (a:Bool) (b:Nat):Nat:=Ieee.double.word a (Cx b)
def Ku (a:Nat):Nat:=if a=0 then 1074 else 52-a.log2
def Cy {a:Nat} (b:a≠0) (c:a<2^53):a.log2≤52:=by have:=(Nat.log2_lt b).2 c;omega
def Zq {a:Nat} (b:a≠0) (c:a<2^53):4503599627370496≤a*2^(52-a.log2)∧a*2^(52-a.log2)<9007199254740992:=by
 have d:=Cy b c;have c:=Nat.log2_self_le b;have b:=(@Nat.lt_log2_self a);constructor
 ·calc 4503599627370496=2^52:=rfl
   _=2^a.log2*2^(52-a.log2):=by rw[←Nat.pow_add];congr 1;omega
   _≤_:=Nat.mul_le_mul_right _ c
 ·calc a*2^(52-a.log2)<2^(a.log2+1)*2^(52-a.log2):=Nat.mul_lt_mul_of_pos_right b (Nat.two_pow_pos _)
   _=2^53:=by rw[←Nat.pow_add];congr 1;omega
   _=9007199254740992:=rfl
def Qp (neg:Bool) (a:Nat):Ieee.Toward.even.cut neg a 0=a:=by simp[Ieee.Toward.cut,Nat.mod_one]
def Br (c:Ieee.Toward) (neg:Bool) (b a:Nat) (d:b≠0):c.cut neg (b*2^a) a=b:=by
 have e:a≤(b*2^a).log2:=by rw[Nat.le_log2 (by have:=Nat.two_pow_pos a;exact Nat.mul_ne_zero d Y0)];exact Nat.le_mul_of_pos_left _ Y0
 have d:min a ((b*2^a).log2+2)=a:=Y0;unfold Ieee.Toward.cut;rw[d,Nat.one_shiftLeft];dsimp only;rw[Nat.mul_div_cancel _ (Nat.two_pow_pos a),Nat.mul_mod_left];have:=Nat.two_pow_pos a;cases c<;>simp<;>omega
def ML {b:Nat} (c:b≠0) (a:Nat):(b*2^a).log2=b.log2+a:=by
 induction a with
 |zero=>simp
 |succ a d=>have:b*2^a≠0:=Nat.mul_ne_zero c (by have:=Nat.two_pow_pos a;omega);rw[Nat.pow_succ,←Nat.mul_assoc,Nat.mul_comm _ 2,Nat.log2_two_mul this,d];omega
def sW (neg:Bool) (a b:Nat) (d:a<2^53):Ieee.double.nearest neg (a*2^b) (-(b:Int))=wd neg a:=by
 by_cases c:a=0
 ·subst c;simp[Ieee.Format.nearest,wd,Cx]
 ·have j:=Cy c d;have k:=Zq c d;have f:a*2^b≠0:=Nat.mul_ne_zero c (by have:=Nat.two_pow_pos b;omega);have g:=ML c b;have d:Ieee.double.leastPlace= -1074:=Y2;have e:Ieee.double.fractionBits=52:=rfl;have h:Ieee.double.binade=4503599627370496:=rfl;have i:Ieee.double.infRung=9218868437227405312:=rfl;unfold Ieee.Format.nearest;rw[aL f];simp only[g,d,e,h,i];have h:max (-(b:Int)+((a.log2+b:Nat):Int)- ((52:Nat):Int)) (-1074)=(a.log2:Int)-52:=Y0;rw[h];have i:Ieee.Toward.even.cut neg ((a*2^b)<<<(-(b:Int)- ((a.log2:Int)-52)).toNat) ((a.log2:Int)-52- -(b:Int)).toNat=a*2^(52-a.log2):=by
   by_cases d:a.log2+b≤52
   ·have d:(-(b:Int)- ((a.log2:Int)-52)).toNat=52-a.log2-b:=Y0;have e:((a.log2:Int)-52- -(b:Int)).toNat=0:=Y0;rw[d,e,Qp,Nat.shiftLeft_eq,Nat.mul_assoc,←Nat.pow_add];congr 2;omega
   ·have d:(-(b:Int)- ((a.log2:Int)-52)).toNat=0:=Y0;have e:((a.log2:Int)-52- -(b:Int)).toNat=a.log2+b-52:=Y0;rw[d,e,Nat.shiftLeft_zero];have:a*2^b=a*2^(52-a.log2)*2^(a.log2+b-52):=by rw[Nat.mul_assoc,←Nat.pow_add];congr 2;omega
    rw[this];exact Br _ _ _ _ Y0
  rw[i];have b:((a.log2:Int)-52- -1074).toNat=a.log2+1022:=Y0;rw[b,wd,Cx,aL c,Nat.min_eq_left];obtain⟨d,c⟩:=exq (a*2^(52-a.log2));obtain⟨e,d⟩:=exq a.log2;rw[c]at k⊢;rw[d]at j⊢;clear i h b g f;omega
def VH {a:Nat} (b:a<2^53):Cx a<4850376798678024192:=by
 unfold Cx;split
 ·omega
 ·rename_i a;have c:=Cy a b;have c:=Zq a b;omega
def uR (b:Bool) (a:Nat) (d:a<2^53):Ieee.double.read (wd b a)=.number b (a*2^Ku a) (-(Ku a:Int)):=by
 have c:=VH d;have c:Ieee.double.signWeight=9223372036854775808:=rfl;have e:Ieee.double.binade=4503599627370496:=rfl;have f:Ieee.double.infRung=9218868437227405312:=rfl;have g:Ieee.double.leastPlace= -1074:=Y2;have h:((wd b a)/Ieee.double.signWeight%2==1)=b:=by
  rw[c];unfold wd Ieee.Format.word;rw[c];cases b
  ·simp only[Bool.false_eq_true,if_false];rw[Nat.div_eq_of_lt Y0];rfl
  ·simp only[if_true];rw[Nat.add_div_left _ Y0,Nat.div_eq_of_lt Y0];rfl
 have i:(wd b a)%Ieee.double.signWeight=Cx a:=by
  rw[c];unfold wd Ieee.Format.word;rw[c];cases b
  ·simp only[Bool.false_eq_true,if_false];exact Nat.mod_eq_of_lt Y0
  ·simp only[if_true];rw[Nat.add_mod_left];exact Nat.mod_eq_of_lt Y0
 unfold Ieee.Format.read;simp only[h,i,e,f,g];by_cases b:a=0
 ·subst b;have c:Cx 0=0:=rfl;have e:Ku 0=1074:=rfl;rw[c,aP Y2,Nat.zero_mul,e];rfl
 ·have c:=Cy b d;have c:=Zq b d;have c:Cx a=(a.log2+1022)*4503599627370496+a*2^(52-a.log2):=by rw[Cx,aL b]
  rw[c,aL Y0,aP Y0];obtain⟨c,d⟩:∃c,a*2^(52-a.log2)=4503599627370496+c:=⟨a*2^(52-a.log2)-4503599627370496,Y0⟩;have e:Ku a=52-a.log2:=by rw[Ku,aL b]
  rw[e,d];have b:((a.log2+1022)*4503599627370496+(4503599627370496+c))%4503599627370496=c:=Y0;have d:((a.log2+1022)*4503599627370496+(4503599627370496+c))/4503599627370496=a.log2+1023:=Y0;have c:(-1074:Int)+((a.log2+1023-1:Nat):Int)= -((52-a.log2:Nat):Int):=Y0;rw[b,d,c]
def sg (b:Bool) (a:Nat):Int:=if b then-(a:Int)else a
def rQ (a:Bool) (b c d:Nat):Ieee.signed a (b*2^c) d=sg a b*((2^(c+d):Nat):Int):=by
 unfold Ieee.signed sg;rw[Nat.shiftLeft_eq,Nat.mul_assoc,←Nat.pow_add];cases a
 ·simp
 ·simp[Int.neg_mul]
def Zr (d e:Bool) (b c:Nat) (a:b<2^53) (f:c<2^53) (h:(sg d b+sg e c).natAbs<2^53):
  Ieee.double.add (wd d b) (wd e c)=R (wd (if sg d b+sg e c=0 then d&&e else decide (sg d b+sg e c<0)) (sg d b+sg e c).natAbs):=by
 unfold Ieee.Format.add;rw[uR d b a,uR e c f];obtain⟨f,a⟩:=exq (Ku b);obtain⟨g,i⟩:=exq (Ku c);rw[a,i];simp only[Ieee.Datum.sum,Option.map_some];obtain⟨a,i⟩:=exq (max f g);have i:min (-(f:Int)) (-(g:Int))= -(a:Int):=Y0;rw[i,rQ,rQ,show f+(-(f:Int)- -(a:Int)).toNat=a from Y0,show g+(-(g:Int)- -(a:Int)).toNat=a from Y0,←Int.add_mul];obtain⟨f,g⟩:=exq (sg d b+sg e c);rw[g]at h⊢;have b:=Nat.two_pow_pos a;have c:(0:Int)<((2^a:Nat):Int):=Y0;have d:(f*((2^a:Nat):Int)=0)=(f=0):=by
  rw[Int.mul_eq_zero];simp only[eq_iff_iff];constructor
  ·rintro(b|b)
   ·exact b
   ·omega
  ·exact Or.inl
 have e:(f*((2^a:Nat):Int)<0)=(f<0):=by
  simp only[eq_iff_iff];constructor
  ·intro b;apply Int.lt_of_not_ge;intro a;have:=Int.mul_nonneg a (Int.le_of_lt c);omega
  ·intro b;exact Int.mul_neg_of_neg_of_pos b c
 simp only[d,e,Int.natAbs_mul,Int.natAbs_natCast];show R (Ieee.double.nearest _ _ _)=_
 rw[sW _ _ _ h]
def qP (d e:Bool) (b c:Nat) (a:b<2^53) (f:c<2^53):Ieee.double.order (wd d b) (wd e c)=R (compare (sg d b) (sg e c)):=by
 unfold Ieee.Format.order;rw[uR d b a,uR e c f];obtain⟨f,a⟩:=exq (Ku b);obtain⟨g,h⟩:=exq (Ku c);rw[a,h];simp only[Ieee.Datum.order];obtain⟨a,h⟩:=exq (max f g);have h:min (-(f:Int)) (-(g:Int))= -(a:Int):=Y0;rw[h,rQ,rQ,show f+(-(f:Int)- -(a:Int)).toNat=a from Y0,show g+(-(g:Int)- -(a:Int)).toNat=a from Y0];have f:=Nat.two_pow_pos a;have g:(0:Int)<((2^a:Nat):Int):=Y0;obtain⟨h,i⟩:=exq (sg d b);obtain⟨b,d⟩:=exq (sg e c);obtain⟨c,f⟩:=exq (((2^a:Nat):Int));rw[i,d,f];rw[f]at g;congr 1;rcases Int.lt_trichotomy h b with a|a|a
 ·rw[Int.compare_eq_lt.2 a,Int.compare_eq_lt.2 (Int.mul_lt_mul_of_pos_right a g)]
 ·subst a;rw[Int.compare_eq_eq.2 rfl,Int.compare_eq_eq.2 rfl]
 ·rw[Int.compare_eq_gt.2 a,Int.compare_eq_gt.2 (Int.mul_lt_mul_of_pos_right a g)]
def Qq (b:Bool) (a:Nat) (c:a<2^53):(Ieee.double.read (wd b a)).toInt .zero=R (sg b a):=by
 rw[uR b a c];unfold Ieee.Datum.toInt Ieee.Datum.integral;simp only[show(-(Ku a:Int)).toNat=0 from Y0,show(- -(Ku a:Int)).toNat=Ku a from Y0,Nat.shiftLeft_zero];have:Ieee.Toward.zero.cut b (a*2^Ku a) (Ku a)=a:=by
  by_cases b:a=0
  ·subst b;simp[Ieee.Toward.cut]
  ·exact Br _ _ _ _ b
 rw[this];unfold Ieee.signed sg;simp
def Kv:(14064741636278059008:Nat)=wd true 4503599627370496:=by decide+kernel
def Kw:(4841369599423283200:Nat)=wd false 4503599627370496:=by decide+kernel
def yZ (b:Bool) (a:Nat): -(a:Int)≤sg b a∧sg b a≤a:=by unfold sg;split<;>omega
def fw (a:Int):Nat:=wd (decide (a<0)) a.natAbs
def Qr (a:Int) (b:a.natAbs<2^53):floatOfInt aW a=fw a:=by have:=sW (decide (a<0)) a.natAbs 0 b;simpa[floatOfInt,fw,FloatKind.nearest,FloatKind.encode,FloatKind.format,Ieee.Format.write]using this
def wZ (a:Int):sg (decide (a<0)) a.natAbs=a:=by unfold sg;by_cases b:a<0<;>simp[b]<;>omega
def Qs (b:Bool) (a:Nat) (c:a≤4503599627370496):aW.format.order (wd b a) 14064741636278059008=R .gt∨aW.format.order (wd b a) 14064741636278059008=R .eq:=by
 rw[Kv,show aW.format=Ieee.double from rfl,qP b true a _ Y0 Y2];have d:=yZ b a;rcases Int.lt_trichotomy (sg b a) (sg true 4503599627370496)with c|c|c
 ·simp[sg]at c;simp[sg]at d;omega
 ·right;rw[Int.compare_eq_eq.2 c]
 ·left;rw[Int.compare_eq_gt.2 c]
def Qt (b:Bool) (a:Nat) (c:a≤4503599627370496):aW.format.order (wd b a) 4841369599423283200=R .lt∨aW.format.order (wd b a) 4841369599423283200=R .eq:=by
 rw[Kw,show aW.format=Ieee.double from rfl,qP b false a _ Y0 Y2];have d:=yZ b a;rcases Int.lt_trichotomy (sg b a) (sg false 4503599627370496)with c|c|c
 ·left;rw[Int.compare_eq_lt.2 c]
 ·right;rw[Int.compare_eq_eq.2 c]
 ·simp[sg]at c;simp[sg]at d;omega
def Iq (b c:Bool) (a:Nat) (d:a<2^53) (e:sg b a=sg c a):aW.format.order (wd b a) (wd c a)=R .eq:=by rw[show aW.format=Ieee.double from rfl,qP b c a a d d,e,Int.compare_eq_eq.2 rfl]
def Ky (b:Bool) (a:Nat) (d:a<2^53) (c:aB):(convert 339 3 (.float aW (wd b a))).run au c=.ok (J U (sg b a)) c:=by
 refine run_convert_float_int (P:=au) c 339 3 aW U _ _ (by rw[underlying339];rfl) underlying3 ?_;unfold floatToIntVal;rw[show aW.decode (wd b a)=Ieee.double.read (wd b a)from rfl,Qq b a d];have c:=yZ b a;simp only[IntKind.min,IntKind.max,IntKind.signed,IntKind.bits];rw[aP];constructor
 ·simp;omega
 ·simp;omega
def ze (a:Int) (b:aB) (f: -4503599627370496≤a) (g:a≤4503599627370496):aF au 264 #[.float aW (fw a)] b fun c d=>c=av true∧b=d:=by
 have d:a.natAbs≤4503599627370496:=Y0;have c:a.natAbs<2^53:=Y0;have e:∀b,(convert 339 3 (.float aW (fw a))).run au b=.ok (J U a) b:=fun b=>by have:=Ky (decide (a<0)) a.natAbs c b;rw[wZ]at this;exact this
 have b:=Qr a c;have b:aW.format.order (fw a) (fw a)=R .eq:=Iq _ _ _ c rfl;have b:aW.format.order (fw a) 14064741636278059008=R .gt∨aW.format.order (fw a) 14064741636278059008=R .eq:=Qs _ _ d;have e:aW.format.order (fw a) 4841369599423283200=R .lt∨aW.format.order (fw a) 4841369599423283200=R .eq:=Qt _ _ d;clear d c f g;rcases b with b|b<;>rcases e with e|e
 all_goals
  go_enter func264,ntmps264;go_wp2;go_ret;exact Y5
def Zt (a:Nat):Prop:=aW.format.order a 14064741636278059008=R .lt∨aW.format.order a 14064741636278059008=R .gt∧aW.format.order a 4841369599423283200=R .gt
def EC (b:Nat) (c:aB) (a:Zt b):aF au 264 #[.float aW b] c fun b d=>b=av false∧c=d:=by
 rcases a with a|⟨a,b⟩
 all_goals
  go_enter func264,ntmps264;go_wp2;go_ret;exact Y5
def Zu (a:Int) (e:a.natAbs<2^53) (b:a< -4503599627370496∨4503599627370496<a):Zt (fw a):=by
 have c:=qP (decide (a<0)) true a.natAbs 4503599627370496 e Y2;have d:=qP (decide (a<0)) false a.natAbs 4503599627370496 e Y2;rw[←Kv,wZ,show sg true 4503599627370496= -4503599627370496 from rfl]at c;rw[←Kw,wZ,show sg false 4503599627370496=4503599627370496 from rfl]at d;rcases b with b|b
 ·left;rw[Int.compare_eq_lt.2 b]at c;exact c
 ·right;rw[Int.compare_eq_gt.2 Y0]at c;rw[Int.compare_eq_gt.2 b]at d;exact⟨c,d⟩
def vW (a b:Int) (d:aB) (e: -4503599627370496≤a) (f:a≤4503599627370496) (g: -4503599627370496≤b) (h:b≤4503599627370496):aF au 225 #[aH aW (fw a) (fw b)] d fun c i=>c=av true∧d=i:=by have d:=aj (And.intro e f);have i:=aj (And.intro g h);clear e f g h;go_enter func225,ntmps225;go_wp2_with fail;refine mB (ze a _ d.o.1 d.o.2) ?_;rintro a rfl;go_wp2_with fail;refine mB (ze b _ i.o.1 i.o.2) ?_;rintro a rfl;go_wp2;go_ret;exact Y5
def MN (a d:Nat) (b:aB) (c:Zt a):aF au 225 #[aH aW a d] b fun d e=>d=av false∧b=e:=by have b:=aj c;clear c;go_enter func225,ntmps225;go_wp2_with fail;refine mB (EC a _ b.o) ?_;rintro a rfl;go_wp2;go_ret;exact Y5
def MO (a:Int) (b:Nat) (d:aB) (e: -4503599627370496≤a) (f:a≤4503599627370496) (g:Zt b):aF au 225 #[aH aW (fw a) b] d fun c h=>c=av false∧d=h:=by have h:=aj g;have d:=aj (And.intro e f);clear g e f;go_enter func225,ntmps225;go_wp2_with fail;refine mB (ze a _ d.o.1 d.o.2) ?_;rintro a rfl;go_wp2_with fail;refine mB (EC b _ h.o) ?_;rintro a rfl;go_wp2;go_ret;exact Y5
def Am (a:Int):Prop:= -4503599627370496≤a∧a≤4503599627370496
instance (n:Int):Decidable (Am n):=inferInstanceAs (Decidable (_∧_))
def mH (a:Int) (b:aB) (c:Am a):aF au 226 #[a] b fun a d=>a=av true∧b=d:=by obtain⟨a,b⟩:=c;go_enter func226,ntmps226;go_wp2;go_ret;exact Y5
def xg (a:Int) (b:aB) (c:¬Am a):aF au 226 #[a] b fun d e=>d=av false∧b=e:=by
 have b:a< -4503599627370496∨4503599627370496<a:=by unfold Am at c;omega
 clear c;rcases b with b|b
 all_goals
  go_enter func226,ntmps226;go_wp2;go_ret;exact⟨fB (by first|(simp;done)|(simp;omega)),rfl⟩
def Kz (a b:Int) (c:aB) (d:Y (b.natAbs<2^53)):aF au 227 #[a,b] c fun e f=>e=av (aH aW (if a=0 then fw b else 0) (if a=0 then 0 else fw b))∧c=f:=by
 have c:=Qr b d.o;by_cases b:a=0
 ·subst b;go_enter func227,ntmps227;go_wp2;go_ret;exact Y5
 ·have c:(a==0)=false:=Y6 b;go_enter func227,ntmps227;go_wp2;go_ret;exact Y5
def zcu (c d:Nat) (a:Int) (b:aB) (e:¬a=0) (f:¬a=1):aF au 189 #[aH aW c d,a] b fun c d=>c=av (aN #[J U 0,J U 1])∧b=d:=by have b:(a !=0)=true:=Y6 e;have b:(a !=1)=true:=Y6 f;go_enter func189,ntmps189;go_wp2;go_ret2;exact Y5
def KD (a:Int) (c:Am a) (b:aB):(convert 339 3 (.float aW (fw a))).run au b=.ok (J U a) b:=by have:=Ky (decide (a<0)) a.natAbs (by unfold Am at c;omega) b;rw[wZ]at this;exact this
def nI (b c:Int) (d:Int) (a:aB) (e:Am b) (f:Am c) (h:d=0∨d=1):aF au 189 #[aH aW (fw b) (fw c),d] a fun g i=>g=av (aN #[J U (if d=0 then b else c),J U 0])∧a=i:=by
 have d:=fun a=>KD b e a;have d:=fun a=>KD c f a;have a:=aj e;have d:=aj f;clear e f;rcases h with rfl|rfl
 all_goals
  go_enter func189,ntmps189;go_wp2_with fail;refine mB (vW b c _ a.o.1 a.o.2 d.o.1 d.o.2) ?_;rintro e rfl;go_wp2;go_ret2;exact Y5
def gy:fw 0=0:=by decide+kernel
def zh (a b:Int) (c:a.natAbs<2^53) (d:b.natAbs<2^53) (e:(a+b).natAbs<2^53):floatBits .add aW (fw a) (fw b)=R (fw (a+b)):=by
 have:=Zr (decide (a<0)) (decide (b<0)) a.natAbs b.natAbs c d (by rw[wZ,wZ];exact e);rw[wZ,wZ]at this;show Ieee.double.add _ _=_
 rw[show fw a=wd (decide (a<0)) a.natAbs from rfl,show fw b=wd (decide (b<0)) b.natAbs from rfl,this];congr 1;unfold fw;congr 1;split
 ·rename_i c;by_cases d:a<0<;>by_cases e:b<0<;>simp[d,e,c];omega
 ·rfl
def KE (a b:Int) (d:Am a) (e:Am b) (f:¬Am (a+b)):∃c,floatBits .add aW (fw a) (fw b)=R c∧Zt c:=by
 unfold Am at d e f;by_cases c:(a+b).natAbs<2^53
 ·exact⟨fw (a+b),zh a b Y0 Y0 c,Zu _ c Y0⟩
 ·have c:a=4503599627370496∧b=4503599627370496∨a= -4503599627370496∧b= -4503599627370496:=Y0;rcases c with⟨rfl,rfl⟩|⟨rfl,rfl⟩
  ·exact⟨4845873199050653696,by decide+kernel,by unfold Zt;decide+kernel⟩
  ·exact⟨14069245235905429504,by decide+kernel,by unfold Zt;decide+kernel⟩
def Qv (a:Int) (b:aB) (c:Y (a.natAbs<2^53)):aF au 227 #[J U 0,a] b fun d e=>d=av (aH aW (fw a) 0)∧b=e:=Kz 0 a b c
def Qw (a:Int) (b:aB) (c:Y (a.natAbs<2^53)):aF au 227 #[J U 1,a] b fun d e=>d=av (aH aW 0 (fw a))∧b=e:=Kz 1 a b c
def kF {a:Int} (b:Am a):a.natAbs<2^53:=by unfold Am at b;omega
def zaG (a b c d e f:Int) (h:Am a) (i:Am b) (j:Am c) (k:Am d) (l:a+c=e) (m:b+d=f) (n:Am e) (o:Am f) (g:aB):
  (binOp .add 123 (aH aW (fw a) (fw b)) (aH aW (fw c) (fw d))).run au g=.ok (aH aW (fw e) (fw f)) g:=by subst l m;refine run_complex_sum (P:=au) g .add (.inl rfl) 123 aW _ _ _ _ _ _ ?_;unfold cSumBits;rw[zh a c (kF h) (kF j) (kF n),zh b d (kF i) (kF k) (kF o)];rfl
def ED (b c d e:Int) (f g:Nat) (h:floatBits .add aW (fw b) (fw d)=R f) (i:floatBits .add aW (fw c) (fw e)=R g) (a:aB):
  (binOp .add 123 (aH aW (fw b) (fw c)) (aH aW (fw d) (fw e))).run au a=.ok (aH aW f g) a:=by refine run_complex_sum (P:=au) a .add (.inl rfl) 123 aW _ _ _ _ _ _ ?_;unfold cSumBits;rw[h,i];rfl
def zi:Am 0:=by decide
def VI (a b c:Int) (e:aB) (f:Am a) (g:Am b) (h:¬Am c):aF au 190 #[aH aW (fw a) (fw b),J U 0,c] e fun d i=>d=av (aN #[aH aW 0 0,J U 5])∧e=i:=by have e:=aj f;have i:=aj g;have j:=aj h;clear f g h;go_enter func190,ntmps190;go_wp2_with fail;refine mB (nI a b 0 _ e.o i.o Y1) ?_;rintro a rfl;go_wp2_with fail;refine mB (xg c _ j.o) ?_;rintro a rfl;go_wp2;go_ret2;exact Y5
def Qx (c a b d:Int) (j:aB) (h:Am c) (f:Am a) (g:Am b) (k:c+b=d) (i:Am d):aF au 190 #[aH aW (fw c) (fw a),J U 0,b] j fun e l=>e=av (aN #[aH aW (fw d) (fw a),J U 0])∧j=l:=by have j:=zaG c a b 0 d a h f g zi k (Int.add_zero a) i f;rw[gy]at j;have m:=aj h;have j:=aj f;have n:=aj (kF g);have o:=aj g;have l:=aj i;clear h f g k i;go_enter func190,ntmps190;go_wp2_with fail;refine mB (nI c a 0 _ m.o j.o Y1) ?_;rintro c rfl;go_wp2_with fail;refine mB (mH b _ o.o) ?_;rintro c rfl;go_wp2_with fail;refine mB (Qv b _ n) ?_;rintro c rfl;go_wp2_with fail;refine mB (vW d a _ l.o.1 l.o.2 j.o.1 j.o.2) ?_;rintro c rfl;go_wp2;go_ret2;exact Y5
def MP (c a b:Int) (h:aB) (g:Am c) (e:Am a) (f:Am b) (i:¬Am (c+b)):aF au 190 #[aH aW (fw c) (fw a),J U 0,b] h fun d j=>d=av (aN #[aH aW 0 0,J U 5])∧h=j:=by obtain⟨j,k,l⟩:=KE c b g f i;have h:=zh a 0 (kF e) Y2 (by rw[Int.add_zero];exact kF e);rw[Int.add_zero]at h;have m:=ED c a b 0 j (fw a) k h;rw[gy]at m;have m:=aj g;have n:=aj e;have o:=aj (kF f);have p:=aj f;have q:=aj l;clear g e f i k l h;go_enter func190,ntmps190;go_wp2_with fail;refine mB (nI c a 0 _ m.o n.o Y1) ?_;rintro c rfl;go_wp2_with fail;refine mB (mH b _ p.o) ?_;rintro c rfl;go_wp2_with fail;refine mB (Qv b _ o) ?_;rintro c rfl;go_wp2_with fail;refine mB (MN j (fw a) _ q.o) ?_;rintro c rfl;go_wp2;go_ret2;exact Y5
def VJ (a b c:Int) (e:aB) (f:Am a) (g:Am b) (h:¬Am c):aF au 190 #[aH aW (fw a) (fw b),J U 1,c] e fun d i=>d=av (aN #[aH aW 0 0,J U 5])∧e=i:=by have e:=aj f;have i:=aj g;have j:=aj h;clear f g h;go_enter func190,ntmps190;go_wp2_with fail;refine mB (nI a b 1 _ e.o i.o Y1) ?_;rintro a rfl;go_wp2_with fail;refine mB (xg c _ j.o) ?_;rintro a rfl;go_wp2;go_ret2;exact Y5
def Qy (a c b d:Int) (j:aB) (f:Am a) (h:Am c) (g:Am b) (k:c+b=d) (i:Am d):aF au 190 #[aH aW (fw a) (fw c),J U 1,b] j fun e l=>e=av (aN #[aH aW (fw a) (fw d),J U 0])∧j=l:=by have j:=zaG a c 0 b a d f h zi g (Int.add_zero a) k f i;rw[gy]at j;have j:=aj f;have m:=aj h;have n:=aj (kF g);have o:=aj g;have l:=aj i;clear f h g k i;go_enter func190,ntmps190;go_wp2_with fail;refine mB (nI a c 1 _ j.o m.o Y1) ?_;rintro c rfl;go_wp2_with fail;refine mB (mH b _ o.o) ?_;rintro c rfl;go_wp2_with fail;refine mB (Qw b _ n) ?_;rintro c rfl;go_wp2_with fail;refine mB (vW a d _ j.o.1 j.o.2 l.o.1 l.o.2) ?_;rintro c rfl;go_wp2;go_ret2;exact Y5
def MQ (a c b:Int) (h:aB) (e:Am a) (g:Am c) (f:Am b) (j:¬Am (c+b)):aF au 190 #[aH aW (fw a) (fw c),J U 1,b] h fun d i=>d=av (aN #[aH aW 0 0,J U 5])∧h=i:=by obtain⟨k,l,m⟩:=KE c b g f j;have h:=zh a 0 (kF e) Y2 (by rw[Int.add_zero];exact kF e);rw[Int.add_zero]at h;have i:=ED a c 0 b (fw a) k h l;rw[gy]at i;have i:=aj e;have n:=aj g;have o:=aj (kF f);have p:=aj f;have q:=aj m;clear e g f j l m h;go_enter func190,ntmps190;go_wp2_with fail;refine mB (nI a c 1 _ i.o n.o Y1) ?_;rintro c rfl;go_wp2_with fail;refine mB (mH b _ p.o) ?_;rintro c rfl;go_wp2_with fail;refine mB (Qw b _ o) ?_;rintro c rfl;go_wp2_with fail;refine mB (MO a k _ i.o.1 i.o.2 q.o) ?_;rintro c rfl;go_wp2;go_ret2;exact Y5
def nQ (a b:Int):Prop:=(a=0∨a=1)∧0≤b∧b≤2147483647
instance (side ini:Int):Decidable (nQ side ini):=inferInstanceAs (Decidable (_∧_))
def jT (a b:Int) (c:aB) (d:nQ a b):aF au 142 #[a,b] c fun a b=>a=av true∧c=b:=by
 obtain⟨a,b,c⟩:=d;rcases a with rfl|rfl
 all_goals
  go_enter func142,ntmps142;go_wp2;go_ret;exact Y5
def zk (a b:Int) (d:aB) (c:¬nQ a b):aF au 142 #[a,b] d fun e f=>e=av false∧d=f:=by
 by_cases e:a=0∨a=1
 ·have d:b<0∨2147483647<b:=by unfold nQ at c;omega
  clear c;rcases e with rfl|rfl<;>rcases d with d|d
  all_goals
   go_enter func142,ntmps142;go_wp2;go_ret;exact⟨fB (by first|(simp;done)|(simp;omega)),rfl⟩
 ·have b:(a==0)=false:=by rw[aM];omega
  have b:(a==1)=false:=by rw[aM];omega
  clear c e;go_enter func142,ntmps142;go_wp2;go_ret;exact Y5
def lK (c d a b:Int):Int:=if nQ a b then b+(if a=0 then c else d)else 0
def MR {c d a b:Int} (e:nQ a b):lK c d a b=b+(if a=0 then c else d):=aP e
def EF {c d a b:Int} (e:¬nQ a b):lK c d a b=0:=aL e
def Bt (b a:Int) (c:Am b) (d:0≤a) (d:a≤2147483647):U.wrap (a+b)=a+b:=bF _ (by unfold Am at c;omega)
def zaH (d e b c:Int) (a:aB) (i:Y (Am d)) (j:Y (Am e)):aF au 143 #[aS #[aH aW (fw d) (fw e)],b,c] a fun f g=>f=av (J U (lK d e b c))∧aJ a a g:=by
 by_cases g:b=0∨b=1
 ·by_cases a:nQ b c
  ·rw[MR a];have h:=Bt d c i.o a.2.1 a.2.2;have h:=Bt e c j.o a.2.1 a.2.2;have k:=aj a;clear a;rcases g with rfl|rfl
   all_goals
    go_enter func143,ntmps143;go_wp2_with fail;refine mB (nI d e _ _ i.o j.o Y1) ?_;rintro h rfl;go_wp2_with fail;refine mB (jT _ c _ k.o) ?_;rintro h rfl;go_wp2;go_ret;exact⟨rfl,(ay _ _).alloc (aD _) _⟩
  ·rw[EF a];have k:=aj a;clear a;rcases g with rfl|rfl
   all_goals
    go_enter func143,ntmps143;go_wp2_with fail;refine mB (nI d e _ _ i.o j.o Y1) ?_;rintro h rfl;go_wp2_with fail;refine mB (zk _ c _ k.o) ?_;rintro h rfl;go_wp2;go_ret;exact⟨rfl,(ay _ _).alloc (aD _) _⟩
 ·rw[EF (fun a=>g a.1)];have c:Y (¬b=0):=aj fun a=>g (.inl a);have d:Y (¬b=1):=aj fun a=>g (.inr a);clear g;go_enter func143,ntmps143;go_wp2_with fail;refine mB (zcu _ _ b _ c.o d.o) ?_;rintro h rfl;go_wp2;go_ret;exact⟨rfl,(ay _ _).alloc (aD _) _⟩
def qQ (b c d a:Int):Int×Int×Bool:=
 if d=0 then(if Am a∧Am (b+a)then(b+a,c,true)else(0,0,false))else(if Am a∧Am (c+a)then(b,c+a,true)else(0,0,false))
def mh (c d b a e:Int):Int×Int×Bool:=if¬nQ b e∨a<0∨0<a∧lK c d b e<a then(0,0,false)else qQ c d b (-a)
def iG (c d a b e:Int):Int×Int×Bool:=if¬nQ a e∨b<0∨2147483647-lK c d a e<b then(0,0,false)else qQ c d a b
def zaI (b c d e:Int) (f g:Nat) (a a h:Int):Prop:=
 (∀a,aF au 190 #[aH aW (fw b) (fw c),d,e] a fun b c=>b=av (aN #[aH aW f g,h])∧a=c)∧
 True
def MS (c d g b e f:Int) (j:Bool) (k:Am c) (l:Am d) (i:g=0∨g=1) (a:qQ c d g b=(e,f,j)):
  ∃h,zaI c d g b (fw e) (fw f) e f h∧((j=false∧e=0∧f=0∧¬h=0)∨(j=true∧h=0))∧Am e∧Am f:=by
 unfold qQ at a;rcases i with rfl|rfl
 ·rw[aP rfl]at a;by_cases g:Am b
  ·by_cases h:Am (c+b)
   ·rw[aP ⟨g,h⟩]at a;obtain⟨rfl,rfl,rfl⟩:c+b=e∧d=f∧true=j:=Y6 a;exact⟨0,⟨fun i=>Qx c d b _ i k l g rfl h,trivial⟩,.inr Y5,h,l⟩
   ·rw[aL fun m=>h m.2]at a;obtain⟨rfl,rfl,rfl⟩:0=e∧0=f∧false=j:=Y6 a;rw[gy];exact⟨5,⟨fun i=>MP c d b i k l g h,trivial⟩,.inl ⟨rfl,rfl,rfl,Y2⟩,zi,zi⟩
  ·rw[aL fun m=>g m.1]at a;obtain⟨rfl,rfl,rfl⟩:0=e∧0=f∧false=j:=Y6 a;rw[gy];exact⟨5,⟨fun i=>VI c d b i k l g,trivial⟩,.inl ⟨rfl,rfl,rfl,Y2⟩,zi,zi⟩
 ·rw[aL Y2]at a;by_cases g:Am b
  ·by_cases h:Am (d+b)
   ·rw[aP ⟨g,h⟩]at a;obtain⟨rfl,rfl,rfl⟩:c=e∧d+b=f∧true=j:=Y6 a;exact⟨0,⟨fun i=>Qy c d b _ i k l g rfl h,trivial⟩,.inr Y5,k,h⟩
   ·rw[aL fun m=>h m.2]at a;obtain⟨rfl,rfl,rfl⟩:0=e∧0=f∧false=j:=Y6 a;rw[gy];exact⟨5,⟨fun i=>MQ c d b i k l g h,trivial⟩,.inl ⟨rfl,rfl,rfl,Y2⟩,zi,zi⟩
  ·rw[aL fun m=>g m.1]at a;obtain⟨rfl,rfl,rfl⟩:0=e∧0=f∧false=j:=Y6 a;rw[gy];exact⟨5,⟨fun i=>VJ c d b i k l g,trivial⟩,.inl ⟨rfl,rfl,rfl,Y2⟩,zi,zi⟩
def qR (a:aX) (d e:Nat) (b:Mode) (c:aB):(store a (aH aW d e) b).run au c=stored au c a (aH aW d e) b:=run_store au c a _ b rfl
def qc (b c:Int) (d:Bool) (a:aB) (e:Ending) (f:aB):Prop:=e=av (aN #[aS #[aH aW (fw b) (fw c)],d])∧aJ a a f
def Zv (e f b c g h:Int) (d:Bool) (a:aB) (k:Y (Am e)) (l:Y (Am f)) (m:Y (b=0∨b=1)) (i:Y (qQ e f b c=(g,h,d))):
  aF au 144 #[aS #[aH aW (fw e) (fw f)],b,c] a (qc g h d a):=by
 obtain⟨n,j,o,_,_⟩:=MS e f b c g h d k.o l.o m.o i.o;have k:=aj j.1;clear j i;rcases o with⟨rfl,rfl,rfl,b⟩|⟨rfl,rfl⟩
 ·have c:(n !=0)=true:=Y6 b;have l:=qR;go_enter func144,ntmps144;go_wp2_with fail;refine mB (k.o _) fun b c=>?_;have d:bH b (a.heap.size+1) 125 #[aH aW 0 0]:=by rw[←c];have:=bH.d (a.alloc (.cells #[aH aW (fw e) (fw f)] 125)) 125 #[aH aW 0 0];simpa using this
  have n:=d.H 0;have o:=d.c 0;have i:Y (aJ a a b):=aj (by rw[←c];exact((ay _ _).alloc (aD _) _).alloc Y1 _);clear c;go_wp2_with fail;have j:=(d.f 0 (aH aW 0 0)).a 0;refine aG (v:=aN #[aS #[aH aW 0 0],false]) (by simp[results,results144,go_sem,j]) rfl ⟨by rw[gy],?_⟩;exact i.o.setCell Y1 _
 ·have l:=qR;go_enter func144,ntmps144;go_wp2_with fail;refine mB (k.o _) fun b c=>?_;have d:bH b (a.heap.size+1) 125 #[aH aW 0 0]:=by rw[←c];have:=bH.d (a.alloc (.cells #[aH aW (fw e) (fw f)] 125)) 125 #[aH aW 0 0];simpa using this
  have n:=d.H 0;have o:=d.c 0;have i:Y (aJ a a b):=aj (by rw[←c];exact((ay _ _).alloc (aD _) _).alloc Y1 _);clear c;go_wp2_with fail;have j:=(d.f 0 (aH aW (fw g) (fw h))).a 0;refine aG (v:=aN #[aS #[aH aW (fw g) (fw h)],true]) (by simp[results,results144,go_sem,j]) rfl ⟨rfl,?_⟩;exact i.o.setCell Y1 _
def tL {c d e f a:Int} (g:Am c) (h:Am d) (b:lK c d e f=a): -4503599627370496≤a∧a≤4503601774854143:=by
 unfold lK at b;unfold Am at g h;split at b
 ·rename_i a;have:=a.2;split at b<;>omega
 ·omega
def uS (a b d e f:Int) (c:aB) (g:Y (Am a)) (h:Y (Am b)) (i:Y (lK a b d e=f)):aF au 143 #[aS #[aH aW (fw a) (fw b)],d,e] c fun j k=>j=av f∧aJ c c k:=by rw[←i.o];exact zaH a b d e c g h
def Ir (b c d f e:Int) (a:aB) (g:Y (Am b)) (g:Y (Am c)) (g:Y (¬nQ d e)):aF au 102 #[aS #[aH aW (fw b) (fw c)],d,f,e] a (qc 0 0 false a):=by
 have f:=qR;go_enter func102,ntmps102;go_wp2_with fail;refine mB (zk d e _ g.o) fun d f=>?_;have e:aJ ((a.alloc (.cells #[aH aW (fw b) (fw c)] 125)).alloc (.cells #[aH aW 0 0] 125)).heap.size ((a.alloc (.cells #[aH aW (fw b) (fw c)] 125)).alloc (.cells #[aH aW 0 0] 125)) d:=by rw[←f];exact ay _ _
 clear f;have g:=((bH.d a 125 #[aH aW (fw b) (fw c)]).h (.cells #[aH aW 0 0] 125)).b e;have f:bH d (a.heap.size+1) 125 #[aH aW 0 0]:=by have:=(bH.d (a.alloc (.cells #[aH aW (fw b) (fw c)] 125)) 125 #[aH aW 0 0]).b e;simpa using this
 have h:=g.H 0;have b:=f.H 0;have b:=f.c 0;have a:=aj (gP e);clear e;go_wp2_with fail;have b:=(f.f 0 (aH aW 0 0));have c:=b.a 0;refine aG (v:=aN #[aS #[aH aW 0 0],false]) (by simp[results,results102,go_sem,c]) rfl ⟨by rw[gy],?_⟩;exact(a.o.setCell Y1 (aH aW 0 0))
def Iu (b c d f e:Int) (a:aB) (g:Y (Am b)) (g:Y (Am c)) (g:Y (nQ d e)) (h:f<0):aF au 102 #[aS #[aH aW (fw b) (fw c)],d,f,e] a (qc 0 0 false a):=by
 have f:=qR;go_enter func102,ntmps102;go_wp2_with fail;refine mB (jT d e _ g.o) fun d f=>?_;have e:aJ ((a.alloc (.cells #[aH aW (fw b) (fw c)] 125)).alloc (.cells #[aH aW 0 0] 125)).heap.size ((a.alloc (.cells #[aH aW (fw b) (fw c)] 125)).alloc (.cells #[aH aW 0 0] 125)) d:=by rw[←f];exact ay _ _
 clear f;have g:=((bH.d a 125 #[aH aW (fw b) (fw c)]).h (.cells #[aH aW 0 0] 125)).b e;have f:bH d (a.heap.size+1) 125 #[aH aW 0 0]:=by have:=(bH.d (a.alloc (.cells #[aH aW (fw b) (fw c)] 125)) 125 #[aH aW 0 0]).b e;simpa using this
 have h:=g.H 0;have b:=f.H 0;have b:=f.c 0;have a:=aj (gP e);clear e;go_wp2_with fail;have b:=(f.f 0 (aH aW 0 0));have c:=b.a 0;refine aG (v:=aN #[aS #[aH aW 0 0],false]) (by simp[results,results102,go_sem,c]) rfl ⟨by rw[gy],?_⟩;exact(a.o.setCell Y1 (aH aW 0 0))
def EG (b c f i g d e:Int) (h:Bool) (a:aB) (o:Y (Am b)) (p:Y (Am c)) (j:Y (nQ f g)) (k:i=0) (q:Y (qQ b c f 0=(d,e,h))):aF au 102 #[aS #[aH aW (fw b) (fw c)],f,i,g] a (qc d e h a):=by
 subst k;have r:=aj j.o.1;have i:=qR;go_enter func102,ntmps102;go_wp2_with fail;refine mB (jT f g _ j.o) fun g j=>?_;have i:aJ ((a.alloc (.cells #[aH aW (fw b) (fw c)] 125)).alloc (.cells #[aH aW 0 0] 125)).heap.size ((a.alloc (.cells #[aH aW (fw b) (fw c)] 125)).alloc (.cells #[aH aW 0 0] 125)) g:=by rw[←j];exact ay _ _
 clear j;have k:=((bH.d a 125 #[aH aW (fw b) (fw c)]).h (.cells #[aH aW 0 0] 125)).b i;have j:bH g (a.heap.size+1) 125 #[aH aW 0 0]:=by have:=(bH.d (a.alloc (.cells #[aH aW (fw b) (fw c)] 125)) 125 #[aH aW 0 0]).b i;simpa using this
 have l:=k.H 0;have m:=j.H 0;have n:=j.c 0;have t:=aj (gP i);clear i;go_wp2_with fail;refine mB (Zv b c f (0) d e h _ o p r q) fun g f=>?_;have o:=k.b f;have i:=j.b f;have j:=aj (bG t.o f);clear l m n;have l:=o.H 0;have m:=i.H 0;have n:=i.c 0;clear f;go_wp2_with fail;have a:=(i.f 0 (aH aW (fw d) (fw e))).a 0;refine aG (v:=aN #[aS #[aH aW (fw d) (fw e)],h]) (by simp[results,results102,go_sem,a]) rfl ⟨rfl,?_⟩;exact(j.o.setCell Y1 (aH aW (fw d) (fw e)))
def EH (b c d f e h:Int) (a:aB) (n:Y (Am b)) (o:Y (Am c)) (g:Y (nQ d e)) (i:0<f) (p:Y (lK b c d e=h)) (i:h<f):aF au 102 #[aS #[aH aW (fw b) (fw c)],d,f,e] a (qc 0 0 false a):=by
 have f:=qR;go_enter func102,ntmps102;go_wp2_with fail;refine mB (jT d e _ g.o) fun f i=>?_;have g:aJ ((a.alloc (.cells #[aH aW (fw b) (fw c)] 125)).alloc (.cells #[aH aW 0 0] 125)).heap.size ((a.alloc (.cells #[aH aW (fw b) (fw c)] 125)).alloc (.cells #[aH aW 0 0] 125)) f:=by rw[←i];exact ay _ _
 clear i;have j:=((bH.d a 125 #[aH aW (fw b) (fw c)]).h (.cells #[aH aW 0 0] 125)).b g;have i:bH f (a.heap.size+1) 125 #[aH aW 0 0]:=by have:=(bH.d (a.alloc (.cells #[aH aW (fw b) (fw c)] 125)) 125 #[aH aW 0 0]).b g;simpa using this
 have k:=j.H 0;have l:=i.H 0;have m:=i.c 0;have r:=aj (gP g);clear g;go_wp2_with fail;refine mB (uS b c d e h _ n o p) fun e d=>?_;have g:=j.b d;have f:=i.b d;have h:=aj (bG r.o d);clear k l m;have k:=g.H 0;have l:=f.H 0;have m:=f.c 0;clear d;go_wp2_with fail;have a:=(f.f 0 (aH aW 0 0));have b:=a.a 0;refine aG (v:=aN #[aS #[aH aW 0 0],false]) (by simp[results,results102,go_sem,b]) rfl ⟨by rw[gy],?_⟩;exact(h.o.setCell Y1 (aH aW 0 0))
def EI (b c d g h e f o:Int) (j:Bool) (a:aB) (p:Y (Am b)) (q:Y (Am c)) (i:Y (nQ d h)) (k:0<g) (s:Y (lK b c d h=o)) (k:g≤o) (v:Y (qQ b c d (-g)=(e,f,j))):aF au 102 #[aS #[aH aW (fw b) (fw c)],d,g,h] a (qc e f j a):=by
 have w:=aj i.o.1;have k:=(tL p.o q.o s.o).2;have k:=qR;go_enter func102,ntmps102;go_wp2_with fail;refine mB (jT d h _ i.o) fun i l=>?_;have k:aJ ((a.alloc (.cells #[aH aW (fw b) (fw c)] 125)).alloc (.cells #[aH aW 0 0] 125)).heap.size ((a.alloc (.cells #[aH aW (fw b) (fw c)] 125)).alloc (.cells #[aH aW 0 0] 125)) i:=by rw[←l];exact ay _ _
 clear l;have u:=((bH.d a 125 #[aH aW (fw b) (fw c)]).h (.cells #[aH aW 0 0] 125)).b k;have r:bH i (a.heap.size+1) 125 #[aH aW 0 0]:=by have:=(bH.d (a.alloc (.cells #[aH aW (fw b) (fw c)] 125)) 125 #[aH aW 0 0]).b k;simpa using this
 have l:=u.H 0;have m:=r.H 0;have n:=r.c 0;have x:=aj (gP k);clear k;go_wp2_with fail;refine mB (uS b c d h o _ p q s) fun i h=>?_;have o:=u.b h;have k:=r.b h;have r:=aj (bG x.o h);clear l m n;have l:=o.H 0;have m:=k.H 0;have n:=k.c 0;clear h;go_wp2_with fail;refine mB (Zv b c d (-g) e f j _ p q w v) fun g d=>?_;have i:=o.b d;have h:=k.b d;have k:=aj (bG r.o d);clear l m n;have l:=i.H 0;have m:=h.H 0;have n:=h.c 0;clear d;go_wp2_with fail;have a:=(h.f 0 (aH aW (fw e) (fw f))).a 0;refine aG (v:=aN #[aS #[aH aW (fw e) (fw f)],j]) (by simp[results,results102,go_sem,a]) rfl ⟨rfl,?_⟩;exact(k.o.setCell Y1 (aH aW (fw e) (fw f)))
def Cz (b c d e f h i:Int) (j:Bool) (k:aB) (l:Y (Am b)) (m:Y (Am c)) (a:Y (mh b c d e f=(h,i,j))):aF au 102 #[aS #[aH aW (fw b) (fw c)],d,e,f] k (qc h i j k):=by
 have a:=a.o;unfold mh at a;by_cases g:nQ d f
 ·by_cases o:e<0
  ·rw[aP (.inr (.inl o))]at a;obtain⟨rfl,rfl,rfl⟩:0=h∧0=i∧false=j:=Y6 a;exact Iu b c d e f k l m (aj g) o
  ·by_cases n:e=0
   ·subst n;rw[aL (by simp[g])]at a;exact EG b c d 0 f h i j k l m (aj g) rfl (aj a)
   ·by_cases p:lK b c d f<e
    ·rw[aP (.inr (.inr ⟨Y0,p⟩))]at a;obtain⟨rfl,rfl,rfl⟩:0=h∧0=i∧false=j:=Y6 a;exact EH b c d e f _ k l m (aj g) Y0 (aj rfl) p
    ·rw[aL (by rintro(n|n|n);exact n g;exact o n;exact p n.2)]at a;exact EI b c d e f h i _ j k l m (aj g) Y0 (aj rfl) Y0 (aj a)
 ·rw[aP (.inl g)]at a;obtain⟨rfl,rfl,rfl⟩:0=h∧0=i∧false=j:=Y6 a;exact Ir b c d e f k l m (aj g)
def Iw (b c d f e:Int) (a:aB) (g:Y (Am b)) (g:Y (Am c)) (g:Y (¬nQ d e)):aF au 160 #[aS #[aH aW (fw b) (fw c)],d,f,e] a (qc 0 0 false a):=by
 have f:=qR;go_enter func160,ntmps160;go_wp2_with fail;refine mB (zk d e _ g.o) fun d f=>?_;have e:aJ ((a.alloc (.cells #[aH aW (fw b) (fw c)] 125)).alloc (.cells #[aH aW 0 0] 125)).heap.size ((a.alloc (.cells #[aH aW (fw b) (fw c)] 125)).alloc (.cells #[aH aW 0 0] 125)) d:=by rw[←f];exact ay _ _
 clear f;have g:=((bH.d a 125 #[aH aW (fw b) (fw c)]).h (.cells #[aH aW 0 0] 125)).b e;have f:bH d (a.heap.size+1) 125 #[aH aW 0 0]:=by have:=(bH.d (a.alloc (.cells #[aH aW (fw b) (fw c)] 125)) 125 #[aH aW 0 0]).b e;simpa using this
 have h:=g.H 0;have b:=f.H 0;have b:=f.c 0;have a:=aj (gP e);clear e;go_wp2_with fail;have b:=(f.f 0 (aH aW 0 0));have c:=b.a 0;refine aG (v:=aN #[aS #[aH aW 0 0],false]) (by simp[results,results160,go_sem,c]) rfl ⟨by rw[gy],?_⟩;exact(a.o.setCell Y1 (aH aW 0 0))
def Iy (b c d f e:Int) (a:aB) (g:Y (Am b)) (g:Y (Am c)) (g:Y (nQ d e)) (h:f<0):aF au 160 #[aS #[aH aW (fw b) (fw c)],d,f,e] a (qc 0 0 false a):=by
 have f:=qR;go_enter func160,ntmps160;go_wp2_with fail;refine mB (jT d e _ g.o) fun d f=>?_;have e:aJ ((a.alloc (.cells #[aH aW (fw b) (fw c)] 125)).alloc (.cells #[aH aW 0 0] 125)).heap.size ((a.alloc (.cells #[aH aW (fw b) (fw c)] 125)).alloc (.cells #[aH aW 0 0] 125)) d:=by rw[←f];exact ay _ _
 clear f;have g:=((bH.d a 125 #[aH aW (fw b) (fw c)]).h (.cells #[aH aW 0 0] 125)).b e;have f:bH d (a.heap.size+1) 125 #[aH aW 0 0]:=by have:=(bH.d (a.alloc (.cells #[aH aW (fw b) (fw c)] 125)) 125 #[aH aW 0 0]).b e;simpa using this
 have h:=g.H 0;have b:=f.H 0;have b:=f.c 0;have a:=aj (gP e);clear e;go_wp2_with fail;have b:=(f.f 0 (aH aW 0 0));have c:=b.a 0;refine aG (v:=aN #[aS #[aH aW 0 0],false]) (by simp[results,results160,go_sem,c]) rfl ⟨by rw[gy],?_⟩;exact(a.o.setCell Y1 (aH aW 0 0))
def EJ (b c d f e h:Int) (a:aB) (j:Y (Am b)) (k:Y (Am c)) (g:Y (nQ d e)) (i:0≤f) (l:Y (lK b c d e=h)) (i:2147483647-h<f):aF au 160 #[aS #[aH aW (fw b) (fw c)],d,f,e] a (qc 0 0 false a):=by
 have f:=tL j.o k.o l.o;obtain⟨i,m⟩:=f;have f:=qR;go_enter func160,ntmps160;go_wp2_with fail;refine mB (jT d e _ g.o) fun f i=>?_;have g:aJ ((a.alloc (.cells #[aH aW (fw b) (fw c)] 125)).alloc (.cells #[aH aW 0 0] 125)).heap.size ((a.alloc (.cells #[aH aW (fw b) (fw c)] 125)).alloc (.cells #[aH aW 0 0] 125)) f:=by rw[←i];exact ay _ _
 clear i;have m:=((bH.d a 125 #[aH aW (fw b) (fw c)]).h (.cells #[aH aW 0 0] 125)).b g;have i:bH f (a.heap.size+1) 125 #[aH aW 0 0]:=by have:=(bH.d (a.alloc (.cells #[aH aW (fw b) (fw c)] 125)) 125 #[aH aW 0 0]).b g;simpa using this
 have n:=m.H 0;have o:=i.H 0;have p:=i.c 0;have r:=aj (gP g);clear g;go_wp2_with fail;refine mB (uS b c d e h _ j k l) fun e d=>?_;have g:=m.b d;have f:=i.b d;have h:=aj (bG r.o d);clear n o p;have n:=g.H 0;have o:=f.H 0;have p:=f.c 0;clear d;go_wp2_with fail;have a:=(f.f 0 (aH aW 0 0));have b:=a.a 0;refine aG (v:=aN #[aS #[aH aW 0 0],false]) (by simp[results,results160,go_sem,b]) rfl ⟨by rw[gy],?_⟩;exact(h.o.setCell Y1 (aH aW 0 0))
def EK (b c d g h e f o:Int) (j:Bool) (a:aB) (p:Y (Am b)) (q:Y (Am c)) (i:Y (nQ d h)) (k:0≤g) (s:Y (lK b c d h=o)) (k:g≤2147483647-o) (v:Y (qQ b c d g=(e,f,j))):aF au 160 #[aS #[aH aW (fw b) (fw c)],d,g,h] a (qc e f j a):=by
 have w:=aj i.o.1;obtain⟨k,l⟩:=tL p.o q.o s.o;have k:=qR;go_enter func160,ntmps160;go_wp2_with fail;refine mB (jT d h _ i.o) fun i l=>?_;have k:aJ ((a.alloc (.cells #[aH aW (fw b) (fw c)] 125)).alloc (.cells #[aH aW 0 0] 125)).heap.size ((a.alloc (.cells #[aH aW (fw b) (fw c)] 125)).alloc (.cells #[aH aW 0 0] 125)) i:=by rw[←l];exact ay _ _
 clear l;have u:=((bH.d a 125 #[aH aW (fw b) (fw c)]).h (.cells #[aH aW 0 0] 125)).b k;have r:bH i (a.heap.size+1) 125 #[aH aW 0 0]:=by have:=(bH.d (a.alloc (.cells #[aH aW (fw b) (fw c)] 125)) 125 #[aH aW 0 0]).b k;simpa using this
 have l:=u.H 0;have m:=r.H 0;have n:=r.c 0;have x:=aj (gP k);clear k;go_wp2_with fail;refine mB (uS b c d h o _ p q s) fun i h=>?_;have o:=u.b h;have k:=r.b h;have r:=aj (bG x.o h);clear l m n;have l:=o.H 0;have m:=k.H 0;have n:=k.c 0;clear h;go_wp2_with fail;refine mB (Zv b c d (g) e f j _ p q w v) fun g d=>?_;have i:=o.b d;have h:=k.b d;have k:=aj (bG r.o d);clear l m n;have l:=i.H 0;have m:=h.H 0;have n:=h.c 0;clear d;go_wp2_with fail;have a:=(h.f 0 (aH aW (fw e) (fw f))).a 0;refine aG (v:=aN #[aS #[aH aW (fw e) (fw f)],j]) (by simp[results,results160,go_sem,a]) rfl ⟨rfl,?_⟩;exact(k.o.setCell Y1 (aH aW (fw e) (fw f)))
def Iz (b c d e f g h:Int) (i:Bool) (j:aB) (m:Y (Am b)) (n:Y (Am c)) (a:Y (iG b c d e f=(g,h,i))):aF au 160 #[aS #[aH aW (fw b) (fw c)],d,e,f] j (qc g h i j):=by
 have a:=a.o;unfold iG at a;by_cases k:nQ d f
 ·by_cases o:e<0
  ·rw[aP (.inr (.inl o))]at a;obtain⟨rfl,rfl,rfl⟩:0=g∧0=h∧false=i:=Y6 a;exact Iy b c d e f j m n (aj k) o
  ·by_cases p:2147483647-lK b c d f<e
   ·rw[aP (.inr (.inr p))]at a;obtain⟨rfl,rfl,rfl⟩:0=g∧0=h∧false=i:=Y6 a;exact EJ b c d e f _ j m n (aj k) Y0 (aj rfl) p
   ·rw[aL (by rintro(l|l|l);exact l k;exact o l;exact p l)]at a;exact EK b c d e f g h _ i j m n (aj k) Y0 (aj rfl) Y0 (aj a)
 ·rw[aP (.inl k)]at a;obtain⟨rfl,rfl,rfl⟩:0=g∧0=h∧false=i:=Y6 a;exact Iw b c d e f j m n (aj k)
section
open Go.WideMaps
structure Pg where
 D:DataW Unit
 n:Int
def Pg.g:Pg:=⟨.map [],0⟩
noncomputable def MU (a:List Int):Lit:=(keyOf au 309 (aS (a.map (J .u8)).toArray)).getD (.bool false)
def Zw:DataW Unit→Int
 |.lit (.int _ a)=>a
 |_=>0
noncomputable def Pg.c (a:Pg) (b:List Int):Int:=Zw (a.D.atKey (MU b) (.lit (.int U 0)))
noncomputable def Pg.b (a:Pg) (b:List Int):Bool:=decide (a.c b>0)
noncomputable def Pg.e (a:Pg) (b:List Int):Pg:=⟨a.D.put (MU b) (.lit (.int U (U.wrap (a.c b+1)))),a.n+1⟩
noncomputable def Pg.f (b:Pg) (a:List Int):Pg:=let c:=b.D.put (MU a) (.lit (.int U (U.wrap (b.c a-1))));⟨if Zw (c.atKey (MU a) (.lit (.int U 0)))=0 then c.del (MU a)else c,b.n-1⟩
def nJ:KeyLaw au 309:=deep_law_laid (m:=2) (by kernel_rfl) (by omega) (of_decide_eq_true (by kernel_rfl)) (by kernel_rfl) (by kernel_rfl)
def ou:Keyed au 309:=Keyed.of_law nJ
def nR (a:List Int):aI:=aS (a.map (J .u8)).toArray
def KF {l:List Int} (i:l.length=8):∃a b c d e f g h,l=[a,b,c,d,e,f,g,h]:=by
 match l,i with
 |[a,b,c,d,e,f,g,h],_=>exact⟨a,b,c,d,e,f,g,h,rfl⟩
def lM (b:Nat) {a:Int} (c:0≤a∧a≤255):Tryz.prog.keyLits (b+1) 5 [J .u8 a]=R [.int .u8 a]:=by
 have b:(Lit.int .u8 a).wf=true:=by simpa[Lit.wf,IntKind.min,IntKind.max,IntKind.signed,IntKind.bits]using c
 unfold Program.keyLits;rw[underlying5];simp[b]
def IB {b:List Int} (d:b.length=8) (a:gZ b):keyOf au 309 (nR b)=R (MU b):=by
 have c:(keyOf au 309 (nR b)).isSome=true:=by
  obtain⟨e,f,g,h,i,j,k,l,rfl⟩:=KF d;have m:=a e Y1;have e:=a f Y1;have f:=a g Y1;have g:=a h Y1;have h:=a i Y1;have i:=a j Y1;have j:=a k Y1;have k:=a l Y1;unfold keyOf nR;simp only[underlying309];have l:Tryz.prog.keyType 309=true:=Y3;have d:Tryz.prog.cellsOf 309=8:=Y3;have n:∀a:Array aI,a.size=8→Value.formed au 309 (aS a)=true:=fun a o=>by unfold Value.formed;simp[underlying309,d,o]
  have a:Tryz.prog.cellsOf 5=1:=Y3;rw[l,n _ rfl];simp only[Bool.and_self,if_true];have l:Tryz.prog.types.size+1=452+1+1:=Y3;rw[l];unfold Program.keyLits;rw[underlying309];simp[d,a,List.range,List.range.loop,Value.cells,lM 452 m,lM 452 e,lM 452 f,lM 452 g,lM 452 h,lM 452 i,lM 452 j,lM 452 k]
 unfold MU;unfold nR at c⊢;cases hk:keyOf au 309 (aS (b.map (J .u8)).toArray)with
 |none=>rw[hk]at c;cases c
 |some a=>rfl
end
def Qz (a:List Int) (b:Int):uQ (a++[b])=uQ a*256+b:=by unfold uQ;rw[List.foldl_append];rfl
def QA {a:List Int} {b:Nat} (c:b<a.length):uQ (a.take (b+1))=uQ (a.take b)*256+a[b]:=by rw[List.take_succ_eq_append_getElem c,Qz]
def QB (a b:Nat) (c:a<2^24) (c:b<2^8):a*256|||b=a*256+b:=by have b:=Nat.two_pow_add_eq_or_of_lt c a;rw[Nat.mul_comm]at b;exact b.symm
def VK (a b:Int) (f:0≤a) (i:a<16777216) (g:0≤b) (j:b≤255):bits .or U (a*256) b=a*256+b:=by
 obtain⟨c,rfl⟩:=bR f
 obtain⟨d,rfl⟩:=bR g
 have h:=QB c d (by omega) (by omega)
 have e:=zaE (c*256) d (by omega) (by omega)
 rw[h]at e
 rw[show(c:Int)*256=((c*256:Nat):Int) by omega,e]
 omega
def gZ.e {a:List Int} (c:gZ a) {b:Nat} (d:b<a.length):0≤a[b]∧a[b]≤255:=c _ (List.getElem_mem d)
def EL {b:List Int} (c:gZ b) {a:Nat} (d:a<b.length) (d:a≤3):0≤uQ (b.take a)∧uQ (b.take a)<16777216:=by
 have b:=Cv (c.a a);rw[dw,Nat.min_eq_left Y0]at b;obtain rfl|rfl|rfl|rfl:a=0∨a=1∨a=2∨a=3:=Y0
 all_goals exact⟨b.1,Int.lt_of_lt_of_le b.2 Y2⟩
def VL (f:Option aX) (e d:Nat) (c:List Int) (a:Nat) (b:aB) (g:1≤a) (g:a≤4) (h:c.length=e) (g:a≤e) (g:e≤1000000) (g:e≤d) (i:Y (gZ c)) (k:Y (bU b f (dP c))):
  aF au 204 #[Z f e d,a] b fun g f=>g=av (aN #[J U (uQ (c.take a)),J U 0])∧b=f:=by
 have j:=fun b=>aj (Im (a:Int) b);have f:bV (a:Int) 1 4=true:=by unfold bV;simp;omega
 obtain⟨l,b⟩:=exq (vV (a:Int));rw[f,b]at j;clear f b;have l:=aj h;have b:a≤d:=Y0;clear h;go_enter func204,ntmps204;go_wp2_with (go_at_call 113;refine(j _).o.mono ?_;rintro g b ⟨rfl,rfl⟩);go_ways;go_loop [8,26] (fun e h=>∃(b:Nat) (d:Int),b≤a∧h=J U b∧e=J U d∧Y (d=uQ (c.take b))) (fun _ h=>a- (intOf h).toNat);case atStart=>exact⟨0,0,aZ _,rfl,rfl,aj rfl⟩
 case round=>
  obtain⟨b,d,e,rfl,rfl,h⟩:=hrel;by_cases e:b<a
  ·have e:b<c.length:=by have:=l.o;omega
   obtain⟨j,l,rfl,m⟩:=k.o b _ (wY e);have j:=i.o.e e;have f:=EL i.o e Y0;rw[←h.o]at f;have i:Y (uQ (c.take (b+1))=d*256+c[b]):=aj (by rw[QA e,←h.o]);have e:=VK d c[b] f.1 f.2 j.1 j.2;have e:U.wrap (d*256)=d*256:=bF _ Y0;generalize c[b]=c at*;go_wp2;go_round;case rel=>exact⟨b+1,d*256+c,Y0,by go_num,rfl,aj i.o.symm⟩
   case measure=>simp[intOf];omega
  ·have g:b=a:=Y0;subst g;go_wp2;go_ret2;exact⟨by rw[h.o];rfl,rfl⟩
end Go.Proofs.YtdcacpeaimjdlaaGreatDoor
