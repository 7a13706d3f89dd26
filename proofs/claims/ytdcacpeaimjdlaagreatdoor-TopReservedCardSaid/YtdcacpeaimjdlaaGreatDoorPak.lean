/- Part of the proof. -/
import Derived.Test.YtdcacpeaimjdlaaGreatDoorPaa
import Derived.Ground.Names2Prog
import Derived.Ground.SlgfProg
import Derived.Ground.SlgnProg
import Derived.Laws.BytesString
import Derived.Laws.MakeOwn
import Derived.Lib.OthersKept
import Derived.Shelf.LaysM
import Derived.Shelf.Slices.Clone
import Derived.Shelf.Slices.CompactI
import Derived.Shelf.Slices.In.SortNone
import Derived.Shelf.Slices.SearchI
import Derived.Shelf.Slices.Turned
import Derived.Shelf.SlicesE.Clone
import Derived.Shelf.SlicesE.Index
import Derived.Shelf.SlicesQ.IndexFunc
import Derived.Shelf.Small.Bits
import Derived.Shelf.Small.Strs
import Derived.Shelf.Strconv.Itoa0
import Derived.Shelf.Strings.Builder1
import Derived.Shelf.Strings.Count
import Derived.Shelf.Strings.Search1
import Derived.Shelf.Strings.Search2
import Derived.Shelf.Strings.Search3
import Derived.Shelf.Strings.Shaped
import Derived.Shelf.Strings.Split
import Derived.Shelf.Unicode.DecodeSlow
namespace Go.Proofs.YtdcacpeaimjdlaaGreatDoor
open Go.RowKit Go.Maps Go.Proofs.Tryz Mq
open Go.Value renaming int→J,slice→Z,string→aA,pointer→aK,bool→aO,tuple→aN,agg→aS,complex→aH
open Go.IntKind renaming i64→U
open Option renaming none→O,some→R
open Go.Ending renaming returned→av
open Go renaming World→aB,Value→aI,Calls→aF,Addr→aX,TypeId→bB,undef→bq
open Go.RowKit renaming Below→aJ
open Go.Proofs.Tryz renaming prog→au
open Go.FloatKind renaming f64→aW
set_option maxRecDepth 20000
set_option maxHeartbeats 0
set_option linter.all false
section
open Go.Shelf
def Tryz.lays137_ren:Go.Shelf.Ren:=⟨fun|137=>320|217=>329|266=>335|a=>a,fun|9=>9|5=>5|3=>3|a=>a,fun|a=>a⟩
def Tryz.lays137:Go.Proofs.Lays.n137 au Tryz.lays137_ren:={
 mixed:=Y3
 f137:=func320.trans (bE R Y3)
 f217:=func329.trans (bE R Y3)
 f266:=func335.trans (bE R Y3)
 t3:=underlying3
 a3:=Tryz.isAgg3
 z3:=Tryz.sizeOf3
 v3:=Tryz.zeroValue3
 t5:=underlying5
 a5:=Tryz.isAgg5
 z5:=Tryz.sizeOf5
 v5:=Tryz.zeroValue5
 t9:=underlying9
 a9:=Tryz.isAgg9
 z9:=Tryz.sizeOf9
 v9:=Tryz.zeroValue9}
open Go.RowKit in
def Tryz.strings_IndexByte (a:ByteArray) (b:Int) (c:aB):
  aF au 320 #[aA a,J .u8 b] c fun d e=>d=av (J U (Lib.indexByte a.data.toList b.toNat.toUInt8))∧e=c:=Any.strings_IndexByte Tryz.lays137 a b c
def Tryz.lays169_ren:Go.Shelf.Ren:=⟨fun|169=>323|a=>a,fun|70=>421|9=>9|0=>0|72=>423|37=>28|127=>432|3=>3|5=>5|a=>a,fun|a=>a⟩
def Tryz.lays169:Go.Proofs.Lays.n169 au Tryz.lays169_ren:={
 mixed:=Y3
 f169:=func323.trans (bE R Y3)
 t0:=underlying0
 a0:=Tryz.isAgg0
 z0:=Tryz.sizeOf0
 v0:=Tryz.zeroValue0
 t3:=underlying3
 a3:=Tryz.isAgg3
 z3:=Tryz.sizeOf3
 v3:=Tryz.zeroValue3
 t9:=underlying9
 a9:=Tryz.isAgg9
 z9:=Tryz.sizeOf9
 v9:=Tryz.zeroValue9
 t37:=underlying28
 a37:=Tryz.isAgg28
 z37:=Tryz.sizeOf28
 v37:=Tryz.zeroValue28
 t70:=underlying421
 a70:=Tryz.isAgg421
 z70:=Tryz.sizeOf421
 v70:=Tryz.zeroValue421
 t72:=underlying423
 a72:=Tryz.isAgg423
 z72:=Tryz.sizeOf423
 v72:=Tryz.zeroValue423
 t127:=underlying432
 a127:=Tryz.isAgg432
 z127:=Tryz.sizeOf432
 v127:=Tryz.zeroValue432}
def Tryz.Builder_Extra_169:Builder.Extra au Tryz.lays169_ren:={
 sizeBuilder:=Y3
 liesBuilder:=Y3
 t5:=underlying5
 a5:=Tryz.isAgg5
 z5:=Tryz.sizeOf5
 v5:=Tryz.zeroValue5
 infoByte:=Y3
 cellsByte:=Y3
 sizeByte:=Y3
 neB5:=by decide}
open Go.RowKit in
def Tryz.Builder_String_any (b c:Nat) (d:List UInt8) (a:aB) (e:Lib.IsBuilder 423 5 b c (Lib.byteCells d) a) (f:b≤a.heap.size):
  aF au 323 #[qp c] a fun g h=>g=av (aA ⟨d.toArray⟩)∧aJ b a h:=Any.Builder_String_any Tryz.lays169 Tryz.Builder_Extra_169 b c d a e f
def Tryz.lays146_ren:Go.Shelf.Ren:=⟨fun|146=>249|221=>280|268=>312|138=>313|143=>314|195=>324|197=>325|218=>326|219=>327|260=>331|217=>329|225=>332|224=>333|267=>334|266=>335|314=>337|a=>a,fun|9=>9|31=>229|3=>3|4=>4|0=>0|105=>429|21=>21|5=>5|46=>228|119=>435|139=>438|138=>437|146=>439|51=>374|a=>a,fun|1=>1|3=>2|4=>3|a=>a⟩
def Tryz.lays146:Go.Proofs.Lays.n146 au Tryz.lays146_ren:={
 mixed:=Y3
 f138:=func313.trans (bE R Y3)
 f143:=func314.trans (bE R Y3)
 f146:=func249.trans (bE R Y3)
 f195:=func324.trans (bE R Y3)
 f197:=func325.trans (bE R Y3)
 f217:=func329.trans (bE R Y3)
 f218:=func326.trans (bE R Y3)
 f219:=func327.trans (bE R Y3)
 f221:=func280.trans (bE R Y3)
 f224:=func333.trans (bE R Y3)
 f225:=func332.trans (bE R Y3)
 f260:=func331.trans (bE R Y3)
 f266:=func335.trans (bE R Y3)
 f267:=func334.trans (bE R Y3)
 f268:=func312.trans (bE R Y3)
 f314:=func337.trans (bE R Y3)
 t0:=underlying0
 a0:=Tryz.isAgg0
 z0:=Tryz.sizeOf0
 v0:=Tryz.zeroValue0
 t3:=underlying3
 a3:=Tryz.isAgg3
 z3:=Tryz.sizeOf3
 v3:=Tryz.zeroValue3
 t4:=underlying4
 a4:=Tryz.isAgg4
 z4:=Tryz.sizeOf4
 v4:=Tryz.zeroValue4
 t5:=underlying5
 a5:=Tryz.isAgg5
 z5:=Tryz.sizeOf5
 v5:=Tryz.zeroValue5
 t9:=underlying9
 a9:=Tryz.isAgg9
 z9:=Tryz.sizeOf9
 v9:=Tryz.zeroValue9
 t21:=underlying21
 a21:=Tryz.isAgg21
 z21:=Tryz.sizeOf21
 v21:=Tryz.zeroValue21
 t31:=underlying229
 a31:=Tryz.isAgg229
 z31:=Tryz.sizeOf229
 v31:=Tryz.zeroValue229
 t46:=underlying228
 a46:=Tryz.isAgg228
 z46:=Tryz.sizeOf228
 v46:=Tryz.zeroValue228
 t51:=underlying374
 a51:=Tryz.isAgg374
 z51:=Tryz.sizeOf374
 v51:=Tryz.zeroValue374
 t105:=underlying429
 a105:=Tryz.isAgg429
 z105:=Tryz.sizeOf429
 v105:=Tryz.zeroValue429
 t119:=underlying435
 a119:=Tryz.isAgg435
 z119:=Tryz.sizeOf435
 t138:=underlying437
 a138:=Tryz.isAgg437
 z138:=Tryz.sizeOf437
 v138:=Tryz.zeroValue437
 t139:=underlying438
 a139:=Tryz.isAgg438
 z139:=Tryz.sizeOf438
 v139:=Tryz.zeroValue438
 t146:=underlying439
 a146:=Tryz.isAgg439
 z146:=Tryz.sizeOf439
 v146:=Tryz.zeroValue439
 g1:=Y3
 g3:=Y3
 g4:=by kernel_rfl}
open Go.RowKit Go.Lib in
def Tryz.strings_Split (a b:ByteArray) (d:Int) (c:aB) (e:a.size<4294967281) (f:c.cell? ⟨1,0,O⟩=R (J U d)) (g:1≤b.size):
  aF au 249 #[aA a,aA b] c fun h i=>
   h=av (Z (R ⟨c,0,O⟩) (Lib.countB a b+1) (Lib.countB a b+1))∧i=c.alloc (.cells ((Lib.splitB b 0 (Lib.countB a b) a).map aA).toArray 9):=Any.strings_Split Tryz.lays146 (by kernel_rfl) a b d c e f g
def Tryz.lays113_ren:Go.Shelf.Ren:=⟨fun|113=>101|a=>a,fun|28=>37|3=>3|4=>4|9=>9|20=>20|0=>0|a=>a,fun|a=>a⟩
def Tryz.lays113:Go.Proofs.Lays.n113 au Tryz.lays113_ren:={
 mixed:=Y3
 f113:=func101.trans (bE R Y3)
 t0:=underlying0
 a0:=Tryz.isAgg0
 z0:=Tryz.sizeOf0
 v0:=Tryz.zeroValue0
 t3:=underlying3
 a3:=Tryz.isAgg3
 z3:=Tryz.sizeOf3
 v3:=Tryz.zeroValue3
 t4:=underlying4
 a4:=Tryz.isAgg4
 z4:=Tryz.sizeOf4
 v4:=Tryz.zeroValue4
 t9:=underlying9
 a9:=Tryz.isAgg9
 z9:=Tryz.sizeOf9
 v9:=Tryz.zeroValue9
 t20:=underlying20
 a20:=Tryz.isAgg20
 z20:=Tryz.sizeOf20
 v20:=Tryz.zeroValue20
 t28:=underlying37
 a28:=Tryz.isAgg37
 z28:=Tryz.sizeOf37
 v28:=Tryz.zeroValue37}
open Go.Lib in
def Tryz.slices_Max_int (d e a g:Nat) (b:List Int) (c:aB) (h:0<a) (i:a≤b.length) (j:a≤9223372036854775807) (k:∀f,f<b.length→c.cell? ⟨d,e+f,O⟩=R (J U (b.getD f 0))):
  aF au 101 #[Z (R ⟨d,e,O⟩) a g] c fun f l=>f=av (J U (Lib.maxOf (b.take a)))∧l=c:=Any.slices_Max_int Tryz.lays113 d e a g b c h i j k
def Tryz.laysNm220_ren:Go.Shelf.Ren:=⟨fun|20=>181|a=>a,fun|22=>37|3=>3|4=>4|0=>0|a=>a,fun|a=>a⟩
def Tryz.laysNm220:Go.Proofs.Lays2.n20 au Tryz.laysNm220_ren:={
 mixed:=Y3
 f20:=func181.trans (bE R Y3)
 t0:=underlying0
 a0:=Tryz.isAgg0
 z0:=Tryz.sizeOf0
 v0:=Tryz.zeroValue0
 t3:=underlying3
 a3:=Tryz.isAgg3
 z3:=Tryz.sizeOf3
 v3:=Tryz.zeroValue3
 t4:=underlying4
 a4:=Tryz.isAgg4
 z4:=Tryz.sizeOf4
 v4:=Tryz.zeroValue4
 t22:=underlying37
 a22:=Tryz.isAgg37
 z22:=Tryz.sizeOf37
 v22:=Tryz.zeroValue37
 i3:=by kernel_rfl}
open Go.RowKit Go.Lib Go.Sort in
def Tryz.slices_Compact_int (b c d:Nat) (a:List Int) (e:aB) (f:Holds (J U) e b c a.toArray) (g:a.length≤9223372036854775807) (h:a.length≤d):
  aF au 181 #[Z (R ⟨b,c,O⟩) a.length d] e fun i j=>i=av (Z (R ⟨b,c,O⟩) (Lib.compact a).length d)∧∃i,j=putRow (J U) (Sort.ahead e i) b c (Lib.compact a++List.replicate (a.length- (Lib.compact a).length) 0).toArray:=Any.slices_Compact_int Tryz.laysNm220 b c d a e f g h
open Go.RowKit Go.Lib Go.Sort in
def Tryz.slices_Compact_int_empty (a:Option aX) (b:Nat) (c:aB):
  aF au 181 #[Z a 0 b] c fun d e=>d=av (Z a 0 b)∧e=c:=Any.slices_Compact_int_empty Tryz.laysNm220 a b c
def Tryz.lc34_ren:Go.Shelf.Ren:=⟨fun|41=>34|a=>a,fun|22=>28|23=>5|4=>4|a=>a,fun|a=>a⟩
def Tryz.lc34:Go.Proofs.SlLaysE0.n41 au Tryz.lc34_ren:={
 mixed:=Y3
 f41:=⟨f34.name,Y2,func34.trans (bE R Y3)⟩
 t4:=underlying4
 a4:=Tryz.isAgg4
 z4:=Tryz.sizeOf4
 v4:=Tryz.zeroValue4
 t22:=underlying28
 a22:=Tryz.isAgg28
 z22:=Tryz.sizeOf28
 v22:=Tryz.zeroValue28}
def Tryz.lc44_ren:Go.Shelf.Ren:=⟨fun|41=>44|a=>a,fun|22=>35|23=>72|4=>4|a=>a,fun|a=>a⟩
def Tryz.lc44:Go.Proofs.SlLaysE0.n41 au Tryz.lc44_ren:={
 mixed:=Y3
 f41:=⟨f44.name,Y2,func44.trans (bE R Y3)⟩
 t4:=underlying4
 a4:=Tryz.isAgg4
 z4:=Tryz.sizeOf4
 v4:=Tryz.zeroValue4
 t22:=underlying35
 a22:=Tryz.isAgg35
 z22:=Tryz.sizeOf35
 v22:=Tryz.zeroValue35}
def Tryz.lc45_ren:Go.Shelf.Ren:=⟨fun|41=>45|a=>a,fun|22=>36|23=>91|4=>4|a=>a,fun|a=>a⟩
def Tryz.lc45:Go.Proofs.SlLaysE0.n41 au Tryz.lc45_ren:={
 mixed:=Y3
 f41:=⟨f45.name,Y2,func45.trans (bE R Y3)⟩
 t4:=underlying4
 a4:=Tryz.isAgg4
 z4:=Tryz.sizeOf4
 v4:=Tryz.zeroValue4
 t22:=underlying36
 a22:=Tryz.isAgg36
 z22:=Tryz.sizeOf36
 v22:=Tryz.zeroValue36}
def Tryz.lc46_ren:Go.Shelf.Ren:=⟨fun|41=>46|a=>a,fun|22=>37|23=>3|4=>4|a=>a,fun|a=>a⟩
def Tryz.lc46:Go.Proofs.SlLaysE0.n41 au Tryz.lc46_ren:={
 mixed:=Y3
 f41:=⟨f46.name,Y2,func46.trans (bE R Y3)⟩
 t4:=underlying4
 a4:=Tryz.isAgg4
 z4:=Tryz.sizeOf4
 v4:=Tryz.zeroValue4
 t22:=underlying37
 a22:=Tryz.isAgg37
 z22:=Tryz.sizeOf37
 v22:=Tryz.zeroValue37}
def Tryz.lc71_ren:Go.Shelf.Ren:=⟨fun|41=>71|a=>a,fun|22=>50|23=>93|4=>4|a=>a,fun|a=>a⟩
def Tryz.lc71:Go.Proofs.SlLaysE0.n41 au Tryz.lc71_ren:={
 mixed:=Y3
 f41:=⟨f71.name,Y2,func71.trans (bE R Y3)⟩
 t4:=underlying4
 a4:=Tryz.isAgg4
 z4:=Tryz.sizeOf4
 v4:=Tryz.zeroValue4
 t22:=underlying50
 a22:=Tryz.isAgg50
 z22:=Tryz.sizeOf50
 v22:=Tryz.zeroValue50}
def Tryz.lc96_ren:Go.Shelf.Ren:=⟨fun|41=>96|a=>a,fun|22=>159|23=>213|4=>4|a=>a,fun|a=>a⟩
def Tryz.lc96:Go.Proofs.SlLaysE0.n41 au Tryz.lc96_ren:={
 mixed:=Y3
 f41:=⟨f96.name,Y2,func96.trans (bE R Y3)⟩
 t4:=underlying4
 a4:=Tryz.isAgg4
 z4:=Tryz.sizeOf4
 v4:=Tryz.zeroValue4
 t22:=underlying159
 a22:=Tryz.isAgg159
 z22:=Tryz.sizeOf159
 v22:=Tryz.zeroValue159}
def Tryz.li99_ren:Go.Shelf.Ren:=⟨fun|29=>99|a=>a,fun|22=>25|23=>4|3=>3|0=>0|4=>4|a=>a,fun|a=>a⟩
def Tryz.li99:Go.Proofs.SlLaysE.n29 au Tryz.li99_ren:={
 mixed:=Y3
 f29:=⟨f99.name,Y2,func99.trans (bE R Y3)⟩
 t0:=underlying0
 a0:=Tryz.isAgg0
 z0:=Tryz.sizeOf0
 v0:=Tryz.zeroValue0
 t3:=underlying3
 a3:=Tryz.isAgg3
 z3:=Tryz.sizeOf3
 v3:=Tryz.zeroValue3
 t4:=underlying4
 a4:=Tryz.isAgg4
 z4:=Tryz.sizeOf4
 v4:=Tryz.zeroValue4
 t22:=underlying25
 a22:=Tryz.isAgg25
 z22:=Tryz.sizeOf25
 v22:=Tryz.zeroValue25
 a23:=Tryz.isAgg4
 z23:=Tryz.sizeOf4}
def Tryz.lf40_ren:Go.Shelf.Ren:=⟨fun|8=>40|6=>79|a=>a,fun|22=>32|23=>63|25=>106|4=>4|3=>3|0=>0|a=>a,fun|a=>a⟩
def Tryz.lf40:Go.Proofs.SlLaysH0.n8 au Tryz.lf40_ren:={
 mixed:=Y3
 f6:=⟨f79.name,Y2,func79.trans (bE R Y3)⟩
 f8:=⟨f40.name,Y2,func40.trans (bE R Y3)⟩
 t0:=underlying0
 a0:=Tryz.isAgg0
 z0:=Tryz.sizeOf0
 v0:=Tryz.zeroValue0
 t3:=underlying3
 a3:=Tryz.isAgg3
 z3:=Tryz.sizeOf3
 v3:=Tryz.zeroValue3
 t4:=underlying4
 a4:=Tryz.isAgg4
 z4:=Tryz.sizeOf4
 v4:=Tryz.zeroValue4
 t22:=underlying32
 a22:=Tryz.isAgg32
 z22:=Tryz.sizeOf32
 v22:=Tryz.zeroValue32
 t25:=underlying106
 a25:=Tryz.isAgg106
 z25:=Tryz.sizeOf106
 v25:=Tryz.zeroValue106}
end
def jU (a:ByteArray):(a.toList=[]∧a.size=0)∨(a.toList.isEmpty=false∧0<a.size):=by
 cases h:a.toList with
 |nil=>exact .inl ⟨rfl,by rw[←rF,h];rfl⟩
 |cons a b=>exact .inr ⟨rfl,by rw[←rF,h];simp⟩
def qV {a:ByteArray} (b:a.toList.isEmpty=false):¬a.toList=[]:=by intro a;rw[a]at b;cases b
def IK (a:ByteArray) (b:aB) (c:a.size≤1000000):aF au 296 #[aA a] b fun d c=>d=av (aO (mq a))∧b=c:=by
 have f:=fun b=>aj (DT (a.extract 1 a.size) b (by simp;omega));rcases jU a with⟨e,c⟩|⟨e,c⟩
 ·have b:Y (mq a=false):=aj (by unfold mq;rw[dif_neg Y0]);have g:a.toList.isEmpty=true:=by rw[e];rfl
  go_enter func296,ntmps296;go_wp2;go_ret;exact⟨by rw[b.o];rfl,rfl⟩
 ·have g:=qV e;by_cases e:((a[0]'c).toNat:Int)=58
  ·have b:Y (mq a=uy (a.extract 1 a.size).toList):=aj (by unfold mq;rw[dif_pos c,aP e]);go_enter func296,ntmps296;go_wp2_with (go_at_call 295;refine(f _).o.mono ?_;rintro d g ⟨rfl,rfl⟩);go_ret;exact⟨by rw[b.o];rfl,rfl⟩
  ·have b:Y (mq a=false):=aj (by unfold mq;rw[dif_pos c,aL e]);go_enter func296,ntmps296;go_wp2_with (go_at_call 295;refine(f _).out.mono ?_;rintro d g ⟨rfl,rfl⟩);go_ret;exact⟨by rw[b.o];rfl,rfl⟩
def MZ (a:ByteArray) (b:aB) (c:a.size≤1000000):aF au 297 #[aA a] b fun d c=>d=av (aO (kT a))∧b=c:=by
 rcases jU a with⟨e,b⟩|⟨e,b⟩
 ·have c:Y (kT a=true):=aj (by unfold kT;rw[dif_neg Y0]);have f:a.toList.isEmpty=true:=by rw[e];rfl
  go_enter func297,ntmps297;go_wp2;go_ret;exact⟨by rw[c.o];rfl,rfl⟩
 ·have f:=qV e;have h:a.size-1<a.size:=Y0;have e:(1:Int)≤(a.size:Int):=Y0;have e:(a.size:Int)-1<(a.size:Int):=Y0;by_cases e:(0:Int)≤Lib.indexByte [32,9] (a[0]'b)
  ·have c:Y (kT a=false):=aj (by unfold kT yC;rw[dif_pos b,cO e];rfl);go_enter func297,ntmps297;go_wp2_with (go_at_call 320;refine(Tryz.strings_IndexByte _ _ _).mono ?_;rintro d g ⟨rfl,rfl⟩);all_goals
    go_ret;exact⟨by rw[c.o];rfl,rfl⟩
  ·by_cases f:(0:Int)≤Lib.indexByte [32,9] (a[a.size-1]'h)
   ·have c:Y (kT a=false):=aj (by unfold kT yC;rw[dif_pos b,cO f];simp);go_enter func297,ntmps297;go_wp2_with (go_at_call 320;refine(Tryz.strings_IndexByte _ _ _).mono ?_;rintro d g ⟨rfl,rfl⟩);all_goals
     go_ret;exact⟨by rw[c.o];rfl,rfl⟩
   ·have c:Y (kT a=a.toList.all YL):=aj (by unfold kT yC;rw[dif_pos b,dK e,dK f];rfl);go_enter func297,ntmps297;go_wp2_with (go_at_call 320;refine(Tryz.strings_IndexByte _ _ _).mono ?_;rintro d g ⟨rfl,rfl⟩);clear e f;go_loop [21] (fun f=>∃b:Nat,b≤a.size∧f=J U b∧Y ((a.toList.take b).all YL=true)) (fun f=>a.size- (intOf f).toNat);case atStart=>exact⟨0,aZ _,rfl,aj rfl⟩
    case round=>
     obtain⟨b,f,rfl,h⟩:=hrel;by_cases i:b<a.size
     ·cases hq:YL a[b]
      ·have f:Y (kT a=false):=aj (by rw[c.o,List.all_eq_false];exact⟨a[b],bP (yD a b i),by rw[hq];decide⟩)
       have g:(a[b].toNat:Int)=0∨(a[b].toNat:Int)=10∨(a[b].toNat:Int)=13:=by unfold YL at hq;simpa only[Bool.not_eq_false',Bool.or_eq_true,dX]using hq
       clear hq;rcases g with d|d|d
       all_goals
        go_wp2;go_ret;exact⟨by rw[f.o];rfl,rfl⟩
      ·have f:Y ((a.toList.take (b+1)).all YL=true):=aj (by rw[List.take_add_one,yD a b i,List.all_append,h.o];simp[hq])
       have g:((a[b].toNat:Int)==0)=false∧((a[b].toNat:Int)==10)=false∧((a[b].toNat:Int)==13)=false:=by simpa[YL]using hq
       obtain⟨d,i,j⟩:=g;clear hq;go_wp2;go_round;case rel=>exact⟨b+1,Y0,by go_num,f⟩
       case measure=>simp[intOf];omega
     ·have f:Y (kT a=true):=aj (by have e:=h.o;rw[bW (by rw[rF];omega)]at e;rw[c.o,e])
      go_wp2;go_ret;exact⟨by rw[f.o];rfl,rfl⟩
def IL (a:ByteArray) (b:aB):aF au 298 #[aA a] b fun c d=>c=av (aO (uz a.toList))∧b=d:=by
 unfold uz;obtain⟨b,c⟩:=exq ((a.toList==[99,111,110,110,101,99,116,105,111,110]));obtain⟨d,e⟩:=exq ((a.toList==[107,101,101,112,45,97,108,105,118,101]));obtain⟨f,g⟩:=exq ((a.toList==[112,114,111,120,121,45,99,111,110,110,101,99,116,105,111,110]));obtain⟨h,i⟩:=exq ((a.toList==[116,114,97,110,115,102,101,114,45,101,110,99,111,100,105,110,103]));obtain⟨j,k⟩:=exq ((a.toList==[117,112,103,114,97,100,101]));rw[c,e,g,i,k];cases b;case true=>go_enter func298,ntmps298;go_wp2;go_ret;exact Y5
 cases d;case true=>go_enter func298,ntmps298;go_wp2;go_ret;exact Y5
 cases f;case true=>go_enter func298,ntmps298;go_wp2;go_ret;exact Y5
 cases h;case true=>go_enter func298,ntmps298;go_wp2;go_ret;exact Y5
 cases j;all_goals
  go_enter func298,ntmps298;go_wp2;go_ret;exact Y5
def oZ (a:Fd) (b:aB):aF au 302 #[aS #[aA a.n,aA a.v,a.a]] b fun c d=>c=av (aO (gQ a))∧aJ b b d:=by
 have e:=aj ((ay b.heap.size b).alloc (aD _) (.cells #[aA a.n,aA a.v,a.a] 93));rcases jU a.n with⟨b,c⟩|⟨b,c⟩
 ·have d:Y (gQ a=false):=aj (by unfold gQ;rw[dif_neg Y0]);have f:a.n.toList.isEmpty=true:=by rw[b];rfl
  go_enter func302,ntmps302;go_wp2;go_ret;exact⟨by rw[d.o];rfl,e.o⟩
 ·have f:=qV b;have d:Y (gQ a=(((a.n[0]'c).toNat:Int)==58)):=aj (by unfold gQ;rw[dif_pos c]);go_enter func302,ntmps302;go_wp2;go_ret;exact⟨by rw[d.o];rfl,e.o⟩
def Na (a:Fd) (b:aB) (d:a.n.size≤1000000) (e:a.v.size≤1000000):aF au 265 #[aS #[aA a.n,aA a.v,a.a]] b fun c f=>c=av (aO (Cc a))∧aJ b b f:=by
 have i:=aj ((ay b.heap.size b).alloc (aD _) (.cells #[aA a.n,aA a.v,a.a] 93));have f:=fun b=>aj (DT a.n b d);have g:=fun b=>aj (IK a.n b d);have h:=fun b=>aj (MZ a.v b e);unfold Cc;obtain⟨j,b⟩:=exq (uy a.n.toList);obtain⟨k,d⟩:=exq (mq a.n);obtain⟨l,e⟩:=exq (kT a.v);rw[b,d,e];rw[b]at f;rw[d]at g;rw[e]at h;clear b d e;cases j<;>cases k;all_goals
  go_enter func265,ntmps265;go_wp2_with (first|(go_at_call 295;refine(f _).o.mono ?_;rintro c a ⟨rfl,rfl⟩)|(go_at_call 296;refine(g _).o.mono ?_;rintro c a ⟨rfl,rfl⟩)|(go_at_call 297;refine(h _).o.mono ?_;rintro c a ⟨rfl,rfl⟩));go_ret;exact⟨rfl,i.o⟩
def Zz:(Tryz.prog.info? 5).map (fun a=>(a.zero,a.size,a.bytes))=R (R (J .u8 0),1,1):=by kernel_rfl
def ER:(Tryz.prog.info? 423).map (·.size)=R 2:=by kernel_rfl
def QI:liesAt au Tryz.prog.depth 423 (2/Tryz.prog.cellsOf 423) 0 423 1=true:=by kernel_rfl
def Nb (b:Nat) (a:aB) (c:a.cell? ⟨b,0,O⟩=R (aK (R ⟨b,0,O⟩))):
  aF au 330 #[qp b] a fun b c=>b=av (aN #[])∧a=c:=by obtain⟨c,b,_⟩:=Option.map_eq_some_iff.1 ER;go_enter func330,ntmps330;go_wp2;rw[Lib.run_neq_ptr_same a _ underlying421 b];go_wp2;go_end0;exact Y5
def IQ (a:Nat) (b:aB) (c:b.cell? ⟨a,0,O⟩=R (aK O)) (c:b.shape? a=R (423,2)) (d:b.frozen? ⟨a,0,O⟩=false):
  aF au 330 #[qp a] b fun d e=>d=av (aN #[])∧e=b.setCell ⟨a,0,O⟩ (aK (R ⟨a,0,O⟩)):=by obtain⟨f,d,e⟩:=Option.map_eq_some_iff.1 ER;go_enter func330,ntmps330;go_wp2;rw[Lib.run_to_unsafe b ⟨a,0,O⟩ underlying421 underlying433 d (by rw[e];decide) c (Nat.zero_lt_succ 1)];simp only[Result.andThen];rw[Oper.upon_value];go_wp2;rw[run_callFunc_extern func336 Y3 Y3 Y3 (e:=Extern.AbiNoEscape.same) Y3];rw[Lib.run_noEscape];simp only[Result.andThen];rw[Oper.upon_value];go_wp2;rw[Lib.run_from_unsafe b ⟨a,0,O⟩ underlying433 underlying421 d c QI];simp only[Result.andThen];rw[Oper.upon_value];go_wp2;go_end0;exact Y5
def QJ (d b:Nat) (g:List aI) (c:aB) (a:Lib.IsBuilder 423 5 d b g c):
  aF au 330 #[qp b] c fun f e=>f=av (aN #[])∧(Lib.BuilderAt 423 5 d b (aK (R ⟨b,0,O⟩)) g e∧aJ d c e):=by
 rcases a with a|a
 ·refine mB (IQ b c a.cell0 a.shape a.frozen0) ?_;rintro e rfl;exact⟨rfl,a.used _,(ay d c).setCell (p:=⟨b,0,O⟩) a.1 _⟩
 ·refine mB (Nb b c a.cell0) ?_;rintro e rfl;exact⟨rfl,a,ay d _⟩
def zw (c a:Nat) (b:List aI) (d:Int) (e:aB) (h:Y (Lib.IsBuilder 423 5 c a b e)) (f:b.length+1≤100000000) (f:c≤e.heap.size):
  aF au 322 #[qp a,J .u8 d] e fun f g=>f=av .nilIface∧(Lib.BuilderAt 423 5 c a (aK (R ⟨a,0,O⟩)) (b++[J .u8 d]) g∧aJ c e g):=by
 go_enter func322,ntmps322;go_wp2_with fail;refine mB (QJ c a b _ h.o) fun e ⟨h,j⟩=>?_;obtain⟨l,i,g,k,m⟩:=h;obtain⟨h,i,n⟩:=dB k;subst n;have n:e.cell? ⟨a,1,O⟩=R (Z h b.length i):=by rw[Lib.cell_of_heap g];rfl
 have o:a<e.heap.size:=(Array.getElem?_eq_some_iff.1 g).1;have n:=j.size;have p:=aj g;have q:=aj j;have n:=aj k;have r:=aj m;clear g j k m;go_wp2_with (at_builtin;go_loud (refine jP rfl (.tmp 11) (.tmp 13) 28 rfl c 5 Zz rfl underlying28 h b.length i b (J .u8 d) rfl n.o e.heap.size rfl rfl rfl (by unfold maxLen;omega) Y0 Y0 ?_));intro m s g k j;have c:g.heap[a]?=R (.cells #[qp a,Z h b.length i] 423 (0,0)):=by rw[j.block a (by simp;omega) (fun f=>r.o f.symm),Lib.alloc_old e _ a o];exact p.o
 have e:g.cell? ⟨a,1,O⟩=R (Z h b.length i):=by rw[Lib.cell_of_heap c];rfl
 have e:=Lib.frozen_of_heap c 1;have e:=aj c;have f:=aj j;have g:=aj k;clear c j k;go_wp2;go_ret;refine⟨rfl,?_,?_⟩
 ·exact Lib.BuilderAt.put (T:=423) (e:=5) l e.o (bs':=b++[J .u8 d]) (Y6 g.o) Y2
 ·exact((q.o.alloc Y0 _).grown f.o (by simp;omega) (fun b c=>(n.o.lt b c).1)).setCell (p:=⟨a,1,O⟩) l _
def QK (a:UInt8):((Ve a).toNat:Int)=if nN (a.toNat:Int)=true then(a.toNat:Int)+32 else a.toNat:=by
 unfold Ve;split
 ·rename_i b;have:(a.toNat:Int)≤90:=by unfold nN at b;simp at b;omega
  rw[UInt8.toNat_add];show(((a.toNat+32)%256:Nat):Int)=_
  omega
 ·rfl
def Nc (b:ByteArray) (a:aB) (c:b.size≤1000000):aF au 299 #[aA b] a fun d c=>d=av (aA (LW (lT b.toList)))∧aJ a.heap.size a c:=by
 have n:=fun e a f g=>aj (show aF au 321 #[J .u8 e] a fun d c=>d=av (aO f)∧a=c from by rw[←(g:nN e=f)];exact AZ e a);have g:Y (Lib.IsBuilder 423 5 a.heap.size a.heap.size (Lib.byteCells []) (a.alloc (.cells #[aK O,Z O 0 0] 423))):=aj (.inl ⟨aD _,_,heap_alloc_new a _,aT _ _ _ _,by simp[Value.ownBlock]⟩);have h:=aj ((ay a.heap.size a).alloc (aD _) (.cells #[aK O,Z O 0 0] 423));go_enter func299,ntmps299;go_wp2;go_loopw [8] (fun e wr=>∃c:Nat,c≤b.size∧e=J U c∧Y (Lib.IsBuilder 423 5 a.heap.size a.heap.size (Lib.byteCells (lT (b.toList.take c))) wr)∧Y (aJ a.heap.size a wr)) (fun e _=>b.size- (intOf e).toNat);case atStart=>exact⟨0,aZ _,rfl,g,h⟩
 case round=>
  obtain⟨c,e,rfl,i,f⟩:=hrel;clear g h;by_cases e:c<b.size
  ·have j:(Lib.byteCells (lT (b.toList.take c))).length=c:=by rw[Lib.byteCells_length];unfold lT;rw[List.length_map,dw,rF];omega
   have k:Y (Lib.byteCells (lT (b.toList.take (c+1)))=Lib.byteCells (lT (b.toList.take c))++[J .u8 ((Ve b[c]).toNat:Int)]):=aj (by rw[List.take_add_one,yD b c e];unfold lT Lib.byteCells;simp)
   have e:=u8r b[c];have e:=QK b[c];have o:a.heap.size≤wr.heap.size:=f.o.size;cases hq:nN ((b[c]).toNat:Int)
   ·have l:=fun a=>n _ a _ hq;rw[hq,aL Y2]at e;rw[e]at k;clear hq e;have g:=aj (zw a.heap.size a.heap.size _ ((b[c]).toNat:Int) wr i (by rw[j];omega) o);clear j;go_wp2_with (first|(go_at_call 321;refine(l _).o.mono ?_;rintro d q ⟨rfl,rfl⟩)|(go_at_call 322;refine g.o.mono ?_;rintro d p ⟨rfl,m,h⟩));go_roundw;case rel=>exact⟨c+1,Y0,by go_num,aj (by rw[k.o];exact .inr m),aj (f.o.trans h)⟩
    case measure=>simp[intOf];omega
   ·have l:=fun a=>n _ a _ hq;have n:((b[c]).toNat:Int)≤90:=by unfold nN at hq;simp at hq;omega
    rw[hq,aP rfl]at e;rw[e]at k;clear hq e;have g:=aj (zw a.heap.size a.heap.size _ ((b[c]).toNat+32:Int) wr i (by rw[j];omega) o);clear j;go_wp2_with (first|(go_at_call 321;refine(l _).o.mono ?_;rintro d q ⟨rfl,rfl⟩)|(go_at_call 322;refine g.o.mono ?_;rintro d p ⟨rfl,m,h⟩));go_roundw;case rel=>exact⟨c+1,Y0,by go_num,aj (by rw[k.o];exact .inr m),aj (f.o.trans h)⟩
    case measure=>simp[intOf];omega
  ·have e:Y (b.toList.take c=b.toList):=aj (bW (by rw[rF];omega));rw[e.o]at i;have g:=aj (Tryz.Builder_String_any a.heap.size a.heap.size _ wr i.o f.o.size);go_wp2_with (go_at_call 323;refine g.o.mono ?_;rintro d p ⟨rfl,h⟩);go_ret;exact⟨rfl,f.o.trans h⟩
def QL (a:Fd) (b:aB) (f:a.v.size≤1000000):aF au 266 #[aS #[aA a.n,aA a.v,a.a]] b fun c d=>c=av (aO (DN a))∧aJ b b d:=by
 have g:=aj ((ay b.heap.size b).alloc (aD _) (.cells #[aA a.n,aA a.v,a.a] 93));have d:=fun b=>aj (IL a.n b);have e:=fun b=>aj (Nc a.v b f);have b:Y (DN a=(uz a.n.toList||(a.n.toList==[116,101]&& !(LW (lT a.v.toList)).toList==[116,114,97,105,108,101,114,115]))):=aj (by unfold DN;rw[show(LW (lT a.v.toList)).toList=lT a.v.toList from by rw[ByteArray.toList_eq];rfl];rfl)
 rw[b.o];clear b;obtain⟨h,b⟩:=exq (uz a.n.toList);obtain⟨i,j⟩:=exq ((a.n.toList==[116,101]));obtain⟨k,f⟩:=exq (LW (lT a.v.toList));rw[b,j,f];rw[b]at d;rw[f]at e;clear b f;cases h
 ·cases i
  ·go_enter func266,ntmps266;go_wp2_with (first|(go_at_call 298;refine(d _).o.mono ?_;rintro c b ⟨rfl,rfl⟩)|(go_at_call 299;refine(e _).out.mono ?_;rintro c b ⟨rfl,a⟩;have f:=hide a;clear a));go_ret;exact⟨rfl,g.o⟩
  ·go_enter func266,ntmps266;go_wp2_with (first|(go_at_call 298;refine(d _).o.mono ?_;rintro c b ⟨rfl,rfl⟩)|(go_at_call 299;refine(e _).o.mono ?_;rintro c b ⟨rfl,a⟩;have f:=aj a;clear a));go_ret;exact⟨rfl,gN (ay _ _) f.o⟩
 ·go_enter func266,ntmps266;go_wp2_with (first|(go_at_call 298;refine(d _).o.mono ?_;rintro c b ⟨rfl,rfl⟩));go_ret;exact⟨rfl,g.o⟩
def pq:∀{l:List Fd} {i:Nat} {f:Fd},l[i]?=R f→(dx l)[i*3]?=R (aA f.n)∧(dx l)[i*3+1]?=R (aA f.v)∧(dx l)[i*3+2]?=R (aO f.a)
 |c::b,0,f,a=>by simp at a;subst a;exact⟨rfl,rfl,rfl⟩
 |c::b,i+1,f,a=>by
  have:=pq (l:=b) (i:=i) (f:=f) (Y6 a)
  unfold dx at this⊢
  rw[List.flatMap_cons]
  have a:(i+1)*3=i*3+3:=Y0
  rw[a]
  exact this
def lD (a:List Fd):(dx a).length=a.length*3:=by
 induction a with
 |nil=>rfl
 |cons b c a=>unfold dx at a⊢;rw[List.flatMap_cons,bL,a];simp;omega
def pz {c:aB} {g:Option aX} {a:List Fd} {d:Nat} {e:Fd} (f:bU c g (dx a)) (h:a[d]?=R e):
  ∃a b,g=R ⟨a,b,O⟩∧c.cell? ⟨a,b+d*3,O⟩=R (aA e.n)∧c.cell? ⟨a,b+d*3+1,O⟩=R (aA e.v)∧c.cell? ⟨a,b+d*3+2,O⟩=R (aO e.a):=by obtain⟨c,d,e⟩:=pq h;obtain⟨a,b,rfl,g⟩:=f _ _ c;obtain⟨i,j,c,h⟩:=f _ _ d;obtain⟨j,k,d,i⟩:=f _ _ e;injection c with c;injection c with c e;subst c e;injection d with d;injection d with d c;subst d c;exact⟨a,b,rfl,g,h,i⟩
def qb {c:FuncId} {d:Array aI} {e:aB} {f g:Bool} {h:aB→Prop} (i:f=g) (j:aF au c d e fun a b=>a=av f∧h b):Y (aF au c d e fun a b=>a=av g∧h b):=by subst i;exact j
def rR {c:Type} {a:List c} {b:Nat} {d:c} (c:a[b]?=R d):a.drop b=d::a.drop (b+1):=by obtain⟨a,b⟩:=aU.1 c;rw[List.drop_eq_getElem_cons a,b]
def pE {b:Type} {a:List b} {b c:Nat} (d:Y (a.length=c)) (e:b<c):∃c,a[b]?=R c:=⟨_,aQ (by rw[d.o];exact e)⟩
def uT {b:Type} {a:List b} {b c:Nat} (d:Y (a.length=c)) (e:¬b<c):a.drop b=[]:=List.drop_eq_nil_of_le (by rw[d.o];omega)
def ES (c:Option aX) (d g:Nat) (b:List Fd) (a:aB) (e:b.length=d) (f:d≤100000) (f:bU a c (dx b)):
  aF au 269 #[Z c d g] a fun g c=>g=av (aO (!b.any gQ))∧aJ a a c:=by
 have j:=aj e;have h:=aj f;clear e f;go_enter func269,ntmps269;go_wp2;go_loopw [7] (fun e wr=>∃c:Nat,c≤d∧e=J U c∧Y ((b.take c).any gQ=false)∧Y (aJ a a wr)) (fun e _=>d- (intOf e).toNat);case atStart=>exact⟨0,aZ _,rfl,aj rfl,aj (ay _ _)⟩
 case round=>
  obtain⟨c,f,rfl,k,e⟩:=hrel;by_cases i:c<d
  ·obtain⟨f,d⟩:=pE j i;obtain⟨i,l,rfl,m,n,o⟩:=pz (h.o.a e.o) d;have l:=aj d;clear d;cases hq:gQ f
   ·have h:=fun a=>qb hq (oZ f a);have m:Y ((b.take (c+1)).any gQ=false):=aj (by rw[List.take_add_one,l.o,List.any_append,k.o];simp[hq]);clear hq;go_wp2_with fail;refine mB ((h _).o) fun n d=>?_;have i:=aj (gN e.o d);clear d;go_wp2;go_roundw;case rel=>exact⟨c+1,Y0,by go_num,m,i⟩
    case measure=>simp[intOf];omega
   ·have h:=fun a=>qb hq (oZ f a);have a:Y (b.any gQ=true):=aj (by rw[List.any_eq_true];exact⟨f,bP l.o,hq⟩);clear hq;go_wp2_with fail;refine mB ((h _).o) fun n d=>?_;have i:=aj (gN e.o d);clear d;go_wp2;go_ret;exact⟨by rw[a.o];rfl,i.o⟩
  ·have a:Y (b.any gQ=false):=aj (by rw[←k.o,bW (by rw[j.o];omega)]);go_wp2;go_ret;exact⟨by rw[a.o];rfl,e.o⟩
def VP (d:Option aX) (e h:Nat) (c:List Fd) (b:aB) (f:c.length=e) (a:e≤100000) (g:bU b d (dx c)) (hF:∀a∈c,a.n.size≤1000000∧a.v.size≤1000000):
  aF au 229 #[Z d e h] b fun k d=>k=av (J U (xK c 0))∧aJ b b d:=by
 have u:=aj f;have i:=aj g;have j:=aj hF;clear f g hF;obtain⟨o,d⟩:=exq (xK c 0);rw[d];have g:=aj d;clear d;go_enter func229,ntmps229;go_wp2;go_loopw [3,8] (fun h f wr=>∃(d:Nat) (l:Int),d≤e∧f=J U d∧h=J U l∧Y (xK (c.drop d) l=o)∧Y (aJ b b wr)) (fun _ f _=>e- (intOf f).toNat);case atStart=>exact⟨0,0,aZ _,rfl,rfl,g,aj (ay _ _)⟩
 case round=>
  obtain⟨d,l,f,rfl,rfl,g,h⟩:=hrel;by_cases v:d<e
  ·obtain⟨a,e⟩:=pE u v;obtain⟨f,m,rfl,n,p,q⟩:=pz (i.o.a h.o) e;obtain⟨n,f⟩:=j.o a (bP e);rw[rR e]at g;clear e;obtain⟨e,i⟩:=exq (Cc a);obtain⟨p,m⟩:=exq (DN a);have w:=fun b=>qb i (Na a b n f);have y:=fun b=>qb m (QL a b f);cases e
   ·have q:Y (o=28):=aj (by rw[←g.o];unfold xK;rw[i,aL Y2]);clear i m;go_wp2_with fail;refine mB ((w _).o) fun n f=>?_;have r:=aj (gN h.o f);clear f;go_wp2;go_ret;exact⟨by rw[q.o];rfl,r.o⟩
   ·have z:=aj h.o.size;obtain⟨e,s⟩:=exq wr.heap.size;obtain⟨j,t⟩:=exq (wr.alloc (.cells #[aA a.n,aA a.v,a.a] 93));have x:bH j e 93 #[aA a.n,aA a.v,a.a]:=by rw[←t,←s];exact bH.d _ _ _
    have A:Y (aJ b b j):=aj (by rw[←t];exact h.o.alloc z.o _);have b:=aj x;have z:=aj s;clear x;have q:Y (xK (c.drop (d+1)) (if p=true then 29 else l)=o):=aj (by rw[←g.o];conv=>{rhs;unfold xK};rw[i,m,aP rfl];cases p<;>rfl);clear i m;have c:=b.o.H 0;have c:=b.o.H 1;have c:=b.o.H 2;go_wp2_with fail;clear t s;refine mB ((w _).o) fun n f=>?_;have r:=aj (bG A.o f);have c:=aj (bH.b b.o f);have b:=c.o.H 0;have b:=c.o.H 1;have b:=c.o.H 2;clear f;cases p;all_goals
     go_wp2_with fail;refine mB ((y _).o) fun c a=>?_;have b:=aj (bG r.o a);clear a;go_wp2;go_roundw;case rel=>exact⟨d+1,_,Y0,by go_num,rfl,q,b⟩
     case measure=>simp[intOf];omega
  ·rw[uT u v]at g;go_wp2;go_ret;exact⟨by rw[←g.o];rfl,h.o⟩
def KH (a:ByteArray) (b:Int) (c:aB) (d:a.size≤1000000) (k:0≤b) (d:b≤4503599627370496):
  aF au 270 #[aA a,b] c fun d e=>d=av (aN #[J U ((uD a b).getD 0),aO (uD a b).isSome])∧aJ c c e:=by
 rcases jU a with⟨d,f⟩|⟨d,f⟩
 ·have e:Y (uD a b=O):=aj (by unfold uD;rw[aP (.inl f)]);have f:a.toList.isEmpty=true:=by rw[d];rfl
  go_enter func270,ntmps270;go_wp2;go_ret2;exact⟨by rw[e.o];rfl,ay _ _⟩
 ·have f:=qV d;obtain⟨g,d⟩:=exq (uD a b);rw[d];have f:Y (xL a b a.size 0 0=g):=aj (by rw[←d];unfold uD;rw[aL Y0]);clear d;have d:=World.iter_heap c a 0;have i:=aj d;have j:Y (aJ c c (c.iter a 0)):=aj ((ay _ c).alloc (aD _) _);clear d;have l:decide (b<0)=false:=by simp;omega
  go_enter func270,ntmps270;go_wp2;go_loopw [6] (fun m wr=>∃(pos h:Nat) (d:Int),a.size≤pos+h∧0≤d∧d≤b∧m=J U d∧Y (wr.heap[c.heap.size]?=R (.stringIter a pos))∧Y (xL a b h pos d=g)∧Y (aJ c c wr)) (fun _ wr=>a.size-wr.iterPos c.heap.size);case atStart=>exact⟨0,a.size,0,Y0,Y0,k,rfl,i,f,j⟩
  case round=>
   obtain⟨pos,h,d,k,m,n,rfl,p,s,u⟩:=hrel;clear i j f l;by_cases i:pos<a.size
   ·obtain⟨j,rfl⟩:∃j,h=j+1:=⟨h-1,Y0⟩;have f:1≤(Utf8.decode a pos).2:=by
     by_cases k:(a[pos]'i).toNat<128
     ·rw[decode_ascii a pos i k];exact aD _
     ·exact(decode_high a pos i Y0).2
    have l:0≤((Utf8.decode a pos).1:Int):=Y0;have t:∀k,(Instr.next (aK (R ⟨c,0,O⟩)) true k).run au wr=_:=fun k=>Lib.run_next_any_at wr c.heap.size a pos k p.o i;have q:=aj (Lib.iterAt_heap wr c.heap.size a pos (pos+(Utf8.decode a pos).2) p.o);have m:=aj (Lib.below_iterAt u.o (aD _) a (pos+(Utf8.decode a pos).2));have v:Y (wr.iterPos c.heap.size=pos):=aj (by simp[World.iterPos,p.o]);have n:Y (xL a b (j+1) pos d=if((Utf8.decode a pos).1:Int)<48∨((Utf8.decode a pos).1:Int)>57 then O
      else if((Utf8.decode a pos).1:Int)-48>b∨d>(b- (((Utf8.decode a pos).1:Int)-48))/10 then O
      else xL a b j (pos+(Utf8.decode a pos).2) (10*d+(((Utf8.decode a pos).1:Int)-48))):=aj (by rw[xL,aP i])
    generalize wr.iterAt c.heap.size a (pos+(Utf8.decode a pos).2)=w at t q m;generalize(Utf8.decode a pos).2=r at f q n;generalize((Utf8.decode a pos).1)=o at l t n;by_cases l:(o:Int)<48∨(o:Int)>57
    ·have e:Y (g=O):=aj (by rw[←s.o,n.o,aP l]);rcases l with l|l
     all_goals
      go_wp2;go_ret2;exact⟨by rw[e.o];rfl,m.o⟩
    ·have f:48≤(o:Int):=Y0;have f:(o:Int)≤57:=Y0;obtain⟨f,x⟩:=exq ((o:Int)-48);have o:0≤f:=Y0;have o:f≤9:=Y0;have o:Y (g=if f>b∨d>(b-f)/10 then O else xL a b j (pos+r) (10*d+f)):=aj (by rw[←s.o,n.o,aL l,x]);clear l n;by_cases l:f>b
     ·have e:Y (g=O):=aj (by rw[o.o,aP (.inl l)]);go_wp2;go_ret2;exact⟨by rw[e.o];rfl,m.o⟩
     ·have l:f≤b:=Y0;obtain⟨n,l⟩:=exq ((b-f)/10);by_cases x:d>n
      ·have e:Y (g=O):=aj (by rw[o.o,l,aP (.inr x)]);go_wp2;go_ret2;exact⟨by rw[e.o];rfl,m.o⟩
      ·have n:10*d+f≤b:=Y0;have e:Y (xL a b j (pos+r) (10*d+f)=g):=aj (by rw[o.o,l,aL Y0]);go_wp2;go_roundw;case rel=>exact⟨pos+r,j,10*d+f,Y0,Y0,Y0,rfl,q,e,m⟩
       case measure=>
        have b:w.iterPos c.heap.size=pos+r:=by simp[World.iterPos,q.o]
        rw[v.o,b];omega
   ·have t:∀k,(Instr.next (aK (R ⟨c,0,O⟩)) true k).run au wr=_:=fun k=>Lib.run_next_end_at wr c.heap.size a pos k p.o i;have e:Y (g=R d):=aj (by
     rw[←s.o];cases h with
     |zero=>rfl
     |succ h=>rw[xL,aL i])
    go_wp2;go_ret2;exact⟨by rw[e.o];rfl,u.o⟩
def CG (a:ByteArray) (b:List UInt8):a.toList=b∨¬a.toList=b:=Classical.em _
def VQ (a:Option aX) (f h:Nat) (g:List Fd) (b:aB) (d:g.length=f) (c:f≤100000) (e:bU b a (dx g)) (hF:∀c∈g,c.n.size≤1000000∧c.v.size≤1000000):
  aF au 231 #[Z a f h] b fun w a=>w=av (aN #[aS #[J U ((qo g (0,false)).getD (0,false)).1,aO ((qo g (0,false)).getD (0,false)).2],aO (qo g (0,false)).isSome])∧aJ b b a:=by
 have C:=aj d;have p:=aj e;have s:=aj hF;clear d e hF;obtain⟨q,a⟩:=exq (qo g (0,false));rw[a];have k:=aj a;clear a;obtain⟨a,d⟩:=exq b.heap.size;obtain⟨h,e⟩:=exq ((b.alloc (.cells #[J U 0,false] 312)).alloc (.cells #[J U 0,false] 312));have m:Y (aJ b b h):=aj (by rw[←e];exact((ay _ b).alloc (aD _) _).alloc Y1 _);have n:Y (bH h a 312 #[J U 0,false]):=aj (by rw[←e,←d];exact(bH.d b _ _).h _);have o:Y (bH h (a+1) 312 #[J U 0,false]):=aj (by rw[←e,←d];have:=bH.d (b.alloc (.cells #[J U 0,false] 312)) 312 #[J U 0,false];simpa using this);have j:=aj d;go_enter func231,ntmps231;go_wp2;clear e d;go_loopw [11] (fun i wr=>∃(h:Nat) (d:Int) (e:Bool),h≤f∧i=J U h∧Y (qo (g.drop h) (d,e)=q)∧Y (aJ b b wr)∧Y (bH wr a 312 #[J U 0,false])∧Y (bH wr (a+1) 312 #[d,e])) (fun i _=>f- (intOf i).toNat);case atStart=>exact⟨0,0,false,aZ _,rfl,k,m,n,o⟩
 case round=>
  obtain⟨h,d,e,i,rfl,l,x,r,y⟩:=hrel;clear n o m k;by_cases D:h<f
  ·obtain⟨c,i⟩:=pE C D;obtain⟨k,m,rfl,n,o,t⟩:=pz (p.o.a x.o) i;obtain⟨k,o⟩:=s.o c (bP i);rw[rR i]at l;clear i;obtain⟨m,p⟩:=exq wr.heap.size;obtain⟨i,k⟩:=exq (wr.alloc (.cells #[aA c.n,aA c.v,c.a] 93));have n:Y (bH i m 93 #[aA c.n,aA c.v,c.a]):=aj (by rw[←k,←p];exact bH.d _ _ _);have E:Y (aJ b b i):=aj (by rw[←k];exact x.o.alloc x.o.size _);have F:Y (bH i a 312 #[J U 0,false]):=aj (by rw[←k];exact r.o.h _);have G:Y (bH i (a+1) 312 #[d,e]):=aj (by rw[←k];exact y.o.h _);have H:=n.o.H 0;have I:=n.o.H 1;rcases CG c.n [99,111,110,116,101,110,116,45,108,101,110,103,116,104]with m|m
   ·have K:(c.n.toList==[99,111,110,116,101,110,116,45,108,101,110,103,116,104])=true:=by rw[m];rfl
    have s:=fun b=>aj (KH c.v 4503599627370496 b o Y0 Y0);have n:Y (qo (c::g.drop (h+1)) (d,e)=match uD c.v 4503599627370496 with
     |none=>O
     |some f=>if e&&f !=d then O else qo (g.drop (h+1)) (f,true)):=aj (by conv=>{lhs;unfold qo};rw[aP m];rfl)
    clear m;have k:∀f:aB,aJ i i f→Y (bH f a 312 #[J U 0,false])∧Y (bH f (a+1) 312 #[d,e])∧Y (aJ b b f):=fun f b=>⟨F.o.b b,G.o.b b,bG E.o b⟩;have z:=aj k;clear k;cases hnat:uD c.v 4503599627370496 with
    |none=>have o:Y (q=O):=aj (by rw[←l.o,n.o,hnat]);rw[hnat]at s;clear hnat n;go_wp2_with fail;refine mB ((s _).o) fun f k=>?_;obtain⟨b,i,t⟩:=z.o _ k;clear k;have u:=b.o.H 0;have v:=b.o.H 1;have A:=b.o.c 0;have B:=b.o.c 1;go_wp2_with fail;refine aG (v:=aN #[aS #[J U 0,false],false]) (by simp[results,results231,go_sem,u,v]) rfl ⟨by rw[o.o];rfl,?_⟩;exact(t.o.setCell (p:=⟨a,0,O⟩) (by rw[←j.o];exact aD _) _).setCell (p:=⟨a,1,O⟩) (by rw[←j.o];exact aD _) _
    |some p=>
     rw[hnat]at s n;clear hnat;cases hq:(e&&p !=d)with
     |true=>
      have o:Y (q=O):=aj (by rw[←l.o,n.o];show(if(e&&p !=d)=true then _ else _)=_;rw[hq,aP rfl]);have L:e=true:=by cases e;exact absurd hq Y1;rfl
      subst L;have L:(p !=d)=true:=Y6 hq;clear hq n;go_wp2_with fail;refine mB ((s _).o) fun f k=>?_;obtain⟨b,i,t⟩:=z.o _ k;clear k;have u:=b.o.H 0;have v:=b.o.H 1;have A:=b.o.c 0;have B:=b.o.c 1;have M:=i.o.H 0;have N:=i.o.H 1;go_wp2_with fail;refine aG (v:=aN #[aS #[J U 0,false],false]) (by simp[results,results231,go_sem,u,v]) rfl ⟨by rw[o.o];rfl,?_⟩;exact(t.o.setCell (p:=⟨a,0,O⟩) (by rw[←j.o];exact aD _) _).setCell (p:=⟨a,1,O⟩) (by rw[←j.o];exact aD _) _
     |false=>
      have o:Y (qo (g.drop (h+1)) (p,true)=q):=aj (by rw[←l.o,n.o];show _=(if(e&&p !=d)=true then _ else _);rw[hq,aL Y2]);cases e;all_goals
       try(have L:(p !=d)=false:=by simpa using hq)
       clear hq n;go_wp2_with fail;refine mB ((s _).o) fun f k=>?_;obtain⟨b,i,t⟩:=z.o _ k;clear k;have A:=i.o.c 0;have B:=i.o.c 1;have M:=i.o.H 0;have N:=i.o.H 1;go_wp2;go_roundw;case rel=>exact⟨h+1,p,true,Y0,by go_num,o,aj ((t.o.setCell (p:=⟨a+1,0,O⟩) (by rw[←j.o];simp) _).setCell (p:=⟨a+1,1,O⟩) (by rw[←j.o];simp) _),aj ((b.o.i Y1 _).i Y1 _),aj ((i.o.f 0 _).f 1 _)⟩
       case measure=>simp[intOf];omega
   ·have K:(c.n.toList==[99,111,110,116,101,110,116,45,108,101,110,103,116,104])=false:=by rw[aM];exact m
    have o:Y (qo (g.drop (h+1)) (d,e)=q):=aj (by rw[←l.o];conv=>{rhs;unfold qo};rw[aL m]);clear m;go_wp2;go_roundw;case rel=>exact⟨h+1,d,e,Y0,by go_num,o,E,F,G⟩
    case measure=>simp[intOf];omega
  ·rw[uT C D]at l;have H:=y.o.H 0;have I:=y.o.H 1;have u:=r.o.H 0;have v:=r.o.H 1;have A:=r.o.c 0;have B:=r.o.c 1;go_wp2_with fail;refine aG (v:=aN #[aS #[d,e],true]) (by simp[results,results231,go_sem,u,v]) rfl ⟨by rw[←l.o];rfl,?_⟩;exact(x.o.setCell (p:=⟨a,0,O⟩) (by rw[←j.o];exact aD _) _).setCell (p:=⟨a,1,O⟩) (by rw[←j.o];exact aD _) _
end Go.Proofs.YtdcacpeaimjdlaaGreatDoor
