/- A part of the proof, no condition: names. -/
import Derived.Test.YtpfogalbnijcoaaGreatEvJ
import Derived.Test.YtpfogalbnijcoaaGreatRuA
import Derived.Shelf.Strings.Search3
import Derived.Test.YtpfogalbnijcoaaGreatEvH
import Derived.Test.YtpfogalbnijcoaaGreatProg
import Derived.Test.YtpfogalbnijcoaaGreatRhA
import Derived.Laws.RangeAny
open Go.Proofs.Tryz renaming prog->ar1
open Go.Proofs.Lays renaming n144->axt
open Go.Lib renaming indexByte->awl
open ByteArray renaming size->avT
open Go.Utf8 renaming decode->atS
open Option renaming some->aa
open Bool renaming true->ab,false->af
set_option linter.all false
namespace Go.Proofs.YtpfogalbnijcoaaGreat
open Go Go.Ev
def F_:List Nat:=[209,280,208,250,295,22,23,8,49,4,9,272,199,118,198,240,197,241,62,249,122,206,61,202,101,123,125,177,248,124,205,59,119,63,244,203,243,242,201,245,200,246,204,120,36,68,64,126,207,33,17,66,35,34,60,65,37,256,257,227,281,279,187,29,234,105,235,230,180,260]
def Ga:List Nat:=[]
def Gb:List Nat:=[238]
def Gc:List Nat:=[205,189,111]
def Z4:ak:=
 (mq bC (zz .leq 5 (qO 97) bC) (Cd 5 122 1 (.nt (zz .leq 5 (qO 65) bC) (Cd 5 90 2 (Hu 5 bC (qO 95) (FH 2) (.nt (zz .leq 5 (qO 48) bC) (Cd 5 57 4 zI) zI))) (Hu 5 bC (qO 95) (FH 2) (.nt (zz .leq 5 (qO 48) bC) (Cd 5 57 4 zI) zI)))) (.nt (zz .leq 5 (qO 65) bC) (Cd 5 90 2 (Hu 5 bC (qO 95) (FH 2) (.nt (zz .leq 5 (qO 48) bC) (Cd 5 57 4 zI) zI))) (Hu 5 bC (qO 95) (FH 2) (.nt (zz .leq 5 (qO 48) bC) (Cd 5 57 4 zI) zI))))
def ahS:bg:=⟨F_,Ga,Gb,[],Gc⟩
theorem amc:aK ar1 ahS 400 af 230=Z4:=by kernel_rfl
def Z5:ak:=
 (mq bC (tI 9 bC (.s [99,111,110,115,116,114,97,105,110,116])) iF (IK [116,114,117,101] [102,97,105,108] (IK [105,115] [105,110,116] (NI [103,114,111,117,110,100] aU))))
def ahT:bg:=⟨F_,Ga,Gb,[],Gc⟩
theorem amd:aK ar1 ahT 400 af 180=Z5:=by kernel_rfl
def Up:ak:=
 (V6 (Pd l6 dg) (.test (.dec 0 FV B9) (.bind (Pd FV (.dec 2 FV B9)) (.nt (zz .gtr 21 (.dec 1 FV B9) (.k .i32 122)) (Hu 4 pC pC (.nt (lY .lss B9 0) (qM 180 bC 5 (.nr (tH 5))) aU) (zE 0 4)) (.bj (.ok (.cv 21 5 (.dec 1 FV B9))) (zP 230 (.ok (.cv 21 5 (.dec 1 FV B9))) 5 (u7 .and 225 ie 7) (mq (tI 225 (u7 .and 225 ie 7) (qO 0)) (tI 4 (tI 225 (u7 .and 225 ie 7) (qO 0)) pC) (.nt (lY .lss B9 0) (qM 180 bC 6 (.nr (tH 6))) aU) (zE 0 4)))))) (.nt (lY .lss FJ 0) (qM 180 bC 4 (.nr (tH 4))) aU)))
def W8:ak:=
 (mq bC (tI 9 bC zQ) aU (fD tK tK 40 (.bj (II dg) (qM 230 (II dg) 1 (mq (u7 .and 225 dh 1) (tI 225 (u7 .and 225 dh 1) (qO 0)) aU (.bind (.Hl bC (.i 1) tK) (.bj (.rW l6) Up)))))))
def ame:bg:=⟨F_,Ga,Gb,[⟨3,105005023008,2,[],[(0,0)],[],[]⟩],Gc⟩
theorem ap0:aK ar1 ame 400 af 105=W8:=by kernel_rfl
def Z6:ak:=
 (tO (nL tK tK 1 (qP 260 (.s [43,45,42,47,37]) bC (.nr dh)) aU))
def ahU:bg:=⟨F_,Ga,Gb,[],Gc⟩
theorem amf:aK ar1 ahU 400 af 235=Z6:=by kernel_rfl
end Go.Proofs.YtpfogalbnijcoaaGreat
namespace Go.Proofs.YtpfogalbnijcoaaGreat
open Go.Shelf
def Tryz.SM:Go.Shelf.Ren:=⟨λ|144=>260|143=>282|219=>296|217=>307|225=>308|224=>309|267=>310|266=>322|314=>323|n=>n,λ|9=>9|4=>4|3=>3|5=>5|46=>272|146=>340|51=>291|n=>n,λ|1=>0|n=>n⟩
theorem Tryz.afa:axt ar1 Tryz.SM:={
 mixed:=by kernel_rfl
 f143:=Tryz.func282.trans (congrArg aa (by kernel_rfl))
 f144:=Tryz.func260.trans (congrArg aa (by kernel_rfl))
 f217:=Tryz.func307.trans (congrArg aa (by kernel_rfl))
 f219:=Tryz.func296.trans (congrArg aa (by kernel_rfl))
 f224:=Tryz.func309.trans (congrArg aa (by kernel_rfl))
 f225:=Tryz.func308.trans (congrArg aa (by kernel_rfl))
 f266:=Tryz.func322.trans (congrArg aa (by kernel_rfl))
 f267:=Tryz.func310.trans (congrArg aa (by kernel_rfl))
 f314:=Tryz.func323.trans (congrArg aa (by kernel_rfl))
 t3:=Tryz.underlying3
 a3:=Tryz.isAgg3
 z3:=Tryz.sizeOf3
 v3:=Tryz.zeroValue3
 t4:=Tryz.underlying4
 a4:=Tryz.isAgg4
 z4:=Tryz.sizeOf4
 v4:=Tryz.zeroValue4
 t5:=Tryz.underlying5
 a5:=Tryz.isAgg5
 z5:=Tryz.sizeOf5
 v5:=Tryz.zeroValue5
 t9:=Tryz.underlying9
 a9:=Tryz.isAgg9
 z9:=Tryz.sizeOf9
 v9:=Tryz.zeroValue9
 t46:=Tryz.underlying272
 a46:=Tryz.isAgg272
 z46:=Tryz.sizeOf272
 v46:=Tryz.zeroValue272
 t51:=Tryz.underlying291
 a51:=Tryz.isAgg291
 z51:=Tryz.sizeOf291
 v51:=Tryz.zeroValue291
 t146:=Tryz.underlying340
 a146:=Tryz.isAgg340
 z146:=Tryz.sizeOf340
 v146:=Tryz.zeroValue340
 g1:=by kernel_rfl}
open Go.RowKit Go.Lib in
theorem Tryz.strings_Contains_one(s:ByteArray)(c:UInt8)(w:World):
 Calls ar1 260 #[.string s,.string ⟨#[c]⟩] w λe w'=>e=.returned (.bool (decide (0<=awl s.data.toList c)))/\w'=w:=Any.strings_Contains_one Tryz.afa s c w
open Go.Ev in
theorem ap1(s:List UInt8)(c:UInt8):eZ ar1 af af 260 [.raw (.string ⟨s.toArray⟩),.raw (.string ⟨#[c]⟩)] (.raw (.bool (decide (0<=awl s c)))):=by
 intro M w us hM xU
 have ap2:us=[.string ⟨s.toArray⟩,.string ⟨#[c]⟩]:=by
  obtain⟨hl,hr⟩:=xU
  match us,hl with
  |[a,b],_=>
   have h1:=hr 0 _ a rfl rfl;have h2:=hr 1 _ b rfl rfl;cases h1;cases h2;rfl
 subst ap2;refine(callsIn_wide.2 (Tryz.strings_Contains_one ⟨s.toArray⟩ c w)).mono ?_;rintro e w' ⟨rfl,rfl⟩;exact⟨rfl,M,hM,λb c h=>.inl ⟨rfl,h⟩,λ_ b c h=>h,.raw _,rfl,rfl,rfl,Nat.le_refl _,λ_ _=>rfl⟩
end Go.Proofs.YtpfogalbnijcoaaGreat
namespace Go.Proofs.YtpfogalbnijcoaaGreat
open Go Go.Ev
@[simp] theorem arD(t:TypeId)(a b:Int):dc ar1 .eql t (oZ a) (oZ b)=aa (iB (a==b)):=rfl
@[simp] theorem arE(t:TypeId)(a b:Int):dc ar1 .gtr t (.raw (.int .i32 a)) (.raw (.int .i32 b))=aa (iB (decide (a>b))):=rfl
@[simp] theorem arF(g:Int):VZ ar1 21 5 (.raw (.int .i32 g))=aa (oZ (IntKind.u8.wrap g)):=by kernel_rfl
theorem u4:ar1.underlying 4=aa .bool:=by kernel_rfl
@[simp] theorem aq8(a b:Bool):dc ar1 .eql 4 (iB a) (iB b)=aa (iB (a==b)):=ac4 _ 4 u4 a b
@[simp] theorem arG(l:List UInt8)(p:Nat):lX 0 (iS l) (iI (p:Nat))=aa (iB (decide (p<l.length))):=by simp[lX,avT]
@[simp] theorem arH(l:List UInt8)(p:Nat):lX 1 (iS l) (iI (p:Nat))=aa (.raw (.int .i32 (atS ⟨l.toArray⟩ p).1)):=by simp[lX]
@[simp] theorem arI(l:List UInt8)(p:Nat):lX 2 (iS l) (iI (p:Nat))=aa (iI ((p+(atS ⟨l.toArray⟩ p).2:Nat):Int)):=by simp[lX]
theorem n192:(ar1.funcs[230]?).map (·.params.size)=aa 1:=by kernel_rfl
theorem t192(z:IV):aQ ar1 230 z=ab:=by kernel_rfl
theorem n136:(ar1.funcs[180]?).map (·.params.size)=aa 1:=by kernel_rfl
theorem t136(z:IV):aQ ar1 180 z=ab:=by kernel_rfl
theorem n83:(ar1.funcs[105]?).map (·.params.size)=aa 1:=by kernel_rfl
theorem t83(z:IV):aQ ar1 105 z=ab:=by kernel_rfl
theorem n211:(ar1.funcs[235]?).map (·.params.size)=aa 1:=by kernel_rfl
theorem t211(z:IV):aQ ar1 235 z=ab:=by kernel_rfl
theorem t256(z:IV):aQ ar1 260 z=ab:=by kernel_rfl
end Go.Proofs.YtpfogalbnijcoaaGreat
