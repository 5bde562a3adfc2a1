/- A part of the proof, no condition: names. -/
import Derived.Test.YtggffkaadeagbaaGreatEvJ
import Derived.Test.YtggffkaadeagbaaGreatRuA
import Derived.Shelf.Strings.Search3
import Derived.Test.YtggffkaadeagbaaGreatEvH
import Derived.Test.YtggffkaadeagbaaGreatProg
import Derived.Test.YtggffkaadeagbaaGreatRhA
import Derived.Laws.RangeAny
open Go.Proofs.Tryz renaming prog->asK
open Go.Proofs.Lays renaming n144->ayb
open Go.Lib renaming indexByte->aw6
open ByteArray renaming size->awD
open Go.Utf8 renaming decode->auE
open Option renaming some->aa
open Bool renaming true->ab,false->af
set_option linter.all false
namespace Go.Proofs.YtggffkaadeagbaaGreat
open Go Go.Ev
def GC:List Nat:=[123,127,126,186,189,44,79,30,102,9,10,23,31,15,257,149,89,148,198,147,199,50,191,71,214,93,163,49,152,64,164,158,95,108,206,250,213,130,131,107,129,155,34,90,51,202,153,201,200,151,203,150,204,154,91,41,67,101,99,109,157,210,12,26,28,25,14,19,100,40,39,70,69,35,53,52,68,42,58,75,24,27,22,29,61,190,66,133,128,249,121,78,183,83,211,192,136,256]
def GD:List Nat:=[]
def GF:List Nat:=[185,188,254]
def GG:List Nat:=[155,159,103]
def aaS:ak:=
 (B9 bw .leq 5 (lV 97) bw (Cy .leq 5 (lV 122) 1 (kg .leq 5 (lV 65) bw (Cy .leq 5 (lV 90) 2 (zG 5 Gk (F7 2) (kg .leq 5 (lV 48) bw (Cy .leq 5 (lV 57) 4 zN) zN))) (zG 5 Gk (F7 2) (kg .leq 5 (lV 48) bw (Cy .leq 5 (lV 57) 4 zN) zN)))) (kg .leq 5 (lV 65) bw (Cy .leq 5 (lV 90) 2 (zG 5 Gk (F7 2) (kg .leq 5 (lV 48) bw (Cy .leq 5 (lV 57) 4 zN) zN))) (zG 5 Gk (F7 2) (kg .leq 5 (lV 48) bw (Cy .leq 5 (lV 57) 4 zN) zN))))
def aiJ:a_:=⟨GC,GD,GF,[],GG⟩
theorem anf:aH asK aiJ 400 af 192=aaS:=by kernel_rfl
def aaT:ak:=
 (Cf bw 9 bw (.s [99,111,110,115,116,114,97,105,110,116]) rm (Jd 9 [116,114,117,101] 9 [102,97,105,108] (Jd 9 [105,115] 9 [105,110,116] (On 9 [103,114,111,117,110,100] bf))))
def aiK:a_:=⟨GC,GD,GF,[],GG⟩
theorem ang:aH asK aiK 400 af 136=aaT:=by kernel_rfl
def UR:ak:=
 (.loop (iC (.tp (rl oe cx))) (.test (.dec 0 Gj Cq) (.bind (.tp (rl Gj (.dec 2 Gj Cq))) (kg .gtr 21 (.dec 1 Gj Cq) (.k .i32 122) (kg .eql 4 lT lT (kg .lss 3 Cq cx (kh 136 bw 5 (.nr (tZ gC))) bf) (.next 0 (pf 4))) (.aS (.ok (.cv 21 5 (.dec 1 Gj Cq))) (jo 192 (.ok (.cv 21 5 (.dec 1 Gj Cq))) (zU (xu .and 174 gC 7) (Cf (xu .eql 174 (xu .and 174 gC 7) 0) 4 (xu .eql 174 (xu .and 174 gC 7) 0) lT (kg .lss 3 Cq cx (kh 136 bw 6 (.nr (tZ fD))) bf) (.next 0 (pf 4)))))))) (kg .lss 3 adC cx (kh 136 bw 4 (.nr (tZ eS))) bf)))
def XM:ak:=
 (Cf bw 9 bw zJ bf (fC ug ug 40 (.aS (Jc cx) (kh 192 (Jc cx) 1 (Cf (xu .and 174 cZ 1) 174 (xu .and 174 cZ 1) (lV 0) bf (.bind (.HK bw (.i 1) ug) (.aS (.sx oe) UR)))))))
def anh:a_:=⟨GC,GD,GF,[⟨3,83005023008,2,[],[(0,0)],[],[]⟩],GG⟩
theorem aq5:aH asK anh 400 af 83=XM:=by kernel_rfl
def aaU:ak:=
 (pA (sb ug .eql ug 1 (kD 256 (.s [43,45,42,47,37]) bw (.nr cZ))))
def aiL:a_:=⟨GC,GD,GF,[],GG⟩
theorem ani:aH asK aiL 400 af 211=aaU:=by kernel_rfl
end Go.Proofs.YtggffkaadeagbaaGreat
namespace Go.Proofs.YtggffkaadeagbaaGreat
open Go.Shelf
def Tryz.Tb:Go.Shelf.Ren:=⟨λ|144=>256|143=>281|219=>298|217=>309|225=>310|224=>311|267=>312|266=>331|314=>332|n=>n,λ|9=>9|4=>4|3=>3|5=>5|46=>42|146=>323|51=>273|n=>n,λ|1=>0|n=>n⟩
theorem Tryz.afU:ayb asK Tryz.Tb:={
 mixed:=by kernel_rfl
 f143:=Tryz.func281.trans (congrArg aa (by kernel_rfl))
 f144:=Tryz.func256.trans (congrArg aa (by kernel_rfl))
 f217:=Tryz.func309.trans (congrArg aa (by kernel_rfl))
 f219:=Tryz.func298.trans (congrArg aa (by kernel_rfl))
 f224:=Tryz.func311.trans (congrArg aa (by kernel_rfl))
 f225:=Tryz.func310.trans (congrArg aa (by kernel_rfl))
 f266:=Tryz.func331.trans (congrArg aa (by kernel_rfl))
 f267:=Tryz.func312.trans (congrArg aa (by kernel_rfl))
 f314:=Tryz.func332.trans (congrArg aa (by kernel_rfl))
 t3:=Tryz.underlying3
 a3:=Tryz.isAgg3
 z3:=Tryz.sizeOf3
 v3:=Tryz.zeroValue3
 t4:=Tryz.underlying4
 a4:=Tryz.isAgg4
 z4:=Tryz.sizeOf4
 v4:=Tryz.zeroValue4
 t5:=Tryz.underlying5
 a5:=Tryz.isAgg5
 z5:=Tryz.sizeOf5
 v5:=Tryz.zeroValue5
 t9:=Tryz.underlying9
 a9:=Tryz.isAgg9
 z9:=Tryz.sizeOf9
 v9:=Tryz.zeroValue9
 t46:=Tryz.underlying42
 a46:=Tryz.isAgg42
 z46:=Tryz.sizeOf42
 v46:=Tryz.zeroValue42
 t51:=Tryz.underlying273
 a51:=Tryz.isAgg273
 z51:=Tryz.sizeOf273
 v51:=Tryz.zeroValue273
 t146:=Tryz.underlying323
 a146:=Tryz.isAgg323
 z146:=Tryz.sizeOf323
 v146:=Tryz.zeroValue323
 g1:=by kernel_rfl}
open Go.RowKit Go.Lib in
theorem Tryz.strings_Contains_one(s:ByteArray)(c:UInt8)(w:World):
 Calls asK 256 #[.string s,.string ⟨#[c]⟩] w λe w'=>e=.returned (.bool (decide (0<=aw6 s.data.toList c)))/\w'=w:=Any.strings_Contains_one Tryz.afU s c w
open Go.Ev in
theorem aq6(s:List UInt8)(c:UInt8):fm asK af af 256 [.raw (.string ⟨s.toArray⟩),.raw (.string ⟨#[c]⟩)] (.raw (.bool (decide (0<=aw6 s c)))):=by
 intro M w us hM yh
 have aq7:us=[.string ⟨s.toArray⟩,.string ⟨#[c]⟩]:=by
  obtain⟨hl,hr⟩:=yh
  match us,hl with
  |[a,b],_=>
   have h1:=hr 0 _ a rfl rfl;have h2:=hr 1 _ b rfl rfl;cases h1;cases h2;rfl
 subst aq7;refine(callsIn_wide.2 (Tryz.strings_Contains_one ⟨s.toArray⟩ c w)).mono ?_;rintro e w' ⟨rfl,rfl⟩;exact⟨rfl,M,hM,λb c h=>.inl ⟨rfl,h⟩,λ_ b c h=>h,.raw _,rfl,rfl,rfl,Nat.le_refl _,λ_ _=>rfl⟩
end Go.Proofs.YtggffkaadeagbaaGreat
namespace Go.Proofs.YtggffkaadeagbaaGreat
open Go Go.Ev
@[simp] theorem asm(t:TypeId)(a b:Int):dt asK .eql t (pJ a) (pJ b)=aa (iB (a==b)):=rfl
@[simp] theorem asn(t:TypeId)(a b:Int):dt asK .gtr t (.raw (.int .i32 a)) (.raw (.int .i32 b))=aa (iB (decide (a>b))):=rfl
@[simp] theorem aso(g:Int):Wu asK 21 5 (.raw (.int .i32 g))=aa (pJ (IntKind.u8.wrap g)):=by kernel_rfl
theorem u4:asK.underlying 4=aa .bool:=by kernel_rfl
@[simp] theorem arS(a b:Bool):dt asK .eql 4 (iB a) (iB b)=aa (iB (a==b)):=adM _ 4 u4 a b
@[simp] theorem asp(l:List UInt8)(p:Nat):mA 0 (iS l) (iI (p:Nat))=aa (iB (decide (p<l.length))):=by simp[mA,awD]
@[simp] theorem asq(l:List UInt8)(p:Nat):mA 1 (iS l) (iI (p:Nat))=aa (.raw (.int .i32 (auE ⟨l.toArray⟩ p).1)):=by simp[mA]
@[simp] theorem asr(l:List UInt8)(p:Nat):mA 2 (iS l) (iI (p:Nat))=aa (iI ((p+(auE ⟨l.toArray⟩ p).2:Nat):Int)):=by simp[mA]
theorem n192:(asK.funcs[192]?).map (·.params.size)=aa 1:=by kernel_rfl
theorem t192(z:IV):aO asK 192 z=ab:=by kernel_rfl
theorem n136:(asK.funcs[136]?).map (·.params.size)=aa 1:=by kernel_rfl
theorem t136(z:IV):aO asK 136 z=ab:=by kernel_rfl
theorem n83:(asK.funcs[83]?).map (·.params.size)=aa 1:=by kernel_rfl
theorem t83(z:IV):aO asK 83 z=ab:=by kernel_rfl
theorem n211:(asK.funcs[211]?).map (·.params.size)=aa 1:=by kernel_rfl
theorem t211(z:IV):aO asK 211 z=ab:=by kernel_rfl
theorem t256(z:IV):aO asK 256 z=ab:=by kernel_rfl
end Go.Proofs.YtggffkaadeagbaaGreat
