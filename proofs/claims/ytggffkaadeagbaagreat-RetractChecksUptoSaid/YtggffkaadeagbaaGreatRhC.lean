/- A part of the proof, no condition: names. -/
import Derived.Test.YtggffkaadeagbaaGreatEvJ
import Derived.Test.YtggffkaadeagbaaGreatRuA
import Derived.Shelf.Strings.Search3
import Derived.Test.YtggffkaadeagbaaGreatEvH
import Derived.Test.YtggffkaadeagbaaGreatProg
import Derived.Test.YtggffkaadeagbaaGreatRhA
import Derived.Laws.RangeAny
open Go.Proofs.Tryz renaming prog->aqD
open Go.Proofs.Lays renaming n144->av7
open Go.Lib renaming indexByte->au0
open ByteArray renaming size->auy
open Go.Utf8 renaming decode->ass
set_option linter.all false
namespace Go.Proofs.YtggffkaadeagbaaGreat
open Go Go.Ev
def Fw:List Nat:=[123,127,126,186,189,44,79,30,102,9,10,23,31,15,257,149,89,148,198,147,199,50,191,71,214,93,163,49,152,64,164,158,95,108,206,250,213,130,131,107,129,155,34,90,51,202,153,201,200,151,203,150,204,154,91,41,67,101,99,109,157,210,12,26,28,25,14,19,100,40,39,70,69,35,53,52,68,42,58,75,24,27,22,29,61,190,66,133,128,249,121,78,183,83,211,192,136,256]
def Fx:List Nat:=[]
def Fy:List Nat:=[185,188,254]
def FA:List Nat:=[155,159,103]
def Zb:ab:=
 (DB bt .leq 5 (k_ 97) bt (Bq .leq 5 (k_ 122) 1 (n_ .leq 5 (k_ 65) bt (Bq .leq 5 (k_ 90) 2 (yz 5 Fh (E3 2) (n_ .leq 5 (k_ 48) bt (Bq .leq 5 (k_ 57) 4 yI) yI))) (yz 5 Fh (E3 2) (n_ .leq 5 (k_ 48) bt (Bq .leq 5 (k_ 57) 4 yI) yI)))) (n_ .leq 5 (k_ 65) bt (Bq .leq 5 (k_ 90) 2 (yz 5 Fh (E3 2) (n_ .leq 5 (k_ 48) bt (Bq .leq 5 (k_ 57) 4 yI) yI))) (yz 5 Fh (E3 2) (n_ .leq 5 (k_ 48) bt (Bq .leq 5 (k_ 57) 4 yI) yI))))
def agZ:bj:=⟨Fw,Fx,Fy,[],FA⟩
theorem alo:aI aqD agZ 400 false 192=Zb:=by kernel_rfl
def Zc:ab:=
 (yD bt 9 bt (.s [99,111,110,115,116,114,97,105,110,116]) uc (H9 9 [116,114,117,101] 9 [102,97,105,108] (H9 9 [105,115] 9 [105,110,116] (M6 9 [103,114,111,117,110,100] a_))))
def ag0:bj:=⟨Fw,Fx,Fy,[],FA⟩
theorem alp:aI aqD ag0 400 false 136=Zc:=by kernel_rfl
def TH:ab:=
 (.loop (jf (.tp (vw nc cH))) (.test (.dec 0 Fg Bi) (.bind (.tp (vw Fg (.dec 2 Fg Bi))) (n_ .gtr 21 (.dec 1 Fg Bi) (.k .i32 122) (n_ .eql 4 kZ kZ (n_ .lss 3 Bi cH (kC 136 bt 5 (.nr (sV jI))) a_) (.next 0 (rq 4))) (.aQ (.ok (.cv 21 5 (.dec 1 Fg Bi))) (kB 192 (.ok (.cv 21 5 (.dec 1 Fg Bi))) (yO (wm .and 174 jI 7) (yD (wm .eql 174 (wm .and 174 jI 7) 0) 4 (wm .eql 174 (wm .and 174 jI 7) 0) kZ (n_ .lss 3 Bi cH (kC 136 bt 6 (.nr (sV jy))) a_) (.next 0 (rq 4)))))))) (n_ .lss 3 abZ cH (kC 136 bt 4 (.nr (sV fz))) a_)))
def Wc:ab:=
 (yD bt 9 bt yC a_ (fe s6 s6 40 (.aQ (H7 cH) (kC 192 (H7 cH) 1 (yD (wm .and 174 dy 1) 174 (wm .and 174 dy 1) (k_ 0) a_ (.bind (.GH bt (.i 1) s6) (.aQ (.rj nc) TH)))))))
def alq:bj:=⟨Fw,Fx,Fy,[⟨3,83005023008,2,[],[(0,0)],[],[]⟩],FA⟩
theorem ao0:aI aqD alq 400 false 83=Wc:=by kernel_rfl
def Zd:ab:=
 (s8 (tx s6 .eql s6 1 (sX 256 (.s [43,45,42,47,37]) bt (.nr dy))))
def ag1:bj:=⟨Fw,Fx,Fy,[],FA⟩
theorem alr:aI aqD ag1 400 false 211=Zd:=by kernel_rfl
end Go.Proofs.YtggffkaadeagbaaGreat
namespace Go.Proofs.YtggffkaadeagbaaGreat
open Go.Shelf
def Tryz.RQ:Go.Shelf.Ren:=⟨fun|144=>256|143=>281|219=>298|217=>309|225=>310|224=>311|267=>312|266=>331|314=>332|n=>n,fun|9=>9|4=>4|3=>3|5=>5|46=>42|146=>323|51=>273|n=>n,fun|1=>0|n=>n⟩
theorem Tryz.aeg:av7 aqD Tryz.RQ:={
 mixed:=by kernel_rfl
 f143:=Tryz.func281.trans (congrArg some (by kernel_rfl))
 f144:=Tryz.func256.trans (congrArg some (by kernel_rfl))
 f217:=Tryz.func309.trans (congrArg some (by kernel_rfl))
 f219:=Tryz.func298.trans (congrArg some (by kernel_rfl))
 f224:=Tryz.func311.trans (congrArg some (by kernel_rfl))
 f225:=Tryz.func310.trans (congrArg some (by kernel_rfl))
 f266:=Tryz.func331.trans (congrArg some (by kernel_rfl))
 f267:=Tryz.func312.trans (congrArg some (by kernel_rfl))
 f314:=Tryz.func332.trans (congrArg some (by kernel_rfl))
 t3:=Tryz.underlying3
 a3:=Tryz.isAgg3
 z3:=Tryz.sizeOf3
 v3:=Tryz.zeroValue3
 t4:=Tryz.underlying4
 a4:=Tryz.isAgg4
 z4:=Tryz.sizeOf4
 v4:=Tryz.zeroValue4
 t5:=Tryz.underlying5
 a5:=Tryz.isAgg5
 z5:=Tryz.sizeOf5
 v5:=Tryz.zeroValue5
 t9:=Tryz.underlying9
 a9:=Tryz.isAgg9
 z9:=Tryz.sizeOf9
 v9:=Tryz.zeroValue9
 t46:=Tryz.underlying42
 a46:=Tryz.isAgg42
 z46:=Tryz.sizeOf42
 v46:=Tryz.zeroValue42
 t51:=Tryz.underlying273
 a51:=Tryz.isAgg273
 z51:=Tryz.sizeOf273
 v51:=Tryz.zeroValue273
 t146:=Tryz.underlying323
 a146:=Tryz.isAgg323
 z146:=Tryz.sizeOf323
 v146:=Tryz.zeroValue323
 g1:=by kernel_rfl}
open Go.RowKit Go.Lib in
theorem Tryz.strings_Contains_one(s:ByteArray)(c:UInt8)(w:World):
 Calls aqD 256 #[.string s,.string ⟨#[c]⟩] w fun e w'=>e=.returned (.bool (decide (0≤au0 s.data.toList c)))∧w'=w:=Any.strings_Contains_one Tryz.aeg s c w
open Go.Ev in
theorem ao1(s:List UInt8)(c:UInt8):eV aqD false false 256 [.raw (.string ⟨s.toArray⟩),.raw (.string ⟨#[c]⟩)] (.raw (.bool (decide (0≤au0 s c)))):=by
 intro M w us hM w8
 have ao2:us=[.string ⟨s.toArray⟩,.string ⟨#[c]⟩]:=by
  obtain⟨hl,hr⟩:=w8
  match us,hl with
  |[a,b],_=>
   have h1:=hr 0 _ a rfl rfl;have h2:=hr 1 _ b rfl rfl;cases h1;cases h2;rfl
 subst ao2;refine(callsIn_wide.2 (Tryz.strings_Contains_one ⟨s.toArray⟩ c w)).mono ?_;rintro e w' ⟨rfl,rfl⟩;exact⟨rfl,M,hM,fun b c h=>.inl ⟨rfl,h⟩,fun _ b c h=>h,.raw _,rfl,rfl,rfl,Nat.le_refl _,fun _ _=>rfl⟩
end Go.Proofs.YtggffkaadeagbaaGreat
namespace Go.Proofs.YtggffkaadeagbaaGreat
open Go Go.Ev
@[simp] theorem aqf(t:TypeId)(a b:Int):c_ aqD .eql t (oF a) (oF b)=some (iB (a==b)):=rfl
@[simp] theorem aqg(t:TypeId)(a b:Int):c_ aqD .gtr t (.raw (.int .i32 a)) (.raw (.int .i32 b))=some (iB (decide (a>b))):=rfl
@[simp] theorem aqh(g:Int):U4 aqD 21 5 (.raw (.int .i32 g))=some (oF (IntKind.u8.wrap g)):=by kernel_rfl
theorem u4:aqD.underlying 4=some .bool:=by kernel_rfl
@[simp] theorem apK(a b:Bool):c_ aqD .eql 4 (iB a) (iB b)=some (iB (a==b)):=ab9 _ 4 u4 a b
@[simp] theorem aqi(l:List UInt8)(p:Nat):lL 0 (iS l) (iI (p:Nat))=some (iB (decide (p<l.length))):=by simp[lL,auy]
@[simp] theorem aqj(l:List UInt8)(p:Nat):lL 1 (iS l) (iI (p:Nat))=some (.raw (.int .i32 (ass ⟨l.toArray⟩ p).1)):=by simp[lL]
@[simp] theorem aqk(l:List UInt8)(p:Nat):lL 2 (iS l) (iI (p:Nat))=some (iI ((p+(ass ⟨l.toArray⟩ p).2:Nat):Int)):=by simp[lL]
theorem n192:(aqD.funcs[192]?).map (·.params.size)=some 1:=by kernel_rfl
theorem t192(z:IV):aN aqD 192 z=true:=by kernel_rfl
theorem n136:(aqD.funcs[136]?).map (·.params.size)=some 1:=by kernel_rfl
theorem t136(z:IV):aN aqD 136 z=true:=by kernel_rfl
theorem n83:(aqD.funcs[83]?).map (·.params.size)=some 1:=by kernel_rfl
theorem t83(z:IV):aN aqD 83 z=true:=by kernel_rfl
theorem n211:(aqD.funcs[211]?).map (·.params.size)=some 1:=by kernel_rfl
theorem t211(z:IV):aN aqD 211 z=true:=by kernel_rfl
theorem t256(z:IV):aN aqD 256 z=true:=by kernel_rfl
end Go.Proofs.YtggffkaadeagbaaGreat
