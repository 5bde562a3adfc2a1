/- A part of the proof, no condition: names. -/
import Derived.Test.YtggffkaadeagbaaGreatEvJ
import Derived.Test.YtggffkaadeagbaaGreatRuA
import Derived.Shelf.Strings.Search3
import Derived.Test.YtggffkaadeagbaaGreatEvH
import Derived.Test.YtggffkaadeagbaaGreatProg
import Derived.Test.YtggffkaadeagbaaGreatRhA
import Derived.Laws.RangeAny
open Go.Proofs.Tryz renaming prog->ar3
open Go.Proofs.Lays renaming n144->axs
open Go.Lib renaming indexByte->axt
open Nat renaming le_refl->ar9
open Go.IntKind renaming u8->axf
open ByteArray renaming size->avk
open Go.Utf8 renaming decode->atG
set_option linter.all false
namespace Go.Proofs.YtggffkaadeagbaaGreat
open Go Go.Ev
def Fq:List Nat:=[123,127,126,186,189,44,79,30,102,9,10,23,31,15,257,149,89,148,198,147,199,50,191,71,214,93,163,49,152,64,164,158,95,108,206,250,213,130,131,107,129,155,34,90,51,202,153,201,200,151,203,150,204,154,91,41,67,101,99,109,157,210,12,26,28,25,14,19,100,40,39,70,69,35,53,52,68,42,58,75,24,27,22,29,61,190,66,133,128,249,121,78,183,83,211,192,136,256]
def Fs:List Nat:=[]
def Ft:List Nat:=[185,188,254]
def Fu:List Nat:=[155,159,103]
def Zx:af:=
 (nb aY .leq 5 (mb 97) aY (BK .leq 5 122 1 (xW .leq 5 (mb 65) aY (BK .leq 5 90 2 (wC 5 E4 (EU 2) (xW .leq 5 (mb 48) aY (BK .leq 5 57 4 zg) zg))) (wC 5 E4 (EU 2) (xW .leq 5 (mb 48) aY (BK .leq 5 57 4 zg) zg)))) (xW .leq 5 (mb 65) aY (BK .leq 5 90 2 (wC 5 E4 (EU 2) (xW .leq 5 (mb 48) aY (BK .leq 5 57 4 zg) zg))) (wC 5 E4 (EU 2) (xW .leq 5 (mb 48) aY (BK .leq 5 57 4 zg) zg))))
def ah2:aL:=⟨Fq,Fs,Ft,[],Fu⟩
theorem amE:aA ar3 ah2 400 false 192=Zx:=by kernel_rfl
def Zy:af:=
 (nb aY .eql 9 aY (.s [99,111,110,115,116,114,97,105,110,116]) ja (Bw 9 (.s [116,114,117,101]) ja 9 (.s [102,97,105,108]) ja (Bw 9 (.s [105,115]) ja 9 (.s [105,110,116]) ja (wC 9 (.s [103,114,111,117,110,100]) ja aQ))))
def ah3:aL:=⟨Fq,Fs,Ft,[],Fu⟩
theorem amF:aA ar3 ah3 400 false 136=Zy:=by kernel_rfl
def Tx:af:=
 (.loop (oH (.tp (ko s6 bz))) (.test (.dec 0 E7 BF) (.bind (.tp (ko E7 (.dec 2 E7 BF))) (xW .gtr 21 (.dec 1 E7 BF) (.k .i32 122) (xW .eql 4 kX kX (kK .lss BF bz (fH 136 aY 5 (.nr (sV dy))) aQ) (uS 0 4)) (.aG (.ok (.cv 21 5 (.dec 1 E7 BF))) (iC 192 (.ok (.cv 21 5 (.dec 1 E7 BF))) (cB dy (wO .and 174 dy 7) (nb (wO .eql 174 (wO .and 174 dy 7) 0) .eql 4 (wO .eql 174 (wO .and 174 dy 7) 0) kX (kK .lss BF bz (fH 136 aY 6 (.nr (sV eh))) aQ) (uS 0 4))))))) (kK .lss H4 bz (fH 136 aY 4 (.nr (sV dO))) aQ)))
def MM:af:=
 (nb aY .eql 9 aY UR aQ (fe s7 s7 40 (.aG (H0 bz) (fH 192 (H0 bz) 1 (nb (wO .and 174 bK 1) .eql 174 (wO .and 174 bK 1) (mb 0) aQ (.bind (.Gx aY (.i 1) s7) (.aG (.rB s6) Tx)))))))
def amG:aL:=⟨Fq,Fs,Ft,[⟨3,83005023008,2,[],[(0,0)],[],[]⟩],Fu⟩
theorem aqz:aA ar3 amG 400 false 83=MM:=by kernel_rfl
def Zz:af:=
 (mc (rm s7 .eql s7 1 (fV 256 (.s [43,45,42,47,37]) aY (.nr bK))))
def ah4:aL:=⟨Fq,Fs,Ft,[],Fu⟩
theorem amH:aA ar3 ah4 400 false 211=Zz:=by kernel_rfl
end Go.Proofs.YtggffkaadeagbaaGreat
namespace Go.Proofs.YtggffkaadeagbaaGreat
open Go.Shelf
def Tryz.Ri:Go.Shelf.Ren:=⟨fun|144=>256|143=>281|219=>298|217=>309|225=>310|224=>311|267=>312|266=>331|314=>332|n=>n,fun|9=>9|4=>4|3=>3|5=>5|46=>42|146=>323|51=>273|n=>n,fun|1=>0|n=>n⟩
theorem Tryz.aeB:axs ar3 Tryz.Ri:={
 mixed:=by kernel_rfl
 f143:=Tryz.func281.trans (congrArg some (by kernel_rfl))
 f144:=Tryz.func256.trans (congrArg some (by kernel_rfl))
 f217:=Tryz.func309.trans (congrArg some (by kernel_rfl))
 f219:=Tryz.func298.trans (congrArg some (by kernel_rfl))
 f224:=Tryz.func311.trans (congrArg some (by kernel_rfl))
 f225:=Tryz.func310.trans (congrArg some (by kernel_rfl))
 f266:=Tryz.func331.trans (congrArg some (by kernel_rfl))
 f267:=Tryz.func312.trans (congrArg some (by kernel_rfl))
 f314:=Tryz.func332.trans (congrArg some (by kernel_rfl))
 t3:=Tryz.underlying3
 a3:=Tryz.isAgg3
 z3:=Tryz.sizeOf3
 v3:=Tryz.zeroValue3
 t4:=Tryz.underlying4
 a4:=Tryz.isAgg4
 z4:=Tryz.sizeOf4
 v4:=Tryz.zeroValue4
 t5:=Tryz.underlying5
 a5:=Tryz.isAgg5
 z5:=Tryz.sizeOf5
 v5:=Tryz.zeroValue5
 t9:=Tryz.underlying9
 a9:=Tryz.isAgg9
 z9:=Tryz.sizeOf9
 v9:=Tryz.zeroValue9
 t46:=Tryz.underlying42
 a46:=Tryz.isAgg42
 z46:=Tryz.sizeOf42
 v46:=Tryz.zeroValue42
 t51:=Tryz.underlying273
 a51:=Tryz.isAgg273
 z51:=Tryz.sizeOf273
 v51:=Tryz.zeroValue273
 t146:=Tryz.underlying323
 a146:=Tryz.isAgg323
 z146:=Tryz.sizeOf323
 v146:=Tryz.zeroValue323
 g1:=by kernel_rfl}
open Go.RowKit Go.Lib in
theorem Tryz.strings_Contains_one(s:ByteArray)(c:UInt8)(w:World):
 Calls ar3 256 #[.string s,.string ⟨#[c]⟩] w fun e w'=>e=.returned (.bool (decide (0≤axt s.data.toList c)))∧w'=w:=Any.strings_Contains_one Tryz.aeB s c w
open Go.Ev in
theorem aqA(s:List UInt8)(c:UInt8):dC ar3 false false 256 [.raw (.string ⟨s.toArray⟩),.raw (.string ⟨#[c]⟩)] (.raw (.bool (decide (0≤axt s c)))):=by
 intro M w us hM xE
 have aqB:us=[.string ⟨s.toArray⟩,.string ⟨#[c]⟩]:=by
  obtain⟨hl,hr⟩:=xE
  match us,hl with
  |[a,b],_=>
   have h1:=hr 0 _ a rfl rfl;have h2:=hr 1 _ b rfl rfl;cases h1;cases h2;rfl
 subst aqB;refine(callsIn_wide.2 (Tryz.strings_Contains_one ⟨s.toArray⟩ c w)).mono ?_;rintro e w' ⟨rfl,rfl⟩;exact⟨rfl,M,hM,fun b c h=>.inl ⟨rfl,h⟩,fun _ b c h=>h,.raw _,rfl,rfl,rfl,ar9 _,fun _ _=>rfl⟩
end Go.Proofs.YtggffkaadeagbaaGreat
namespace Go.Proofs.YtggffkaadeagbaaGreat
open Go Go.Ev
@[simp] theorem arG(t:TypeId)(a b:Int):da ar3 .eql t (nT a) (nT b)=some (iB (a==b)):=rfl
theorem ada(t:TypeId)(a b:Int):∃n:Int,da ar3 .and t (nT a) (nT b)=some (nT n):=⟨_,rfl⟩
@[simp] theorem arH(t:TypeId)(a b:Int):da ar3 .gtr t (.raw (.int .i32 a)) (.raw (.int .i32 b))=some (iB (decide (a>b))):=rfl
@[simp] theorem arI(g:Int):UI ar3 21 5 (.raw (.int .i32 g))=some (nT (axf.wrap g)):=by kernel_rfl
theorem u4:ar3.underlying 4=some .bool:=by kernel_rfl
@[simp] theorem ara(a b:Bool):da ar3 .eql 4 (iB a) (iB b)=some (iB (a==b)):=aca _ 4 u4 a b
@[simp] theorem arJ(l:List UInt8)(p:Nat):lO 0 (iS l) (iI (p:Nat))=some (iB (decide (p<l.length))):=by simp[lO,avk]
@[simp] theorem arK(l:List UInt8)(p:Nat):lO 1 (iS l) (iI (p:Nat))=some (.raw (.int .i32 (atG ⟨l.toArray⟩ p).1)):=by simp[lO]
@[simp] theorem arL(l:List UInt8)(p:Nat):lO 2 (iS l) (iI (p:Nat))=some (iI ((p+(atG ⟨l.toArray⟩ p).2:Nat):Int)):=by simp[lO]
theorem V6(s:ByteArray)(pos:Nat)(h:pos<s.size):1≤(atG s pos).2:=by
 by_cases ha:(s[pos]'h).toNat<128
 ·rw[decode_ascii s pos h ha];exact ar9 _
 ·exact(decode_high s pos h (by omega)).2
theorem amI{C:Cr}(aqC:∀s,∃b,C 136 false [iS s] (iB b))(ah5:∀c:Int,∃n:Int,C 192 false [nT c] (nT n))(s:List UInt8):MM.sat ar3 C AX [] [iS s]:=by
 obtain⟨r,hr⟩:=aqC s;cases s with
 |nil=>simp[MM,SE.den]
 |cons c s'=>
  obtain⟨a,ha⟩:=ah5 (c.toNat:Int);obtain⟨m,hm⟩:=ada 174 a 1;simp[MM,SE.den];by_cases h1:(40:Int)<s'.length+1
  ·left;exact h1
  right;refine⟨by omega,_,ha,?_⟩;simp[hm];by_cases h2:m=0
  ·left;exact h2
  right;refine⟨h2,?_⟩;refine⟨iS s',?_,⟨_,ag8 s'⟩,?_⟩
  ·have e1:((s'.length:Int)+1).toNat- 1=s'.length:=by omega
   simp[fa,avk,e1];omega
  unfold Tx;refine D7 (fun p:Nat=>[.av [iS s',iI p]]) (fun _=>True) (fun p=>s'.length- p) 0 ?_ trivial fun p _=>?_
  ·simp[SE.den]
  by_cases hp:p<s'.length
  ·have hw:=V6 ⟨s'.toArray⟩ p (by simpa[avk]using hp);generalize aqD:atG ⟨s'.toArray⟩ p=dd at hw;obtain⟨rn,w⟩:=dd;obtain⟨a2,D1⟩:=ah5 (axf.wrap rn);obtain⟨m2,Wo⟩:=ada 174 a2 7;have hn:¬((p:Int)<0):=by omega
   simp[SE.den,hp,aqD,hn];by_cases OA:122<(rn:Int)
   ·left;exact OA
   right;refine⟨by omega,_,D1,?_⟩;simp[Wo];simp only at hw;by_cases Wp:m2=0
   ·left;exact Wp
   ·right;exact⟨Wp,p+w,by omega,by omega⟩
  ·simp[SE.den,hp];exact⟨_,hr,by simp⟩
theorem n192:(ar3.funcs[192]?).map (·.params.size)=some 1:=by kernel_rfl
theorem t192(z:IV):aD ar3 192 z=true:=by kernel_rfl
theorem n136:(ar3.funcs[136]?).map (·.params.size)=some 1:=by kernel_rfl
theorem t136(z:IV):aD ar3 136 z=true:=by kernel_rfl
theorem n83:(ar3.funcs[83]?).map (·.params.size)=some 1:=by kernel_rfl
theorem t83(z:IV):aD ar3 83 z=true:=by kernel_rfl
theorem n211:(ar3.funcs[211]?).map (·.params.size)=some 1:=by kernel_rfl
theorem t211(z:IV):aD ar3 211 z=true:=by kernel_rfl
theorem t256(z:IV):aD ar3 256 z=true:=by kernel_rfl
theorem aqE(c:Int):∃n:Int,CC 192 false [nT c] (nT n):=by
 obtain⟨z,⟨n,rfl⟩,h⟩:=CC.PS (Q:=fun z=>∃n,z=nT n) (args:=[nT c]) amE n192 (fun z _=>t192 z) (by simp) (by rintro _ ⟨n,rfl⟩;exact .raw _) (by rfl) (by simp[Zx,SE.den];omega);exact⟨n,h⟩
theorem aqF(s:List UInt8):∃b,CC 136 false [iS s] (iB b):=by
 refine CC.bool amF n136 t136 (by simp) (by rfl) ?_;simp[Zy,SE.den]
 grind
theorem e83(s:List UInt8):∃b,CC 83 false [iS s] (iB b):=
 CC.bool aqz n83 t83 (by simp) (by rfl) (amI aqF aqE s)
theorem aqG(s:List UInt8)(c:UInt8):∃b,CC 256 false [iS s,iS [c]] (iB b):=
 ⟨_,CC.plain (by rw[dJ];decide) (aqA s c) (.raw _) (t256 _)⟩
theorem aqH(s:List UInt8):∃b,CC 211 false [iS s] (iB b):=by
 refine CC.bool amH n211 t211 (by simp) (by rfl) ?_;simp[Zz,SE.den]
 match s with
 |[c]=>
  obtain⟨b,hb⟩:=aqG [43,45,42,47,37] c;left;exact⟨by simp,_,hb,by simp⟩
 |[]=>right;simp
 |_::_::_=>right;simp;omega
theorem names:Names:=⟨fun s _=>e83 s,fun s _=>aqH s⟩
end Go.Proofs.YtggffkaadeagbaaGreat
