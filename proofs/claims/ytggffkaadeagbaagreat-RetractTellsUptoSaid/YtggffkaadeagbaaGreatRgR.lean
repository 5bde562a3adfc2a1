/- A part of the proof, no condition: the law at plain values; what lies in memory, read as programs. -/
import Derived.Test.YtggffkaadeagbaaGreatRgP
import Derived.Test.YtggffkaadeagbaaGreatRuU
open Go.Proofs.Tryz renaming prog->asK
open Go.DataW renaming trod->atL
open List.cons renaming inj->avn
open Option renaming some->aa
set_option linter.all false
namespace Go.Proofs.YtggffkaadeagbaaGreat
open Go Go.Ev
end Go.Proofs.YtggffkaadeagbaaGreat
namespace Go.Proofs.YtggffkaadeagbaaGreat
open Go Go.Ev
variable{H:Type}{enc:TypeId×Value->H}{w:World}{sp:Nat->Bool}{held:Bool}
theorem aeg:asK.underlying 25=aa (.struct (fieldsOf 25)):=by kernel_rfl
theorem amA:asK.underlying 86=aa (.struct (fieldsOf 86)):=by kernel_rfl
theorem amB:asK.underlying 68=aa (.struct (fieldsOf 68)):=by kernel_rfl
theorem amC:asK.underlying 88=aa (.struct (fieldsOf 88)):=by kernel_rfl
theorem amD:asK.underlying 22=aa (.slice 86):=by kernel_rfl
theorem amE:asK.underlying 23=aa (.slice 68):=by kernel_rfl
theorem aeh:asK.underlying 34=aa (.slice 50):=by kernel_rfl
theorem amF:asK.underlying 66=aa (.slice 88):=by kernel_rfl
theorem aqE:asK.cellsOf 22=1:=by kernel_rfl
theorem aqF:asK.cellsOf 23=1:=by kernel_rfl
theorem ain:asK.cellsOf 34=1:=by kernel_rfl
theorem aio:asK.cellsOf 66=1:=by kernel_rfl
theorem aqG:asK.cellsOf 86=2:=by kernel_rfl
theorem aqH:asK.cellsOf 68=6:=by kernel_rfl
theorem aqI:asK.cellsOf 88=3:=by kernel_rfl
theorem aqJ:asK.cellsOf 25=2:=by kernel_rfl
theorem amG:bT 25 0 22 0:=by unfold bT;kernel_rfl
theorem amH:bT 25 1 23 1:=by unfold bT;kernel_rfl
theorem amI:bT 86 0 9 0:=by unfold bT;kernel_rfl
theorem amJ:bT 86 1 3 1:=by unfold bT;kernel_rfl
theorem amK:bT 68 0 9 0:=by unfold bT;kernel_rfl
theorem amL:bT 68 1 34 1:=by unfold bT;kernel_rfl
theorem amM:bT 68 2 34 2:=by unfold bT;kernel_rfl
theorem amN:bT 68 3 66 3:=by unfold bT;kernel_rfl
theorem amO:bT 68 4 66 4:=by unfold bT;kernel_rfl
theorem amP:bT 68 5 3 5:=by unfold bT;kernel_rfl
theorem amQ:bT 88 0 3 0:=by unfold bT;kernel_rfl
theorem amR:bT 88 1 9 1:=by unfold bT;kernel_rfl
theorem amS:bT 88 2 48 2:=by unfold bT;kernel_rfl
theorem XB{α:Type}{l:List α}(h:l.length=2):∃a b,l=[a,b]:=by
 match l,h with
 |[a,b],_=>exact⟨a,b,rfl⟩
theorem amT{α:Type}{l:List α}(h:l.length=3):∃a b c,l=[a,b,c]:=by
 match l,h with
 |[a,b,c],_=>exact⟨a,b,c,rfl⟩
theorem Fh{n:Nat}{u:Value}{x:DataW H×List MemPlace}(h:atL enc asK w 0 sp held n 9 [u]=aa x):∃a:List UInt8,Sm a/\Rd w (iS a) u:=by
 obtain⟨a,h1,h2⟩:=DataW.trod_string aqe h;obtain rfl:=(avn h1).1;refine⟨a.data.toList,?_,?_⟩
 ·have:=h2.2;simp only[maxLen]at this;show a.data.toList.length<=_;rw[Array.length_toList];have he:a.size=a.data.size:=rfl;omega
 ·unfold iS;rw[bytes_eta];exact .raw _
def RdR(r:Rl):Prop:=JZ r/\Sm r.keep/\Sm r.remove/\Sm r.guard/\Sm r.body
theorem aqK(fuel:Nat)(us:List Value)(x:DataW H×List MemPlace)(h:atL enc asK w 0 sp held fuel 86 us=aa x)(hl:us.length=2):∃f:De,Sm f.s/\aB (eH (allM w)) (cellsOf (Rg f)) us:=by
 obtain⟨a,b,rfl⟩:=XB hl;obtain⟨n,hn,hf⟩:=JR amA h;obtain⟨_,h0⟩:=hf 0 9 0 1 amI ZX;obtain⟨_,h1⟩:=hf 1 3 1 1 amJ Hg;obtain⟨s,w0,r0⟩:=Fh h0;obtain⟨k,r1⟩:=rO h1;exact⟨⟨s,k⟩,w0,aB.cons r0 (aB.cons r1 aB.nil)⟩
theorem yX.wf{f:Fa}(h:yX f):T8 f:=⟨⟨h.1.2.1,λt ht=>(h.1.2.2 t ht).wf⟩,h.2⟩
end Go.Proofs.YtggffkaadeagbaaGreat
