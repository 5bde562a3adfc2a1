/- A part of the proof, no condition: the law at plain values; what lies in memory, read as programs. -/
import Derived.Test.YtggffkaadeagbaaGreatRgP
import Derived.Test.YtggffkaadeagbaaGreatRuU
open Go.Proofs.Tryz renaming prog->aqD
open Go.DataW renaming trod->arB
open List.cons renaming inj->atf
set_option linter.all false
namespace Go.Proofs.YtggffkaadeagbaaGreat
open Go Go.Ev
end Go.Proofs.YtggffkaadeagbaaGreat
namespace Go.Proofs.YtggffkaadeagbaaGreat
open Go Go.Ev
variable{H:Type}{enc:TypeId×Value→H}{w:World}{sp:Nat→Bool}{held:Bool}
theorem acC:aqD.underlying 25=some (.struct (fieldsOf 25)):=by kernel_rfl
theorem akK:aqD.underlying 86=some (.struct (fieldsOf 86)):=by kernel_rfl
theorem akL:aqD.underlying 68=some (.struct (fieldsOf 68)):=by kernel_rfl
theorem akM:aqD.underlying 88=some (.struct (fieldsOf 88)):=by kernel_rfl
theorem akN:aqD.underlying 22=some (.slice 86):=by kernel_rfl
theorem akO:aqD.underlying 23=some (.slice 68):=by kernel_rfl
theorem akP:aqD.underlying 34=some (.slice 50):=by kernel_rfl
theorem akQ:aqD.underlying 66=some (.slice 88):=by kernel_rfl
theorem aoB:aqD.cellsOf 22=1:=by kernel_rfl
theorem aoC:aqD.cellsOf 23=1:=by kernel_rfl
theorem agD:aqD.cellsOf 34=1:=by kernel_rfl
theorem agE:aqD.cellsOf 66=1:=by kernel_rfl
theorem aoD:aqD.cellsOf 86=2:=by kernel_rfl
theorem aoE:aqD.cellsOf 68=6:=by kernel_rfl
theorem aoF:aqD.cellsOf 88=3:=by kernel_rfl
theorem aoG:aqD.cellsOf 25=2:=by kernel_rfl
theorem akR:bN 25 0 22 0:=by unfold bN;kernel_rfl
theorem akS:bN 25 1 23 1:=by unfold bN;kernel_rfl
theorem akT:bN 86 0 9 0:=by unfold bN;kernel_rfl
theorem akU:bN 86 1 3 1:=by unfold bN;kernel_rfl
theorem akV:bN 68 0 9 0:=by unfold bN;kernel_rfl
theorem akW:bN 68 1 34 1:=by unfold bN;kernel_rfl
theorem akX:bN 68 2 34 2:=by unfold bN;kernel_rfl
theorem akY:bN 68 3 66 3:=by unfold bN;kernel_rfl
theorem akZ:bN 68 4 66 4:=by unfold bN;kernel_rfl
theorem ak0:bN 68 5 3 5:=by unfold bN;kernel_rfl
theorem ak1:bN 88 0 3 0:=by unfold bN;kernel_rfl
theorem ak2:bN 88 1 9 1:=by unfold bN;kernel_rfl
theorem ak3:bN 88 2 48 2:=by unfold bN;kernel_rfl
theorem VZ{α:Type}{l:List α}(h:l.length=2):∃a b,l=[a,b]:=by
 match l,h with
 |[a,b],_=>exact⟨a,b,rfl⟩
theorem ak4{α:Type}{l:List α}(h:l.length=3):∃a b c,l=[a,b,c]:=by
 match l,h with
 |[a,b,c],_=>exact⟨a,b,c,rfl⟩
theorem D7{n:Nat}{u:Value}{x:DataW H×List MemPlace}(h:arB enc aqD w 0 sp held n 9 [u]=some x):∃a:List UInt8,Sm a∧Rd w (iS a) u:=by
 obtain⟨a,h1,h2⟩:=DataW.trod_string aob h;obtain rfl:=(atf h1).1;refine⟨a.data.toList,?_,?_⟩
 ·have:=h2.2;simp only[maxLen]at this;show a.data.toList.length≤_;rw[Array.length_toList];have he:a.size=a.data.size:=rfl;omega
 ·unfold iS;rw[bytes_eta];exact .raw _
def RdR(r:Rl):Prop:=IX r∧Sm r.keep∧Sm r.remove∧Sm r.guard∧Sm r.body
theorem aoH(fuel:Nat)(us:List Value)(x:DataW H×List MemPlace)(h:arB enc aqD w 0 sp held fuel 86 us=some x)(hl:us.length=2):∃f:De,Sm f.s∧ax (eo (allM w)) (cellsOf (P_ f)) us:=by
 obtain⟨a,b,rfl⟩:=VZ hl;obtain⟨n,hn,hf⟩:=IP akK h;obtain⟨_,h0⟩:=hf 0 9 0 1 akT Yc;obtain⟨_,h1⟩:=hf 1 3 1 1 akU Ga;obtain⟨s,w0,r0⟩:=D7 h0;obtain⟨k,r1⟩:=qK h1;exact⟨⟨s,k⟩,w0,ax.cons r0 (ax.cons r1 ax.nil)⟩
theorem Aq.wf{f:Fa}(h:Aq f):WfF f:=⟨⟨h.1.2.1,fun t ht=>(h.1.2.2 t ht).wf⟩,h.2⟩
end Go.Proofs.YtggffkaadeagbaaGreat
