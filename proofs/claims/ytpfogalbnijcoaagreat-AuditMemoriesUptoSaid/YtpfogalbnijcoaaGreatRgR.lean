/- A part of the proof, no condition: the law at plain values; what lies in memory, read as programs. -/
import Derived.Test.YtpfogalbnijcoaaGreatRgP
import Derived.Test.YtpfogalbnijcoaaGreatRuU
open Go.Proofs.Tryz renaming prog->ar1
open Go.DataW renaming trod->asY
open List.cons renaming inj->auG
open Option renaming some->aa
set_option linter.all false
namespace Go.Proofs.YtpfogalbnijcoaaGreat
open Go Go.Ev
end Go.Proofs.YtpfogalbnijcoaaGreat
namespace Go.Proofs.YtpfogalbnijcoaaGreat
open Go Go.Ev
variable{H:Type}{enc:TypeId×Value->H}{w:World}{sp:Nat->Bool}{held:Bool}
theorem adv:ar1.underlying 25=aa (.struct (fieldsOf 25)):=by kernel_rfl
theorem alz:ar1.underlying 53=aa (.struct (fieldsOf 53)):=by kernel_rfl
theorem alA:ar1.underlying 46=aa (.struct (fieldsOf 46)):=by kernel_rfl
theorem alB:ar1.underlying 82=aa (.struct (fieldsOf 82)):=by kernel_rfl
theorem alC:ar1.underlying 22=aa (.slice 53):=by kernel_rfl
theorem alD:ar1.underlying 23=aa (.slice 46):=by kernel_rfl
theorem alE:ar1.underlying 43=aa (.slice 55):=by kernel_rfl
theorem alF:ar1.underlying 44=aa (.slice 82):=by kernel_rfl
theorem apC:ar1.cellsOf 22=1:=by kernel_rfl
theorem apD:ar1.cellsOf 23=1:=by kernel_rfl
theorem ahw:ar1.cellsOf 43=1:=by kernel_rfl
theorem ahx:ar1.cellsOf 44=1:=by kernel_rfl
theorem apE:ar1.cellsOf 53=2:=by kernel_rfl
theorem apF:ar1.cellsOf 46=6:=by kernel_rfl
theorem apG:ar1.cellsOf 82=3:=by kernel_rfl
theorem apH:ar1.cellsOf 25=2:=by kernel_rfl
theorem alG:bS 25 0 22 0:=by unfold bS;kernel_rfl
theorem alH:bS 25 1 23 1:=by unfold bS;kernel_rfl
theorem alI:bS 53 0 9 0:=by unfold bS;kernel_rfl
theorem alJ:bS 53 1 3 1:=by unfold bS;kernel_rfl
theorem alK:bS 46 0 9 0:=by unfold bS;kernel_rfl
theorem alL:bS 46 1 43 1:=by unfold bS;kernel_rfl
theorem alM:bS 46 2 43 2:=by unfold bS;kernel_rfl
theorem alN:bS 46 3 44 3:=by unfold bS;kernel_rfl
theorem alO:bS 46 4 44 4:=by unfold bS;kernel_rfl
theorem alP:bS 46 5 3 5:=by unfold bS;kernel_rfl
theorem alQ:bS 82 0 3 0:=by unfold bS;kernel_rfl
theorem alR:bS 82 1 9 1:=by unfold bS;kernel_rfl
theorem alS:bS 82 2 49 2:=by unfold bS;kernel_rfl
theorem WU{α:Type}{l:List α}(h:l.length=2):∃a b,l=[a,b]:=by
 match l,h with
 |[a,b],_=>exact⟨a,b,rfl⟩
theorem alT{α:Type}{l:List α}(h:l.length=3):∃a b c,l=[a,b,c]:=by
 match l,h with
 |[a,b,c],_=>exact⟨a,b,c,rfl⟩
theorem EL{n:Nat}{u:Value}{x:DataW H×List MemPlace}(h:asY enc ar1 w 0 sp held n 9 [u]=aa x):∃a:List UInt8,Sm a/\Rd w (iS a) u:=by
 obtain⟨a,h1,h2⟩:=DataW.trod_string apb h;obtain rfl:=(auG h1).1;refine⟨a.data.toList,?_,?_⟩
 ·have:=h2.2;simp only[maxLen]at this;show a.data.toList.length<=_;rw[Array.length_toList];have he:a.size=a.data.size:=rfl;omega
 ·unfold iS;rw[bytes_eta];exact .raw _
def RdR(r:Rl):Prop:=Jv r/\Sm r.keep/\Sm r.remove/\Sm r.guard/\Sm r.body
theorem apI(fuel:Nat)(us:List Value)(x:DataW H×List MemPlace)(h:asY enc ar1 w 0 sp held fuel 53 us=aa x)(hl:us.length=2):∃f:De,Sm f.s/\aC (ew (allM w)) (cellsOf (QK f)) us:=by
 obtain⟨a,b,rfl⟩:=WU hl;obtain⟨n,hn,hf⟩:=Jp alz h;obtain⟨_,h0⟩:=hf 0 9 0 1 alI Y3;obtain⟨_,h1⟩:=hf 1 3 1 1 alJ GR;obtain⟨s,w0,r0⟩:=EL h0;obtain⟨k,r1⟩:=re h1;exact⟨⟨s,k⟩,w0,aC.cons r0 (aC.cons r1 aC.nil)⟩
theorem yO.wf{f:Fa}(h:yO f):WfF f:=⟨⟨h.1.2.1,λt ht=>(h.1.2.2 t ht).wf⟩,h.2⟩
end Go.Proofs.YtpfogalbnijcoaaGreat
