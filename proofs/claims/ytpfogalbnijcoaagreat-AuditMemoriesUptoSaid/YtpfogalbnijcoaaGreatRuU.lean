/- A part of the proof, no condition: what lies in memory, read as memories. -/
import Derived.Test.YtpfogalbnijcoaaGreatRuR
import Derived.Test.YtpfogalbnijcoaaGreatEvP
open Go.Proofs.Tryz renaming prog->ar1
open Go.DataW renaming trod->asY
open List.cons renaming inj->auG
open Option renaming some->aa
set_option linter.all false
namespace Go.Proofs.YtpfogalbnijcoaaGreat
open Go Go.Ev
variable{H:Type}{enc:TypeId×Value->H}{w:World}{sp:Nat->Bool}{held:Bool}
noncomputable def fieldsOf(t:TypeId):Array Field:=match ar1.underlying t with
 |some (.struct fs)=>fs
 |_=> #[]
theorem apb:ar1.underlying 9=aa .string:=by kernel_rfl
theorem ac9:ar1.underlying 29=aa (.struct (fieldsOf 29)):=by kernel_rfl
theorem akm:ar1.underlying 51=aa (.struct (fieldsOf 51)):=by kernel_rfl
theorem akn:ar1.underlying 69=aa (.struct (fieldsOf 69)):=by kernel_rfl
theorem ac_:ar1.underlying 55=aa (.struct (fieldsOf 55)):=by kernel_rfl
theorem ako:ar1.underlying 37=aa (.struct (fieldsOf 37)):=by kernel_rfl
theorem ada:ar1.underlying 49=aa (.slice 51):=by kernel_rfl
theorem akp:ar1.underlying 35=aa (.slice 3):=by kernel_rfl
theorem akq:ar1.underlying 26=aa (.slice 69):=by kernel_rfl
theorem akr:ar1.underlying 27=aa (.slice 37):=by kernel_rfl
theorem GR:ar1.cellsOf 3=1:=by kernel_rfl
theorem cl4:ar1.cellsOf 4=1:=by kernel_rfl
theorem Y3:ar1.cellsOf 9=1:=by kernel_rfl
theorem agS:ar1.cellsOf 26=1:=by kernel_rfl
theorem apc:ar1.cellsOf 27=1:=by kernel_rfl
theorem Ql:ar1.cellsOf 35=1:=by kernel_rfl
theorem abZ:ar1.cellsOf 49=1:=by kernel_rfl
theorem agT:ar1.cellsOf 55=2:=by kernel_rfl
theorem agU:ar1.cellsOf 51=4:=by kernel_rfl
theorem apd:ar1.cellsOf 69=4:=by kernel_rfl
theorem ape:ar1.cellsOf 37=6:=by kernel_rfl
theorem apf:ar1.cellsOf 29=5:=by kernel_rfl
def bS(t i ty off:Nat):Prop:=((fieldsOf t)[i]?).map (λf:Field=>(f.type,f.offset))=aa (ty,off)
theorem aks:bS 51 0 3 0:=by unfold bS;kernel_rfl
theorem akt:bS 51 1 3 1:=by unfold bS;kernel_rfl
theorem aku:bS 51 2 9 2:=by unfold bS;kernel_rfl
theorem akv:bS 51 3 49 3:=by unfold bS;kernel_rfl
theorem akw:bS 55 0 9 0:=by unfold bS;kernel_rfl
theorem akx:bS 55 1 49 1:=by unfold bS;kernel_rfl
theorem aky:bS 69 0 3 0:=by unfold bS;kernel_rfl
theorem akz:bS 69 1 55 1:=by unfold bS;kernel_rfl
theorem akA:bS 69 2 35 3:=by unfold bS;kernel_rfl
theorem akB:bS 37 0 3 0:=by unfold bS;kernel_rfl
theorem akC:bS 37 1 35 1:=by unfold bS;kernel_rfl
theorem akD:bS 37 2 35 2:=by unfold bS;kernel_rfl
theorem akE:bS 37 3 35 3:=by unfold bS;kernel_rfl
theorem akF:bS 37 4 4 4:=by unfold bS;kernel_rfl
theorem akG:bS 37 5 35 5:=by unfold bS;kernel_rfl
theorem akH:bS 29 0 26 0:=by unfold bS;kernel_rfl
theorem akI:bS 29 1 26 1:=by unfold bS;kernel_rfl
theorem akJ:bS 29 2 27 2:=by unfold bS;kernel_rfl
theorem akK:bS 29 3 3 3:=by unfold bS;kernel_rfl
theorem akL:bS 29 4 3 4:=by unfold bS;kernel_rfl
abbrev Rd(w:World)(c:IV)(u:Value):Prop:=Rv (ew (allM w)) c u
theorem uC{c:IV}{u:Value}(h:Rd w c u):aC (ew (allM w)) [c] [u]:=aC.cons h aC.nil
theorem re{n:Nat}{u:Value}{x:DataW H×List MemPlace}(h:asY enc ar1 w 0 sp held n 3 [u]=aa x):∃a:Int,Rd w (iI a) u:=by
 obtain⟨a,h1,_⟩:=DataW.trod_int abX h;obtain rfl:=(auG h1).1;exact⟨a,.raw _⟩
theorem aeG{n:Nat}{u:Value}{x:DataW H×List MemPlace}(h:asY enc ar1 w 0 sp held n 4 [u]=aa x):∃a:Bool,Rd w (iB a) u:=by
 obtain⟨a,h1,_⟩:=DataW.trod_bool WJ h;obtain rfl:=(auG h1).1;exact⟨a,.raw _⟩
theorem Bk{n:Nat}{u:Value}{x:DataW H×List MemPlace}(h:asY enc ar1 w 0 sp held n 35 [u]=aa x):∃l:List Int,Sm l/\Rd w (iL l) u:=by
 obtain⟨l,h1,_,h3⟩:=CI (w:=w) iI (s:=1) (by omega) (λ_=>rfl) (λ_=>True) akp GR (λn us x _ hx hl=>by
  obtain⟨u,rfl⟩:=List.length_eq_one_iff.1 hl;obtain⟨a,ha⟩:=re hx;exact⟨a,trivial,uC ha⟩) h
 exact⟨l,h1,h3⟩
theorem adb{α:Type}{l:List α}(h:l.length=4):∃a b c d,l=[a,b,c,d]:=by
 match l,h with
 |[a,b,c,d],_=>exact⟨a,b,c,d,rfl⟩
theorem ade{α:Type}{l:List α}(h:l.length=6):∃a b c d e f,l=[a,b,c,d,e,f]:=by
 match l,h with
 |[a,b,c,d,e,f],_=>exact⟨a,b,c,d,e,f,rfl⟩
theorem akM{α:Type}{l:List α}(h:l.length=5):∃a b c d e,l=[a,b,c,d,e]:=by
 match l,h with
 |[a,b,c,d,e],_=>exact⟨a,b,c,d,e,rfl⟩
theorem Y4(t:Tm):(cellsOf (dH t)).length=4:=by rw[cL];rfl
theorem apg(fuel:Nat)(us:List Value)(x:DataW H×List MemPlace)(h:asY enc ar1 w 0 sp held fuel 37 us=aa x)(hl:us.length=6):∃f:Ap,WfP f/\aC (ew (allM w)) (cellsOf (kS f)) us:=by
 obtain⟨a,b,c,d,e,f,rfl⟩:=ade hl;obtain⟨n,hn,hf⟩:=Jp ako h;obtain⟨_,h0⟩:=hf 0 3 0 1 akB GR;obtain⟨_,h1⟩:=hf 1 35 1 1 akC Ql;obtain⟨_,h2⟩:=hf 2 35 2 1 akD Ql;obtain⟨_,h3⟩:=hf 3 35 3 1 akE Ql;obtain⟨_,h4⟩:=hf 4 4 4 1 akF cl4;obtain⟨_,h5⟩:=hf 5 35 5 1 akG Ql;obtain⟨rule,r0⟩:=re h0;obtain⟨aW,w1,r1⟩:=Bk h1;obtain⟨gone,w2,r2⟩:=Bk h2;obtain⟨made,w3,r3⟩:=Bk h3;obtain⟨failed,r4⟩:=aeG h4;obtain⟨ff,w5,r5⟩:=Bk h5;exact⟨⟨rule,aW,gone,made,failed,ff⟩,⟨w1,w2,w3,w5⟩,aC.cons r0 (aC.cons r1 (aC.cons r2 (aC.cons r3 (aC.cons r4 (aC.cons r5 aC.nil)))))⟩
theorem akN{n:Nat}{u:Value}{x:DataW H×List MemPlace}(h:asY enc ar1 w 0 sp held n 27 [u]=aa x):∃l:List Ap,Sm l/\(∀f∈l,WfP f)/\Rd w (mu l) u:=
 CI (w:=w) kS (s:=6) (by omega) (λ_=>rfl) WfP akr ape (λn' ph x' _ il cq=>apg n' ph x' il cq) h
end Go.Proofs.YtpfogalbnijcoaaGreat
