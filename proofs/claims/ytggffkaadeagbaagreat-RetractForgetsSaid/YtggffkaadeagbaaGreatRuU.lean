/- A part of the proof, no condition: what lies in memory, read as memories. -/
import Derived.Test.YtggffkaadeagbaaGreatRuR
import Derived.Test.YtggffkaadeagbaaGreatEvP
open Go.Proofs.Tryz renaming prog->ar3
open Go.DataW renaming trod->as9
open List.cons renaming inj->au_
set_option linter.all false
namespace Go.Proofs.YtggffkaadeagbaaGreat
open Go Go.Ev
variable{H:Type}{enc:TypeId×Value→H}{w:World}{sp:Nat→Bool}{held:Bool}
noncomputable def fieldsOf(t:TypeId):Array Field:=match ar3.underlying t with
 |some (.struct fs)=>fs
 |_=> #[]
theorem apk:ar3.underlying 9=some .string:=by kernel_rfl
theorem acq:ar3.underlying 29=some (.struct (fieldsOf 29)):=by kernel_rfl
theorem akI:ar3.underlying 84=some (.struct (fieldsOf 84)):=by kernel_rfl
theorem akJ:ar3.underlying 52=some (.struct (fieldsOf 52)):=by kernel_rfl
theorem acr:ar3.underlying 50=some (.struct (fieldsOf 50)):=by kernel_rfl
theorem akK:ar3.underlying 63=some (.struct (fieldsOf 63)):=by kernel_rfl
theorem acu:ar3.underlying 48=some (.slice 84):=by kernel_rfl
theorem akL:ar3.underlying 47=some (.slice 3):=by kernel_rfl
theorem akM:ar3.underlying 26=some (.slice 52):=by kernel_rfl
theorem akN:ar3.underlying 27=some (.slice 63):=by kernel_rfl
theorem F3:ar3.cellsOf 3=1:=by kernel_rfl
theorem cl4:ar3.cellsOf 4=1:=by kernel_rfl
theorem SD:ar3.cellsOf 9=1:=by kernel_rfl
theorem agJ:ar3.cellsOf 26=1:=by kernel_rfl
theorem apl:ar3.cellsOf 27=1:=by kernel_rfl
theorem Pu:ar3.cellsOf 47=1:=by kernel_rfl
theorem VC:ar3.cellsOf 48=1:=by kernel_rfl
theorem agK:ar3.cellsOf 50=2:=by kernel_rfl
theorem agL:ar3.cellsOf 84=4:=by kernel_rfl
theorem apm:ar3.cellsOf 52=4:=by kernel_rfl
theorem apn:ar3.cellsOf 63=6:=by kernel_rfl
theorem apo:ar3.cellsOf 29=5:=by kernel_rfl
def bM(t i ty off:Nat):Prop:=((fieldsOf t)[i]?).map (fun f:Field=>(f.type,f.offset))=some (ty,off)
theorem akO:bM 84 0 3 0:=by unfold bM;kernel_rfl
theorem akP:bM 84 1 3 1:=by unfold bM;kernel_rfl
theorem akQ:bM 84 2 9 2:=by unfold bM;kernel_rfl
theorem akR:bM 84 3 48 3:=by unfold bM;kernel_rfl
theorem acv:bM 50 0 9 0:=by unfold bM;kernel_rfl
theorem acw:bM 50 1 48 1:=by unfold bM;kernel_rfl
theorem akS:bM 52 0 3 0:=by unfold bM;kernel_rfl
theorem akT:bM 52 1 50 1:=by unfold bM;kernel_rfl
theorem akU:bM 52 2 47 3:=by unfold bM;kernel_rfl
theorem akV:bM 63 0 3 0:=by unfold bM;kernel_rfl
theorem akW:bM 63 1 47 1:=by unfold bM;kernel_rfl
theorem akX:bM 63 2 47 2:=by unfold bM;kernel_rfl
theorem akY:bM 63 3 47 3:=by unfold bM;kernel_rfl
theorem akZ:bM 63 4 4 4:=by unfold bM;kernel_rfl
theorem ak0:bM 63 5 47 5:=by unfold bM;kernel_rfl
theorem ak1:bM 29 0 26 0:=by unfold bM;kernel_rfl
theorem ak2:bM 29 1 26 1:=by unfold bM;kernel_rfl
theorem ak3:bM 29 2 27 2:=by unfold bM;kernel_rfl
theorem ak4:bM 29 3 3 3:=by unfold bM;kernel_rfl
theorem ak5:bM 29 4 3 4:=by unfold bM;kernel_rfl
abbrev Rd(w:World)(c:IV)(u:Value):Prop:=Rv (eW (allM w)) c u
theorem uc{c:IV}{u:Value}(h:Rd w c u):ax (eW (allM w)) [c] [u]:=ax.cons h ax.nil
theorem qS{n:Nat}{u:Value}{x:DataW H×List MemPlace}(h:as9 enc ar3 w 0 sp held n 3 [u]=some x):∃a:Int,Rd w (iI a) u:=by
 obtain⟨a,h1,_⟩:=DataW.trod_int abd h;obtain rfl:=(au_ h1).1;exact⟨a,.raw _⟩
theorem ad7{n:Nat}{u:Value}{x:DataW H×List MemPlace}(h:as9 enc ar3 w 0 sp held n 4 [u]=some x):∃a:Bool,Rd w (iB a) u:=by
 obtain⟨a,h1,_⟩:=DataW.trod_bool Vs h;obtain rfl:=(au_ h1).1;exact⟨a,.raw _⟩
theorem AW{n:Nat}{u:Value}{x:DataW H×List MemPlace}(h:as9 enc ar3 w 0 sp held n 47 [u]=some x):∃l:List Int,Sm l∧Rd w (iL l) u:=by
 obtain⟨l,h1,_,h3⟩:=jQ (w:=w) iI (s:=1) (by omega) (fun _=>rfl) (fun _=>True) akL F3 (fun n us x _ hx hl=>by
  obtain⟨u,rfl⟩:=List.length_eq_one_iff.1 hl;obtain⟨a,ha⟩:=qS hx;exact⟨a,trivial,uc ha⟩) h
 exact⟨l,h1,h3⟩
theorem acx{α:Type}{l:List α}(h:l.length=4):∃a b c d,l=[a,b,c,d]:=by
 match l,h with
 |[a,b,c,d],_=>exact⟨a,b,c,d,rfl⟩
theorem acy{α:Type}{l:List α}(h:l.length=6):∃a b c d e f,l=[a,b,c,d,e,f]:=by
 match l,h with
 |[a,b,c,d,e,f],_=>exact⟨a,b,c,d,e,f,rfl⟩
theorem ak6{α:Type}{l:List α}(h:l.length=5):∃a b c d e,l=[a,b,c,d,e]:=by
 match l,h with
 |[a,b,c,d,e],_=>exact⟨a,b,c,d,e,rfl⟩
theorem Yz(t:Tm):(cellsOf (bV t)).length=4:=by rw[bo];rfl
theorem apq(fuel:Nat)(us:List Value)(x:DataW H×List MemPlace)(h:as9 enc ar3 w 0 sp held fuel 63 us=some x)(hl:us.length=6):∃f:Ap,Yo f∧ax (eW (allM w)) (cellsOf (jR f)) us:=by
 obtain⟨a,b,c,d,e,f,rfl⟩:=acy hl;obtain⟨n,hn,hf⟩:=iU akK h;obtain⟨_,h0⟩:=hf 0 3 0 1 akV F3;obtain⟨_,h1⟩:=hf 1 47 1 1 akW Pu;obtain⟨_,h2⟩:=hf 2 47 2 1 akX Pu;obtain⟨_,h3⟩:=hf 3 47 3 1 akY Pu;obtain⟨_,h4⟩:=hf 4 4 4 1 akZ cl4;obtain⟨_,h5⟩:=hf 5 47 5 1 ak0 Pu;obtain⟨rule,r0⟩:=qS h0;obtain⟨dw,w1,r1⟩:=AW h1;obtain⟨gone,w2,r2⟩:=AW h2;obtain⟨made,w3,r3⟩:=AW h3;obtain⟨failed,r4⟩:=ad7 h4;obtain⟨fK,w5,r5⟩:=AW h5;exact⟨⟨rule,dw,gone,made,failed,fK⟩,⟨w1,w2,w3,w5⟩,ax.cons r0 (ax.cons r1 (ax.cons r2 (ax.cons r3 (ax.cons r4 (ax.cons r5 ax.nil)))))⟩
theorem ak7{n:Nat}{u:Value}{x:DataW H×List MemPlace}(h:as9 enc ar3 w 0 sp held n 27 [u]=some x):∃l:List Ap,Sm l∧(∀f∈l,Yo f)∧Rd w (nR l) u:=
 jQ (w:=w) jR (s:=6) (by omega) (fun _=>rfl) Yo akN apn (fun n' oU x' _ iJ cd=>apq n' oU x' iJ cd) h
end Go.Proofs.YtggffkaadeagbaaGreat
