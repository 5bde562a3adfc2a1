/- A part of the proof, no condition: what lies in memory, read as memories. -/
import Derived.Test.YtggffkaadeagbaaGreatRuR
import Derived.Test.YtggffkaadeagbaaGreatEvP
open Go.Proofs.Tryz renaming prog->aqD
open Go.DataW renaming trod->arB
open List.cons renaming inj->atf
set_option linter.all false
namespace Go.Proofs.YtggffkaadeagbaaGreat
open Go Go.Ev
variable{H:Type}{enc:TypeId×Value→H}{w:World}{sp:Nat→Bool}{held:Bool}
noncomputable def fieldsOf(t:TypeId):Array Field:=match aqD.underlying t with
 |some (.struct fs)=>fs
 |_=> #[]
theorem aob:aqD.underlying 9=some .string:=by kernel_rfl
theorem ace:aqD.underlying 29=some (.struct (fieldsOf 29)):=by kernel_rfl
theorem ajz:aqD.underlying 84=some (.struct (fieldsOf 84)):=by kernel_rfl
theorem ajA:aqD.underlying 52=some (.struct (fieldsOf 52)):=by kernel_rfl
theorem acf:aqD.underlying 50=some (.struct (fieldsOf 50)):=by kernel_rfl
theorem ajB:aqD.underlying 63=some (.struct (fieldsOf 63)):=by kernel_rfl
theorem acg:aqD.underlying 48=some (.slice 84):=by kernel_rfl
theorem ajC:aqD.underlying 47=some (.slice 3):=by kernel_rfl
theorem ajD:aqD.underlying 26=some (.slice 52):=by kernel_rfl
theorem ajE:aqD.underlying 27=some (.slice 63):=by kernel_rfl
theorem Ga:aqD.cellsOf 3=1:=by kernel_rfl
theorem cl4:aqD.cellsOf 4=1:=by kernel_rfl
theorem Yc:aqD.cellsOf 9=1:=by kernel_rfl
theorem afX:aqD.cellsOf 26=1:=by kernel_rfl
theorem aoc:aqD.cellsOf 27=1:=by kernel_rfl
theorem PI:aqD.cellsOf 47=1:=by kernel_rfl
theorem aa8:aqD.cellsOf 48=1:=by kernel_rfl
theorem afY:aqD.cellsOf 50=2:=by kernel_rfl
theorem afZ:aqD.cellsOf 84=4:=by kernel_rfl
theorem aod:aqD.cellsOf 52=4:=by kernel_rfl
theorem aoe:aqD.cellsOf 63=6:=by kernel_rfl
theorem aof:aqD.cellsOf 29=5:=by kernel_rfl
def bN(t i ty off:Nat):Prop:=((fieldsOf t)[i]?).map (fun f:Field=>(f.type,f.offset))=some (ty,off)
theorem ajF:bN 84 0 3 0:=by unfold bN;kernel_rfl
theorem ajG:bN 84 1 3 1:=by unfold bN;kernel_rfl
theorem ajH:bN 84 2 9 2:=by unfold bN;kernel_rfl
theorem ajI:bN 84 3 48 3:=by unfold bN;kernel_rfl
theorem ajJ:bN 50 0 9 0:=by unfold bN;kernel_rfl
theorem ajK:bN 50 1 48 1:=by unfold bN;kernel_rfl
theorem ajL:bN 52 0 3 0:=by unfold bN;kernel_rfl
theorem ajM:bN 52 1 50 1:=by unfold bN;kernel_rfl
theorem ajN:bN 52 2 47 3:=by unfold bN;kernel_rfl
theorem ajO:bN 63 0 3 0:=by unfold bN;kernel_rfl
theorem ajP:bN 63 1 47 1:=by unfold bN;kernel_rfl
theorem ajQ:bN 63 2 47 2:=by unfold bN;kernel_rfl
theorem ajR:bN 63 3 47 3:=by unfold bN;kernel_rfl
theorem ajS:bN 63 4 4 4:=by unfold bN;kernel_rfl
theorem ajT:bN 63 5 47 5:=by unfold bN;kernel_rfl
theorem ajU:bN 29 0 26 0:=by unfold bN;kernel_rfl
theorem ajV:bN 29 1 26 1:=by unfold bN;kernel_rfl
theorem ajW:bN 29 2 27 2:=by unfold bN;kernel_rfl
theorem ajX:bN 29 3 3 3:=by unfold bN;kernel_rfl
theorem ajY:bN 29 4 3 4:=by unfold bN;kernel_rfl
abbrev Rd(w:World)(c:IV)(u:Value):Prop:=Rv (eo (allM w)) c u
theorem tS{c:IV}{u:Value}(h:Rd w c u):ax (eo (allM w)) [c] [u]:=ax.cons h ax.nil
theorem qK{n:Nat}{u:Value}{x:DataW H×List MemPlace}(h:arB enc aqD w 0 sp held n 3 [u]=some x):∃a:Int,Rd w (iI a) u:=by
 obtain⟨a,h1,_⟩:=DataW.trod_int aa6 h;obtain rfl:=(atf h1).1;exact⟨a,.raw _⟩
theorem adM{n:Nat}{u:Value}{x:DataW H×List MemPlace}(h:arB enc aqD w 0 sp held n 4 [u]=some x):∃a:Bool,Rd w (iB a) u:=by
 obtain⟨a,h1,_⟩:=DataW.trod_bool VM h;obtain rfl:=(atf h1).1;exact⟨a,.raw _⟩
theorem Al{n:Nat}{u:Value}{x:DataW H×List MemPlace}(h:arB enc aqD w 0 sp held n 47 [u]=some x):∃l:List Int,Sm l∧Rd w (iL l) u:=by
 obtain⟨l,h1,_,h3⟩:=BP (w:=w) iI (s:=1) (by omega) (fun _=>rfl) (fun _=>True) ajC Ga (fun n us x _ hx hl=>by
  obtain⟨u,rfl⟩:=List.length_eq_one_iff.1 hl;obtain⟨a,ha⟩:=qK hx;exact⟨a,trivial,tS ha⟩) h
 exact⟨l,h1,h3⟩
theorem ach{α:Type}{l:List α}(h:l.length=4):∃a b c d,l=[a,b,c,d]:=by
 match l,h with
 |[a,b,c,d],_=>exact⟨a,b,c,d,rfl⟩
theorem aci{α:Type}{l:List α}(h:l.length=6):∃a b c d e f,l=[a,b,c,d,e,f]:=by
 match l,h with
 |[a,b,c,d,e,f],_=>exact⟨a,b,c,d,e,f,rfl⟩
theorem ajZ{α:Type}{l:List α}(h:l.length=5):∃a b c d e,l=[a,b,c,d,e]:=by
 match l,h with
 |[a,b,c,d,e],_=>exact⟨a,b,c,d,e,rfl⟩
theorem Yd(t:Tm):(cellsOf (dB t)).length=4:=by rw[cI];rfl
theorem aog(fuel:Nat)(us:List Value)(x:DataW H×List MemPlace)(h:arB enc aqD w 0 sp held fuel 63 us=some x)(hl:us.length=6):∃f:Ap,WfP f∧ax (eo (allM w)) (cellsOf (kF f)) us:=by
 obtain⟨a,b,c,d,e,f,rfl⟩:=aci hl;obtain⟨n,hn,hf⟩:=IP ajB h;obtain⟨_,h0⟩:=hf 0 3 0 1 ajO Ga;obtain⟨_,h1⟩:=hf 1 47 1 1 ajP PI;obtain⟨_,h2⟩:=hf 2 47 2 1 ajQ PI;obtain⟨_,h3⟩:=hf 3 47 3 1 ajR PI;obtain⟨_,h4⟩:=hf 4 4 4 1 ajS cl4;obtain⟨_,h5⟩:=hf 5 47 5 1 ajT PI;obtain⟨rule,r0⟩:=qK h0;obtain⟨bw,w1,r1⟩:=Al h1;obtain⟨gone,w2,r2⟩:=Al h2;obtain⟨made,w3,r3⟩:=Al h3;obtain⟨failed,r4⟩:=adM h4;obtain⟨fV,w5,r5⟩:=Al h5;exact⟨⟨rule,bw,gone,made,failed,fV⟩,⟨w1,w2,w3,w5⟩,ax.cons r0 (ax.cons r1 (ax.cons r2 (ax.cons r3 (ax.cons r4 (ax.cons r5 ax.nil)))))⟩
theorem aj0{n:Nat}{u:Value}{x:DataW H×List MemPlace}(h:arB enc aqD w 0 sp held n 27 [u]=some x):∃l:List Ap,Sm l∧(∀f∈l,WfP f)∧Rd w (D3 l) u:=
 BP (w:=w) kF (s:=6) (by omega) (fun _=>rfl) WfP ajE aoe (fun n' oM x' _ ib cd=>aog n' oM x' ib cd) h
end Go.Proofs.YtggffkaadeagbaaGreat
