/- A part of the proof, no condition: what lies in memory, read as memories. -/
import Derived.Test.YtggffkaadeagbaaGreatRuR
import Derived.Test.YtggffkaadeagbaaGreatEvP
open Go.Proofs.Tryz renaming prog->asK
open Go.DataW renaming trod->atL
open List.cons renaming inj->avn
open Option renaming some->aa
set_option linter.all false
namespace Go.Proofs.YtggffkaadeagbaaGreat
open Go Go.Ev
variable{H:Type}{enc:TypeId×Value->H}{w:World}{sp:Nat->Bool}{held:Bool}
noncomputable def fieldsOf(t:TypeId):Array Field:=match asK.underlying t with
 |some (.struct fs)=>fs
 |_=> #[]
theorem aqe:asK.underlying 9=aa .string:=by kernel_rfl
theorem adW:asK.underlying 29=aa (.struct (fieldsOf 29)):=by kernel_rfl
theorem alo:asK.underlying 84=aa (.struct (fieldsOf 84)):=by kernel_rfl
theorem alp:asK.underlying 52=aa (.struct (fieldsOf 52)):=by kernel_rfl
theorem adX:asK.underlying 50=aa (.struct (fieldsOf 50)):=by kernel_rfl
theorem alq:asK.underlying 63=aa (.struct (fieldsOf 63)):=by kernel_rfl
theorem adY:asK.underlying 48=aa (.slice 84):=by kernel_rfl
theorem alr:asK.underlying 47=aa (.slice 3):=by kernel_rfl
theorem als:asK.underlying 26=aa (.slice 52):=by kernel_rfl
theorem alu:asK.underlying 27=aa (.slice 63):=by kernel_rfl
theorem Hg:asK.cellsOf 3=1:=by kernel_rfl
theorem cl4:asK.cellsOf 4=1:=by kernel_rfl
theorem ZX:asK.cellsOf 9=1:=by kernel_rfl
theorem ahI:asK.cellsOf 26=1:=by kernel_rfl
theorem aqf:asK.cellsOf 27=1:=by kernel_rfl
theorem QP:asK.cellsOf 47=1:=by kernel_rfl
theorem acN:asK.cellsOf 48=1:=by kernel_rfl
theorem ahJ:asK.cellsOf 50=2:=by kernel_rfl
theorem ahK:asK.cellsOf 84=4:=by kernel_rfl
theorem aqg:asK.cellsOf 52=4:=by kernel_rfl
theorem aqh:asK.cellsOf 63=6:=by kernel_rfl
theorem aqi:asK.cellsOf 29=5:=by kernel_rfl
def bT(t i ty off:Nat):Prop:=((fieldsOf t)[i]?).map (λf:Field=>(f.type,f.offset))=aa (ty,off)
theorem alv:bT 84 0 3 0:=by unfold bT;kernel_rfl
theorem alw:bT 84 1 3 1:=by unfold bT;kernel_rfl
theorem alx:bT 84 2 9 2:=by unfold bT;kernel_rfl
theorem aly:bT 84 3 48 3:=by unfold bT;kernel_rfl
theorem alz:bT 50 0 9 0:=by unfold bT;kernel_rfl
theorem alA:bT 50 1 48 1:=by unfold bT;kernel_rfl
theorem alB:bT 52 0 3 0:=by unfold bT;kernel_rfl
theorem alC:bT 52 1 50 1:=by unfold bT;kernel_rfl
theorem alD:bT 52 2 47 3:=by unfold bT;kernel_rfl
theorem alE:bT 63 0 3 0:=by unfold bT;kernel_rfl
theorem alF:bT 63 1 47 1:=by unfold bT;kernel_rfl
theorem alG:bT 63 2 47 2:=by unfold bT;kernel_rfl
theorem alH:bT 63 3 47 3:=by unfold bT;kernel_rfl
theorem alI:bT 63 4 4 4:=by unfold bT;kernel_rfl
theorem alJ:bT 63 5 47 5:=by unfold bT;kernel_rfl
theorem alK:bT 29 0 26 0:=by unfold bT;kernel_rfl
theorem alL:bT 29 1 26 1:=by unfold bT;kernel_rfl
theorem alM:bT 29 2 27 2:=by unfold bT;kernel_rfl
theorem alN:bT 29 3 3 3:=by unfold bT;kernel_rfl
theorem alO:bT 29 4 3 4:=by unfold bT;kernel_rfl
abbrev Rd(w:World)(c:IV)(u:Value):Prop:=Rv (eH (allM w)) c u
theorem uZ{c:IV}{u:Value}(h:Rd w c u):aB (eH (allM w)) [c] [u]:=aB.cons h aB.nil
theorem rO{n:Nat}{u:Value}{x:DataW H×List MemPlace}(h:atL enc asK w 0 sp held n 3 [u]=aa x):∃a:Int,Rd w (iI a) u:=by
 obtain⟨a,h1,_⟩:=DataW.trod_int acL h;obtain rfl:=(avn h1).1;exact⟨a,.raw _⟩
theorem afp{n:Nat}{u:Value}{x:DataW H×List MemPlace}(h:atL enc asK w 0 sp held n 4 [u]=aa x):∃a:Bool,Rd w (iB a) u:=by
 obtain⟨a,h1,_⟩:=DataW.trod_bool Xk h;obtain rfl:=(avn h1).1;exact⟨a,.raw _⟩
theorem Br{n:Nat}{u:Value}{x:DataW H×List MemPlace}(h:atL enc asK w 0 sp held n 47 [u]=aa x):∃l:List Int,Sm l/\Rd w (iL l) u:=by
 obtain⟨l,h1,_,h3⟩:=C2 (w:=w) iI (s:=1) (by omega) (λ_=>rfl) (λ_=>True) alr Hg (λn us x _ hx hl=>by
  obtain⟨u,rfl⟩:=List.length_eq_one_iff.1 hl;obtain⟨a,ha⟩:=rO hx;exact⟨a,trivial,uZ ha⟩) h
 exact⟨l,h1,h3⟩
theorem adZ{α:Type}{l:List α}(h:l.length=4):∃a b c d,l=[a,b,c,d]:=by
 match l,h with
 |[a,b,c,d],_=>exact⟨a,b,c,d,rfl⟩
theorem ad0{α:Type}{l:List α}(h:l.length=6):∃a b c d e f,l=[a,b,c,d,e,f]:=by
 match l,h with
 |[a,b,c,d,e,f],_=>exact⟨a,b,c,d,e,f,rfl⟩
theorem alP{α:Type}{l:List α}(h:l.length=5):∃a b c d e,l=[a,b,c,d,e]:=by
 match l,h with
 |[a,b,c,d,e],_=>exact⟨a,b,c,d,e,rfl⟩
theorem ZY(t:Tm):(cellsOf (c7 t)).length=4:=by rw[bU];rfl
theorem aqj(fuel:Nat)(us:List Value)(x:DataW H×List MemPlace)(h:atL enc asK w 0 sp held fuel 63 us=aa x)(hl:us.length=6):∃f:Ap,WfP f/\aB (eH (allM w)) (cellsOf (kI f)) us:=by
 obtain⟨a,b,c,d,e,f,rfl⟩:=ad0 hl;obtain⟨n,hn,hf⟩:=JR alq h;obtain⟨_,h0⟩:=hf 0 3 0 1 alE Hg;obtain⟨_,h1⟩:=hf 1 47 1 1 alF QP;obtain⟨_,h2⟩:=hf 2 47 2 1 alG QP;obtain⟨_,h3⟩:=hf 3 47 3 1 alH QP;obtain⟨_,h4⟩:=hf 4 4 4 1 alI cl4;obtain⟨_,h5⟩:=hf 5 47 5 1 alJ QP;obtain⟨rule,r0⟩:=rO h0;obtain⟨bA,w1,r1⟩:=Br h1;obtain⟨gone,w2,r2⟩:=Br h2;obtain⟨made,w3,r3⟩:=Br h3;obtain⟨failed,r4⟩:=afp h4;obtain⟨fA,w5,r5⟩:=Br h5;exact⟨⟨rule,bA,gone,made,failed,fA⟩,⟨w1,w2,w3,w5⟩,aB.cons r0 (aB.cons r1 (aB.cons r2 (aB.cons r3 (aB.cons r4 (aB.cons r5 aB.nil)))))⟩
theorem alQ{n:Nat}{u:Value}{x:DataW H×List MemPlace}(h:atL enc asK w 0 sp held n 27 [u]=aa x):∃l:List Ap,Sm l/\(∀f∈l,WfP f)/\Rd w (Fb l) u:=
 C2 (w:=w) kI (s:=6) (by omega) (λ_=>rfl) WfP alu aqh (λn' pQ x' _ iN cu=>aqj n' pQ x' iN cu) h
end Go.Proofs.YtggffkaadeagbaaGreat
