/- RetractTells in the words of its row: whatever the input, true, and the arguments read as they did. The conditions of the row alone. -/
import Derived.Test.YtggffkaadeagbaaGreatRkS
import Derived.Test.YtggffkaadeagbaaGreatRuV
import Derived.JoinedCond
import Derived.Test.YtggffkaadeagbaaGreatRkX
import Derived.Test.YtggffkaadeagbaaGreatRgR
import Derived.Test.YtggffkaadeagbaaGreatRgP
open Go.Proofs.Tryz renaming prog->asK,checked->awR,f4->awl
open Go.Value renaming okWide->awK,agg->ayt
open Go.Proofs.YtggffkaadeagbaaGreat.Rows.OpenSpec renaming upto->auJ
open Go.Proofs.YtggffkaadeagbaaGreat.Rows renaming retractTellsSpec->auL,uptoSmall->axS,uptoBulkAll->auh
open Nat renaming le_trans->atd
open Array renaming length_toList->avS
open Go.WideElems renaming Trod_stays->avH
open Option renaming some->aa,none->ah
open Bool renaming true->ab,false->af
set_option linter.all false
namespace Go.Proofs.YtggffkaadeagbaaGreat
open Go Go.ChangeShapes Go.WideShapes Go.ChangeAt Go.RowKit
end Go.Proofs.YtggffkaadeagbaaGreat
namespace Go.Proofs.YtggffkaadeagbaaGreat
open Go Go.ChangeShapes Go.WideShapes Go.ChangeAt Go.RowKit
end Go.Proofs.YtggffkaadeagbaaGreat
namespace Go.Proofs.YtggffkaadeagbaaGreat
open Go Go.Ev
section
variable{Q:IV->Prop}{k0 k1:List IV->Prop}
end
end Go.Proofs.YtggffkaadeagbaaGreat
namespace Go.Proofs.YtggffkaadeagbaaGreat
open Go Go.Ev
end Go.Proofs.YtggffkaadeagbaaGreat
namespace Go.Proofs.YtggffkaadeagbaaGreat
open Go Go.Ev
end Go.Proofs.YtggffkaadeagbaaGreat
namespace Go.Proofs.YtggffkaadeagbaaGreat
open Go Go.ChangeShapes Go.WideShapes Go.ChangeAt Go.RowKit
theorem X5:asK.readableRec 34=ab:=by as_aux_lemma=>kernel_rfl
theorem af8:34<asK.types.size:=of_decide_eq_true (by as_aux_lemma=>kernel_rfl)
theorem okWide_slice{P:Program}{w:World}{r:Reach}{base:Nat}{t e:Nat}{v:Value}(ht:P.underlying t=aa (.slice e))(h:awK P w r base t v):∃a l c,v=.slice a l c:=by
 unfold awK at h;rw[ht]at h;simp only at h;unfold Cell.okWide at h;rw[ht]at h;cases v<;>simp only at h
 all_goals (try exact⟨_,_,_,rfl⟩)
 all_goals (unfold Cell.ok at h;rw[ht]at h;simp only at h)
end Go.Proofs.YtggffkaadeagbaaGreat
namespace Go.Proofs.YtggffkaadeagbaaGreat
open Go Go.ChangeShapes Go.WideShapes Go.ChangeAt Go.RowKit
theorem ajN:4<asK.funcs.size:=of_decide_eq_true (by as_aux_lemma=>kernel_rfl)
set_option maxHeartbeats 8000000 in
set_option maxRecDepth 100000 in
theorem af9(os:Os)(started:os.Started)(H:Type)(enc:TypeId×Value->H)(F:Stop.Interp):
 ReturnsInHanded {} awR os 4 .any ((auJ auL).pre6 enc asK awl [] af) (((auJ auL).at F).post enc asK awl af ab af af):=by
 refine returnsInHanded_of_cond (C:=awR) (s:=auJ auL) (k:=axS) rfl own started (by as_aux_lemma=>kernel_rfl) Tryz.func4
  (OpenSpec.witness (s:=auJ auL) (k:=axS) rfl (enc:=enc) (C:=awR) af ⟨#[], #[.agg #[.slice ah 0 0,.slice ah 0 0],.agg #[.slice ah 0 0,.slice ah 0 0,.slice ah 0 0,.int .i64 0,.int .i64 0],.slice ah 0 0],[]⟩ 8 (by as_aux_lemma=>kernel_rfl) (by as_aux_lemma=>kernel_rfl) (by as_aux_lemma=>kernel_rfl)
   (x:=([.agg [.nil,.nil],.agg [.nil,.nil,.nil,.lit (.int .i64 0),.lit (.int .i64 0)],.nil],[],[])) (by as_aux_lemma=>kernel_rfl) (by as_aux_lemma=>kernel_rfl) (by as_aux_lemma=>kernel_rfl) (by as_aux_lemma=>kernel_rfl)) ?_
 intro W base args ds gs before aeN hW _ eo _;have SI:∀(j:Nat) t v,awl.params[j]?=aa t->args[j]?=aa v->awK asK W .any base t v:=aeN;have hW':=hW;obtain⟨p,q,hA0,hV,rfl,hfz,pH⟩:=hW;have hA:DataW.TrodAll enc asK W 0 (λ_=>ab) ab awl.params.toList args.toList ds p:=hA0;rw[Tryz.params4]at hA SI;obtain⟨v0,v1,v2,d0,d1,d2,p0,p1,p2,rfl,rfl,rfl,h0,h1,h2⟩:=trodAll_three hA;obtain⟨rfl,rfl⟩:=trodVars_none hV
 have SJ:auh [d0,d1,d2]<=1048576:=by
  have nK:decide (auh ([d0,d1,d2]++[])<=1048576)=ab:=eo;simpa using nK
 have DT:bk d0<=1048576:=atd (BE (by simp)) SJ;have cN:bk d1<=1048576:=atd (BE (by simp)) SJ;have fk:bk d2<=1048576:=atd (BE (by simp)) SJ;obtain⟨cs,rfl,aU⟩:=okWide_struct aeg (SI 0 25 v0 rfl rfl);obtain⟨oI,rfl,XH⟩:=okWide_struct adW (SI 1 29 v1 rfl rfl);have h0k:=h0;have h1k:=h1;have h2k:=h2;obtain⟨fu,h0⟩:=h0;obtain⟨fu1,h1⟩:=h1;obtain⟨fu2,h2⟩:=h2;have ek:cs.toList.length=2:=by rw[avS,aU,aqJ]
 have acn:oI.toList.length=5:=by rw[avS,XH,aqi]
 obtain⟨sa,sl,sc,rfl⟩:=okWide_slice aeh (SI 2 34 v2 rfl rfl);obtain⟨pg,hpg,hpb,r0⟩:=an7 h0 ek;obtain⟨m,hm,hn,r1⟩:=arD h1 acn;obtain⟨l,hl,qR,r2⟩:=X2 h2
 have rr:Ev.aB (Ev.eH (Ev.allM W)) [dm pg,dr m,h_ l] [.agg cs,.agg oI,.slice sa sl sc]:=by
  have e0:(ayt cs.toList.toArray)=.agg cs:=by simp
  have e1:(ayt oI.toList.toArray)=.agg oI:=by simp
  rw[<-e0,<-e1];exact Ev.aB.cons r0 (Ev.aB.cons r1 (Ev.aB.cons r2 Ev.aB.nil))
 have hsp:SzP pg:=λr hr=>⟨λa ha=>by have:=(hpb r hr).1 a ha;simp only at this;omega,λa ha=>by have:=(hpb r hr).2 a ha;simp only at this;omega⟩;have tc:SzM m:=λf hf=>by have:=(hn f hf).2;simp only at this;omega
 have nG:∀a∈l,cg a.ts<=1000000000000:=λa ha=>by have:cg a.ts<=_:=(qR a ha).2;simp only at this;omega
 clear hA0 aeN SI hA;simp only[List.append_nil]at hW';refine(afE ajN (c4 pg m l hpg hm (λf hf=>(hn f hf).1) hl (λa ha=>(qR a ha).1) hsp tc nG) rr).mono λe W' ⟨he,hb⟩=>?_;subst he;have ai:∀x∈p0++p1++p2,x.block<W.heap.size:=λx hx=>hW'.lt x (by simpa using hx);have kf:∀x∈p0,x.block<W.heap.size:=λx hx=>ai x (by simp[hx]);have eu:∀x∈p1,x.block<W.heap.size:=λx hx=>ai x (by simp[hx]);have dZ:∀x∈p2,x.block<W.heap.size:=λx hx=>ai x (by simp[hx])
 exact⟨_,rfl,XD (s:=(auJ auL).at F) (pa:=p0++(p1++p2)) (pv:=[]) hW' (λ_ _ _=>trodAll_mk1 (shut_bool Xk _))
  (λsp hsp=>trodAll_mk3 (avH laidOut XE afF h0k (λx hx=>hb.same (kf x hx)) (λx hx=>hsp x (by simp[hx]))) (avH laidOut XC afD h1k (λx hx=>hb.same (eu x hx)) (λx hx=>hsp x (by simp[hx]))) (avH laidOut X5 af8 h2k (λx hx=>hb.same (dZ x hx)) (λx hx=>hsp x (by simp[hx]))))
  (λ_ _=>rfl) (by simp) (hb.frame _)⟩
end Go.Proofs.YtggffkaadeagbaaGreat
