/- RetractChecks in the words of its row: whatever the input, true, and the arguments read as they did. The conditions of the row alone. -/
import Derived.Test.YtggffkaadeagbaaGreatRkS
import Derived.Test.YtggffkaadeagbaaGreatRuV
import Derived.JoinedCond
open Go.Proofs.Tryz renaming prog->aqD,checked->auL,f3->auf
open Go.Proofs.YtggffkaadeagbaaGreat.Rows.OpenSpec renaming upto->asx
open Go.Proofs.YtggffkaadeagbaaGreat.Rows renaming retractChecksSpec->asy,uptoSmall->avN,uptoBulkAll->ar6
open Nat renaming le_trans->aq2
open Array renaming length_toList->atJ
open Go.Value renaming agg->awp
open Go.WideElems renaming Trod_stays->auA
set_option linter.all false
namespace Go.Proofs.YtggffkaadeagbaaGreat
open Go Go.ChangeShapes Go.WideShapes Go.ChangeAt Go.RowKit
theorem ah5:3<aqD.funcs.size:=of_decide_eq_true (by as_aux_lemma=>kernel_rfl)
set_option maxHeartbeats 8000000 in
set_option maxRecDepth 100000 in
theorem aet(os:Os)(started:os.Started)(H:Type)(enc:TypeId×Value→H)(F:Stop.Interp):
 ReturnsInHanded {} auL os 3 .any ((asx asy).pre6 enc aqD auf [] false) (((asx asy).at F).post enc aqD auf false true false false):=by
 refine returnsInHanded_of_cond (C:=auL) (s:=asx asy) (k:=avN) rfl own started (by as_aux_lemma=>kernel_rfl) Tryz.func3
  (OpenSpec.witness (s:=asx asy) (k:=avN) rfl (enc:=enc) (C:=auL) false ⟨#[], #[.agg #[.slice none 0 0,.slice none 0 0],.agg #[.slice none 0 0,.slice none 0 0,.slice none 0 0,.int .i64 0,.int .i64 0]],[]⟩ 8 (by as_aux_lemma=>kernel_rfl) (by as_aux_lemma=>kernel_rfl) (by as_aux_lemma=>kernel_rfl)
   (x:=([.agg [.nil,.nil],.agg [.nil,.nil,.nil,.lit (.int .i64 0),.lit (.int .i64 0)]],[],[])) (by as_aux_lemma=>kernel_rfl) (by as_aux_lemma=>kernel_rfl) (by as_aux_lemma=>kernel_rfl) (by as_aux_lemma=>kernel_rfl)) ?_
 intro W base args ds gs before ac8 hW _ dV _;have Wq:∀(j:Nat) t v,auf.params[j]?=some t→args[j]?=some v→Value.okWide aqD W .any base t v:=ac8;have hW':=hW;obtain⟨p,q,hA0,hV,rfl,hfz,oD⟩:=hW;have hA:DataW.TrodAll enc aqD W 0 (fun _=>true) true auf.params.toList args.toList ds p:=hA0;rw[Tryz.params3]at hA Wq;obtain⟨v0,v1,d0,d1,p0,p1,rfl,rfl,rfl,h0,h1⟩:=trodAll_two hA;obtain⟨rfl,rfl⟩:=trodVars_none hV
 have ZC:ar6 [d0,d1]≤1048576:=by
  have mK:decide (ar6 ([d0,d1]++[])≤1048576)=true:=dV;simpa using mK
 have CH:bk d0≤1048576:=aq2 (Ew (by simp)) ZC;have cD:bk d1≤1048576:=aq2 (Ew (by simp)) ZC;obtain⟨cs,rfl,aL⟩:=okWide_struct acC (Wq 0 25 v0 rfl rfl);obtain⟨nJ,rfl,V8⟩:=okWide_struct ace (Wq 1 29 v1 rfl rfl);have h0k:=h0;have h1k:=h1;obtain⟨fu,h0⟩:=h0;obtain⟨fu1,h1⟩:=h1;have dU:cs.toList.length=2:=by rw[atJ,aL,aoG]
 have aaK:nJ.toList.length=5:=by rw[atJ,V8,aof]
 obtain⟨pg,hpg,hpb,r0⟩:=ame h0 dU;obtain⟨m,hm,hn,r1⟩:=apv h1 aaK
 have rr:Ev.ax (Ev.eo (Ev.allM W)) [f_ pg,gG m] [.agg cs,.agg nJ]:=by
  have e0:(awp cs.toList.toArray)=.agg cs:=by simp
  have e1:(awp nJ.toList.toArray)=.agg nJ:=by simp
  rw[←e0,←e1];exact Ev.ax.cons r0 (Ev.ax.cons r1 Ev.ax.nil)
 have hsp:SzP pg:=fun r hr=>⟨fun a ha=>by have:=(hpb r hr).1 a ha;simp only at this;omega,fun a ha=>by have:=(hpb r hr).2 a ha;simp only at this;omega⟩;have r8:SzM m:=fun f hf=>by have:=(hn f hf).2;simp only at this;omega
 clear hA0 ac8 Wq hA;simp only[List.append_nil]at hW';refine(ad1 ah5 (c3 pg m hpg hm (fun f hf=>(hn f hf).1) hsp r8) rr).mono fun e W' ⟨he,hb⟩=>?_;subst he;have aa:∀x∈p0++p1,x.block<W.heap.size:=fun x hx=>hW'.lt x (by simpa using hx);have jH:∀x∈p0,x.block<W.heap.size:=fun x hx=>aa x (by simp[hx]);have dY:∀x∈p1,x.block<W.heap.size:=fun x hx=>aa x (by simp[hx])
 exact⟨_,rfl,V4 (s:=(asx asy).at F) (pa:=p0++p1) (pv:=[]) hW' (fun _ _ _=>trodAll_mk1 (shut_bool VM _))
  (fun sp hsp=>trodAll_mk2 (auA laidOut V5 ad2 h0k (fun x hx=>hb.same (jH x hx)) (fun x hx=>hsp x (by simp[hx]))) (auA laidOut V3 ad0 h1k (fun x hx=>hb.same (dY x hx)) (fun x hx=>hsp x (by simp[hx]))))
  (fun _ _=>rfl) (by simp) (hb.frame _)⟩
end Go.Proofs.YtggffkaadeagbaaGreat
