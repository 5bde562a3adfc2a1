/- RetractForgets in the words of its row: whatever the input, true, and the arguments read as they did. The conditions of the row alone. -/
import Derived.Test.YtggffkaadeagbaaGreatRgR
import Derived.Test.YtggffkaadeagbaaGreatRuV
import Derived.Test.YtggffkaadeagbaaGreatRiT
open Go.Proofs.Tryz renaming prog->ar3,checked->av_,f8->avC
open Go.Value renaming okWide->av3,agg->axN
open Go.Proofs.YtggffkaadeagbaaGreat.Rows renaming retractForgetsSpec->av4
open Go.ChangeSpec renaming witness6->axR
open Array renaming length_toList->avb
open Go.WideElems renaming Trod_stays->au1
set_option linter.all false
namespace Go.Proofs.YtggffkaadeagbaaGreat
open Go Go.ChangeShapes Go.WideShapes Go.ChangeAt Go.RowKit
theorem Wd:ar3.readableRec 34=true:=by as_aux_lemma=>kernel_rfl
theorem aeG:34<ar3.types.size:=of_decide_eq_true (by as_aux_lemma=>kernel_rfl)
theorem aiK:8<ar3.funcs.size:=of_decide_eq_true (by as_aux_lemma=>kernel_rfl)
theorem okWide_slice{P:Program}{w:World}{r:Reach}{base:Nat}{t e:Nat}{v:Value}(ht:P.underlying t=some (.slice e))(h:av3 P w r base t v):∃a l c,v=.slice a l c:=by
 unfold av3 at h;rw[ht]at h;simp only at h;unfold Cell.okWide at h;rw[ht]at h;cases v<;>simp only at h
 all_goals (try exact⟨_,_,_,rfl⟩)
 all_goals (unfold Cell.ok at h;rw[ht]at h;simp only at h)
set_option maxHeartbeats 8000000 in
set_option maxRecDepth 100000 in
theorem aeH(os:Os)(started:os.Started)(H:Type)(enc:TypeId×Value→H):
 ReturnsInHanded {} av_ os 8 .any (av4.pre6 enc ar3 avC [] false) (av4.post enc ar3 avC false true false false):=by
 refine returnsInHanded_of_change (C:=av_) own started (by as_aux_lemma=>kernel_rfl) Tryz.func8
  (axR (enc:=enc) (C:=av_) false ⟨#[], #[.agg #[.slice none 0 0,.slice none 0 0],.agg #[.slice none 0 0,.slice none 0 0,.slice none 0 0,.int .i64 0,.int .i64 0],.slice none 0 0],[]⟩ 8 (by as_aux_lemma=>kernel_rfl) (by as_aux_lemma=>kernel_rfl) (by as_aux_lemma=>kernel_rfl) (by as_aux_lemma=>kernel_rfl)) ?_
 intro W base args ds gs before adk hW _ _;have Hi:∀(j:Nat) t v,avC.params[j]?=some t→args[j]?=some v→av3 ar3 W .any base t v:=adk;have hW':=hW;obtain⟨p,q,hA0,hV,rfl,hfz,AJ⟩:=hW;have hA:DataW.TrodAll enc ar3 W 0 (fun _=>true) true avC.params.toList args.toList ds p:=hA0;rw[Tryz.params8]at hA Hi;obtain⟨v0,v1,v2,d0,d1,d2,p0,p1,p2,rfl,rfl,rfl,h0,h1,h2⟩:=trodAll_three hA;obtain⟨rfl,rfl⟩:=trodVars_none hV;obtain⟨cs,rfl,aK⟩:=okWide_struct acQ (Hi 0 25 v0 rfl rfl);obtain⟨nN,rfl,VY⟩:=okWide_struct acq (Hi 1 29 v1 rfl rfl);have h0k:=h0;have h1k:=h1;have h2k:=h2;obtain⟨fu,h0⟩:=h0;obtain⟨fu1,h1⟩:=h1;obtain⟨fu2,h2⟩:=h2;have eu:cs.toList.length=2:=by rw[avb,aK,ap7]
 have aaM:nN.toList.length=5:=by rw[avb,VY,apo]
 obtain⟨sa,sl,sc,rfl⟩:=okWide_slice acR (Hi 2 34 v2 rfl rfl);obtain⟨pg,hpg,r0⟩:=ami h0 eu;obtain⟨m,hm,hn,r1⟩:=aqd h1 aaM;obtain⟨l,hl,tQ,r2⟩:=VQ h2
 have rr:Ev.ax (Ev.eW (Ev.allM W)) [dj pg,cV m,cS l] [.agg cs,.agg nN,.slice sa sl sc]:=by
  have e0:(axN cs.toList.toArray)=.agg cs:=by simp
  have e1:(axN nN.toList.toArray)=.agg nN:=by simp
  rw[←e0,←e1];exact Ev.ax.cons r0 (Ev.ax.cons r1 (Ev.ax.cons r2 Ev.ax.nil))
 clear hA0 adk Hi hA;simp only[List.append_nil]at hW';refine(ael aiK (c8 pg m l hpg hm hn hl tQ) rr).mono fun e W' ⟨he,hb⟩=>?_;subst he;have aa:∀x∈p0++p1++p2,x.block<W.heap.size:=fun x hx=>hW'.lt x (by simpa using hx);have kS:∀x∈p0,x.block<W.heap.size:=fun x hx=>aa x (by simp[hx]);have eS:∀x∈p1,x.block<W.heap.size:=fun x hx=>aa x (by simp[hx]);have dT:∀x∈p2,x.block<W.heap.size:=fun x hx=>aa x (by simp[hx])
 exact⟨_,rfl,VT (pa:=p0++(p1++p2)) (pv:=[]) hW' (fun _ _ _=>trodAll_mk1 (shut_bool Vs _))
  (fun sp hsp=>trodAll_mk3 (au1 laidOut VU aem h0k (fun x hx=>hb.same (kS x hx)) (fun x hx=>hsp x (by simp[hx]))) (au1 laidOut VS aek h1k (fun x hx=>hb.same (eS x hx)) (fun x hx=>hsp x (by simp[hx]))) (au1 laidOut Wd aeG h2k (fun x hx=>hb.same (dT x hx)) (fun x hx=>hsp x (by simp[hx]))))
  (fun _ _=>rfl) (by simp) (hb.frame _)⟩
end Go.Proofs.YtggffkaadeagbaaGreat
