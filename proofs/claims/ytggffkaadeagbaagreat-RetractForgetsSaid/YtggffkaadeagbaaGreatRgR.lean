/- A part of the proof, no condition: the law at plain values; what lies in memory, read as programs. -/
import Derived.Test.YtggffkaadeagbaaGreatRgP
import Derived.Test.YtggffkaadeagbaaGreatRuU
open List renaming filter_cons_of_pos->as6,filter_cons_of_neg->asX,length_filter_le->aty,mem_append->asE
open Go.Proofs.Tryz renaming prog->ar3
open Go.DataW renaming trod->as9
open List.cons renaming inj->au_
set_option linter.all false
namespace Go.Proofs.YtggffkaadeagbaaGreat
open Go Go.Ev
theorem Eh{α:Type}(p:α→Bool):∀l:List α,(l.filter p).length+(l.filter fun x=> !p x).length=l.length
 |[]=>rfl
 |a::l=>by
  have ih:=Eh p l;by_cases h:p a=true
  ·rw[as6 h,asX (by simp[h])];simp;omega
  ·rw[asX h,as6 (by simpa using h)];simp;omega
theorem Ps.ret{m:Me}(h:Ps m)(n:Int):Ps (lV m n).1:=by
 refine⟨SC h,?_,?_,fun x hx=>?_⟩
 ·unfold lV;split
  ·simp
  ·have h1:=h.fp;have h2:=aty (fun f:Fa=> !decide (n∈f.j)) (ee jd [] (m.facts++m.past.filter fun f=>decide (f.id∈gU m n)));have h3:=aty (fun f:Fa=> !decide (n∈f.j)) (m.past.filter fun f=> !decide (f.id∈gU m n));have h4:(m.past.filter fun f=>decide (f.id∈gU m n)).length+(m.past.filter fun f=> !decide (f.id∈gU m n)).length=m.past.length:=Eh _ _;rw[xo,List.length_append]at h2;show(ct _ _).length+(ct _ _).length≤_;unfold ct;simp only[List.length_nil]at h2;omega
 ·unfold lV;split
  ·simp
  ·have:=aty (fun x:Ap=> !decide (n∈x.fK)) m.log;have:=h.l;show(List.filter _ _).length≤_;omega
 ·unfold lV at hx;split at hx
  ·simp at hx
  ·exact h.g x (List.mem_filter.1 hx).1
theorem n7:(ar3.funcs[7]?).map (·.params.size)=some 3:=by kernel_rfl
end Go.Proofs.YtggffkaadeagbaaGreat
namespace Go.Proofs.YtggffkaadeagbaaGreat
open Go Go.Ev
variable{H:Type}{enc:TypeId×Value→H}{w:World}{sp:Nat→Bool}{held:Bool}
theorem acQ:ar3.underlying 25=some (.struct (fieldsOf 25)):=by kernel_rfl
theorem alZ:ar3.underlying 86=some (.struct (fieldsOf 86)):=by kernel_rfl
theorem al0:ar3.underlying 68=some (.struct (fieldsOf 68)):=by kernel_rfl
theorem al1:ar3.underlying 88=some (.struct (fieldsOf 88)):=by kernel_rfl
theorem al2:ar3.underlying 22=some (.slice 86):=by kernel_rfl
theorem al3:ar3.underlying 23=some (.slice 68):=by kernel_rfl
theorem acR:ar3.underlying 34=some (.slice 50):=by kernel_rfl
theorem al4:ar3.underlying 66=some (.slice 88):=by kernel_rfl
theorem ap2:ar3.cellsOf 22=1:=by kernel_rfl
theorem ap3:ar3.cellsOf 23=1:=by kernel_rfl
theorem ahG:ar3.cellsOf 34=1:=by kernel_rfl
theorem ahH:ar3.cellsOf 66=1:=by kernel_rfl
theorem ap4:ar3.cellsOf 86=2:=by kernel_rfl
theorem ap5:ar3.cellsOf 68=6:=by kernel_rfl
theorem ap6:ar3.cellsOf 88=3:=by kernel_rfl
theorem ap7:ar3.cellsOf 25=2:=by kernel_rfl
theorem al5:bM 25 0 22 0:=by unfold bM;kernel_rfl
theorem al6:bM 25 1 23 1:=by unfold bM;kernel_rfl
theorem al7:bM 86 0 9 0:=by unfold bM;kernel_rfl
theorem al8:bM 86 1 3 1:=by unfold bM;kernel_rfl
theorem al9:bM 68 0 9 0:=by unfold bM;kernel_rfl
theorem al_:bM 68 1 34 1:=by unfold bM;kernel_rfl
theorem ama:bM 68 2 34 2:=by unfold bM;kernel_rfl
theorem amb:bM 68 3 66 3:=by unfold bM;kernel_rfl
theorem amc:bM 68 4 66 4:=by unfold bM;kernel_rfl
theorem amd:bM 68 5 3 5:=by unfold bM;kernel_rfl
theorem ame:bM 88 0 3 0:=by unfold bM;kernel_rfl
theorem amf:bM 88 1 9 1:=by unfold bM;kernel_rfl
theorem amg:bM 88 2 48 2:=by unfold bM;kernel_rfl
theorem VO{α:Type}{l:List α}(h:l.length=2):∃a b,l=[a,b]:=by
 match l,h with
 |[a,b],_=>exact⟨a,b,rfl⟩
theorem amh{α:Type}{l:List α}(h:l.length=3):∃a b c,l=[a,b,c]:=by
 match l,h with
 |[a,b,c],_=>exact⟨a,b,c,rfl⟩
theorem A4{n:Nat}{u:Value}{x:DataW H×List MemPlace}(h:as9 enc ar3 w 0 sp held n 9 [u]=some x):∃a:List UInt8,Sm a∧Rd w (iS a) u:=by
 obtain⟨a,h1,h2⟩:=DataW.trod_string apk h;obtain rfl:=(au_ h1).1;refine⟨a.data.toList,?_,?_⟩
 ·have:=h2.2;simp only[maxLen]at this;show a.data.toList.length≤_;rw[Array.length_toList];have he:a.size=a.data.size:=rfl;omega
 ·unfold iS;rw[bytes_eta];exact .raw _
theorem ap8:∀(fuel:Nat) (us:List Value) (x:DataW H×List MemPlace),as9 enc ar3 w 0 sp held fuel 84 us=some x→us.length=4→∃t:Tm,nU t∧ax (eW (allM w)) (cellsOf (bV t)) us:=by
 intro fuel;induction fuel using Nat.strongRecOn with
 |ind fuel ih=>
  intro us x h hl;obtain⟨a,b,c,d,rfl⟩:=acx hl;obtain⟨n,hn,hf⟩:=iU akI h;obtain⟨_,h0⟩:=hf 0 3 0 1 akO F3;obtain⟨_,h1⟩:=hf 1 3 1 1 akP F3;obtain⟨_,h2⟩:=hf 2 9 2 1 akQ SD;obtain⟨_,h3⟩:=hf 3 48 3 1 akR VC;obtain⟨k,r0⟩:=qS h0;obtain⟨m,r1⟩:=qS h1;obtain⟨s,w2,r2⟩:=A4 h2;obtain⟨ts,hs,hw,r3⟩:=jQ (w:=w) bV (s:=4) (by omega) Yz nU acu agL (fun n' oU x' CB iJ cd=>ih n' (by omega) oU x' iJ cd) h3;refine⟨.mk k m s ts,?_,?_⟩
  ·rw[oi];exact⟨w2,hs,hw⟩
  ·rw[uF];exact ax.cons r0 (ax.cons r1 (ax.cons r2 (ax.cons r3 ax.nil)))
theorem VP{n:Nat}{u:Value}{x:DataW H×List MemPlace}(h:as9 enc ar3 w 0 sp held n 48 [u]=some x):∃l:List Tm,Sm l∧(∀f∈l,nU f)∧Rd w (iT l) u:=
 jQ (w:=w) bV (s:=4) (by omega) Yz nU acu agL (fun n' oU x' _ iJ cd=>ap8 n' oU x' iJ cd) h
theorem ap9(fuel:Nat)(us:List Value)(x:DataW H×List MemPlace)(h:as9 enc ar3 w 0 sp held fuel 50 us=some x)(hl:us.length=2):∃f:At,pC f∧ax (eW (allM w)) (cellsOf (ku f)) us:=by
 obtain⟨a,b,rfl⟩:=VO hl;obtain⟨n,hn,hf⟩:=iU acr h;obtain⟨_,h0⟩:=hf 0 9 0 1 acv SD;obtain⟨_,h1⟩:=hf 1 48 1 1 acw VC;obtain⟨s,w0,r0⟩:=A4 h0;obtain⟨ts,w1,v1,r1⟩:=VP h1;exact⟨⟨s,ts⟩,⟨w0,w1,v1⟩,ax.cons r0 (ax.cons r1 ax.nil)⟩
theorem VQ{n:Nat}{u:Value}{x:DataW H×List MemPlace}(h:as9 enc ar3 w 0 sp held n 34 [u]=some x):∃l:List At,Sm l∧(∀f∈l,pC f)∧Rd w (cS l) u:=
 jQ (w:=w) ku (s:=2) (by omega) (fun _=>rfl) pC acR agK (fun n' oU x' _ iJ cd=>ap9 n' oU x' iJ cd) h
theorem ap_(fuel:Nat)(us:List Value)(x:DataW H×List MemPlace)(h:as9 enc ar3 w 0 sp held fuel 88 us=some x)(hl:us.length=3):∃f:Gl,tG f∧ax (eW (allM w)) (cellsOf (G5 f)) us:=by
 obtain⟨a,b,c,rfl⟩:=amh hl;obtain⟨n,hn,hf⟩:=iU al1 h;obtain⟨_,h0⟩:=hf 0 3 0 1 ame F3;obtain⟨_,h1⟩:=hf 1 9 1 1 amf SD;obtain⟨_,h2⟩:=hf 2 48 2 1 amg VC;obtain⟨op,r0⟩:=qS h0;obtain⟨s,w1,r1⟩:=A4 h1;obtain⟨ts,w2,v2,r2⟩:=VP h2;exact⟨⟨op,s,ts⟩,⟨w1,w2,v2⟩,ax.cons r0 (ax.cons r1 (ax.cons r2 ax.nil))⟩
theorem acS{n:Nat}{u:Value}{x:DataW H×List MemPlace}(h:as9 enc ar3 w 0 sp held n 66 [u]=some x):∃l:List Gl,Sm l∧(∀f∈l,tG f)∧Rd w (qT l) u:=
 jQ (w:=w) G5 (s:=3) (by omega) (fun _=>rfl) tG al4 ap6 (fun n' oU x' _ iJ cd=>ap_ n' oU x' iJ cd) h
def RdR(r:Rl):Prop:=PZ r∧Sm r.keep∧Sm r.remove∧Sm r.guard∧Sm r.body
theorem aqa(fuel:Nat)(us:List Value)(x:DataW H×List MemPlace)(h:as9 enc ar3 w 0 sp held fuel 68 us=some x)(hl:us.length=6):∃f:Rl,RdR f∧ax (eW (allM w)) (cellsOf (oB f)) us:=by
 obtain⟨a,b,c,d,e,f,rfl⟩:=acy hl;obtain⟨n,hn,hf⟩:=iU al0 h;obtain⟨_,h0⟩:=hf 0 9 0 1 al9 SD;obtain⟨_,h1⟩:=hf 1 34 1 1 al_ ahG;obtain⟨_,h2⟩:=hf 2 34 2 1 ama ahG;obtain⟨_,h3⟩:=hf 3 66 3 1 amb ahH;obtain⟨_,h4⟩:=hf 4 66 4 1 amc ahH;obtain⟨_,h5⟩:=hf 5 3 5 1 amd F3;obtain⟨s,w0,r0⟩:=A4 h0;obtain⟨keep,w1,v1,r1⟩:=VQ h1;obtain⟨rem,w2,v2,r2⟩:=VQ h2;obtain⟨guard,w3,v3,r3⟩:=acS h3;obtain⟨body,w4,v4,r4⟩:=acS h4;obtain⟨vars,r5⟩:=qS h5;refine⟨⟨s,keep,rem,guard,body,vars⟩,⟨⟨w0,fun a ha=>?_,fun a ha=>?_⟩,w1,w2,w3,w4⟩,ax.cons r0 (ax.cons r1 (ax.cons r2 (ax.cons r3 (ax.cons r4 (ax.cons r5 ax.nil)))))⟩
 ·rcases asE.1 ha with ha|ha
  ·exact v1 a ha
  ·exact v2 a ha
 ·rcases asE.1 ha with ha|ha
  ·exact v3 a ha
  ·exact v4 a ha
theorem aqb(fuel:Nat)(us:List Value)(x:DataW H×List MemPlace)(h:as9 enc ar3 w 0 sp held fuel 86 us=some x)(hl:us.length=2):∃f:De,Sm f.s∧ax (eW (allM w)) (cellsOf (PX f)) us:=by
 obtain⟨a,b,rfl⟩:=VO hl;obtain⟨n,hn,hf⟩:=iU alZ h;obtain⟨_,h0⟩:=hf 0 9 0 1 al7 SD;obtain⟨_,h1⟩:=hf 1 3 1 1 al8 F3;obtain⟨s,w0,r0⟩:=A4 h0;obtain⟨k,r1⟩:=qS h1;exact⟨⟨s,k⟩,w0,ax.cons r0 (ax.cons r1 ax.nil)⟩
theorem ami{fuel:Nat}{us:List Value}{x:DataW H×List MemPlace}(h:as9 enc ar3 w 0 sp held fuel 25 us=some x)(hl:us.length=2):∃p:Pg,NmP p∧Rd w (dj p) (.agg us.toArray):=by
 obtain⟨a,b,rfl⟩:=VO hl;obtain⟨n,hn,hf⟩:=iU acQ h;obtain⟨_,h0⟩:=hf 0 22 0 1 al5 ap2;obtain⟨_,h1⟩:=hf 1 23 1 1 al6 ap3;obtain⟨ds,w0,v0,r0⟩:=jQ (w:=w) PX (s:=2) (by omega) (fun _=>rfl) (fun d=>Sm d.s) al2 ap4 (fun n' oU x' _ iJ cd=>aqb n' oU x' iJ cd) h0;obtain⟨rs,w1,v1,r1⟩:=jQ (w:=w) oB (s:=6) (by omega) (fun _=>rfl) RdR al3 ap5 (fun n' oU x' _ iJ cd=>aqa n' oU x' iJ cd) h1;refine⟨⟨ds,rs⟩,⟨w0,w1,v0,v1⟩,?_⟩;have hR:ax (eW (allM w)) [ek ds,yn rs] [a,b]:=ax.cons r0 (ax.cons r1 ax.nil);exact Rv.agg _ _ hR.1 hR.2
theorem aqc(fuel:Nat)(us:List Value)(x:DataW H×List MemPlace)(h:as9 enc ar3 w 0 sp held fuel 52 us=some x)(hl:us.length=4):∃f:Fa,zC f∧ax (eW (allM w)) (cellsOf (dA f)) us:=by
 obtain⟨a,b,c,d,rfl⟩:=acx hl;obtain⟨n,hn,hf⟩:=iU akJ h;obtain⟨_,h0⟩:=hf 0 3 0 1 akS F3;obtain⟨_,h1⟩:=hf 1 50 1 2 akT agK;obtain⟨_,h2⟩:=hf 2 47 3 1 akU Pu;obtain⟨id,r0⟩:=qS h0;obtain⟨j,hj,r3⟩:=AW h2;obtain⟨n',CB,hg⟩:=iU acr h1;obtain⟨_,g0⟩:=hg 0 9 0 1 acv SD;obtain⟨_,g1⟩:=hg 1 48 1 1 acw VC;obtain⟨s,w1,r1⟩:=A4 g0;obtain⟨ts,w2,v2,r2⟩:=VP g1;exact⟨⟨id,⟨s,ts⟩,j⟩,⟨⟨w1,w2,v2⟩,hj⟩,ax.cons r0 (ax.cons r1 (ax.cons r2 (ax.cons r3 ax.nil)))⟩
theorem acT{n:Nat}{u:Value}{x:DataW H×List MemPlace}(h:as9 enc ar3 w 0 sp held n 26 [u]=some x):∃l:List Fa,Sm l∧(∀f∈l,zC f)∧Rd w (bF l) u:=
 jQ (w:=w) dA (s:=4) (by omega) (fun _=>rfl) zC akM apm (fun n' oU x' _ iJ cd=>aqc n' oU x' iJ cd) h
theorem zC.wf{f:Fa}(h:zC f):oP f:=⟨⟨h.1.2.1,fun t ht=>(h.1.2.2 t ht).wf⟩,h.2⟩
theorem aqd{fuel:Nat}{us:List Value}{x:DataW H×List MemPlace}(h:as9 enc ar3 w 0 sp held fuel 29 us=some x)(hl:us.length=5):∃m:Me,CS m∧(∀f∈m.facts++m.past,zC f)∧Rd w (cV m) (.agg us.toArray):=by
 obtain⟨a,b,c,d,e,rfl⟩:=ak6 hl;obtain⟨n,hn,hf⟩:=iU acq h;obtain⟨_,h0⟩:=hf 0 26 0 1 ak1 agJ;obtain⟨_,h1⟩:=hf 1 26 1 1 ak2 agJ;obtain⟨_,h2⟩:=hf 2 27 2 1 ak3 apl;obtain⟨_,h3⟩:=hf 3 3 3 1 ak4 F3;obtain⟨_,h4⟩:=hf 4 3 4 1 ak5 F3;obtain⟨facts,w0,v0,r0⟩:=acT h0;obtain⟨past,w1,v1,r1⟩:=acT h1;obtain⟨log,w2,v2,r2⟩:=ak7 h2;obtain⟨nx,r3⟩:=qS h3;obtain⟨gv,r4⟩:=qS h4;refine⟨⟨facts,past,log,nx,gv⟩,⟨w0,w1,w2,fun f hf=>(v0 f hf).wf,fun f hf=>(v1 f hf).wf,v2⟩,fun f hf=>?_,?_⟩
 ·rcases asE.1 hf with hf|hf
  ·exact v0 f hf
  ·exact v1 f hf
 have hR:ax (eW (allM w)) [bF facts,bF past,nR log,iI nx,iI gv] [a,b,c,d,e]:=ax.cons r0 (ax.cons r1 (ax.cons r2 (ax.cons r3 (ax.cons r4 ax.nil))));exact Rv.agg _ _ hR.1 hR.2
end Go.Proofs.YtggffkaadeagbaaGreat
