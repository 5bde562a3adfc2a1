/- Lemmas over the model, without conditions of their own: operations of the ideal machine are sound (1). -/
import Derived.Test.YtggffkaadeagbaaGreatEvA
import Derived.Lib.Strings
import Derived.IntWalk
open Nat renaming le_refl->aqK,zero_add->ar4,min_eq_left->aup,mul_le_mul_right->aq8,add_mul->are,mul_eq_zero->auq,zero_mul->atG
open List renaming getElem?_eq_some_iff->aqF,getElem?_toArray->asf,getElem?_append_left->aqQ,range->asc,getElem?_map->aqU,take_take->auB,length_take->ar9,append_assoc->aq4,length_append->aq3,getElem?_take->ard,replicate->aq1,flatten_cons->as9,ext_getElem?->at7,getElem?_eq_none->auM,map_cons->arC,replicate_succ->asO,length_cons->ary,getElem?_cons_succ->asZ,getElem?_append_right->aq_,flatMap_cons->as6
open Go.Instr renaming loadAt->avO,sureAddr->asW,extract->avB,makeMap->avC,fieldAt->avD,indexAt->auw,index->avW,fill->av8,build->avX
open Option renaming map_eq_some_iff->aqL,isSome_iff_exists->atl
open Go.World renaming setRow->avP
open Option.some renaming inj->atu,injEq->aqH
open Go.Sem renaming run_bind->aqM,run_pure->aqV,run->asv
open Go.Op renaming equalIn->ar3,equal->atO,stringOp->atb
open Go.Result renaming andThen_ok->aqJ
open Go renaming binOp->aso
open ByteArray renaming ext->awh,getElem_eq_getElem_data->awi
open Go.IntKind renaming i64->arc
open Array renaming ext'->asN,range->auN,toList_map->aua,getElem?_toList->asA,length_toList->atJ,all_eq_true_iff_forall_mem->atV,map_empty->avl
open List.cons renaming injEq->arF
open Classical renaming byContradiction->arq
open Go.IntWalk renaming i64_in->aug
open Bool renaming false_eq_true->ara
open Go.Builtin renaming lenOf->atj,firstCells->arJ,growBy->au_,nextslicecap->asB,zeroCells->ash,append_->as7
set_option linter.all false
namespace Go.Ev
variable{P:Program}{N ro:Nat}{ι:Io}{w:World}{σ:St}{ρ:Operand→IV}{r:Operand→Value}{o:Oper}{out:ey}
def Hu(ro:Nat)(N:Nat)(ι:Io)(w:World)(σ:St)(res:Result Next)(v:IV)(ah:St):Prop:=
 ∃u w' aC,(res=.ok (.value u) w'∨(res=.ok .skip w'∧u=Go.undef))∧Rv aC v u∧Inv N aC ah w'∧Le ro ι w σ aC w' ah
def AD(ι:Io):Df→Deferred→Prop
 |.CG id,d=>∃l,ι id 0=some l∧d={target:=.collected l.b,args:= #[]}
 |.call f args,d=>∃cap us vs:List Value,d={target:=.fn (.func f) cap.toArray,args:=us.toArray}∧ax ι args vs∧vs=us++cap
def bg(P:Program)(ro:Nat)(N:Nat)(ι:Io)(w:World)(σ:St)(r:Operand→Value)(o:Oper):ey→Prop
 |.val v ah=>ah.n≤N→Hu ro N ι w σ ((execOp r o).run P w) v ah
 |.enter f args=>∃us:List Value,(execOp r o).run P w=.ok (.enter f us.toArray) w∧ax ι args us
 |.round id args=>∃l,∃us:List Value,ι id 0=some l∧(execOp r o).run P w=(Instr.yield l.b us.toArray).run P w∧ax ι args us
 |.RT d=>∃dd,(execOp r o).run P w=.ok (.defer dd) w∧AD ι d dd∧∃c,o.op=.defer c
 |.bU v=>∃u,(execOp r o).run P w=.halt (.panic u) w∧Rv ι v u
theorem Hu.same(hi:Inv N ι σ w){res:Result Next}{v:IV}{u:Value}(h:res=.ok (.value u) w)(hr:Rv ι v u):Hu ro N ι w σ res v σ:=
 ⟨u,w,ι,.inl h,hr,hi,Le.refl _ _ _ _⟩
theorem bg.same(hi:Inv N ι σ w){v:IV}{u:Value}(h:(execOp r o).run P w=.ok (.value u) w)(hr:Rv ι v u):bg P ro N ι w σ r o (.val v σ):=
 fun _=>Hu.same hi h hr
theorem aE{v:IV}(h:ret v σ=some out):out=.val v σ:=by cases h;rfl
theorem R0{x:Operand}(hi:Inv N ι σ w)(hr:Rv ι (ρ x) (r x))(ho:o.op=.move x∨o.op=.assign x):bg P ro N ι w σ r o (.val (ρ x) σ):=
 bg.same hi (by rcases ho with ho|ho<;>simp[execOp,ho]) hr
theorem ac_{c a b:Operand}(hi:Inv N ι σ w)(hc:Rv ι (ρ c) (r c))(ha:Rv ι (ρ a) (r a))(hb:Rv ι (ρ b) (r b))(ho:o.op=.pick c a b)(h:ak P ro ρ o σ=some out):
 bg P ro N ι w σ r o out:=by
 unfold ak at h;rw[ho]at h;simp only at h;split at h
 ·rename_i t ht;rw[ht]at hc;have FF:r c=.bool t:=by generalize hu:r c=u at hc;cases hc;rfl
  obtain rfl:=aE h;cases t
  ·exact bg.same hi (u:=r b) (by simp[execOp,ho,FF,asBool]) hb
  ·exact bg.same hi (u:=r a) (by simp[execOp,ho,FF,asBool]) ha
 ·cases h
theorem Uj{cs:List IV}{vs rest:List Value}{el:TypeId}{w':World}{l:Loc}{id:Nat}(hr:ax ι cs vs)(hl:ι id 0=some l)(bx:∀e,0<e→ι id e=none)(hn:l.n=cs.length)(gN:l.lim=(vs++rest).length)
 (hh:w'.heap[l.b]?=some (.cells (vs++rest).toArray el (0,0))):ki ι w' id (.cells cs 0 0):=by
 refine⟨⟨aqK _,bx⟩,⟨l,hl,hn⟩,fun e _ he=>?_⟩;obtain rfl:e=0:=by omega
 refine⟨l,(vs++rest).toArray,el,hl,by omega,hh,by simpa using gN,fun k x _ hx=>?_⟩;obtain⟨u,hu,iR⟩:=hr.get hx;refine⟨u,?_,iR⟩;have aa:=(aqF.1 hu).1;rw[asf,aqQ aa];exact hu
theorem Inv.R4(hi:Inv N ι σ w)(hN:σ.n<N){cs:List IV}{vs:List Value}(hr:ax ι cs vs)(rest:List Value)(el:TypeId){w':World}(hw:w'.heap=w.heap.push (.cells (vs++rest).toArray el))
 (uZ:w'.os=w.os)(wS:w'.tape=w.tape)(wT:w'.output=w.output):
 Inv N (dG ι σ.n 0 ⟨w.heap.size,cs.length,(vs++rest).length⟩) (σ.add (.cells cs 0 0)) w'∧Le ro ι w σ (dG ι σ.n 0 ⟨w.heap.size,cs.length,(vs++rest).length⟩) w' (σ.add (.cells cs 0 0)):=by
 have hx:∀e,ι σ.n e=none:=hi.fresh _ (aqK _) hN;have hh:w'.heap[w.heap.size]?=some (.cells (vs++rest).toArray el (0,0)):=by rw[hw];simp
 refine hi.add hN hw uZ wS wT rfl (Uj (rest:=rest) (hr.mono (kj (hx 0))) (bX _ _ _ _) (fun e he=>?_) rfl rfl hh);have:e≠0:=by omega
 simp[dG,this,hx e]
theorem Inv.newRow(hi:Inv N ι σ w)(hN:σ.n<N){cs:List IV}{vs:List Value}(hr:ax ι cs vs)(el:TypeId):
 let l:Loc:=⟨w.heap.size,cs.length,vs.length⟩
 let w':World:={w with heap:=w.heap.push (.cells vs.toArray el)}
 Inv N (dG ι σ.n 0 l) (σ.add (.cells cs 0 0)) w'∧Le ro ι w σ (dG ι σ.n 0 l) w' (σ.add (.cells cs 0 0)):=by
 intro l w';have:=hi.R4 (ro:=ro) hN hr [] el (w':=w') (by simp[w']) rfl rfl rfl;simpa[l]using this
theorem ZD{t:TypeId}(hi:Inv N ι σ w)(ho:o.op=.alloc t)(h:ak P ro ρ o σ=some out):bg P ro N ι w σ r o out:=by
 unfold ak at h;rw[ho]at h;simp only at h;split at h
 ·rename_i z hz;obtain rfl:=aE h;intro hN;obtain⟨h1,h2⟩:=hi.newRow (ro:=ro) (by simp at hN;omega) (ax.sc (ι:=ι) z.cells.toList) t;refine⟨.pointer (some ⟨w.heap.size,0,none⟩),_,_,.inl ?_,?_,h1,h2⟩
  ·simp[execOp,ho,Instr.alloc,iG hz,newVar,newRow]
  ·exact .ptr _ _ _ _ _ (bX _ _ _ _) (by simp)
 ·cases h
theorem aex{t:TypeId}{x:Operand}(hi:Inv N ι σ w)(hr:Rv ι (ρ x) (r x))(ho:o.op=.box t x)(h:ak P ro ρ o σ=some out):bg P ro N ι w σ r o out:=by
 unfold ak at h;rw[ho]at h;simp only at h;split at h
 ·rename_i bo;obtain rfl:=aE h;intro hN;obtain⟨h1,h2⟩:=hi.newRow (ro:=ro) (by simp at hN;omega) (hr.AA bo) t;refine⟨.pointer (some ⟨w.heap.size,0,none⟩),_,_,.inl ?_,?_,h1,h2⟩
  ·simp[execOp,ho,Instr.box,newVar,newRow]
  ·have:=(hr.AA bo).1;exact .ptr _ _ _ _ _ (bX _ _ _ _) (by simp only[ar4];omega)
 ·cases h
theorem ada{t:TypeId}{x:Operand}(hi:Inv N ι σ w)(hr:Rv ι (ρ x) (r x))(ho:o.op=.load t x)(h:ak P ro ρ o σ=some out):bg P ro N ι w σ r o out:=by
 unfold ak at h;rw[ho]at h;simp only at h;split at h
 ·rename_i id off ep ext hx;rw[hx]at hr;split at h
  ·rename_i s cs au mn hs aA;split at h
   ·rename_i hc;split at h
    ·rename_i v hp;obtain rfl:=aE h;obtain⟨a,u,ha,fF,iR⟩:=CJ hi hs aA hc.1 hc.2.1 hc.2.2 hp hr;exact bg.same hi (u:=u) (by simp[execOp,ho,avO,asW,ha,fF]) iR
    ·cases h
   ·cases h
  ·cases h
 ·rename_i cs hx;rw[hx]at hr;split at h
  ·rename_i v hp;obtain rfl:=aE h;generalize hq:r x=q at hr;cases hr with
   |kU _ b off us hu hh=>
    have jQ:xY w b off ((asc cs.length).map us):=by
     intro j v hj;simp only[aqU,aqL]at hj;obtain⟨j',fJ,rfl⟩:=hj
     have:j'=j∧j<cs.length:=by
      rw[aqF]at fJ;obtain⟨h1,h2⟩:=fJ;simp at h1 h2;exact⟨h2.symm,h1⟩
     obtain⟨rfl,aa⟩:=this;have hm:=hu j' aa;unfold oe at hm;cases hb:ι.m b with
     |none=>simp[hb]at hm
     |some c=>
      obtain⟨el,f,hh'⟩:=hi.mem b c hb;rw[cell_of hh'];simpa[hb]using hm
    have hl:ax ι cs ((asc cs.length).map us):=by
     refine⟨by simp,fun i c v h1 h2=>?_⟩;have aa:=(aqF.1 h1).1
     have:v=us i:=by
      simp[aa]at h2;exact h2.symm
     subst this;exact hh i c h1
    obtain⟨u,h1,h2⟩:=Hs (k:=0) hp hl jQ;exact bg.same hi (u:=u) (by simp at h1;simp[execOp,ho,avO,asW,hq,h1]) h2
  ·cases h
 ·cases h
end Go.Ev
namespace Go.Ev
variable{P:Program}{N ro:Nat}{ι:Io}{w:World}{σ:St}{ρ:Operand→IV}{r:Operand→Value}{o:Oper}{out:ey}
theorem tR(w:World)(g:Nat)(cs:Array Value)(b:Nat)(h:b≠g):(w.setRow g cs).heap[b]?=w.heap[b]? :=by
 simp only[avP,Array.getElem?_modify];rw[if_neg (by omega)]
theorem setRow_size(w:World)(g:Nat)(cs:Array Value):(w.setRow g cs).heap.size=w.heap.size:=by simp[avP]
theorem sh{cs:List IV}{vs:List Value}(hr:ax ι cs vs)(h:cs.all af=true):∀v∈vs,v.oneCell'=true:=by
 intro v hv;obtain⟨i,hi⟩:=List.mem_iff_getElem?.1 hv;have aa:i<cs.length:=by have:=(aqF.1 hi).1;have:=hr.1;omega
 have hc:=hr.2 i cs[i] v (List.getElem?_eq_getElem aa) hi;have hk:=Ws hc (List.all_eq_true.1 h _ (List.getElem_mem aa));cases v<;>first|rfl|exact absurd rfl (hk.1 _)|exact absurd rfl (hk.2 _)
theorem Rq(A:List Value)(n off:Nat)(bZ:List Value)(h1:off+bZ.length≤n)(h2:n≤A.length)(k:Nat)(hk:k<n):
 (A.take off++bZ++A.drop (off+bZ.length))[k]?=((A.take n).take off++bZ++(A.take n).drop (off+bZ.length))[k]? :=by
 have e1:(A.take n).take off=A.take off:=by rw[auB,aup (by omega)]
 have e2:A.drop (off+bZ.length)=(A.take n).drop (off+bZ.length)++A.drop n:=by
  have hA:A=A.take n++A.drop n:=(List.take_append_drop n A).symm;have hl:(A.take n).length=n:=by rw[ar9];omega
  have:=List.drop_append_of_le_length (l₁:=A.take n) (l₂:=A.drop n) (i:=off+bZ.length) (by omega);rw[←hA]at this;exact this
 rw[e1,e2,←aq4];refine aqQ ?_;simp only[aq3,ar9,List.length_drop];omega
theorem Inv.write(hi:Inv N ι σ w){id off au mn:Nat}{cs new:List IV}{bZ:List Value}(aA:σ.at id=some (.cells cs au mn))(cx:ro≤id)(CK:off+new.length≤cs.length)
 (hr:ax ι new bZ):∃l c el,ι id au=some l∧w.heap[l.b]?=some (.cells c el (0,0))∧off+bZ.length≤c.size∧
  Inv N ι (σ.put id (.cells (dp cs off new) au au)) (w.setRow l.b (c.toList.take off++bZ++c.toList.drop (off+bZ.length)).toArray)∧
  Le ro ι w σ ι (w.setRow l.b (c.toList.take off++bZ++c.toList.drop (off+bZ.length)).toArray) (σ.put id (.cells (dp cs off new) au au)):=by
 have dt:=hi.obj id _ aA;obtain⟨pX,⟨l0,ja,ko⟩,_⟩:=dt;obtain⟨l,c,el,hl,hn,aL,hc,gN,jQ⟩:=EB (hi.obj id _ aA) pX.1 (aqK _);obtain rfl:l=l0:=by rw[hl]at ja;exact atu ja
 have FG:=hr.1;have aa:off+bZ.length≤c.size:=by omega
 refine⟨l,c,el,hl,hc,aa,?_⟩;refine hi.put aA cx ⟨_,_,hl⟩ (Ext.refl _) (fun _ _ _=>rfl) (fun b hb=>.inl hb) (by rw[setRow_size];exact aqK _) (fun b _ bx=>tR _ _ _ _ ?_) rfl rfl rfl ?_
 ·intro e;subst e;exact bx ⟨_,_,hl,rfl⟩
 ·refine⟨⟨aqK _,pX.2⟩,⟨l,hl,by simp[dp,ko];omega⟩,fun e he gO=>?_⟩;obtain rfl:e=au:=by omega
  refine⟨l,_,el,hl,by simp[dp];omega,setRow_heap w l.b c _ el _ hc,by simp;omega,fun k x hk hx=>?_⟩;rw[ko,List.take_length]at jQ;have oN:cs.length≤c.toList.length:=by simp;omega
  have Uk:ax ι (dp cs off new) ((c.toList.take cs.length).take off++bZ++(c.toList.take cs.length).drop (off+bZ.length)):=jQ.dp off hr;obtain⟨u,hu,iR⟩:=Uk.get hx;refine⟨u,?_,iR⟩;simp only[asf];rw[←hu];exact Rq c.toList cs.length off bZ (by omega) oN k (by omega)
theorem lk{l:Loc}{c:Array Value}{el:TypeId}{off:Nat}{bZ:List Value}(hc:w.heap[l.b]?=some (.cells c el (0,0)))(aa:off+bZ.length≤c.size)(h1:∀v∈bZ,v.oneCell'=true):
 (storeCells ⟨l.b,off,none⟩ bZ).run P w=.ok () (w.setRow l.b (c.toList.take off++bZ++c.toList.drop (off+bZ.length)).toArray):=by
 have:=run_storeCells_at (P:=P) l.b off el bZ 0 c w hc (by omega) h1;simpa using this
theorem ZE{t:TypeId}{a x:Operand}(hi:Inv N ι σ w)(ha:Rv ι (ρ a) (r a))(hx:Rv ι (ρ x) (r x))(ho:o.op=.store t a x)(h:ak P ro ρ o σ=some out):bg P ro N ι w σ r o out:=by
 unfold ak at h;rw[ho]at h;simp only at h;split at h
 ·rename_i id off ep ext hp;rw[hp]at ha;split at h
  ·rename_i s cs au mn hs aA;split at h
   ·rename_i hc;obtain⟨cx,hlen,jb,hep,CK,bo⟩:=hc;obtain rfl:=aE h;intro hN;subst hep;have iz:=hx.AA bo;obtain⟨l,c,el,hl,u5,aa,h1,h2⟩:=hi.write (ro:=ro) aA cx (by rw[hlen];exact CK) iz;generalize hq:r a=q at ha;cases ha with
    |ptr _ _ _ _ l' cd ib=>
     rw[hl]at cd;cases cd;refine⟨Go.undef,_,_,.inr ⟨?_,rfl⟩,.raw _,h1,h2⟩;have aL:(r x).cells.size=s:=by have:=iz.1;simp at this;omega
     simp[execOp,ho,Instr.storeAt,asW,hq,storeVar,eB hs,aL,lk (P:=P) u5 aa (sh iz bo)]
   ·cases h
  ·cases h
 ·cases h
theorem Rr{x:Operand}(hi:Inv N ι σ w)(hr:Rv ι (ρ x) (r x))(ho:o.op=.nilCheck x)(h:ak P ro ρ o σ=some out):bg P ro N ι w σ r o out:=by
 unfold ak at h;rw[ho]at h;simp only at h;split at h
 all_goals first|(cases h;done)|skip
 all_goals
  rename_i hx;rw[hx]at hr;obtain rfl:=aE h;generalize hq:r x=q at hr;refine bg.same hi (u:=q) ?_ hr;cases hr<;>simp[execOp,ho,hq]
theorem eval_bin{op:BinOp}{t yT:TypeId}{x y:Operand}(ho:o.op=.binOp op t x y yT){v:Value}(h:(do eqGuard op t x y (r x) (r y);binOp op t (r x) (r y):Sem Value).run P w=.ok v w):
 (execOp r o).run P w=.ok (.value v) w:=by
 simp only[execOp,ho,aqM]at h⊢;rw[h];rfl
theorem toList_eq(s:ByteArray):s.toList=s.data.toList:=Lib.toList_data s
theorem Wt{t:TypeId}{a b:IV}{u v:Value}(d:Nat)(h:zz P t a b=true)(ha:Rv ι a u)(hb:Rv ι b v):
 ((ar3 (d+1) t u v).run P w=.ok false w)∧((ar3 (d+1) t v u).run P w=.ok false w):=by
 unfold zz at h;split at h
 all_goals first|(cases h;done)|skip
 all_goals
  split at h
  ·rename_i hu;cases ha;cases hb;refine⟨?_,?_⟩<;>simp only[ar3,aqM,aO hu,aqJ]<;>rfl
  ·cases h
theorem wU{t:TypeId}{u v:Value}{c:Bool}(he:(ar3 (9999+1) t u v).run P w=.ok c w):
 (do pure (.bool (←atO t u v)):Sem Value).run P w=.ok (.bool c) w∧(do pure (.bool (!(←atO t u v))):Sem Value).run P w=.ok (.bool !c) w:=by
 have gO:(atO t u v).run P w=.ok c w:=he;constructor<;>simp only[aqM,gO,aqJ,aqV]
theorem KI{t:TypeId}{a b:IV}{u v:Value}{x y:Operand}(h:zz P t a b=true)(ha:Rv ι a u)(hb:Rv ι b v):
 ((∀op,(eqGuard op t x y u v).run P w=.ok () w)∧(aso .eql t u v).run P w=.ok (.bool false) w∧(aso .neq t u v).run P w=.ok (.bool true) w)∧
 ((∀op,(eqGuard op t x y v u).run P w=.ok () w)∧(aso .eql t v u).run P w=.ok (.bool false) w∧(aso .neq t v u).run P w=.ok (.bool true) w):=by
 have h1:=Wt (w:=w) 9999 h ha hb;have h2:=wU h1.1;have h3:=wU h1.2;unfold zz at h;split at h
 all_goals first|(cases h;done)|skip
 all_goals
  cases ha;cases hb;exact⟨⟨fun op=>by cases op<;>rfl,h2.1,h2.2⟩,⟨fun op=>by cases op<;>rfl,h3.1,h3.2⟩⟩
theorem ZF{t:TypeId}{a b:IV}{u v:Value}{x y:Operand}(h:Ud P t a b=true)(ha:Rv ι a u)(hb:Rv ι b v):
 (∀op,(eqGuard op t x y u v).run P w=.ok () w)∧(aso .eql t u v).run P w=.ok (.bool false) w∧(aso .neq t u v).run P w=.ok (.bool true) w:=by
 unfold Ud at h;rw[Bool.or_eq_true]at h;rcases h with h|h
 ·exact(KI (w:=w) (x:=x) (y:=y) h ha hb).1
 ·exact(KI (w:=w) (x:=x) (y:=y) h hb ha).2
theorem No{t:TypeId}{a b:IV}{u v:Value}{x y:Operand}{c:Bool}(h:ptrEq P t a b=some c)(ha:Rv ι a u)(hb:Rv ι b v):
 (∀op,(eqGuard op t x y u v).run P w=.ok () w)∧(aso .eql t u v).run P w=.ok (.bool c) w∧(aso .neq t u v).run P w=.ok (.bool !c) w:=by
 unfold ptrEq at h;split at h
 ·rename_i i off e x1 j Jn f y1;split at h
  ·rename_i el hu;split at h
   ·rename_i s hs;split at h
    ·rename_i hc;obtain⟨rfl,rfl,h0⟩:=hc;cases h;cases ha with
     |ptr _ off _ _ l hl _=>
      cases hb with
      |ptr _ Jn _ _ l' cd _=>
       rw[hl]at cd;cases cd
       have he:∀d,(ar3 (d+1) t (.pointer (some ⟨l.b,off,none⟩)) (.pointer (some ⟨l.b,Jn,none⟩))).run P w=.ok (off==Jn) w:=by
        intro d;simp only[ar3,aqM,aO hu,aqJ,eB hs,ne_eq,h0,not_false_eq_true,if_true,sameAddr,beq_self_eq_true];by_cases hh:off=Jn
        ·subst hh;simp
        ·have:((⟨l.b,off,none⟩:Addr)==⟨l.b,Jn,none⟩)=false:=by simp[hh]
         simp[this,hh]
       have h2:=wU (he 9999);exact⟨fun op=>by cases op<;>rfl,h2.1,h2.2⟩
    ·cases h
   ·cases h
  ·cases h
 ·cases h
theorem aey{op:BinOp}{t yT:TypeId}{x y:Operand}(hi:Inv N ι σ w)(hx:Rv ι (ρ x) (r x))(hy:Rv ι (ρ y) (r y))(ho:o.op=.binOp op t x y yT)(h:ak P ro ρ o σ=some out):
 bg P ro N ι w σ r o out:=by
 unfold ak at h;rw[ho]at h;simp only at h;split at h
 ·rename_i v hv;obtain rfl:=aE h
  suffices hs:∃u,(do eqGuard op t x y (r x) (r y);binOp op t (r x) (r y):Sem Value).run P w=.ok u w∧Rv ι v u by
   obtain⟨u,h1,h2⟩:=hs;exact bg.same hi (eval_bin ho h1) h2
  generalize og:r x=a at hx;generalize hry:r y=b at hy;generalize si:ρ x=ix at hx hv;generalize hiy:ρ y=iy at hy hv;unfold oL at hv
  have strs:∀(s u:ByteArray),ix=.raw (.string s)→iy=.raw (.string u)→a=.string s∧b=.string u:=by
   intro s u h1 h2;subst h1 h2;cases hx;cases hy;exact⟨rfl,rfl⟩
  split at hv
  ·rename_i s u;obtain⟨rfl,rfl⟩:=strs s u rfl rfl;cases hv;exact⟨_,by simp[eqGuard,aso,atb,toList_eq],.raw _⟩
  ·rename_i s u;obtain⟨rfl,rfl⟩:=strs s u rfl rfl;cases hv;exact⟨_,by simp[eqGuard,aso,atb,toList_eq],.raw _⟩
  ·rename_i s u;obtain⟨rfl,rfl⟩:=strs s u rfl rfl;cases hv;exact⟨_,by simp[eqGuard,aso,atb,toList_eq],.raw _⟩
  ·rename_i s u;obtain⟨rfl,rfl⟩:=strs s u rfl rfl;cases hv;exact⟨_,by simp[eqGuard,aso,atb,toList_eq],.raw _⟩
  ·rename_i s u;obtain⟨rfl,rfl⟩:=strs s u rfl rfl;cases hv;exact⟨_,by simp[eqGuard,aso,atb,toList_eq],.raw _⟩
  ·rename_i s u;obtain⟨rfl,rfl⟩:=strs s u rfl rfl;cases hv;exact⟨_,by simp[eqGuard,aso,atb,toList_eq],.raw _⟩
  ·rename_i s u;obtain⟨rfl,rfl⟩:=strs s u rfl rfl;split at hv
   ·rename_i aL;cases hv;refine⟨_,?_,.raw _⟩
    have e:(⟨(s.data.toList++u.data.toList).toArray⟩:ByteArray)=s++u:=by
     apply awh;simp
    rw[e]
    have hm:¬((s.size+u.size:Nat):Int)>arc.max:=by
     have:arc.max=9223372036854775807:=by decide
     rw[this];omega
    simp only[eqGuard,aso,atb,if_neg hm];simp
   ·cases hv
  ·split at hv
   ·rename_i u1 u2 h1 h2;rw[tQ h1 hx,tQ h2 hy];simp only[aqL]at hv;obtain⟨z,hz,rfl⟩:=hv;exact⟨z,eL w _ hz,Rv.lift z⟩
   ·split at hv
    ·rename_i qg;obtain⟨hg,he⟩:=ZF (w:=w) (x:=x) (y:=y) qg hx hy;split at hv
     ·cases hv;exact⟨.bool false,by simp only[aqM,hg .eql,aqJ,he.1],.raw _⟩
     ·cases hv;exact⟨.bool true,by simp only[aqM,hg .neq,aqJ,he.2],.raw _⟩
     ·cases hv
    ·split at hv
     ·obtain⟨hg,he⟩:=No (w:=w) (x:=x) (y:=y) ‹ptrEq P t ix iy=some _› hx hy;cases hv;exact⟨.bool _,by simp only[aqM,hg .eql,aqJ,he.1],.raw _⟩
     ·obtain⟨hg,he⟩:=No (w:=w) (x:=x) (y:=y) ‹ptrEq P t ix iy=some _› hx hy;cases hv;exact⟨.bool _,by simp only[aqM,hg .neq,aqJ,he.2],.raw _⟩
     ·cases hv
 ·cases h
end Go.Ev
namespace Go.Ev
variable{P:Program}{N ro:Nat}{ι:Io}{w:World}{σ:St}{ρ:Operand→IV}{r:Operand→Value}{o:Oper}{out:ey}
theorem eU{x:IV}{v u:Value}(hx:x=.raw v)(h:Rv ι x u):u=v:=by subst hx;cases h;rfl
theorem ah_{op:UnOp}{t:TypeId}{x:Operand}(hi:Inv N ι σ w)(hr:Rv ι (ρ x) (r x))(ho:o.op=.unOp op t x)(h:ak P ro ρ o σ=some out):bg P ro N ι w σ r o out:=by
 unfold ak at h;rw[ho]at h;simp only at h;split at h
 ·rename_i v hx;split at h
  ·rename_i z hz;obtain rfl:=aE h;have e:=eU hx hr;have:=eL w _ hz;exact bg.same hi (u:=z) (by simp[execOp,ho,e,this]) (Rv.lift z)
  ·cases h
 ·cases h
theorem Ul{s t:TypeId}{x:Operand}(hi:Inv N ι σ w)(hr:Rv ι (ρ x) (r x))(ho:o.op=.convert s t x)(h:ak P ro ρ o σ=some out):bg P ro N ι w σ r o out:=by
 unfold ak at h;rw[ho]at h;simp only at h;split at h
 ·rename_i v hx;split at h
  ·rename_i d hs hu;obtain rfl:=aE h;have e:=eU hx hr;refine bg.same hi (u:=.string v) ?_ (.raw _)
   have:(convert s t (.string v)).run P w=.ok (.string v) w:=by
    simp only[convert,aqM,aO hs,aO hu,aqJ];rfl
   simp[execOp,ho,e,this]
  ·cases h
 ·rename_i v _ hx;split at h
  ·rename_i z hz;obtain rfl:=aE h;have e:=eU hx hr;have:=eL w _ hz;exact bg.same hi (u:=z) (by simp[execOp,ho,e,this]) (Rv.lift z)
  ·cases h
 ·cases h
theorem Gi{t:TypeId}{x:Operand}(hi:Inv N ι σ w)(hr:Rv ι (ρ x) (r x))(ho:o.op=.makeInterface t x)(h:ak P ro ρ o σ=some out):bg P ro N ι w σ r o out:=by
 unfold ak at h;rw[ho]at h;simp only at h;split at h
 ·cases h
 ·rename_i d hd hu;obtain rfl:=aE h;refine bg.same hi (u:=.iface t (r x)) ?_ (.da _ _ _ hr);simp only[execOp,ho,Instr.makeInterface,aqM,aO hu,aqJ];cases d<;>first|rfl|(exact absurd rfl (hd _))
 ·cases h
theorem Rt{f:Fn}{first cap:Array Operand}(hi:Inv N ι σ w)(hr:∀x∈first++cap,Rv ι (ρ x) (r x))(ho:o.op=.makeFunc f first cap)(h:ak P ro ρ o σ=some out):bg P ro N ι w σ r o out:=by
 unfold ak at h;rw[ho]at h;simp only at h;obtain rfl:=aE h;have h1:ax ι (first.toList.map ρ) (first.toList.map r):=ax.of_map fun a ha=>hr a (by simp at ha⊢;exact .inl ha);have h2:ax ι (cap.toList.map ρ) (cap.toList.map r):=ax.of_map fun a ha=>hr a (by simp at ha⊢;exact .inr ha);refine bg.same hi (u:=.func f (first.toList.map r).toArray (cap.toList.map r).toArray) ?_ (.fn _ _ _ _ _ h1.1 h1.2 h2.1 h2.2);simp only[execOp,ho,Instr.makeFunc,aqM,aqV,aqJ]
 congr 3<;>(apply asN;simp)
theorem Um{x:Operand}{i:Nat}(hi:Inv N ι σ w)(hr:Rv ι (ρ x) (r x))(ho:o.op=.extract x i)(h:ak P ro ρ o σ=some out):bg P ro N ι w σ r o out:=by
 unfold ak at h;rw[ho]at h;simp only at h;split at h
 ·rename_i vs hx;split at h
  ·rename_i v hv;obtain rfl:=aE h;rw[hx]at hr;generalize hq:r x=q at hr;cases hr with
   |av _ us hl hh=>
    obtain⟨u,hu,iR⟩:=ax.get ⟨hl,hh⟩ hv;exact bg.same hi (u:=u) (by simp[execOp,ho,avB,hq,hu]) iR
  ·cases h
 ·rename_i vs hx;split at h
  ·rename_i v hv;obtain rfl:=aE h;have e:=eU hx hr;exact bg.same hi (u:=v) (by simp[execOp,ho,avB,e,hv]) (.raw _)
  ·cases h
 ·cases h
theorem Inv.aez(hi:Inv N ι σ w)(hN:σ.n<N):
 Inv N (dG ι σ.n 0 ⟨w.heap.size,1,1⟩) (σ.add (.map [] 0)) {w with heap:=w.heap.push (.map #[] 0)}∧
 Le ro ι w σ (dG ι σ.n 0 ⟨w.heap.size,1,1⟩) {w with heap:=w.heap.push (.map #[] 0)} (σ.add (.map [] 0)):=by
 refine hi.add hN rfl rfl rfl rfl rfl ⟨_, #[],bX _ _ _ _,by simp,by simp,fun i e r h=>by simp at h⟩
theorem Un{t:TypeId}{x:Option Operand}(hi:Inv N ι σ w)(hr:∀y∈x.toArray,Rv ι (ρ y) (r y))(ho:o.op=.makeMap t x)(h:ak P ro ρ o σ=some out):bg P ro N ι w σ r o out:=by
 unfold ak at h;rw[ho]at h;simp only at h
 have key:out=.val (.map σ.n) (σ.add (.map [] 0))→(execOp r o).run P w=.ok (.value (.map (some w.heap.size))) {w with heap:=w.heap.push (.map #[] 0)}→bg P ro N ι w σ r o out:=by
  intro h1 h2;subst h1;intro hN;obtain⟨h3,h4⟩:=hi.aez (ro:=ro) (by simp at hN;omega);exact⟨_,_,_,.inl h2,.map _ _ (bX _ _ _ _),h3,h4⟩
 split at h
 ·exact key (aE h) (by simp[execOp,ho,avC])
 ·rename_i y;split at h
  ·rename_i hu hx;have e:=eU hx (hr _ (by simp));exact key (aE h) (by simp[execOp,ho,avC,aO hu,e,asInt,asIntOf])
  ·cases h
theorem Np{s:TypeId}{x:Operand}{f:Nat}(hi:Inv N ι σ w)(hr:Rv ι (ρ x) (r x))(ho:o.op=.fieldAddr s x f)(h:ak P ro ρ o σ=some out):bg P ro N ι w σ r o out:=by
 unfold ak at h;rw[ho]at h;simp only at h;split at h
 ·rename_i fields hu;split at h
  ·rename_i fd hf;split at h
   ·rename_i sz id off ep ext hs hx;split at h
    ·rename_i hc;obtain rfl:=aE h;rw[hx]at hr;generalize hq:r x=q at hr;cases hr with
     |ptr _ _ _ _ l hl hle=>
      refine bg.same hi (u:=.pointer (some ⟨l.b,off+fd.offset,none⟩)) ?_ (.ptr _ _ _ _ l hl (by omega));simp[execOp,ho,avD,aO hu,hf,asW,hq,fieldPlace,eB hs,hc.1,gQ]
    ·cases h
   ·rename_i sz cs hs hx;split at h
    ·rename_i hc;obtain rfl:=aE h;rw[hx]at hr;generalize hq:r x=q at hr;cases hr with
     |kU _ b off us x_ hh=>
      refine bg.same hi (u:=.pointer (some ⟨b,off+fd.offset,none⟩)) ?_ (.kU _ _ _ (fun k=>us (fd.offset+k)) (fun k hk=>?_) (fun j c hj=>?_))
      ·simp[execOp,ho,avD,aO hu,hf,asW,hq,fieldPlace,eB hs,hc.1,gQ]
      ·simp at hk;rw[show off+fd.offset+k=off+(fd.offset+k) by omega];exact x_ _ (by omega)
      ·rw[ard]at hj;split at hj
       ·exact hh _ c (by simpa using hj)
       ·cases hj
    ·cases h
   ·cases h
  ·cases h
 ·cases h
theorem ZH{t:TypeId}{x:Operand}{f:Nat}(hi:Inv N ι σ w)(hr:Rv ι (ρ x) (r x))(ho:o.op=.field t x f)(h:ak P ro ρ o σ=some out):bg P ro N ι w σ r o out:=by
 unfold ak at h;rw[ho]at h;simp only at h;split at h
 ·rename_i fields cs hu hx;split at h
  ·rename_i fd hf;split at h
   ·rename_i v hp;obtain rfl:=aE h;rw[hx]at hr;generalize hq:r x=q at hr;cases hr with
    |agg _ us hl hh=>
     obtain⟨u,h1,h2⟩:=Nn hp ⟨hl,hh⟩ w;exact bg.same hi (u:=u) (by simp[execOp,ho,Instr.field,aO hu,hf,asAgg,hq,h1]) h2
   ·cases h
  ·cases h
 ·cases h
theorem Nq{t:TypeId}{x ix:Operand}(hi:Inv N ι σ w)(hr:Rv ι (ρ x) (r x))(og:Rv ι (ρ ix) (r ix))(ho:o.op=.indexAddr t x ix)(h:ak P ro ρ o σ=some out):bg P ro N ι w σ r o out:=by
 unfold ak at h;rw[ho]at h;simp only at h;split at h
 ·rename_i elem k i hu si;have ei:=eU si og;split at h
  ·rename_i id off len cap ep s hx;split at h
   ·rename_i hc;obtain⟨hs,h0,aa⟩:=hc;obtain rfl:=aE h;rw[hx]at hr;generalize hq:r x=q at hr;have hn:i.toNat<len:=by omega
    have hmul:i.toNat*s+s≤len*s:=by
     have:(i.toNat+1)*s≤len*s:=aq8 s hn;rw[are]at this;omega
    cases hr with
    |sl _ _ _ _ _ _ l c a hl hle gN bA ll fw ha=>
     have apL:len*s≤c*s:=aq8 s ll;refine bg.same hi (u:=.pointer (some ⟨l.b,off+i.toNat*s,none⟩)) ?_ (.ptr _ _ _ _ l hl (by omega));have ea:=ha (by omega);subst ea;simp[execOp,ho,auw,ei,asIntOf,aO hu,hq,h0,aa,eB hs,gQ]
   ·cases h
  ·rename_i s es hx;split at h
   ·rename_i hc;obtain⟨hs,h0⟩:=hc;split at h
    ·rename_i e he;split at h
     ·rename_i qx;obtain rfl:=aE h;rw[hx]at hr;generalize hq:r x=q at hr;have aa:=(aqF.1 he).1;have fR:i<es.length:=by omega
      have hmul:i.toNat*s+s≤es.length*s:=by
       have:(i.toNat+1)*s≤es.length*s:=aq8 s aa;rw[are]at this;omega
      cases hr with
      |tree _ _ b off c us bA hc bC x_ hh=>
       refine bg.same hi (u:=.pointer (some ⟨b,off+i.toNat*s,none⟩)) ?_ (.kU _ _ _ (fun k=>us (i.toNat*s+k)) (fun k hk=>?_) (fun j c hj=>hh _ _ _ _ he hj))
       ·simp[execOp,ho,auw,ei,asIntOf,aO hu,hq,h0,fR,eB hs,gQ]
       ·rw[show off+i.toNat*s+k=off+(i.toNat*s+k) by omega];exact x_ _ (by omega)
      |dN=>simp at aa
     ·cases h
    ·cases h
   ·cases h
  ·cases h
 ·rename_i n elem k i hu si;have ei:=eU si og;split at h
  ·rename_i id off ep ext s hx hs;split at h
   ·rename_i hc;obtain⟨bA,h0,aa,Jo⟩:=hc;obtain rfl:=aE h;rw[hx]at hr;generalize hq:r x=q at hr;cases hr with
    |ptr _ _ _ _ l hl hle=>
     refine bg.same hi (u:=.pointer (some ⟨l.b,off+i.toNat*s,none⟩)) ?_ (.ptr _ _ _ _ l hl (by omega));simp[execOp,ho,auw,ei,asIntOf,aO hu,hq,asW,h0,aa,eB hs,gQ]
   ·cases h
  ·cases h
 ·cases h
theorem ZI{t:TypeId}{x ix:Operand}(hi:Inv N ι σ w)(hr:Rv ι (ρ x) (r x))(og:Rv ι (ρ ix) (r ix))(ho:o.op=.index t x ix)(h:ak P ro ρ o σ=some out):bg P ro N ι w σ r o out:=by
 unfold ak at h;rw[ho]at h;simp only at h;split at h
 ·rename_i s k i hu hx si;have ei:=eU si og;have ex:=eU hx hr;split at h
  ·rename_i h0;split at h
   ·rename_i b hb;obtain rfl:=aE h;refine bg.same hi (u:=.int .u8 b.toNat) ?_ (.raw _)
    have pY:s[i.toNat]?=some b:=by
     obtain⟨aa,he⟩:=aqF.1 hb;have fR:i.toNat<s.size:=by simpa using aa
     rw[getElem?_pos s i.toNat fR];simpa[awi]using he
    simp[execOp,ho,avW,ei,ex,asIntOf,aO hu,h0,pY]
   ·cases h
  ·cases h
 ·rename_i n elem cs k i hu hx si;have ei:=eU si og;split at h
  ·rename_i s hs;split at h
   ·rename_i hc;split at h
    ·rename_i v hp;obtain rfl:=aE h;rw[hx]at hr;generalize hq:r x=q at hr;cases hr with
     |agg _ us hl hh=>
      obtain⟨u,h1,h2⟩:=Nn hp ⟨hl,hh⟩ w;exact bg.same hi (u:=u) (by simp[execOp,ho,avW,ei,hq,asIntOf,aO hu,hc.1,hc.2,eB hs,h1]) h2
    ·cases h
   ·cases h
  ·cases h
 ·cases h
end Go.Ev
namespace Go.Ev
variable{P:Program}{N ro:Nat}{ι:Io}{w:World}{σ:St}{ρ:Operand→IV}{r:Operand→Value}{o:Oper}{out:ey}
theorem FH(l:List Value)(s:Nat)(hl:l.length=s):∀n,(asc (n*s)).map (fun i=>l[i % s]!)=(aq1 n l).flatten
 |0=>by simp
 |n+1=>by
  rw[are,Nat.one_mul,List.range_add,List.map_append,FH l s hl n,List.replicate_succ',List.flatten_append]
  congr 1
  simp only[as9,List.flatten_nil,List.append_nil,List.map_map];apply at7;intro i;by_cases hi:i<s
  ·have h1:(n*s+i) % s=i:=by rw[Nat.mul_comm,Nat.mul_add_mod,Nat.mod_eq_of_lt hi]
   simp[hi,h1,hl]
  ·rw[auM (by simp;omega),auM (by omega)]
theorem Wu(l:List Value)(s n:Nat)(hl:l.length=s)(hs:s≠0):gx (l.map .raw) (n*s)=((aq1 n l).flatten).map .raw:=by
 unfold gx;split
 ·rename_i z hz;cases l with
  |nil=>simp at hz
  |cons a l=>
   cases l with
   |nil=>
    simp only[arC,List.map_nil,arF,and_true]at hz;subst hz;have dw:s=1:=by simpa using hl.symm
    subst dw;rw[Nat.mul_one];clear hl hs;induction n with
    |zero=>rfl
    |succ n ih=>rw[asO,asO,as9,ih];rfl
   |cons b l=>simp at hz
 ·rw[List.length_map,hl,Nat.mul_div_cancel _ (by omega),List.map_flatten];simp
theorem wV(z:Array Value)(s n:Nat)(hz:z.size=s)(hs:s≠0):(auN (n*s)).map (fun i=>z[i % z.size]!)=(((aq1 n z.toList).flatten)).toArray:=by
 apply asN;have:=FH z.toList s (by simpa using hz) n;simp only[aua,Array.toList_range,hz];rw[←this];apply List.map_congr_left;intro i _;simp[List.getElem!_eq_getElem?_getD,Array.getElem!_eq_getD]
theorem ya(z:Value)(s n:Nat)(hz:z.cells.size=s)(hs:s≠0):ax ι (gx (z.cells.toList.map .raw) (n*s)) ((aq1 n z.cells.toList).flatten):=by
 rw[Wu _ s n (by simpa using hz) hs];exact ax.sc _
theorem CL(z:Value)(s n:Nat)(hz:z.cells.size=s):((aq1 n z.cells.toList).flatten).length=n*s:=by
 simp[hz]
theorem KJ(off:Nat):∀(l:List Value) (k:Nat) (A:Array Value) (i:Nat),off+k+l.length≤A.size→
 ((l.zipIdx k).foldl (fun cs (x:Value×Nat)=>cs.setIfInBounds (off+x.2) x.1) A)[i]?=if off+k≤i∧i<off+k+l.length then l[i- off- k]? else A[i]?
 |[],k,A,i,_=>by
  have:¬(off+k≤i∧i<off+k+0):=by omega
  simp;intro h1 h2;omega
 |v::l,k,A,i,h=>by
  simp only[ary]at h;simp only[List.zipIdx_cons,List.foldl_cons];rw[KJ off l (k+1) _ i (by simp;omega)];by_cases h1:off+(k+1)≤i∧i<off+(k+1)+l.length
  ·rw[if_pos h1,if_pos (by simp;omega)];have:i- off- k=(i- off-(k+1))+1:=by omega
   rw[this,asZ]
  ·rw[if_neg h1];by_cases h2:i=off+k
   ·subst h2;rw[if_pos (by simp)];have:off+k<A.size:=by omega
    simp[this]
   ·rw[if_neg (by simp;omega),Array.getElem?_setIfInBounds,if_neg (by omega)]
theorem EC{place:Nat→Option (Nat×Nat)}:∀{parts:List (Nat×IV)} {wW:List (Nat×Value)} {cs cq:List IV} {A:Array Value},
 pE place cs parts=some cq→ax ι cs A.toList→parts.length=wW.length→(∀(i:Nat) (p:Nat×IV) (q:Nat×Value),parts[i]?=some p→wW[i]?=some q→p.1=q.1∧Rv ι p.2 q.2)→
 ∃A',av8 place A wW=some A'∧ax ι cq A'.toList
 |[],wW,cs,cq,A,h,hr,hl,hp=>by
  cases wW with
  |nil=>simp only[pE,aqH]at h;subst h;exact⟨A,rfl,hr⟩
  |cons p q=>simp at hl
 |(i,x)::rest,wW,cs,cq,A,h,hr,hl,hp=>by
  cases wW with
  |nil=>simp at hl
  |cons q apM=>
   obtain⟨j,v⟩:=q;obtain⟨h1,h2⟩:=hp 0 _ _ rfl rfl;simp only at h1 h2;subst h1;simp only[pE]at h;split at h
   ·cases h
   ·rename_i off size nC;split at h
    ·rename_i hc;obtain⟨hlen,hle,bo⟩:=hc;have iz:=h2.AA bo;have gR:v.cells.size=size:=by have:=iz.1;simp at this;omega
     have hAs:cs.length=A.size:=by have:=hr.1;simpa using this
     have hA:(v.cells.zipIdx.foldl (fun cs (x:Value×Nat)=>cs.setIfInBounds (off+x.2) x.1) A).toList=A.toList.take off++v.cells.toList++A.toList.drop (off+v.cells.toList.length):=by
      apply at7;intro k;have hf:=KJ off v.cells.toList 0 A k (by simp;omega)
      have e:v.cells.zipIdx.foldl (fun cs (x:Value×Nat)=>cs.setIfInBounds (off+x.2) x.1) A=(v.cells.toList.zipIdx 0).foldl (fun cs (x:Value×Nat)=>cs.setIfInBounds (off+x.2) x.1) A:=by
       rw[←Array.foldl_toList];simp
      rw[asA,e,hf];simp only[Nat.add_zero,Nat.sub_zero,atJ];by_cases h3:k<off
      ·rw[if_neg (by omega),aq4,aqQ (by simp;omega),ard,if_pos h3,asA]
      ·by_cases h4:k<off+v.cells.size
       ·rw[if_pos (by omega),aqQ (by simp;omega),aq_ (by simp;omega)]
        congr 1;simp;omega
       ·rw[if_neg (by omega),aq_ (by simp;omega),List.getElem?_drop,asA]
        congr 1;simp;omega
     have oh:=hr.dp off iz;rw[←hA]at oh;obtain⟨A',h5,h6⟩:=EC h oh (by simpa using hl) (fun i p q lp Ca=>hp (i+1) p q lp Ca);refine⟨A',?_,h6⟩;simp only[av8,nC];rw[if_neg (by simp;omega)];exact h5
    ·cases h
theorem Gj{parts:Array (Nat×Operand)}(hr:∀x∈(parts.toList.map (·.2)),Rv ι (ρ x) (r x)):
 ∀(i:Nat) (p:Nat×IV) (q:Nat×Value),(parts.toList.map fun(y:Nat×Operand)=>(y.1,ρ y.2))[i]?=some p→((parts.map fun(y:Nat×Operand)=>(y.1,r y.2)).toList)[i]?=some q→p.1=q.1∧Rv ι p.2 q.2:=by
 intro i p q h1 h2;simp only[aqU,aqL,aua]at h1 h2;obtain⟨a,ha,rfl⟩:=h1;obtain⟨b,hb,rfl⟩:=h2;rw[ha]at hb;cases hb;exact⟨rfl,hr _ (List.mem_map.2 ⟨a,List.mem_of_getElem? ha,rfl⟩)⟩
theorem run_places{fields:List Field}(h:∀f∈fields,(aH P f.type).isSome=true):
 (fields.mapM fun f=>(do pure (f.offset,←sizeOf f.type):Sem (Nat×Nat))).run P w=.ok (fields.map fun f=>(f.offset,(aH P f.type).getD 0)) w:=by
 induction fields with
 |nil=>rfl
 |cons f fs ih=>
  obtain⟨s,hs⟩:=atl.1 (h f (by simp));rw[List.mapM_cons];simp only[aqM,eB hs,aqJ,aqV,ih (fun g hg=>h g (by simp[hg])),arC,hs,Option.getD_some]
theorem ZJ{t:TypeId}{parts:Array (Nat×Operand)}(hi:Inv N ι σ w)(hr:∀x∈(parts.toList.map (·.2)),Rv ι (ρ x) (r x))(ho:o.op=.build t parts)(h:ak P ro ρ o σ=some out):
 bg P ro N ι w σ r o out:=by
 unfold ak at h;rw[ho]at h;simp only at h;split at h
 ·rename_i z fields hz hu;split at h
  ·rename_i cs hf;split at h
   ·rename_i bp;obtain rfl:=aE h;obtain⟨A',h1,h2⟩:=EC (ι:=ι) hf (A:=z.cells) (ax.sc _) (by simp) (Gj hr);refine bg.same hi (u:=.agg A') ?_ ?_
    ·have hp:=run_places (P:=P) (w:=w) (fields:=fields.toList) (fun f hf=>atV.1 bp f (by simpa using hf))
     have nC:(fields.mapM fun f=>(do pure (f.offset,←sizeOf f.type):Sem (Nat×Nat))).run P w=.ok (fields.map fun f=>(f.offset,(aH P f.type).getD 0)) w:=by
      rw[Array.mapM_eq_mapM_toList,Sem.run_map,hp];simp only[aqJ]
      congr 1
      apply asN;simp
     have aeA:(fun(i:Nat)=>(fields.map fun(f:Field)=>(f.offset,(aH P f.type).getD 0))[i]?)=(fun(i:Nat)=>(fields[i]?).bind fun(f:Field)=>(aH P f.type).map fun s=>(f.offset,s)):=by
      funext i;rw[Array.getElem?_map];cases hfi:fields[i]? with
      |none=>rfl
      |some f=>
       obtain⟨s,hs⟩:=atl.1 (atV.1 bp f (Array.mem_of_getElem? hfi));simp[hs]
     rw[←aeA]at h1;simp only[execOp,ho,avX,aqM,iG hz,aO hu,nC,aqJ,h1,aqV]
    ·have:=Rv.agg (ι:=ι) cs A'.toList h2.1 h2.2;simpa using this
   ·cases h
  ·cases h
 ·rename_i z n elem hz hu;split at h
  ·rename_i s hs;split at h
   ·rename_i cs hf;obtain rfl:=aE h;obtain⟨A',h1,h2⟩:=EC (ι:=ι) hf (A:=z.cells) (ax.sc _) (by simp) (Gj hr);refine bg.same hi (u:=.agg A') ?_ ?_
    ·simp only[execOp,ho,avX,aqM,iG hz,aO hu,eB hs,aqJ,h1,aqV]
    ·have:=Rv.agg (ι:=ι) cs A'.toList h2.1 h2.2;simpa using this
   ·cases h
  ·cases h
 ·cases h
theorem MI{t:TypeId}{len:Nat}{parts:Array (Nat×Operand)}(hi:Inv N ι σ w)(hr:∀x∈(parts.toList.map (·.2)),Rv ι (ρ x) (r x))(ho:o.op=.buildSlice t len parts)
 (h:ak P ro ρ o σ=some out):bg P ro N ι w σ r o out:=by
 unfold ak at h;rw[ho]at h;simp only at h;split at h
 ·rename_i elem hu;split at h
  ·rename_i s z hs hz;split at h
   ·cases h
   ·rename_i hc;have bA:s≠0:=fun e=>hc (.inl e);have rG:z.cells.size=s:=arq fun e=>hc (.inr (.inl e))
    have Jp:len*s≤2 ^20:=by
     have:¬len*s>2 ^20:=fun e=>hc (.inr (.inr e));omega
    split at h
    ·rename_i cs hf;split at h
     ·rename_i bC;obtain⟨hlen,bo⟩:=bC;have Uo:=wV z.cells s len rG bA;obtain⟨A',h1,h2⟩:=EC (ι:=ι) hf (A:=((aq1 len z.cells.toList).flatten).toArray) (by simpa using ya z s len rG bA) (by simp) (Gj hr)
      have fF:(execOp r o).run P w=.ok (.value (.slice (some ⟨w.heap.size,0,none⟩) len len)) {w with heap:=w.heap.push (.cells A' elem)}:=by
       simp only[execOp,ho,Instr.buildSlice,aqM,aO hu,eB hs,aqJ];rw[if_neg (by omega)];by_cases h0:len*s=0
       ·have ja:len=0:=by rcases auq.1 h0 with h|h;exact h;exact absurd h bA
        have e0:auN (len*s)= #[]:=by rw[h0];rfl
        have e1:((aq1 len z.cells.toList).flatten).toArray= #[]:=by rw[ja];rfl
        rw[e1]at h1;simp only[if_pos h0,aqV,aqJ,e0,avl,h1,newRow,aqM,run_newObj]
       ·simp only[h0,if_false,aqM,iG hz,aqJ,aqV,Uo,h1];simp[newRow]
      split at h
      ·rename_i ja;obtain rfl:=aE h;subst ja;intro hN;obtain⟨h3,h4⟩:=hi.push (ro:=ro) (w':={w with heap:=w.heap.push (.cells A' elem)}) (o:=.cells A' elem) rfl rfl rfl rfl;exact⟨_,_,_,.inl fF,.emp _,h3,h4⟩
      ·obtain rfl:=aE h;intro hN;have hA:A'=A'.toList.toArray:=by simp
       obtain⟨h3,h4⟩:=hi.newRow (ro:=ro) (by simp at hN;omega) h2 elem;have hAl:cs.length=A'.size:=by have:=h2.1;simpa using this
       refine⟨_,_,_,.inl fF,?_,by simpa using h3,by simpa using h4⟩;exact .sl _ _ _ _ _ _ _ _ _ (bX _ _ _ _) (by simp;omega) (by simp;omega) (by omega) (aqK _) (fun k hk=>by cases hk;exact⟨rfl,by simp;omega⟩) (fun _=>rfl)
     ·cases h
    ·cases h
  ·cases h
 ·cases h
theorem Nr{t:TypeId}{l c:Operand}(hi:Inv N ι σ w)(lq:Rv ι (ρ l) (r l))(FF:Rv ι (ρ c) (r c))(ho:o.op=.makeSlice t l c)
 (h:ak P ro ρ o σ=some out):bg P ro N ι w σ r o out:=by
 unfold ak at h;rw[ho]at h;simp only at h;split at h
 ·rename_i elem k1 li k2 ci hu hl hc;have el:=eU hl lq;have ec:=eU hc FF;split at h
  ·rename_i s z bytes hs hz hb;split at h
   ·cases h
   ·rename_i bK;have bA:s≠0:=fun e=>bK (.inl e);have rG:z.cells.size=s:=arq fun e=>bK (.inr (.inl e));have ll:0≤li∧li≤ci∧ci≤1000000:=arq fun e=>bK (.inr (.inr (.inl e)))
    have Hv:bytes≤1000000:=by
     have:¬bytes>1000000:=fun e=>bK (.inr (.inr (.inr e)));omega
    obtain⟨i,cT,Ns,hti⟩:=CI hb w;have wl:arc.wrap li=li:=aug _ (by omega);have wc:arc.wrap ci=ci:=aug _ (by omega);have Uo:=wV z.cells s ci.toNat rG bA;have c1:¬ci<0:=by omega
    have c2:¬(2 ^48:Int)<(i.bytes:Int)*ci:=by
     have h1:(i.bytes:Int)*ci≤1000000*1000000:=by
      have cD:(i.bytes:Int)≤1000000:=by omega
      exact Int.mul_le_mul cD ll.2.2 (by omega) (by omega)
     omega
    have c3:¬li<0:=by omega
    have c4:¬ci<li:=by omega
    have fF:(execOp r o).run P w=.ok (.value (.slice (some ⟨w.heap.size,0,none⟩) li.toNat ci.toNat)) {w with heap:=w.heap.push (.cells ((aq1 ci.toNat z.cells.toList).flatten).toArray elem)}:=by
     simp only[execOp,ho,Instr.makeSlice,aqM,aO hu,el,ec,asInt,asIntOf,aqV,aqJ,hti,wl,wc,gt_iff_lt,c1,c2,c3,c4,decide_false,Bool.or_self,ara,if_false,run_askRoom,eB hs];by_cases h0:ci.toNat*s=0
     ·have oN:ci.toNat=0:=by rcases auq.1 h0 with h|h;exact h;exact absurd h bA
      have e0:auN (ci.toNat*s)= #[]:=by rw[h0];rfl
      have e1:((aq1 ci.toNat z.cells.toList).flatten).toArray= #[]:=by rw[oN];rfl
      simp only[if_pos h0,aqV,aqJ,e0,e1,avl,newRow,aqM,run_newObj]
     ·simp only[if_neg h0,aqM,iG hz,aqJ,aqV,Uo,newRow,run_newObj]
    split at h
    ·rename_i oN;obtain rfl:=aE h;intro hN;obtain⟨h3,h4⟩:=hi.push (ro:=ro) (w':={w with heap:=w.heap.push (.cells ((aq1 ci.toNat z.cells.toList).flatten).toArray elem)}) (o:=.cells ((aq1 ci.toNat z.cells.toList).flatten).toArray elem) rfl rfl rfl rfl;have ja:li=0:=by omega
     subst oN ja;exact⟨_,_,ι,.inl fF,.emp _,h3,h4⟩
    ·obtain rfl:=aE h;intro hN;have h2:=ya (ι:=ι) z s ci.toNat rG bA;have hlen:=CL z s ci.toNat rG;obtain⟨h3,h4⟩:=hi.newRow (ro:=ro) (by simp at hN;omega) h2 elem;refine⟨_,_,_,.inl fF,?_,h3,h4⟩;have hle:li.toNat*s≤ci.toNat*s:=aq8 s (by omega);exact .sl _ _ _ _ _ _ _ _ _ (bX _ _ _ _) (by simp only[ar4];rw[h2.1,hlen];exact hle) (by simp only[ar4];rw[hlen];exact aqK _) (by omega) (by omega) (fun k hk=>by cases hk;exact⟨rfl,by simp only[ar4];rw[h2.1,hlen];exact aqK _⟩) (fun _=>rfl)
  ·cases h
 ·cases h
end Go.Ev
namespace Go.Ev
variable{P:Program}{N ro:Nat}{ι:Io}{w:World}{σ:St}{ρ:Operand→IV}{r:Operand→Value}{o:Oper}{out:ey}
theorem R_{x:IV}{v:Value}{n:Nat}(h:kh x=some n)(hr:Rv ι x v)(w:World):(atj v).run P w=.ok n w:=by
 unfold kh at h;split at h
 ·rename_i l c;split at h
  ·rename_i h0;cases h;cases hr;simp[atj,h0]
  ·cases h
 ·cases h;cases hr;rfl
 ·cases h;cases hr;rfl
 ·cases h;cases hr;rfl
 ·cases h;cases hr with
  |tree=>rfl
  |dN _ a=>cases a<;>rfl
 ·cases h
theorem Ru{es:List IV}{s i j:Nat}(bC:∀e∈es,(cellsOf e).length=s)(hj:j<s):(es.flatMap cellsOf)[i*s+j]?=(es[i]?).bind fun e=>(cellsOf e)[j]? :=by
 induction es generalizing i with
 |nil=>simp
 |cons e es ih=>
  have he:=bC e (by simp);rw[as6];cases i with
  |zero=>simp only[atG,ar4];rw[aqQ (by omega)];rfl
  |succ i=>
   rw[aq_ (by rw[are];omega),asZ,←ih (fun e he=>bC e (by simp[he]))]
   congr 1
   rw[he,are];omega
theorem Rw{es:List IV}{s:Nat}(bC:∀e∈es,(cellsOf e).length=s):(es.flatMap cellsOf).length=es.length*s:=by
 induction es with
 |nil=>simp
 |cons e es ih=>rw[as6,aq3,bC e (by simp),ih (fun e he=>bC e (by simp[he])),ary,are];omega
theorem yb{size n:Nat}{x:IV}{v:Value}{cs:List IV}(hi:Inv N ι σ w)(h:eF size n σ x=some cs)(hr:Rv ι x v):
 ∃vs:List Value,(∀w':World,w'.heap=w.heap→(arJ size n v).run P w'=.ok vs.toArray w')∧ax ι cs vs:=by
 have gS:∀w':World,w'.heap=w.heap→∀a:Addr,w'.cell? a=w.cell? a:=fun w' Cb a=>by simp only[World.cell?,Cb]
 unfold eF at h;split at h
 ·split at h
  ·cases h;cases hr;exact⟨[],fun w' _=>by simp[arJ],ax.nil⟩
  ·cases h
 ·split at h
  ·rename_i h0;cases h;cases hr;subst h0;exact⟨[],fun w' _=>by simp[arJ,loadCells,loadCellsFrom],ax.nil⟩
  ·cases h
 ·rename_i s;split at h
  ·rename_i h0;cases h;cases hr;refine⟨(s.data.toList.take n).map fun b=>.int .u8 b.toNat,fun w' _=>?_,ax.of_map fun a _=>.raw _⟩;simp only[arJ,aqV]
   congr 1
   apply asN;simp
  ·cases h
 ·rename_i id off len cap ep s;split at h
  ·rename_i hc;obtain⟨rfl,hn⟩:=hc;split at h
   ·rename_i pZ au mn aA;split at h
    ·rename_i hc;cases h;obtain⟨l,c,el,hl,CM,aL,u5,gN,jQ⟩:=EB (hi.obj id _ aA) hc.1 hc.2.1;cases hr with
     |sl _ _ _ _ _ _ l' k a cd hle Sa hs ll fw ha=>
      rw[hl]at cd;cases cd;have hmul:n*s≤len*s:=aq8 s hn;have FG:(((c.toList.take l.n).drop off).take (n*s)).length=n*s:=by simp;omega
      have e1:(pZ.drop off).take (n*s)=((pZ.take l.n).drop off).take (n*s):=by
       rw[List.drop_take,auB];congr 1;omega
      refine⟨((c.toList.take l.n).drop off).take (n*s),fun w' Cb=>?_,?_⟩
      ·simp only[arJ];rcases Nat.eq_zero_or_pos n with h0|h0
       ·subst h0;simp[loadCells,loadCellsFrom]
       ·have ea:=ha (by omega);subst ea
        have Uk:xY w l.b off (((c.toList.take l.n).drop off).take (n*s)):=by
         have:=Ro (Ui (Ht u5 l.n) off) (n*s);simpa using this
        have:=run_loadCells_list (P:=P) w' ⟨l.b,off,none⟩ _ (fun j v hj=>by rw[gQ,gS w' Cb];exact Uk j v hj);rwa[FG]at this
      ·rw[e1];exact(jQ.drop off).take _
    ·cases h
   ·cases h
  ·cases h
 ·rename_i s es;split at h
  ·rename_i hc;obtain⟨rfl,hn⟩:=hc;cases h;cases hr with
   |tree _ _ b off c us hs hc bC hu hh=>
    have hmul:n*s≤es.length*s:=aq8 s hn;have aeB:∀e∈es.take n,(cellsOf e).length=s:=fun e he=>bC e (List.mem_of_mem_take he);have hlen:((es.take n).flatMap cellsOf).length=n*s:=by rw[Rw aeB,ar9,aup hn]
    refine⟨(asc (n*s)).map us,fun w' Cb=>?_,by simp[hlen],fun i x v hx hv=>?_⟩
    ·simp only[arJ];rw[run_loadCells (P:=P) w' ⟨b,off,none⟩ (n*s) us];intro j hj;rw[gQ,gS w' Cb];have hm:=hu j (by omega);unfold oe at hm;cases hb:ι.m b with
     |none=>simp[hb]at hm
     |some c=>
      obtain⟨el,f,hh'⟩:=hi.mem b c hb;rw[cell_of hh'];simpa[hb]using hm
    ·have ami:i<n*s:=by have:=(aqF.1 hx).1;omega
     have Wv:v=us i:=by
      simp[ami]at hv;exact hv.symm
     subst Wv;have hq:i/s*s+i % s=i:=Nat.div_add_mod' i s;have hj:i % s<s:=Nat.mod_lt _ hs;rw[←hq,Ru aeB hj]at hx;rw[Option.bind_eq_some_iff]at hx;obtain⟨e,he,qx⟩:=hx;rw[ard]at he;split at he
     ·have:=hh _ _ _ _ he qx;rwa[hq]at this
     ·cases he
   |dN _ a c hs hz=>
    obtain rfl:n=0:=by simpa using hn
    refine⟨[],fun w' Cb=>?_,by simp,fun i x v hx hv=>by simp at hx⟩;cases a<;>simp[arJ,loadCells,loadCellsFrom]
  ·cases h
 ·cases h
theorem KK(aQ:Nat):∀(k c:Nat),c≤aQ+(aQ+768)/4→au_ aQ k c≤aQ+(aQ+768)/4
 |0,c,h=>h
 |k+1,c,h=>by
  unfold au_;split
  ·exact h
  ·exact KK aQ k _ (by omega)
theorem Up{aQ cC:Nat}(h:cC<aQ):asB aQ cC≤4*aQ+4096:=by
 unfold asB;split
 ·omega
 ·split
  ·omega
  ·have:=KK aQ 4 cC (by omega);omega
theorem Inv.grown(hi:Inv N ι σ w)(hN:σ.n<N){cs:List IV}{vs:List Value}(hr:ax ι cs vs)(rest:List Value)(el:TypeId){size m c:Nat}(hs:0<size)(hm:cs.length=m*size)
 (hc:(vs++rest).length=c*size)(Sb:m≤c):
 let w':World:={w with heap:=w.heap.push (.cells (vs++rest).toArray el),drawn:=w.drawn+1}
 ∃aC,Rv aC (.sl σ.n 0 m none 0 size) (.slice (some ⟨w.heap.size,0,none⟩) m c)∧Inv N aC (σ.add (.cells cs 0 0)) w'∧Le ro ι w σ aC w' (σ.add (.cells cs 0 0)):=by
 intro w';obtain⟨h1,h2⟩:=hi.R4 (ro:=ro) hN hr rest el (w':=w') rfl rfl rfl rfl;exact⟨_,.sl _ _ _ _ _ _ _ _ _ (bX _ _ _ _) (by simp[hm]) (by simp only[ar4];rw[hc];exact aqK _) hs Sb (fun k hk=>by cases hk) (fun _=>rfl),h1,h2⟩
theorem Inv.aeC(hi:Inv N ι σ w){id au mn:Nat}{cs new:List IV}{bZ:List Value}(aA:σ.at id=some (.cells cs au mn))(cx:ro≤id)(hr:ax ι new bZ)
 {l:Loc}{c:Array Value}{el:TypeId}(hl:ι id au=some l)(u5:w.heap[l.b]?=some (.cells c el (0,0)))(aa:cs.length+bZ.length≤c.size):
 let w':=w.setRow l.b (c.toList.take cs.length++bZ++c.toList.drop (cs.length+bZ.length)).toArray
 let aC:=dG ι id (au+1) ⟨l.b,cs.length+new.length,l.lim⟩
 Inv N aC (σ.put id (.cells (cs++new) (au+1) mn)) w'∧Le ro ι w σ aC w' (σ.put id (.cells (cs++new) (au+1) mn)):=by
 intro w' aC;have dt:=hi.obj id _ aA;obtain⟨⟨pX,bx⟩,⟨l0,ja,ko⟩,bp⟩:=dt;obtain rfl:l=l0:=by rw[hl]at ja;exact atu ja
 have jP:ι id (au+1)=none:=bx _ (by omega);have jb:=kj (l:=⟨l.b,cs.length+new.length,l.lim⟩) jP
 have gN:l.lim=c.size:=by
  obtain⟨l2,c2,Nt,h1,_,h3,h4,_⟩:=bp au pX (aqK _);rw[hl]at h1;cases h1;rw[u5]at h3;cases h3;exact h4
 have Cb:w'.heap[l.b]?=some (.cells (c.toList.take cs.length++bZ++c.toList.drop (cs.length+bZ.length)).toArray el (0,0)):=setRow_heap w l.b c _ el _ u5;have FG:=hr.1;refine hi.put aA cx ⟨_,_,hl⟩ jb (fun i aT e=>by simp[aC,dG,aT]) ?_ (by simp only[w'];rw[setRow_size];exact aqK _) (fun b _ bx=>tR _ _ _ _ ?_) rfl rfl rfl ?_
 ·intro b hb;rcases lI hb with hb|⟨_,hb⟩
  ·exact .inl hb
  ·subst hb;exact .inl ⟨_,_,hl,rfl⟩
 ·intro e;subst e;exact bx ⟨_,_,hl,rfl⟩
 ·refine⟨⟨by omega,fun e he=>?_⟩,⟨_,bX _ _ _ _,by simp⟩,fun e he gO=>?_⟩
  ·have:e≠au+1:=by omega
   simp[aC,dG,this,bx e (by omega)]
  ·by_cases KL:e=au+1
   ·subst KL;refine⟨_,_,el,bX _ _ _ _,by simp,Cb,by simp;omega,fun k x hk hx=>?_⟩;obtain⟨l2,c2,Nt,h1,_,h3,_,h5⟩:=bp au pX (aqK _);rw[hl]at h1;cases h1;rw[u5]at h3;cases h3;by_cases tJ:k<cs.length
    ·rw[aqQ tJ]at hx;obtain⟨u,hu,iR⟩:=h5 k x (by omega) hx;refine⟨u,?_,iR.mono jb⟩;rw[asf,aq4,aqQ (by simp;omega),ard,if_pos tJ];simpa using hu
    ·rw[aq_ (by omega)]at hx;obtain⟨u,hu,iR⟩:=hr.get hx;have Sc:=(aqF.1 hu).1;refine⟨u,?_,iR.mono jb⟩;rw[asf,aqQ (by simp;omega),aq_ (by simp;omega)];simp only[ar9,atJ,aup (show cs.length≤c.size by omega)];exact hu
   ·obtain⟨l2,c2,Nt,h1,h2,h3,h4,h5⟩:=bp e he (by omega);by_cases Hv:l2.b=l.b
    ·rw[Hv,u5]at h3;cases h3;refine⟨l2,_,el,jb _ _ _ h1,by simp;omega,by rw[Hv];exact Cb,by simp;omega,fun k x hk hx=>?_⟩;rw[aqQ (by omega)]at hx;obtain⟨u,hu,iR⟩:=h5 k x hk hx;refine⟨u,?_,iR.mono jb⟩;rw[asf,aq4,aqQ (by simp;omega),ard,if_pos (by omega)];simpa using hu
    ·refine⟨l2,c2,Nt,jb _ _ _ h1,by simp;omega,by simp only[w'];rw[tR _ _ _ _ Hv];exact h3,h4,fun k x hk hx=>?_⟩;rw[aqQ (by omega)]at hx;obtain⟨u,hu,iR⟩:=h5 k x hk hx;exact⟨u,hu,iR.mono jb⟩
theorem Inv.adb(hi:Inv N ι σ w){id au mn:Nat}{cs new:List IV}{zg bZ:List Value}(aA:σ.at id=some (.cells cs au mn))(cx:ro≤id)(amj:ax ι cs zg)(hr:ax ι new bZ)
 (rest:List Value)(el:TypeId):
 let w':World:={w with heap:=w.heap.push (.cells (zg++bZ++rest).toArray el),drawn:=w.drawn+1}
 let aC:=dG ι id (au+1) ⟨w.heap.size,cs.length+new.length,(zg++bZ++rest).length⟩
 Inv N aC (σ.put id (.cells (cs++new) (au+1) mn)) w'∧Le ro ι w σ aC w' (σ.put id (.cells (cs++new) (au+1) mn)):=by
 intro w' aC;have dt:=hi.obj id _ aA;obtain⟨⟨pX,bx⟩,⟨l0,ja,ko⟩,bp⟩:=dt;have jP:ι id (au+1)=none:=bx _ (by omega);have jb:=kj (l:=⟨w.heap.size,cs.length+new.length,(zg++bZ++rest).length⟩) jP;have hold:∀b,b<w.heap.size→w'.heap[b]?=w.heap[b]? :=fun b hb=>by simp only[w'];rw[Array.getElem?_push,if_neg (by omega)]
 have Cb:w'.heap[w.heap.size]?=some (.cells (zg++bZ++rest).toArray el (0,0)):=by simp[w']
 refine hi.put aA cx ⟨_,_,ja⟩ jb (fun i aT e=>by simp[aC,dG,aT]) ?_ (by simp[w']) (fun b hb _=>hold b hb) rfl rfl rfl ?_
 ·intro b hb;rcases lI hb with hb|⟨_,hb⟩
  ·exact .inl hb
  ·subst hb;exact .inr ⟨aqK _,by simp[w']⟩
 ·refine⟨⟨by omega,fun e he=>?_⟩,⟨_,bX _ _ _ _,by simp⟩,fun e he gO=>?_⟩
  ·have:e≠au+1:=by omega
   simp[aC,dG,this,bx e (by omega)]
  ·by_cases KL:e=au+1
   ·subst KL;refine⟨_,_,el,bX _ _ _ _,by simp,Cb,by simp,fun k x hk hx=>?_⟩;obtain⟨u,hu,iR⟩:=(amj.append hr).get hx;have Sc:=(aqF.1 hu).1;refine⟨u,?_,iR.mono jb⟩;rw[asf,aqQ Sc];exact hu
   ·obtain⟨l2,c2,Nt,h1,h2,h3,h4,h5⟩:=bp e he (by omega);have aa:l2.b<w.heap.size:=hi.iw id _ ⟨_,_,h1,rfl⟩;refine⟨l2,c2,Nt,jb _ _ _ h1,by simp;omega,by rw[hold _ aa];exact h3,h4,fun k x hk hx=>?_⟩;rw[aqQ (by omega)]at hx;obtain⟨u,hu,iR⟩:=h5 k x hk hx;exact⟨u,hu,iR.mono jb⟩
end Go.Ev
namespace Go.Ev
variable{P:Program}{N ro:Nat}{ι:Io}{w:World}{σ:St}{ρ:Operand→IV}{r:Operand→Value}{o:Oper}{out:ey}
def qy(P:Program)(ro:Nat)(N:Nat)(ι:Io)(w:World)(σ:St)(s:Sem Value)(v:IV)(ah:St):Prop:=
 ∃u w' aC,s.run P w=.ok u w'∧Rv aC v u∧Inv N aC ah w'∧Le ro ι w σ aC w' ah
theorem Jq(aQ cC:Nat)(el:TypeId)(w:World):∃c,aQ≤c∧(choose (.appendCap aQ cC el)).run P w=.ok c {w with drawn:=w.drawn+1}:=by
 refine⟨(Question.appendCap aQ cC el).cut (w.tape w.drawn (.appendCap aQ cC el)),?_,?_⟩
 ·simp only[Question.cut];omega
 ·simp[choose,asv,Question.forced]
structure zF(P:Program)(elem:TypeId)(size bytes aS n:Nat)(zero:Value):Prop where
 apN:aH P elem=some size
 hzero:cn P elem=some zero
 aeD:(P.info? elem).map (·.bytes)=some bytes
 sj:size≠0
 hz:zero.cells.size=size
 Jp:(4*(aS+n)+4096)*bytes≤2 ^47
 Uq:aS+n≤2 ^40
def Nw:TypeDesc->Bool
 | .int _=>true
 | _=>false
theorem CN{xd:TypeDesc}(h:∀k,xd≠.int k):Nw xd=false:=by cases xd <;> first | rfl | grind
structure AppK (elem:TypeId) (base:Option Addr) (aS eC size:Nat) (x:Value) where
 big:Bool->Sem Value
 rest:Bool->Nat->Sem Value
 eq:∀{P:Program}{w:World}{argTypes:Array TypeId}{ty sT xT:TypeId},argTypes[0]?=some sT->argTypes[1]?=some xT->P.underlying sT=some (.slice elem)->aH P elem=some size->
  (as7 argTypes ty #[.slice base aS eC,x]).run P w=(do
   let u <- underlying xT
   let gT <- pure (Nw u)
   if gT then big gT
   else do
    let n <- atj x
    rest gT n).run P w
def appK(elem:TypeId) (base:Option Addr) (aS eC size:Nat) (x:Value):AppK elem base aS eC size x:=by
 apply AppK.mk
 intro P w argTypes ty sT xT h0 h1 hu hs
 unfold as7
 rw [h0,h1]
 show asv P (do
  let __x <- underlying sT
  _) w=_
 rw [aqM,aO hu,aqJ]
 show asv P (do
  let size <- sizeOf elem
  _) w=_
 rw [aqM,eB hs,aqJ]
 rfl
def nR(elem:TypeId) (gT:Bool) (base:Option Addr) (aS eC size n:Nat) (x:Value):Sem Value:=(appK elem base aS eC size x).rest gT n
theorem zeroC{z:Value}{size n:Nat}(h:z.cells.size=size) (hs:size≠0):ash z.cells n=((aq1 n z.cells.toList).flatten).toArray:=by
 unfold ash
 rw [h]
 have:=wV z.cells size n h hs
 rwa [h] at this
def uu(P:Program) (elem:TypeId) (size n:Nat) (x:Value) (bZ:List Value) (w:World):Bool->Prop
 | false=>(arJ size n x).run P w=.ok bZ.toArray w
 | true=>∃z,cn P elem=some z/\z.cells.size=size/\size≠0/\bZ=(aq1 n z.cells.toList).flatten
theorem Jr{elem:TypeId}{gT:Bool}{base:Option Addr}{aS eC size n:Nat}{x:Value}{bZ:List Value}(hle:aS + n<=eC) (eR:uu P elem size n x bZ w gT):
  (nR elem gT base aS eC size n x).run P w=(match base with
   | some a=>(storeCells (a.add (aS * size)) bZ).run P w
   | none=>.ok () w).andThen fun _ w'=>.ok (.slice base (aS + n) eC) w':=by
 cases gT
 .have hn:(arJ size n x).run P w=_:=eR
  simp only [nR,appK,if_pos hle,aqM]
  cases base <;> simp [hn]
 have ⟨z,h0,h1,h2,h3⟩:=eR
 subst h3
 simp only [nR,appK,if_pos hle,aqM]
 by_cases h4:n=0
 .subst h4
  cases base <;> simp
 .cases base <;> simp [iG h0,zeroC h1 h2,h4,h2,Nat.mul_ne_zero h4 h2]
theorem Nv{elem:TypeId}{gT:Bool}{base:Option Addr}{aS eC size n bytes:Nat}{zero x:Value}{zg bZ:List Value}(ha:zF P elem size bytes aS n zero) (yc:¬ aS + n<=eC)
  (eR:∀d,uu P elem size n x bZ { w with drawn:=d } gT) (hold:∀d,(arJ size aS (.slice base aS eC)).run P { w with drawn:=d }=.ok zg.toArray { w with drawn:=d }):
  ∃c rest,aS + n<=c/\rest.length=(c - (aS + n)) * size/\
   (nR elem gT base aS eC size n x).run P w=.ok (.slice (some ⟨w.heap.size,0,none⟩) (aS + n) c) { w with heap:=w.heap.push (.cells (zg ++ bZ ++ rest).toArray elem),drawn:=w.drawn + 1 }:=by
 have ⟨i,hi,hb,hti⟩:=CI ha.aeD w
 have amk:∀w':World,(typeInfo elem).run P w'=.ok i w':=fun w'=>by simp [typeInfo,hi]
 have ⟨c,hc,hch⟩:=Jq (P:=P) (aS + n) eC elem w
 have ho:=hold (w.drawn + 1)
 have h1:¬ ((aS + n:Nat):Int) > arc.max:=by
  have:arc.max=9223372036854775807:=by decide
  have:=ha.Uq
  omega
 have h2:¬ asB (aS + n) eC * i.bytes > 2 ^ 48:=by
  have fw:=Up (aQ:=aS + n) (cC:=eC) (by omega)
  have:asB (aS + n) eC * i.bytes<=(4 * (aS + n) + 4096) * i.bytes:=aq8 _ fw
  have:=ha.Jp
  grind
 have mG:(zeroValue elem).run P { w with drawn:=w.drawn + 1 }=.ok zero { w with drawn:=w.drawn + 1 }:=iG ha.hzero _
 have fY:ash zero.cells (c - (aS + n))=((aq1 (c - (aS + n)) zero.cells.toList).flatten).toArray:=by
  unfold ash
  rw [ha.hz]
  have:=wV zero.cells size (c - (aS + n)) ha.hz ha.sj
  simp_all [ha.hz]
 refine ⟨c,(aq1 (c - (aS + n)) zero.cells.toList).flatten,hc,CL zero size _ ha.hz,?_⟩
 cases gT
 .have hn:(arJ size n x).run P { w with drawn:=w.drawn + 1 }=_:=eR (w.drawn + 1)
  simp only [nR,appK,if_neg yc,aqM,amk,aqJ,h1,false_and,if_false,h2,hch,run_askRoom,Bool.not_false,if_true,aqV,List.getElem_toArray,List.getElem_cons_zero,List.getElem_cons_succ,ho,hn,mG,fY,newRow,run_newObj]
  simp
 have ⟨z,k0,k1,k2,k3⟩:=eR (w.drawn + 1)
 cases ha.hzero.symm.trans k0
 subst k3
 have hN:n≠0->n * size≠0:=fun h=>Nat.mul_ne_zero h k2
 have hz':=zeroC (n:=n) k1 k2
 by_cases h4:n=0
 .subst h4
  simp only [nR,appK,if_neg yc,aqM,amk,aqJ,h1,false_and,if_false,h2,hch,run_askRoom,Bool.not_true,ara,Nat.zero_mul,if_true,aqV,List.getElem_toArray,List.getElem_cons_zero,ho,mG,fY,newRow,run_newObj]
  simp
 .simp only [nR,appK,if_neg yc,aqM,amk,aqJ,h1,false_and,if_false,h2,hch,run_askRoom,Bool.not_true,ara,if_neg (hN h4),aqV,List.getElem_toArray,List.getElem_cons_zero,ho,hz',mG,fY,newRow,run_newObj]
  simp
theorem Rx{argTypes:Array TypeId}{ty sT xT elem:TypeId}{xd:TypeDesc}{base:Option Addr}{aS eC size n:Nat}{x:Value}(h0:argTypes[0]?=some sT) (h1:argTypes[1]?=some xT)
  (hu:P.underlying sT=some (.slice elem)) (hx:P.underlying xT=some xd) (hd:∀k,xd≠.int k) (hs:aH P elem=some size) (hn:(atj x).run P w=.ok n w):
  (as7 argTypes ty #[.slice base aS eC,x]).run P w=(nR elem false base aS eC size n x).run P w:=by
 rw [(appK elem base aS eC size x).eq h0 h1 hu hs,aqM,aO hx,aqJ,CN hd]
 show asv P (do
  let n <- atj x
  _) w=_
 rw [aqM,hn,aqJ]
 rfl
theorem Ry{argTypes:Array TypeId}{ty sT xT elem:TypeId}{k:IntKind}{base:Option Addr}{aS eC size bytes:Nat}{l:Int}(h0:argTypes[0]?=some sT) (h1:argTypes[1]?=some xT)
  (hu:P.underlying sT=some (.slice elem)) (hx:P.underlying xT=some (.int k)) (hs:aH P elem=some size) (hb:(P.info? elem).map (·.bytes)=some bytes) (ja:0<=l) (qz:l<=1000000)
  (Jp:l.toNat * bytes<=2 ^ 48):
  (as7 argTypes ty #[.slice base aS eC,.int .i64 l]).run P w=(nR elem true base aS eC size l.toNat (.int .i64 l)).run P w:=by
 have ⟨i,hi,Ns,hti⟩:=CI hb w
 have wl:arc.wrap l=l:=aug _ (by omega)
 have c1:¬ l < 0:=by omega
 have c2:¬ l * (i.bytes:Int) > 2 ^ 48:=by
  grind
 rw [(appK elem base aS eC size _).eq h0 h1 hu hs,aqM,aO hx,aqJ]
 show asv P (if arc.wrap l < 0 then _ else (do
  let t <- typeInfo elem
  if arc.wrap l * (t.bytes:Int) > 2 ^ 48 then _ else _)) w=_
 rw [wl,if_neg c1,aqM,hti,aqJ,if_neg c2]
 rfl
theorem Nx{size n:Nat}{zero:Value}{xd:TypeDesc}{x:IV}{vx:Value}{new:List IV}{elem:TypeId}(hi:Inv N ι σ w)(hs:size≠0)(hz:zero.cells.size=size)(mG:cn P elem=some zero)
 (h:rF size zero xd σ x=some (n,new))(hx:Rv ι x vx):
 ∃bZ,ax ι new bZ∧(∀d,uu P elem size n vx bZ {w with drawn:=d} (Nw xd))∧
  ((∃k,xd=.int k∧∃l,vx=.int .i64 l∧0≤l∧l≤1000000∧n=l.toNat)∨((∀k,xd≠.int k)∧(atj vx).run P w=.ok n w)):=by
 unfold rF at h;split at h
 ·rename_i k;split at h
  ·rename_i l;split at h
   ·rename_i hl;cases h;cases hx;refine⟨_,ya zero size l.toNat hz hs,fun d=>?_,.inl ⟨k,rfl,l,rfl,hl.1,hl.2,rfl⟩⟩;exact ⟨_,mG,hz,hs,rfl⟩
   ·cases h
  ·cases h
 ·rename_i hd;split at h
  ·rename_i n' hn;split at h
   ·rename_i cs hc;cases h;obtain⟨vs,h1,h2⟩:=yb (P:=P) hi hc hx;refine⟨vs,h2,fun d=>?_,.inr ⟨hd,R_ hn hx w⟩⟩;rw [CN hd];exact h1 _ rfl
   ·cases h
  ·cases h
theorem AE{elem:TypeId}{gT:Bool}{size bytes aS n eC:Nat}{zero vx:Value}{base:Option Addr}{s v:IV}{new:List IV}{bZ:List Value}{ah:St}(hi:Inv N ι σ w)
 (ha:zF P elem size bytes aS n zero)(yc:¬aS+n≤eC)(hr:ax ι new bZ)(hlen:new.length=n*size)(eR:∀d,uu P elem size n vx bZ {w with drawn:=d} gT)
 (hs:Rv ι s (.slice base aS eC))(h:ff size aS n new s σ=some (.val v ah))(hN:ah.n≤N):
 qy P ro N ι w σ (nR elem gT base aS eC size n vx) v ah:=by
 unfold ff at h;split at h
 ·rename_i cC ho;split at h
  ·rename_i hol;cases h;obtain⟨zg,h1,h2⟩:=yb (P:=P) hi ho hs;obtain⟨c,rest,hc,lq,fF⟩:=Nv (base:=base) ha yc eR (fun d=>h1 _ rfl);have sj:=ha.sj
   obtain⟨aC,r1,r2,r3⟩:=hi.grown (ro:=ro) (by simp at hN;omega) (h2.append hr) rest elem (size:=size) (m:=aS+n) (c:=c) (by omega) (by simp[hol,hlen,are])
    (by
     have e1:=h2.1;have e2:=hr.1;simp only[aq3,lq,←e1,←e2,hol,hlen];rw[←are,←are]
     congr 1;omega) hc
   exact⟨_,_,aC,fF,r1,r2,r3⟩
  ·cases h
 ·cases h
theorem Inv.shrink(hi:Inv N ι σ w){id au mn k:Nat}{cs:List IV}{l:Loc}(aA:σ.at id=some (.cells cs au mn))(cx:ro≤id)(hl:ι id au=some l)(hk:k≤cs.length):
 Inv N (dG ι id (au+1) ⟨l.b,k,l.lim⟩) (σ.put id (.cells (cs.take k) (au+1) (au+1))) w∧Le ro ι w σ (dG ι id (au+1) ⟨l.b,k,l.lim⟩) w (σ.put id (.cells (cs.take k) (au+1) (au+1))):=by
 obtain⟨⟨pX,bx⟩,⟨l0,ja,ko⟩,bp⟩:=hi.obj id _ aA;obtain rfl:l=l0:=by rw[hl]at ja;exact atu ja
 have jP:ι id (au+1)=none:=bx _ (by omega);have jb:=kj (l:=⟨l.b,k,l.lim⟩) jP;refine hi.put aA cx ⟨_,_,hl⟩ jb (fun i aT e=>by simp[dG,aT]) ?_ (aqK _) (fun _ _ _=>rfl) rfl rfl rfl ?_
 ·intro b hb;rcases lI hb with hb|⟨_,hb⟩
  ·exact .inl hb
  ·subst hb;exact .inl ⟨_,_,hl,rfl⟩
 ·refine⟨⟨aqK _,fun e he=>?_⟩,⟨_,bX _ _ _ _,by simp;omega⟩,fun e he gO=>?_⟩
  ·have:e≠au+1:=by omega
   simp[dG,this,bx e (by omega)]
  ·have KL:e=au+1:=by omega
   subst KL;obtain⟨l2,c2,Nt,h1,_,h3,h4,h5⟩:=bp au pX (aqK _);rw[hl]at h1;cases h1;refine⟨_,c2,Nt,bX _ _ _ _,by simp;omega,h3,h4,fun j x hj hx=>?_⟩;simp only at hj;rw[ard,if_pos hj]at hx;obtain⟨u,hu,iR⟩:=h5 j x (by omega) hx;exact⟨u,hu,iR.mono jb⟩
theorem CO{elem:TypeId}{gT:Bool}{st bytes aS n id au mn c:Nat}{zero vx:Value}{new cs:List IV}{bZ:List Value}{l:Loc}{a:Addr}(hi:Inv N ι σ w)
 (ha:zF P elem st bytes aS n zero)(hr:ax ι new bZ)(hlen:new.length=n*st)(bo:new.all af=true)(eR:∀d,uu P elem st n vx bZ {w with drawn:=d} gT)
 (aA:σ.at id=some (.cells cs au mn))(cx:ro≤id)(hl:ι id au=some l)(hn:0+aS*st≤l.n)(gN:0+c*st≤l.lim)(bA:0<st)(hle:aS≤c)(Hx:0<c→a=⟨l.b,0,none⟩)
 (ll:aS*st=cs.length)(h0:¬n=0):
 qy P ro N ι w σ (nR elem gT (some a) aS c st n vx) (.sl id 0 (aS+n) none (au+1) st) (σ.put id (.cells (cs++new) (au+1) mn)):=by
 have hw:({w with drawn:=w.drawn}:World)=w:=rfl;have Ur:Rv ι (.sl id 0 aS none au st) (.slice (some a) aS c):=.sl _ _ _ _ _ _ l c a hl hn gN bA hle (fun k hk=>by cases hk) Hx;obtain⟨⟨pX,_⟩,⟨l3,h3,h4⟩,_⟩:=hi.obj id _ aA;rw[hl]at h3;cases h3;by_cases sn:aS+n≤c
 ·obtain⟨l2,cc,el,eN,Js,aql,u5,apO,_⟩:=EB (hi.obj id _ aA) pX (aqK _);rw[hl]at eN;cases eN;have hmul:(aS+n)*st≤c*st:=aq8 st sn;have FG:=hr.1;have aa:cs.length+bZ.length≤cc.size:=by rw[are]at hmul;omega
  obtain⟨r1,r2⟩:=hi.aeC (ro:=ro) aA cx hr hl u5 aa;have wX:=Hx (by omega);subst wX;refine⟨.slice (some ⟨l.b,0,none⟩) (aS+n) c,_,_,?_,?_,r1,r2⟩
  ·rw[Jr sn (eR w.drawn),hw];simp only[gQ,ar4,ll,lk (P:=P) u5 aa (sh hr bo),aqJ]
  ·exact .sl _ _ _ _ _ _ _ c _ (bX _ _ _ _) (by simp only[ar4,hlen,←ll,are];exact aqK _) gN bA sn (fun k hk=>by cases hk) (fun _=>rfl)
 ·have Hy:eF st aS σ (.sl id 0 aS none au st)=some cs:=by
   simp only[eF,aA];simp[pX,ll]
  obtain⟨zg,h5,h6⟩:=yb (P:=P) hi Hy Ur;obtain⟨c',rest,wY,lq,fF⟩:=Nv (base:=some a) ha sn eR (fun d=>h5 _ rfl);obtain⟨r1,r2⟩:=hi.adb (ro:=ro) aA cx h6 hr rest elem;refine⟨_,_,_,fF,?_,r1,r2⟩;refine .sl _ _ _ _ _ _ _ c' _ (bX _ _ _ _) ?_ ?_ bA wY (fun k hk=>by cases hk) (fun _=>rfl)
  ·simp only[ar4,hlen,←ll,are];exact aqK _
  ·have e1:=h6.1;have e2:=hr.1;simp only[ar4,aq3,lq,←e1,←e2,hlen,←ll];rw[←are,←are];exact aq8 _ (by omega)
theorem Rz{elem:TypeId}{gT:Bool}{size bytes aS n:Nat}{zero vs vx:Value}{s v:IV}{new:List IV}{bZ:List Value}{ah:St}(hi:Inv N ι σ w)
 (ha:zF P elem size bytes aS n zero)(hr:ax ι new bZ)(hlen:new.length=n*size)(bo:new.all af=true)(eR:∀d,uu P elem size n vx bZ {w with drawn:=d} gT)
 (hs:Rv ι s vs)(oi:kh s=some aS)(h:eA ro size aS n new s σ=some (.val v ah))(hN:ah.n≤N):
 ∃base eC,vs=.slice base aS eC∧qy P ro N ι w σ (nR elem gT base aS eC size n vx) v ah:=by
 have hw:({w with drawn:=w.drawn}:World)=w:=rfl;have sj:=ha.sj
 have stay:∀{base:Option Addr} {eC:Nat},n=0→aS≤eC→(∃a,base=some a)∨base=none→∀{u:IV},Rv ι u (.slice base aS eC)→
  qy P ro N ι w σ (nR elem gT base aS eC size n vx) u σ:=by
  intro base eC h0 hle hb u hu;subst h0;have hv:bZ=[]:=List.eq_nil_of_length_eq_zero (by have:=hr.1;rw[atG]at hlen;omega);subst hv;refine⟨_,w,ι,?_,hu,hi,Le.refl _ _ _ _⟩;rw[Jr (by simpa using hle) (eR w.drawn)];cases base<;>simp[storeCells]
 unfold eA at h;split at h
 ·rename_i l c;split at h
  ·rename_i ll;obtain⟨rfl,rfl⟩:=ll;have e0:aS=0:=by simp[kh]at oi;exact oi.symm
   subst e0;cases hs;refine⟨none,0,rfl,?_⟩;split at h
   ·rename_i h0;cases h;exact stay h0 (aqK _) (.inr rfl) (.raw _)
   ·rename_i h0;exact AE hi ha (by omega) hr hlen eR (.raw _) h hN
  ·cases h
 ·have e0:aS=0:=by simp[kh]at oi;exact oi.symm
  subst e0;cases hs with
  |emp a=>
   refine⟨some a,0,rfl,?_⟩;split at h
   ·rename_i h0;cases h;exact stay h0 (aqK _) (.inl ⟨a,rfl⟩) (.emp a)
   ·rename_i h0;exact AE hi ha (by omega) hr hlen eR (.emp a) h hN
 ·rename_i st es;have e0:aS=es.length:=by simp[kh]at oi;exact oi.symm
  subst e0;split at h
  ·rename_i h0;cases h;cases hs with
   |tree _ _ b off c us bA hc bC hu hh=>exact⟨_,c,rfl,stay h0 hc (.inl ⟨_,rfl⟩) (.tree _ _ b off c us bA hc bC hu hh)⟩
   |dN _ a c bA hn=>exact⟨a,c,rfl,stay h0 (Nat.zero_le _) (by cases a with|none=>exact .inr rfl|some a=>exact .inl ⟨a,rfl⟩) (.dN _ a c bA hn)⟩
  ·cases h
 ·rename_i id off len cap ep st;have e0:aS=len:=by simp[kh]at oi;exact oi.symm
  subst e0;split at h
  ·cases h
  ·rename_i cg;have cg:st=size:=arq cg;subst cg;cases hs with
   |sl _ _ _ _ _ _ l c a hl hn gN bA hle fw Hx=>
    refine⟨some a,c,rfl,?_⟩;have Ur:Rv ι (.sl id off aS cap ep st) (.slice (some a) aS c):=.sl _ _ _ _ _ _ l c a hl hn gN bA hle fw Hx;split at h
    ·rename_i h0;cases h;exact stay h0 hle (.inl ⟨a,rfl⟩) Ur
    ·rename_i h0;split at h
     ·rename_i k;have hck:=(fw k rfl).1;subst hck;split at h
      ·rename_i sn;split at h
       ·rename_i cs au mn aA;split at h
        ·rename_i hc;obtain⟨cx,rfl,CK⟩:=hc;cases h;have aia:off+aS*st+new.length≤cs.length:=by rw[hlen];rw[are]at CK;omega
         obtain⟨l2,cc,el,eN,u5,aa,r1,r2⟩:=hi.write (ro:=ro) aA cx aia hr;rw[hl]at eN;cases eN
         have CM:l.n=cs.length:=by
          obtain⟨_,⟨l3,h3,h4⟩,_⟩:=hi.obj id _ aA;rw[hl]at h3;cases h3;exact h4
         have wX:=Hx (by omega);subst wX;refine⟨.slice (some ⟨l.b,off,none⟩) (aS+n) c,_,ι,?_,?_,r1,r2⟩
         ·rw[Jr sn (eR w.drawn),hw];simp only[gQ,lk (P:=P) u5 aa (sh hr bo),aqJ]
         ·exact .sl _ _ _ _ _ _ l c _ hl (by omega) gN bA sn fw (fun _=>rfl)
        ·cases h
       ·cases h
      ·rename_i sn;exact AE hi ha sn hr hlen eR Ur h hN
     ·split at h
      ·rename_i cs au mn aA;split at h
       ·rename_i hc;obtain⟨cx,rfl,rfl,ll⟩:=hc;cases h;exact CO hi ha hr hlen bo eR aA cx hl hn gN bA hle Hx ll h0
       ·split at h
        ·rename_i hc;obtain⟨cx,rfl,rfl,ll⟩:=hc;cases h;obtain⟨i1,l1⟩:=hi.shrink (ro:=ro) aA cx hl ll;have hx:=l1.ext;have:=CO (ro:=ro) (id:=id) (au:=ep+1) (mn:=ep+1) (cs:=cs.take (aS*st)) (l:=⟨l.b,aS*st,l.lim⟩) (a:=a) i1 ha (hr.mono hx) hlen bo eR (by rw[St.cS,if_pos rfl]) cx (bX _ _ _ _) (by simp) gN bA hle Hx (by rw[ar9];omega) h0;obtain⟨u,w',aC,k1,k2,k3,k4⟩:=this;exact⟨u,w',aC,k1,k2,k3,Le.trans (fun id h1 h2=>by simp only[St.mU]at h2;omega) l1 k4⟩
        ·cases h
      ·cases h
 ·cases h
theorem Ww{argTypes:Array TypeId}{ty:TypeId}{s x v:IV}{vs vx:Value}{ah:St}(hi:Inv N ι σ w)(hs:Rv ι s vs)(hx:Rv ι x vx)(h:kf P ro argTypes s x σ=some (.val v ah))(hN:ah.n≤N):
 qy P ro N ι w σ (as7 argTypes ty #[vs,vx]) v ah:=by
 unfold kf at h;split at h
 ·rename_i sT xT h0 h1;split at h
  ·rename_i elem xd hu hxd;split at h
   ·rename_i size zero bytes aL hz hb;split at h
    ·cases h
    ·rename_i hc;have bA:size≠0:=fun e=>hc (.inl e);have rG:zero.cells.size=size:=arq fun e=>hc (.inr e);split at h
     ·rename_i n new aS Wx hls;split at h
      ·rename_i bK;obtain⟨hlen,bo,Jp,Uq⟩:=bK;obtain⟨bZ,hr,eR,so⟩:=Nx hi bA rG hz Wx hx;have ha:zF P elem size bytes aS n zero:=⟨aL,hz,hb,bA,rG,Jp,Uq⟩;obtain⟨base,eC,rfl,u,w',aC,fF,g⟩:=Rz hi ha hr hlen bo eR hs hls h hN;refine⟨u,w',aC,?_,g⟩;rcases so with⟨k,rfl,l,rfl,ja,qz,rfl⟩|⟨hd,hn⟩
       ·have Hv:l.toNat*bytes≤2 ^48:=by
         have:l.toNat*bytes≤(4*(aS+l.toNat)+4096)*bytes:=aq8 _ (by omega);omega
        rw[Ry h0 h1 hu hxd aL hb ja qz Hv];exact fF
       ·rw[Rx h0 h1 hu hxd hd aL hn];rw[CN hd]at fF;exact fF
      ·cases h
     ·cases h
   ·cases h
  ·cases h
 ·cases h
end Go.Ev
