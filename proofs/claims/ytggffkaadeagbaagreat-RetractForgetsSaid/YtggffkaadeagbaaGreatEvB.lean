/- Lemmas over the model, without conditions of their own: operations of the ideal machine are sound (1). -/
import Derived.Test.YtggffkaadeagbaaGreatEvA
import Derived.Lib.Strings
import Derived.IntWalk
open Nat renaming le_refl->ar9,zero_add->atx,min_eq_left->avP,mul_le_mul_right->asB,add_mul->asG,mul_eq_zero->avQ,zero_mul->au9
open List renaming getElem?_eq_some_iff->ar5,getElem?_toArray->atK,getElem?_append_left->asf,range->atI,getElem?_map->asi,take_take->ave,length_take->auc,append_assoc->asv,length_append->asu,getElem?_take->asF,replicate->asn,flatten_cons->auD,ext_getElem?->auY,getElem?_eq_none->awa,map_cons->asY,replicate_succ->auk,length_cons->asS,getElem?_cons_succ->auu,getElem?_append_right->asw,flatMap_cons->auA
open Go.Instr renaming loadAt->aw7,sureAddr->aur,extract->awW,makeMap->awX,fieldAt->awY,indexAt->avW,index->axg,fill->axv,build->axh
open Option renaming map_eq_some_iff->ar_,isSome_iff_exists->auO
open Go.World renaming setRow->aw8
open Option.some renaming inj->aus,injEq->ar7
open Go.Sem renaming run_bind->asa,run_pure->asj,run->atX
open Go.Op renaming equalIn->atw,equal->avf,stringOp->auF
open Go.Result renaming andThen_ok->ar8
open Go renaming binOp->atS
open ByteArray renaming ext->axG,getElem_eq_getElem_data->axS
open Go.IntKind renaming i64->aso
open Array renaming ext'->auj,range->awb,toList_map->avy,getElem?_toList->at1,length_toList->avb,all_eq_true_iff_forall_mem->avm,map_empty->awF
open List.cons renaming injEq->as5
open Classical renaming byContradiction->asM
open Go.IntWalk renaming i64_in->avD
open Bool renaming false_eq_true->asD
open Go.Builtin renaming lenOf->auM,firstCells->ata,growBy->awv,nextslicecap->at2,zeroCells->atL,append_->auB
set_option linter.all false
namespace Go.Ev
variable{P:Program}{N ro:Nat}{ι:Io}{w:World}{σ:St}{ρ:Operand→IV}{r:Operand→Value}{o:Oper}{out:ez}
def Ho(ro:Nat)(N:Nat)(ι:Io)(w:World)(σ:St)(res:Result Next)(v:IV)(ah:St):Prop:=
 ∃u w' ay,(res=.ok (.value u) w'∨(res=.ok .skip w'∧u=Go.undef))∧Rv ay v u∧Inv N ay ah w'∧Le ro ι w σ ay w' ah
def A_(ι:Io):Df→Deferred→Prop
 |.CY id,d=>∃l,ι id 0=some l∧d={target:=.collected l.b,args:= #[]}
 |.call f args,d=>∃cap us vs:List Value,d={target:=.fn (.func f) cap.toArray,args:=us.toArray}∧ax ι args vs∧vs=us++cap
def a_(P:Program)(ro:Nat)(N:Nat)(ι:Io)(w:World)(σ:St)(r:Operand→Value)(o:Oper):ez→Prop
 |.val v ah=>ah.n≤N→Ho ro N ι w σ ((execOp r o).run P w) v ah
 |.enter f args=>∃us:List Value,(execOp r o).run P w=.ok (.enter f us.toArray) w∧ax ι args us
 |.round id args=>∃l,∃us:List Value,ι id 0=some l∧(execOp r o).run P w=(Instr.yield l.b us.toArray).run P w∧ax ι args us
 |.Rj d=>∃dd,(execOp r o).run P w=.ok (.defer dd) w∧A_ ι d dd∧∃c,o.op=.defer c
 |.bC v=>∃u,(execOp r o).run P w=.halt (.panic u) w∧Rv ι v u
theorem Ho.same(hi:Inv N ι σ w){res:Result Next}{v:IV}{u:Value}(h:res=.ok (.value u) w)(hr:Rv ι v u):Ho ro N ι w σ res v σ:=
 ⟨u,w,ι,.inl h,hr,hi,Le.refl _ _ _ _⟩
theorem a_.same(hi:Inv N ι σ w){v:IV}{u:Value}(h:(execOp r o).run P w=.ok (.value u) w)(hr:Rv ι v u):a_ P ro N ι w σ r o (.val v σ):=
 fun _=>Ho.same hi h hr
theorem aE{v:IV}(h:ret v σ=some out):out=.val v σ:=by cases h;rfl
theorem Rq{x:Operand}(hi:Inv N ι σ w)(hr:Rv ι (ρ x) (r x))(ho:o.op=.move x∨o.op=.assign x):a_ P ro N ι w σ r o (.val (ρ x) σ):=
 a_.same hi (by rcases ho with ho|ho<;>simp[execOp,ho]) hr
theorem adm{c a b:Operand}(hi:Inv N ι σ w)(hc:Rv ι (ρ c) (r c))(ha:Rv ι (ρ a) (r a))(hb:Rv ι (ρ b) (r b))(ho:o.op=.pick c a b)(h:ak P ro ρ o σ=some out):
 a_ P ro N ι w σ r o out:=by
 unfold ak at h;rw[ho]at h;simp only at h;split at h
 ·rename_i t ht;rw[ht]at hc;have Fx:r c=.bool t:=by generalize hu:r c=u at hc;cases hc;rfl
  obtain rfl:=aE h;cases t
  ·exact a_.same hi (u:=r b) (by simp[execOp,ho,Fx,asBool]) hb
  ·exact a_.same hi (u:=r a) (by simp[execOp,ho,Fx,asBool]) ha
 ·cases h
theorem TX{cs:List IV}{vs rest:List Value}{el:TypeId}{w':World}{l:Loc}{id:Nat}(hr:ax ι cs vs)(hl:ι id 0=some l)(gE:∀e,0<e→ι id e=none)(hn:l.n=cs.length)(gH:l.lim=(vs++rest).length)
 (hh:w'.heap[l.b]?=some (.cells (vs++rest).toArray el (0,0))):j9 ι w' id (.cells cs 0 0):=by
 refine⟨⟨ar9 _,gE⟩,⟨l,hl,hn⟩,fun e _ he=>?_⟩;obtain rfl:e=0:=by omega
 refine⟨l,(vs++rest).toArray,el,hl,by omega,hh,by simpa using gH,fun k x _ hx=>?_⟩;obtain⟨u,hu,iK⟩:=hr.get hx;refine⟨u,?_,iK⟩;have aa:=(ar5.1 hu).1;rw[atK,asf aa];exact hu
theorem Inv.Rr(hi:Inv N ι σ w)(hN:σ.n<N){cs:List IV}{vs:List Value}(hr:ax ι cs vs)(rest:List Value)(el:TypeId){w':World}(hw:w'.heap=w.heap.push (.cells (vs++rest).toArray el))
 (vl:w'.os=w.os)(xr:w'.tape=w.tape)(xu:w'.output=w.output):
 Inv N (dF ι σ.n 0 ⟨w.heap.size,cs.length,(vs++rest).length⟩) (σ.add (.cells cs 0 0)) w'∧Le ro ι w σ (dF ι σ.n 0 ⟨w.heap.size,cs.length,(vs++rest).length⟩) w' (σ.add (.cells cs 0 0)):=by
 have hx:∀e,ι σ.n e=none:=hi.fresh _ (ar9 _) hN;have hh:w'.heap[w.heap.size]?=some (.cells (vs++rest).toArray el (0,0)):=by rw[hw];simp
 refine hi.add hN hw vl xr xu rfl (TX (rest:=rest) (hr.mono (kc (hx 0))) (bX _ _ _ _) (fun e he=>?_) rfl rfl hh);have:e≠0:=by omega
 simp[dF,this,hx e]
theorem Inv.newRow(hi:Inv N ι σ w)(hN:σ.n<N){cs:List IV}{vs:List Value}(hr:ax ι cs vs)(el:TypeId):
 let l:Loc:=⟨w.heap.size,cs.length,vs.length⟩
 let w':World:={w with heap:=w.heap.push (.cells vs.toArray el)}
 Inv N (dF ι σ.n 0 l) (σ.add (.cells cs 0 0)) w'∧Le ro ι w σ (dF ι σ.n 0 l) w' (σ.add (.cells cs 0 0)):=by
 intro l w';have:=hi.Rr (ro:=ro) hN hr [] el (w':=w') (by simp[w']) rfl rfl rfl;simpa[l]using this
theorem ZI{t:TypeId}(hi:Inv N ι σ w)(ho:o.op=.alloc t)(h:ak P ro ρ o σ=some out):a_ P ro N ι w σ r o out:=by
 unfold ak at h;rw[ho]at h;simp only at h;split at h
 ·rename_i z hz;obtain rfl:=aE h;intro hN;obtain⟨h1,h2⟩:=hi.newRow (ro:=ro) (by simp at hN;omega) (ax.sn (ι:=ι) z.cells.toList) t;refine⟨.pointer (some ⟨w.heap.size,0,none⟩),_,_,.inl ?_,?_,h1,h2⟩
  ·simp[execOp,ho,Instr.alloc,iu hz,newVar,newRow]
  ·exact .ptr _ _ _ _ _ (bX _ _ _ _) (by simp)
 ·cases h
theorem aeL{t:TypeId}{x:Operand}(hi:Inv N ι σ w)(hr:Rv ι (ρ x) (r x))(ho:o.op=.box t x)(h:ak P ro ρ o σ=some out):a_ P ro N ι w σ r o out:=by
 unfold ak at h;rw[ho]at h;simp only at h;split at h
 ·rename_i bf;obtain rfl:=aE h;intro hN;obtain⟨h1,h2⟩:=hi.newRow (ro:=ro) (by simp at hN;omega) (hr.A8 bf) t;refine⟨.pointer (some ⟨w.heap.size,0,none⟩),_,_,.inl ?_,?_,h1,h2⟩
  ·simp[execOp,ho,Instr.box,newVar,newRow]
  ·have:=(hr.A8 bf).1;exact .ptr _ _ _ _ _ (bX _ _ _ _) (by simp only[atx];omega)
 ·cases h
theorem adn{t:TypeId}{x:Operand}(hi:Inv N ι σ w)(hr:Rv ι (ρ x) (r x))(ho:o.op=.load t x)(h:ak P ro ρ o σ=some out):a_ P ro N ι w σ r o out:=by
 unfold ak at h;rw[ho]at h;simp only at h;split at h
 ·rename_i id off ep ext hx;rw[hx]at hr;split at h
  ·rename_i s cs ar mn hs az;split at h
   ·rename_i hc;split at h
    ·rename_i v hp;obtain rfl:=aE h;obtain⟨a,u,ha,fG,iK⟩:=C0 hi hs az hc.1 hc.2.1 hc.2.2 hp hr;exact a_.same hi (u:=u) (by simp[execOp,ho,aw7,aur,ha,fG]) iK
    ·cases h
   ·cases h
  ·cases h
 ·rename_i cs hx;rw[hx]at hr;split at h
  ·rename_i v hp;obtain rfl:=aE h;generalize hq:r x=q at hr;cases hr with
   |kO _ b off us hu hh=>
    have gX:yB w b off ((atI cs.length).map us):=by
     intro j v hj;simp only[asi,ar_]at hj;obtain⟨j',kb,rfl⟩:=hj
     have:j'=j∧j<cs.length:=by
      rw[ar5]at kb;obtain⟨h1,h2⟩:=kb;simp at h1 h2;exact⟨h2.symm,h1⟩
     obtain⟨rfl,aa⟩:=this;have hm:=hu j' aa;unfold oC at hm;cases hb:ι.m b with
     |none=>simp[hb]at hm
     |some c=>
      obtain⟨el,f,hh'⟩:=hi.mem b c hb;rw[cell_of hh'];simpa[hb]using hm
    have hl:ax ι cs ((atI cs.length).map us):=by
     refine⟨by simp,fun i c v h1 h2=>?_⟩;have aa:=(ar5.1 h1).1
     have:v=us i:=by
      simp[aa]at h2;exact h2.symm
     subst this;exact hh i c h1
    obtain⟨u,h1,h2⟩:=Hm (k:=0) hp hl gX;exact a_.same hi (u:=u) (by simp at h1;simp[execOp,ho,aw7,aur,hq,h1]) h2
  ·cases h
 ·cases h
end Go.Ev
namespace Go.Ev
variable{P:Program}{N ro:Nat}{ι:Io}{w:World}{σ:St}{ρ:Operand→IV}{r:Operand→Value}{o:Oper}{out:ez}
theorem ub(w:World)(g:Nat)(cs:Array Value)(b:Nat)(h:b≠g):(w.setRow g cs).heap[b]?=w.heap[b]? :=by
 simp only[aw8,Array.getElem?_modify];rw[if_neg (by omega)]
theorem setRow_size(w:World)(g:Nat)(cs:Array Value):(w.setRow g cs).heap.size=w.heap.size:=by simp[aw8]
theorem so{cs:List IV}{vs:List Value}(hr:ax ι cs vs)(h:cs.all ab=true):∀v∈vs,v.oneCell'=true:=by
 intro v hv;obtain⟨i,hi⟩:=List.mem_iff_getElem?.1 hv;have aa:i<cs.length:=by have:=(ar5.1 hi).1;have:=hr.1;omega
 have hc:=hr.2 i cs[i] v (List.getElem?_eq_getElem aa) hi;have hk:=Wg hc (List.all_eq_true.1 h _ (List.getElem_mem aa));cases v<;>first|rfl|exact absurd rfl (hk.1 _)|exact absurd rfl (hk.2 _)
theorem QV(A:List Value)(n off:Nat)(b_:List Value)(h1:off+b_.length≤n)(h2:n≤A.length)(k:Nat)(hk:k<n):
 (A.take off++b_++A.drop (off+b_.length))[k]?=((A.take n).take off++b_++(A.take n).drop (off+b_.length))[k]? :=by
 have e1:(A.take n).take off=A.take off:=by rw[ave,avP (by omega)]
 have e2:A.drop (off+b_.length)=(A.take n).drop (off+b_.length)++A.drop n:=by
  have hA:A=A.take n++A.drop n:=(List.take_append_drop n A).symm;have hl:(A.take n).length=n:=by rw[auc];omega
  have:=List.drop_append_of_le_length (l₁:=A.take n) (l₂:=A.drop n) (i:=off+b_.length) (by omega);rw[←hA]at this;exact this
 rw[e1,e2,←asv];refine asf ?_;simp only[asu,auc,List.length_drop];omega
theorem Inv.write(hi:Inv N ι σ w){id off ar mn:Nat}{cs new:List IV}{b_:List Value}(az:σ.at id=some (.cells cs ar mn))(cy:ro≤id)(C1:off+new.length≤cs.length)
 (hr:ax ι new b_):∃l c el,ι id ar=some l∧w.heap[l.b]?=some (.cells c el (0,0))∧off+b_.length≤c.size∧
  Inv N ι (σ.put id (.cells (dm cs off new) ar ar)) (w.setRow l.b (c.toList.take off++b_++c.toList.drop (off+b_.length)).toArray)∧
  Le ro ι w σ ι (w.setRow l.b (c.toList.take off++b_++c.toList.drop (off+b_.length)).toArray) (σ.put id (.cells (dm cs off new) ar ar)):=by
 have dr:=hi.obj id _ az;obtain⟨tM,⟨l0,jB,kf⟩,_⟩:=dr;obtain⟨l,c,el,hl,hn,aK,hc,gH,gX⟩:=Eu (hi.obj id _ az) tM.1 (ar9 _);obtain rfl:l=l0:=by rw[hl]at jB;exact aus jB
 have Wh:=hr.1;have aa:off+b_.length≤c.size:=by omega
 refine⟨l,c,el,hl,hc,aa,?_⟩;refine hi.put az cy ⟨_,_,hl⟩ (Ext.refl _) (fun _ _ _=>rfl) (fun b hb=>.inl hb) (by rw[setRow_size];exact ar9 _) (fun b _ gE=>ub _ _ _ _ ?_) rfl rfl rfl ?_
 ·intro e;subst e;exact gE ⟨_,_,hl,rfl⟩
 ·refine⟨⟨ar9 _,tM.2⟩,⟨l,hl,by simp[dm,kf];omega⟩,fun e he j_=>?_⟩;obtain rfl:e=ar:=by omega
  refine⟨l,_,el,hl,by simp[dm];omega,setRow_heap w l.b c _ el _ hc,by simp;omega,fun k x hk hx=>?_⟩;rw[kf,List.take_length]at gX;have tN:cs.length≤c.toList.length:=by simp;omega
  have TY:ax ι (dm cs off new) ((c.toList.take cs.length).take off++b_++(c.toList.take cs.length).drop (off+b_.length)):=gX.dm off hr;obtain⟨u,hu,iK⟩:=TY.get hx;refine⟨u,?_,iK⟩;simp only[atK];rw[←hu];exact QV c.toList cs.length off b_ (by omega) tN k (by omega)
theorem ll{l:Loc}{c:Array Value}{el:TypeId}{off:Nat}{b_:List Value}(hc:w.heap[l.b]?=some (.cells c el (0,0)))(aa:off+b_.length≤c.size)(h1:∀v∈b_,v.oneCell'=true):
 (storeCells ⟨l.b,off,none⟩ b_).run P w=.ok () (w.setRow l.b (c.toList.take off++b_++c.toList.drop (off+b_.length)).toArray):=by
 have:=run_storeCells_at (P:=P) l.b off el b_ 0 c w hc (by omega) h1;simpa using this
theorem ZJ{t:TypeId}{a x:Operand}(hi:Inv N ι σ w)(ha:Rv ι (ρ a) (r a))(hx:Rv ι (ρ x) (r x))(ho:o.op=.store t a x)(h:ak P ro ρ o σ=some out):a_ P ro N ι w σ r o out:=by
 unfold ak at h;rw[ho]at h;simp only at h;split at h
 ·rename_i id off ep ext hp;rw[hp]at ha;split at h
  ·rename_i s cs ar mn hs az;split at h
   ·rename_i hc;obtain⟨cy,hlen,iV,hep,C1,bf⟩:=hc;obtain rfl:=aE h;intro hN;subst hep;have ij:=hx.A8 bf;obtain⟨l,c,el,hl,vm,aa,h1,h2⟩:=hi.write (ro:=ro) az cy (by rw[hlen];exact C1) ij;generalize hq:r a=q at ha;cases ha with
    |ptr _ _ _ _ l' cd iJ=>
     rw[hl]at cd;cases cd;refine⟨Go.undef,_,_,.inr ⟨?_,rfl⟩,.raw _,h1,h2⟩;have aK:(r x).cells.size=s:=by have:=ij.1;simp at this;omega
     simp[execOp,ho,Instr.storeAt,aur,hq,storeVar,eB hs,aK,ll (P:=P) vm aa (so ij bf)]
   ·cases h
  ·cases h
 ·cases h
theorem QW{x:Operand}(hi:Inv N ι σ w)(hr:Rv ι (ρ x) (r x))(ho:o.op=.nilCheck x)(h:ak P ro ρ o σ=some out):a_ P ro N ι w σ r o out:=by
 unfold ak at h;rw[ho]at h;simp only at h;split at h
 all_goals first|(cases h;done)|skip
 all_goals
  rename_i hx;rw[hx]at hr;obtain rfl:=aE h;generalize hq:r x=q at hr;refine a_.same hi (u:=q) ?_ hr;cases hr<;>simp[execOp,ho,hq]
theorem eval_bin{op:BinOp}{t yT:TypeId}{x y:Operand}(ho:o.op=.binOp op t x y yT){v:Value}(h:(do eqGuard op t x y (r x) (r y);binOp op t (r x) (r y):Sem Value).run P w=.ok v w):
 (execOp r o).run P w=.ok (.value v) w:=by
 simp only[execOp,ho,asa]at h⊢;rw[h];rfl
theorem toList_eq(s:ByteArray):s.toList=s.data.toList:=Lib.toList_data s
theorem Wi{t:TypeId}{a b:IV}{u v:Value}(d:Nat)(h:Aa P t a b=true)(ha:Rv ι a u)(hb:Rv ι b v):
 ((atw (d+1) t u v).run P w=.ok false w)∧((atw (d+1) t v u).run P w=.ok false w):=by
 unfold Aa at h;split at h
 all_goals first|(cases h;done)|skip
 all_goals
  split at h
  ·rename_i hu;cases ha;cases hb;refine⟨?_,?_⟩<;>simp only[atw,asa,aN hu,ar8]<;>rfl
  ·cases h
theorem xw{t:TypeId}{u v:Value}{c:Bool}(he:(atw (9999+1) t u v).run P w=.ok c w):
 (do pure (.bool (←avf t u v)):Sem Value).run P w=.ok (.bool c) w∧(do pure (.bool (!(←avf t u v))):Sem Value).run P w=.ok (.bool !c) w:=by
 have j_:(avf t u v).run P w=.ok c w:=he;constructor<;>simp only[asa,j_,ar8,asj]
theorem Kl{t:TypeId}{a b:IV}{u v:Value}{x y:Operand}(h:Aa P t a b=true)(ha:Rv ι a u)(hb:Rv ι b v):
 ((∀op,(eqGuard op t x y u v).run P w=.ok () w)∧(atS .eql t u v).run P w=.ok (.bool false) w∧(atS .neq t u v).run P w=.ok (.bool true) w)∧
 ((∀op,(eqGuard op t x y v u).run P w=.ok () w)∧(atS .eql t v u).run P w=.ok (.bool false) w∧(atS .neq t v u).run P w=.ok (.bool true) w):=by
 have h1:=Wi (w:=w) 9999 h ha hb;have h2:=xw h1.1;have h3:=xw h1.2;unfold Aa at h;split at h
 all_goals first|(cases h;done)|skip
 all_goals
  cases ha;cases hb;exact⟨⟨fun op=>by cases op<;>rfl,h2.1,h2.2⟩,⟨fun op=>by cases op<;>rfl,h3.1,h3.2⟩⟩
theorem ZK{t:TypeId}{a b:IV}{u v:Value}{x y:Operand}(h:TQ P t a b=true)(ha:Rv ι a u)(hb:Rv ι b v):
 (∀op,(eqGuard op t x y u v).run P w=.ok () w)∧(atS .eql t u v).run P w=.ok (.bool false) w∧(atS .neq t u v).run P w=.ok (.bool true) w:=by
 unfold TQ at h;rw[Bool.or_eq_true]at h;rcases h with h|h
 ·exact(Kl (w:=w) (x:=x) (y:=y) h ha hb).1
 ·exact(Kl (w:=w) (x:=x) (y:=y) h hb ha).2
theorem MU{t:TypeId}{a b:IV}{u v:Value}{x y:Operand}{c:Bool}(h:ptrEq P t a b=some c)(ha:Rv ι a u)(hb:Rv ι b v):
 (∀op,(eqGuard op t x y u v).run P w=.ok () w)∧(atS .eql t u v).run P w=.ok (.bool c) w∧(atS .neq t u v).run P w=.ok (.bool !c) w:=by
 unfold ptrEq at h;split at h
 ·rename_i i off e x1 j I8 f y1;split at h
  ·rename_i el hu;split at h
   ·rename_i s hs;split at h
    ·rename_i hc;obtain⟨rfl,rfl,h0⟩:=hc;cases h;cases ha with
     |ptr _ off _ _ l hl _=>
      cases hb with
      |ptr _ I8 _ _ l' cd _=>
       rw[hl]at cd;cases cd
       have he:∀d,(atw (d+1) t (.pointer (some ⟨l.b,off,none⟩)) (.pointer (some ⟨l.b,I8,none⟩))).run P w=.ok (off==I8) w:=by
        intro d;simp only[atw,asa,aN hu,ar8,eB hs,ne_eq,h0,not_false_eq_true,if_true,sameAddr,beq_self_eq_true];by_cases hh:off=I8
        ·subst hh;simp
        ·have:((⟨l.b,off,none⟩:Addr)==⟨l.b,I8,none⟩)=false:=by simp[hh]
         simp[this,hh]
       have h2:=xw (he 9999);exact⟨fun op=>by cases op<;>rfl,h2.1,h2.2⟩
    ·cases h
   ·cases h
  ·cases h
 ·cases h
theorem aeM{op:BinOp}{t yT:TypeId}{x y:Operand}(hi:Inv N ι σ w)(hx:Rv ι (ρ x) (r x))(hy:Rv ι (ρ y) (r y))(ho:o.op=.binOp op t x y yT)(h:ak P ro ρ o σ=some out):
 a_ P ro N ι w σ r o out:=by
 unfold ak at h;rw[ho]at h;simp only at h;split at h
 ·rename_i v hv;obtain rfl:=aE h
  suffices hs:∃u,(do eqGuard op t x y (r x) (r y);binOp op t (r x) (r y):Sem Value).run P w=.ok u w∧Rv ι v u by
   obtain⟨u,h1,h2⟩:=hs;exact a_.same hi (eval_bin ho h1) h2
  generalize oD:r x=a at hx;generalize hry:r y=b at hy;generalize sq:ρ x=ix at hx hv;generalize hiy:ρ y=iy at hy hv;unfold oT at hv
  have strs:∀(s u:ByteArray),ix=.raw (.string s)→iy=.raw (.string u)→a=.string s∧b=.string u:=by
   intro s u h1 h2;subst h1 h2;cases hx;cases hy;exact⟨rfl,rfl⟩
  split at hv
  ·rename_i s u;obtain⟨rfl,rfl⟩:=strs s u rfl rfl;cases hv;exact⟨_,by simp[eqGuard,atS,auF,toList_eq],.raw _⟩
  ·rename_i s u;obtain⟨rfl,rfl⟩:=strs s u rfl rfl;cases hv;exact⟨_,by simp[eqGuard,atS,auF,toList_eq],.raw _⟩
  ·rename_i s u;obtain⟨rfl,rfl⟩:=strs s u rfl rfl;cases hv;exact⟨_,by simp[eqGuard,atS,auF,toList_eq],.raw _⟩
  ·rename_i s u;obtain⟨rfl,rfl⟩:=strs s u rfl rfl;cases hv;exact⟨_,by simp[eqGuard,atS,auF,toList_eq],.raw _⟩
  ·rename_i s u;obtain⟨rfl,rfl⟩:=strs s u rfl rfl;cases hv;exact⟨_,by simp[eqGuard,atS,auF,toList_eq],.raw _⟩
  ·rename_i s u;obtain⟨rfl,rfl⟩:=strs s u rfl rfl;cases hv;exact⟨_,by simp[eqGuard,atS,auF,toList_eq],.raw _⟩
  ·rename_i s u;obtain⟨rfl,rfl⟩:=strs s u rfl rfl;split at hv
   ·rename_i aK;cases hv;refine⟨_,?_,.raw _⟩
    have e:(⟨(s.data.toList++u.data.toList).toArray⟩:ByteArray)=s++u:=by
     apply axG;simp
    rw[e]
    have hm:¬((s.size+u.size:Nat):Int)>aso.max:=by
     have:aso.max=9223372036854775807:=by decide
     rw[this];omega
    simp only[eqGuard,atS,auF,if_neg hm];simp
   ·cases hv
  ·split at hv
   ·rename_i u1 u2 h1 h2;rw[ua h1 hx,ua h2 hy];simp only[ar_]at hv;obtain⟨z,hz,rfl⟩:=hv;exact⟨z,eN w _ hz,Rv.lift z⟩
   ·split at hv
    ·rename_i zK;obtain⟨hg,he⟩:=ZK (w:=w) (x:=x) (y:=y) zK hx hy;split at hv
     ·cases hv;exact⟨.bool false,by simp only[asa,hg .eql,ar8,he.1],.raw _⟩
     ·cases hv;exact⟨.bool true,by simp only[asa,hg .neq,ar8,he.2],.raw _⟩
     ·cases hv
    ·split at hv
     ·obtain⟨hg,he⟩:=MU (w:=w) (x:=x) (y:=y) ‹ptrEq P t ix iy=some _› hx hy;cases hv;exact⟨.bool _,by simp only[asa,hg .eql,ar8,he.1],.raw _⟩
     ·obtain⟨hg,he⟩:=MU (w:=w) (x:=x) (y:=y) ‹ptrEq P t ix iy=some _› hx hy;cases hv;exact⟨.bool _,by simp only[asa,hg .neq,ar8,he.2],.raw _⟩
     ·cases hv
 ·cases h
end Go.Ev
namespace Go.Ev
variable{P:Program}{N ro:Nat}{ι:Io}{w:World}{σ:St}{ρ:Operand→IV}{r:Operand→Value}{o:Oper}{out:ez}
theorem eU{x:IV}{v u:Value}(hx:x=.raw v)(h:Rv ι x u):u=v:=by subst hx;cases h;rfl
theorem aiP{op:UnOp}{t:TypeId}{x:Operand}(hi:Inv N ι σ w)(hr:Rv ι (ρ x) (r x))(ho:o.op=.unOp op t x)(h:ak P ro ρ o σ=some out):a_ P ro N ι w σ r o out:=by
 unfold ak at h;rw[ho]at h;simp only at h;split at h
 ·rename_i v hx;split at h
  ·rename_i z hz;obtain rfl:=aE h;have e:=eU hx hr;have:=eN w _ hz;exact a_.same hi (u:=z) (by simp[execOp,ho,e,this]) (Rv.lift z)
  ·cases h
 ·cases h
theorem TZ{s t:TypeId}{x:Operand}(hi:Inv N ι σ w)(hr:Rv ι (ρ x) (r x))(ho:o.op=.convert s t x)(h:ak P ro ρ o σ=some out):a_ P ro N ι w σ r o out:=by
 unfold ak at h;rw[ho]at h;simp only at h;split at h
 ·rename_i v hx;split at h
  ·rename_i d hs hu;obtain rfl:=aE h;have e:=eU hx hr;refine a_.same hi (u:=.string v) ?_ (.raw _)
   have:(convert s t (.string v)).run P w=.ok (.string v) w:=by
    simp only[convert,asa,aN hs,aN hu,ar8];rfl
   simp[execOp,ho,e,this]
  ·cases h
 ·rename_i v _ hx;split at h
  ·rename_i z hz;obtain rfl:=aE h;have e:=eU hx hr;have:=eN w _ hz;exact a_.same hi (u:=z) (by simp[execOp,ho,e,this]) (Rv.lift z)
  ·cases h
 ·cases h
theorem Ga{t:TypeId}{x:Operand}(hi:Inv N ι σ w)(hr:Rv ι (ρ x) (r x))(ho:o.op=.makeInterface t x)(h:ak P ro ρ o σ=some out):a_ P ro N ι w σ r o out:=by
 unfold ak at h;rw[ho]at h;simp only at h;split at h
 ·cases h
 ·rename_i d hd hu;obtain rfl:=aE h;refine a_.same hi (u:=.iface t (r x)) ?_ (.cY _ _ _ hr);simp only[execOp,ho,Instr.makeInterface,asa,aN hu,ar8];cases d<;>first|rfl|(exact absurd rfl (hd _))
 ·cases h
theorem QX{f:Fn}{first cap:Array Operand}(hi:Inv N ι σ w)(hr:∀x∈first++cap,Rv ι (ρ x) (r x))(ho:o.op=.makeFunc f first cap)(h:ak P ro ρ o σ=some out):a_ P ro N ι w σ r o out:=by
 unfold ak at h;rw[ho]at h;simp only at h;obtain rfl:=aE h;have h1:ax ι (first.toList.map ρ) (first.toList.map r):=ax.of_map fun a ha=>hr a (by simp at ha⊢;exact .inl ha);have h2:ax ι (cap.toList.map ρ) (cap.toList.map r):=ax.of_map fun a ha=>hr a (by simp at ha⊢;exact .inr ha);refine a_.same hi (u:=.func f (first.toList.map r).toArray (cap.toList.map r).toArray) ?_ (.fn _ _ _ _ _ h1.1 h1.2 h2.1 h2.2);simp only[execOp,ho,Instr.makeFunc,asa,asj,ar8]
 congr 3<;>(apply auj;simp)
theorem T0{x:Operand}{i:Nat}(hi:Inv N ι σ w)(hr:Rv ι (ρ x) (r x))(ho:o.op=.extract x i)(h:ak P ro ρ o σ=some out):a_ P ro N ι w σ r o out:=by
 unfold ak at h;rw[ho]at h;simp only at h;split at h
 ·rename_i vs hx;split at h
  ·rename_i v hv;obtain rfl:=aE h;rw[hx]at hr;generalize hq:r x=q at hr;cases hr with
   |av _ us hl hh=>
    obtain⟨u,hu,iK⟩:=ax.get ⟨hl,hh⟩ hv;exact a_.same hi (u:=u) (by simp[execOp,ho,awW,hq,hu]) iK
  ·cases h
 ·rename_i vs hx;split at h
  ·rename_i v hv;obtain rfl:=aE h;have e:=eU hx hr;exact a_.same hi (u:=v) (by simp[execOp,ho,awW,e,hv]) (.raw _)
  ·cases h
 ·cases h
theorem Inv.aeN(hi:Inv N ι σ w)(hN:σ.n<N):
 Inv N (dF ι σ.n 0 ⟨w.heap.size,1,1⟩) (σ.add (.map [] 0)) {w with heap:=w.heap.push (.map #[] 0)}∧
 Le ro ι w σ (dF ι σ.n 0 ⟨w.heap.size,1,1⟩) {w with heap:=w.heap.push (.map #[] 0)} (σ.add (.map [] 0)):=by
 refine hi.add hN rfl rfl rfl rfl rfl ⟨_, #[],bX _ _ _ _,by simp,by simp,fun i e r h=>by simp at h⟩
theorem T1{t:TypeId}{x:Option Operand}(hi:Inv N ι σ w)(hr:∀y∈x.toArray,Rv ι (ρ y) (r y))(ho:o.op=.makeMap t x)(h:ak P ro ρ o σ=some out):a_ P ro N ι w σ r o out:=by
 unfold ak at h;rw[ho]at h;simp only at h
 have key:out=.val (.map σ.n) (σ.add (.map [] 0))→(execOp r o).run P w=.ok (.value (.map (some w.heap.size))) {w with heap:=w.heap.push (.map #[] 0)}→a_ P ro N ι w σ r o out:=by
  intro h1 h2;subst h1;intro hN;obtain⟨h3,h4⟩:=hi.aeN (ro:=ro) (by simp at hN;omega);exact⟨_,_,_,.inl h2,.map _ _ (bX _ _ _ _),h3,h4⟩
 split at h
 ·exact key (aE h) (by simp[execOp,ho,awX])
 ·rename_i y;split at h
  ·rename_i hu hx;have e:=eU hx (hr _ (by simp));exact key (aE h) (by simp[execOp,ho,awX,aN hu,e,asInt,asIntOf])
  ·cases h
theorem MV{s:TypeId}{x:Operand}{f:Nat}(hi:Inv N ι σ w)(hr:Rv ι (ρ x) (r x))(ho:o.op=.fieldAddr s x f)(h:ak P ro ρ o σ=some out):a_ P ro N ι w σ r o out:=by
 unfold ak at h;rw[ho]at h;simp only at h;split at h
 ·rename_i fields hu;split at h
  ·rename_i fd hf;split at h
   ·rename_i sz id off ep ext hs hx;split at h
    ·rename_i hc;obtain rfl:=aE h;rw[hx]at hr;generalize hq:r x=q at hr;cases hr with
     |ptr _ _ _ _ l hl hle=>
      refine a_.same hi (u:=.pointer (some ⟨l.b,off+fd.offset,none⟩)) ?_ (.ptr _ _ _ _ l hl (by omega));simp[execOp,ho,awY,aN hu,hf,aur,hq,fieldPlace,eB hs,hc.1,gJ]
    ·cases h
   ·rename_i sz cs hs hx;split at h
    ·rename_i hc;obtain rfl:=aE h;rw[hx]at hr;generalize hq:r x=q at hr;cases hr with
     |kO _ b off us yD hh=>
      refine a_.same hi (u:=.pointer (some ⟨b,off+fd.offset,none⟩)) ?_ (.kO _ _ _ (fun k=>us (fd.offset+k)) (fun k hk=>?_) (fun j c hj=>?_))
      ·simp[execOp,ho,awY,aN hu,hf,aur,hq,fieldPlace,eB hs,hc.1,gJ]
      ·simp at hk;rw[show off+fd.offset+k=off+(fd.offset+k) by omega];exact yD _ (by omega)
      ·rw[asF]at hj;split at hj
       ·exact hh _ c (by simpa using hj)
       ·cases hj
    ·cases h
   ·cases h
  ·cases h
 ·cases h
theorem ZL{t:TypeId}{x:Operand}{f:Nat}(hi:Inv N ι σ w)(hr:Rv ι (ρ x) (r x))(ho:o.op=.field t x f)(h:ak P ro ρ o σ=some out):a_ P ro N ι w σ r o out:=by
 unfold ak at h;rw[ho]at h;simp only at h;split at h
 ·rename_i fields cs hu hx;split at h
  ·rename_i fd hf;split at h
   ·rename_i v hp;obtain rfl:=aE h;rw[hx]at hr;generalize hq:r x=q at hr;cases hr with
    |agg _ us hl hh=>
     obtain⟨u,h1,h2⟩:=MT hp ⟨hl,hh⟩ w;exact a_.same hi (u:=u) (by simp[execOp,ho,Instr.field,aN hu,hf,asAgg,hq,h1]) h2
   ·cases h
  ·cases h
 ·cases h
theorem MW{t:TypeId}{x ix:Operand}(hi:Inv N ι σ w)(hr:Rv ι (ρ x) (r x))(oD:Rv ι (ρ ix) (r ix))(ho:o.op=.indexAddr t x ix)(h:ak P ro ρ o σ=some out):a_ P ro N ι w σ r o out:=by
 unfold ak at h;rw[ho]at h;simp only at h;split at h
 ·rename_i elem k i hu sq;have ei:=eU sq oD;split at h
  ·rename_i id off len cap ep s hx;split at h
   ·rename_i hc;obtain⟨hs,h0,aa⟩:=hc;obtain rfl:=aE h;rw[hx]at hr;generalize hq:r x=q at hr;have hn:i.toNat<len:=by omega
    have hmul:i.toNat*s+s≤len*s:=by
     have:(i.toNat+1)*s≤len*s:=asB s hn;rw[asG]at this;omega
    cases hr with
    |sl _ _ _ _ _ _ l c a hl hle gH bu mv fv ha=>
     have arb:len*s≤c*s:=asB s mv;refine a_.same hi (u:=.pointer (some ⟨l.b,off+i.toNat*s,none⟩)) ?_ (.ptr _ _ _ _ l hl (by omega));have ea:=ha (by omega);subst ea;simp[execOp,ho,avW,ei,asIntOf,aN hu,hq,h0,aa,eB hs,gJ]
   ·cases h
  ·rename_i s es hx;split at h
   ·rename_i hc;obtain⟨hs,h0⟩:=hc;split at h
    ·rename_i e he;split at h
     ·rename_i qB;obtain rfl:=aE h;rw[hx]at hr;generalize hq:r x=q at hr;have aa:=(ar5.1 he).1;have fR:i<es.length:=by omega
      have hmul:i.toNat*s+s≤es.length*s:=by
       have:(i.toNat+1)*s≤es.length*s:=asB s aa;rw[asG]at this;omega
      cases hr with
      |tree _ _ b off c us bu hc bD yD hh=>
       refine a_.same hi (u:=.pointer (some ⟨b,off+i.toNat*s,none⟩)) ?_ (.kO _ _ _ (fun k=>us (i.toNat*s+k)) (fun k hk=>?_) (fun j c hj=>hh _ _ _ _ he hj))
       ·simp[execOp,ho,avW,ei,asIntOf,aN hu,hq,h0,fR,eB hs,gJ]
       ·rw[show off+i.toNat*s+k=off+(i.toNat*s+k) by omega];exact yD _ (by omega)
      |dW=>simp at aa
     ·cases h
    ·cases h
   ·cases h
  ·cases h
 ·rename_i n elem k i hu sq;have ei:=eU sq oD;split at h
  ·rename_i id off ep ext s hx hs;split at h
   ·rename_i hc;obtain⟨bu,h0,aa,I9⟩:=hc;obtain rfl:=aE h;rw[hx]at hr;generalize hq:r x=q at hr;cases hr with
    |ptr _ _ _ _ l hl hle=>
     refine a_.same hi (u:=.pointer (some ⟨l.b,off+i.toNat*s,none⟩)) ?_ (.ptr _ _ _ _ l hl (by omega));simp[execOp,ho,avW,ei,asIntOf,aN hu,hq,aur,h0,aa,eB hs,gJ]
   ·cases h
  ·cases h
 ·cases h
theorem ZM{t:TypeId}{x ix:Operand}(hi:Inv N ι σ w)(hr:Rv ι (ρ x) (r x))(oD:Rv ι (ρ ix) (r ix))(ho:o.op=.index t x ix)(h:ak P ro ρ o σ=some out):a_ P ro N ι w σ r o out:=by
 unfold ak at h;rw[ho]at h;simp only at h;split at h
 ·rename_i s k i hu hx sq;have ei:=eU sq oD;have ex:=eU hx hr;split at h
  ·rename_i h0;split at h
   ·rename_i b hb;obtain rfl:=aE h;refine a_.same hi (u:=.int .u8 b.toNat) ?_ (.raw _)
    have wa:s[i.toNat]?=some b:=by
     obtain⟨aa,he⟩:=ar5.1 hb;have fR:i.toNat<s.size:=by simpa using aa
     rw[getElem?_pos s i.toNat fR];simpa[axS]using he
    simp[execOp,ho,axg,ei,ex,asIntOf,aN hu,h0,wa]
   ·cases h
  ·cases h
 ·rename_i n elem cs k i hu hx sq;have ei:=eU sq oD;split at h
  ·rename_i s hs;split at h
   ·rename_i hc;split at h
    ·rename_i v hp;obtain rfl:=aE h;rw[hx]at hr;generalize hq:r x=q at hr;cases hr with
     |agg _ us hl hh=>
      obtain⟨u,h1,h2⟩:=MT hp ⟨hl,hh⟩ w;exact a_.same hi (u:=u) (by simp[execOp,ho,axg,ei,hq,asIntOf,aN hu,hc.1,hc.2,eB hs,h1]) h2
    ·cases h
   ·cases h
  ·cases h
 ·cases h
end Go.Ev
namespace Go.Ev
variable{P:Program}{N ro:Nat}{ι:Io}{w:World}{σ:St}{ρ:Operand→IV}{r:Operand→Value}{o:Oper}{out:ez}
theorem Fy(l:List Value)(s:Nat)(hl:l.length=s):∀n,(atI (n*s)).map (fun i=>l[i % s]!)=(asn n l).flatten
 |0=>by simp
 |n+1=>by
  rw[asG,Nat.one_mul,List.range_add,List.map_append,Fy l s hl n,List.replicate_succ',List.flatten_append]
  congr 1
  simp only[auD,List.flatten_nil,List.append_nil,List.map_map];apply auY;intro i;by_cases hi:i<s
  ·have h1:(n*s+i) % s=i:=by rw[Nat.mul_comm,Nat.mul_add_mod,Nat.mod_eq_of_lt hi]
   simp[hi,h1,hl]
  ·rw[awa (by simp;omega),awa (by omega)]
theorem Wj(l:List Value)(s n:Nat)(hl:l.length=s)(hs:s≠0):gr (l.map .raw) (n*s)=((asn n l).flatten).map .raw:=by
 unfold gr;split
 ·rename_i z hz;cases l with
  |nil=>simp at hz
  |cons a l=>
   cases l with
   |nil=>
    simp only[asY,List.map_nil,as5,and_true]at hz;subst hz;have c9:s=1:=by simpa using hl.symm
    subst c9;rw[Nat.mul_one];clear hl hs;induction n with
    |zero=>rfl
    |succ n ih=>rw[auk,auk,auD,ih];rfl
   |cons b l=>simp at hz
 ·rw[List.length_map,hl,Nat.mul_div_cancel _ (by omega),List.map_flatten];simp
theorem xx(z:Array Value)(s n:Nat)(hz:z.size=s)(hs:s≠0):(awb (n*s)).map (fun i=>z[i % z.size]!)=(((asn n z.toList).flatten)).toArray:=by
 apply auj;have:=Fy z.toList s (by simpa using hz) n;simp only[avy,Array.toList_range,hz];rw[←this];apply List.map_congr_left;intro i _;simp[List.getElem!_eq_getElem?_getD,Array.getElem!_eq_getD]
theorem yE(z:Value)(s n:Nat)(hz:z.cells.size=s)(hs:s≠0):ax ι (gr (z.cells.toList.map .raw) (n*s)) ((asn n z.cells.toList).flatten):=by
 rw[Wj _ s n (by simpa using hz) hs];exact ax.sn _
theorem C2(z:Value)(s n:Nat)(hz:z.cells.size=s):((asn n z.cells.toList).flatten).length=n*s:=by
 simp[hz]
theorem Km(off:Nat):∀(l:List Value) (k:Nat) (A:Array Value) (i:Nat),off+k+l.length≤A.size→
 ((l.zipIdx k).foldl (fun cs (x:Value×Nat)=>cs.setIfInBounds (off+x.2) x.1) A)[i]?=if off+k≤i∧i<off+k+l.length then l[i- off- k]? else A[i]?
 |[],k,A,i,_=>by
  have:¬(off+k≤i∧i<off+k+0):=by omega
  simp;intro h1 h2;omega
 |v::l,k,A,i,h=>by
  simp only[asS]at h;simp only[List.zipIdx_cons,List.foldl_cons];rw[Km off l (k+1) _ i (by simp;omega)];by_cases h1:off+(k+1)≤i∧i<off+(k+1)+l.length
  ·rw[if_pos h1,if_pos (by simp;omega)];have:i- off- k=(i- off-(k+1))+1:=by omega
   rw[this,auu]
  ·rw[if_neg h1];by_cases h2:i=off+k
   ·subst h2;rw[if_pos (by simp)];have:off+k<A.size:=by omega
    simp[this]
   ·rw[if_neg (by simp;omega),Array.getElem?_setIfInBounds,if_neg (by omega)]
theorem Ew{place:Nat→Option (Nat×Nat)}:∀{parts:List (Nat×IV)} {xy:List (Nat×Value)} {cs cm:List IV} {A:Array Value},
 pH place cs parts=some cm→ax ι cs A.toList→parts.length=xy.length→(∀(i:Nat) (p:Nat×IV) (q:Nat×Value),parts[i]?=some p→xy[i]?=some q→p.1=q.1∧Rv ι p.2 q.2)→
 ∃A',axv place A xy=some A'∧ax ι cm A'.toList
 |[],xy,cs,cm,A,h,hr,hl,hp=>by
  cases xy with
  |nil=>simp only[pH,ar7]at h;subst h;exact⟨A,rfl,hr⟩
  |cons p q=>simp at hl
 |(i,x)::rest,xy,cs,cm,A,h,hr,hl,hp=>by
  cases xy with
  |nil=>simp at hl
  |cons q arc=>
   obtain⟨j,v⟩:=q;obtain⟨h1,h2⟩:=hp 0 _ _ rfl rfl;simp only at h1 h2;subst h1;simp only[pH]at h;split at h
   ·cases h
   ·rename_i off size iW;split at h
    ·rename_i hc;obtain⟨hlen,hle,bf⟩:=hc;have ij:=h2.A8 bf;have gK:v.cells.size=size:=by have:=ij.1;simp at this;omega
     have hAs:cs.length=A.size:=by have:=hr.1;simpa using this
     have hA:(v.cells.zipIdx.foldl (fun cs (x:Value×Nat)=>cs.setIfInBounds (off+x.2) x.1) A).toList=A.toList.take off++v.cells.toList++A.toList.drop (off+v.cells.toList.length):=by
      apply auY;intro k;have hf:=Km off v.cells.toList 0 A k (by simp;omega)
      have e:v.cells.zipIdx.foldl (fun cs (x:Value×Nat)=>cs.setIfInBounds (off+x.2) x.1) A=(v.cells.toList.zipIdx 0).foldl (fun cs (x:Value×Nat)=>cs.setIfInBounds (off+x.2) x.1) A:=by
       rw[←Array.foldl_toList];simp
      rw[at1,e,hf];simp only[Nat.add_zero,Nat.sub_zero,avb];by_cases h3:k<off
      ·rw[if_neg (by omega),asv,asf (by simp;omega),asF,if_pos h3,at1]
      ·by_cases h4:k<off+v.cells.size
       ·rw[if_pos (by omega),asf (by simp;omega),asw (by simp;omega)]
        congr 1;simp;omega
       ·rw[if_neg (by omega),asw (by simp;omega),List.getElem?_drop,at1]
        congr 1;simp;omega
     have tO:=hr.dm off ij;rw[←hA]at tO;obtain⟨A',h5,h6⟩:=Ew h tO (by simpa using hl) (fun i p q lp Cs=>hp (i+1) p q lp Cs);refine⟨A',?_,h6⟩;simp only[axv,iW];rw[if_neg (by simp;omega)];exact h5
    ·cases h
theorem Gb{parts:Array (Nat×Operand)}(hr:∀x∈(parts.toList.map (·.2)),Rv ι (ρ x) (r x)):
 ∀(i:Nat) (p:Nat×IV) (q:Nat×Value),(parts.toList.map fun(y:Nat×Operand)=>(y.1,ρ y.2))[i]?=some p→((parts.map fun(y:Nat×Operand)=>(y.1,r y.2)).toList)[i]?=some q→p.1=q.1∧Rv ι p.2 q.2:=by
 intro i p q h1 h2;simp only[asi,ar_,avy]at h1 h2;obtain⟨a,ha,rfl⟩:=h1;obtain⟨b,hb,rfl⟩:=h2;rw[ha]at hb;cases hb;exact⟨rfl,hr _ (List.mem_map.2 ⟨a,List.mem_of_getElem? ha,rfl⟩)⟩
theorem run_places{fields:List Field}(h:∀f∈fields,(aI P f.type).isSome=true):
 (fields.mapM fun f=>(do pure (f.offset,←sizeOf f.type):Sem (Nat×Nat))).run P w=.ok (fields.map fun f=>(f.offset,(aI P f.type).getD 0)) w:=by
 induction fields with
 |nil=>rfl
 |cons f fs ih=>
  obtain⟨s,hs⟩:=auO.1 (h f (by simp));rw[List.mapM_cons];simp only[asa,eB hs,ar8,asj,ih (fun g hg=>h g (by simp[hg])),asY,hs,Option.getD_some]
theorem ZN{t:TypeId}{parts:Array (Nat×Operand)}(hi:Inv N ι σ w)(hr:∀x∈(parts.toList.map (·.2)),Rv ι (ρ x) (r x))(ho:o.op=.build t parts)(h:ak P ro ρ o σ=some out):
 a_ P ro N ι w σ r o out:=by
 unfold ak at h;rw[ho]at h;simp only at h;split at h
 ·rename_i z fields hz hu;split at h
  ·rename_i cs hf;split at h
   ·rename_i aT;obtain rfl:=aE h;obtain⟨A',h1,h2⟩:=Ew (ι:=ι) hf (A:=z.cells) (ax.sn _) (by simp) (Gb hr);refine a_.same hi (u:=.agg A') ?_ ?_
    ·have hp:=run_places (P:=P) (w:=w) (fields:=fields.toList) (fun f hf=>avm.1 aT f (by simpa using hf))
     have iW:(fields.mapM fun f=>(do pure (f.offset,←sizeOf f.type):Sem (Nat×Nat))).run P w=.ok (fields.map fun f=>(f.offset,(aI P f.type).getD 0)) w:=by
      rw[Array.mapM_eq_mapM_toList,Sem.run_map,hp];simp only[ar8]
      congr 1
      apply auj;simp
     have aeO:(fun(i:Nat)=>(fields.map fun(f:Field)=>(f.offset,(aI P f.type).getD 0))[i]?)=(fun(i:Nat)=>(fields[i]?).bind fun(f:Field)=>(aI P f.type).map fun s=>(f.offset,s)):=by
      funext i;rw[Array.getElem?_map];cases hfi:fields[i]? with
      |none=>rfl
      |some f=>
       obtain⟨s,hs⟩:=auO.1 (avm.1 aT f (Array.mem_of_getElem? hfi));simp[hs]
     rw[←aeO]at h1;simp only[execOp,ho,axh,asa,iu hz,aN hu,iW,ar8,h1,asj]
    ·have:=Rv.agg (ι:=ι) cs A'.toList h2.1 h2.2;simpa using this
   ·cases h
  ·cases h
 ·rename_i z n elem hz hu;split at h
  ·rename_i s hs;split at h
   ·rename_i cs hf;obtain rfl:=aE h;obtain⟨A',h1,h2⟩:=Ew (ι:=ι) hf (A:=z.cells) (ax.sn _) (by simp) (Gb hr);refine a_.same hi (u:=.agg A') ?_ ?_
    ·simp only[execOp,ho,axh,asa,iu hz,aN hu,eB hs,ar8,h1,asj]
    ·have:=Rv.agg (ι:=ι) cs A'.toList h2.1 h2.2;simpa using this
   ·cases h
  ·cases h
 ·cases h
theorem Mb{t:TypeId}{len:Nat}{parts:Array (Nat×Operand)}(hi:Inv N ι σ w)(hr:∀x∈(parts.toList.map (·.2)),Rv ι (ρ x) (r x))(ho:o.op=.buildSlice t len parts)
 (h:ak P ro ρ o σ=some out):a_ P ro N ι w σ r o out:=by
 unfold ak at h;rw[ho]at h;simp only at h;split at h
 ·rename_i elem hu;split at h
  ·rename_i s z hs hz;split at h
   ·cases h
   ·rename_i hc;have bu:s≠0:=fun e=>hc (.inl e);have rP:z.cells.size=s:=asM fun e=>hc (.inr (.inl e))
    have I_:len*s≤2 ^20:=by
     have:¬len*s>2 ^20:=fun e=>hc (.inr (.inr e));omega
    split at h
    ·rename_i cs hf;split at h
     ·rename_i bD;obtain⟨hlen,bf⟩:=bD;have T2:=xx z.cells s len rP bu;obtain⟨A',h1,h2⟩:=Ew (ι:=ι) hf (A:=((asn len z.cells.toList).flatten).toArray) (by simpa using yE z s len rP bu) (by simp) (Gb hr)
      have fG:(execOp r o).run P w=.ok (.value (.slice (some ⟨w.heap.size,0,none⟩) len len)) {w with heap:=w.heap.push (.cells A' elem)}:=by
       simp only[execOp,ho,Instr.buildSlice,asa,aN hu,eB hs,ar8];rw[if_neg (by omega)];by_cases h0:len*s=0
       ·have jB:len=0:=by rcases avQ.1 h0 with h|h;exact h;exact absurd h bu
        have e0:awb (len*s)= #[]:=by rw[h0];rfl
        have e1:((asn len z.cells.toList).flatten).toArray= #[]:=by rw[jB];rfl
        rw[e1]at h1;simp only[if_pos h0,asj,ar8,e0,awF,h1,newRow,asa,run_newObj]
       ·simp only[h0,if_false,asa,iu hz,ar8,asj,T2,h1];simp[newRow]
      split at h
      ·rename_i jB;obtain rfl:=aE h;subst jB;intro hN;obtain⟨h3,h4⟩:=hi.push (ro:=ro) (w':={w with heap:=w.heap.push (.cells A' elem)}) (o:=.cells A' elem) rfl rfl rfl rfl;exact⟨_,_,_,.inl fG,.emp _,h3,h4⟩
      ·obtain rfl:=aE h;intro hN;have hA:A'=A'.toList.toArray:=by simp
       obtain⟨h3,h4⟩:=hi.newRow (ro:=ro) (by simp at hN;omega) h2 elem;have Kn:cs.length=A'.size:=by have:=h2.1;simpa using this
       refine⟨_,_,_,.inl fG,?_,by simpa using h3,by simpa using h4⟩;exact .sl _ _ _ _ _ _ _ _ _ (bX _ _ _ _) (by simp;omega) (by simp;omega) (by omega) (ar9 _) (fun k hk=>by cases hk;exact⟨rfl,by simp;omega⟩) (fun _=>rfl)
     ·cases h
    ·cases h
  ·cases h
 ·cases h
theorem MX{t:TypeId}{l c:Operand}(hi:Inv N ι σ w)(lq:Rv ι (ρ l) (r l))(Fx:Rv ι (ρ c) (r c))(ho:o.op=.makeSlice t l c)
 (h:ak P ro ρ o σ=some out):a_ P ro N ι w σ r o out:=by
 unfold ak at h;rw[ho]at h;simp only at h;split at h
 ·rename_i elem k1 li k2 ci hu hl hc;have el:=eU hl lq;have ec:=eU hc Fx;split at h
  ·rename_i s z bytes hs hz hb;split at h
   ·cases h
   ·rename_i bJ;have bu:s≠0:=fun e=>bJ (.inl e);have rP:z.cells.size=s:=asM fun e=>bJ (.inr (.inl e));have mv:0≤li∧li≤ci∧ci≤1000000:=asM fun e=>bJ (.inr (.inr (.inl e)))
    have Hp:bytes≤1000000:=by
     have:¬bytes>1000000:=fun e=>bJ (.inr (.inr (.inr e)));omega
    obtain⟨i,cU,MY,hti⟩:=CZ hb w;have wl:aso.wrap li=li:=avD _ (by omega);have wc:aso.wrap ci=ci:=avD _ (by omega);have T2:=xx z.cells s ci.toNat rP bu;have c1:¬ci<0:=by omega
    have c2:¬(2 ^48:Int)<(i.bytes:Int)*ci:=by
     have h1:(i.bytes:Int)*ci≤1000000*1000000:=by
      have cK:(i.bytes:Int)≤1000000:=by omega
      exact Int.mul_le_mul cK mv.2.2 (by omega) (by omega)
     omega
    have c3:¬li<0:=by omega
    have c4:¬ci<li:=by omega
    have fG:(execOp r o).run P w=.ok (.value (.slice (some ⟨w.heap.size,0,none⟩) li.toNat ci.toNat)) {w with heap:=w.heap.push (.cells ((asn ci.toNat z.cells.toList).flatten).toArray elem)}:=by
     simp only[execOp,ho,Instr.makeSlice,asa,aN hu,el,ec,asInt,asIntOf,asj,ar8,hti,wl,wc,gt_iff_lt,c1,c2,c3,c4,decide_false,Bool.or_self,asD,if_false,run_askRoom,eB hs];by_cases h0:ci.toNat*s=0
     ·have tN:ci.toNat=0:=by rcases avQ.1 h0 with h|h;exact h;exact absurd h bu
      have e0:awb (ci.toNat*s)= #[]:=by rw[h0];rfl
      have e1:((asn ci.toNat z.cells.toList).flatten).toArray= #[]:=by rw[tN];rfl
      simp only[if_pos h0,asj,ar8,e0,e1,awF,newRow,asa,run_newObj]
     ·simp only[if_neg h0,asa,iu hz,ar8,asj,T2,newRow,run_newObj]
    split at h
    ·rename_i tN;obtain rfl:=aE h;intro hN;obtain⟨h3,h4⟩:=hi.push (ro:=ro) (w':={w with heap:=w.heap.push (.cells ((asn ci.toNat z.cells.toList).flatten).toArray elem)}) (o:=.cells ((asn ci.toNat z.cells.toList).flatten).toArray elem) rfl rfl rfl rfl;have jB:li=0:=by omega
     subst tN jB;exact⟨_,_,ι,.inl fG,.emp _,h3,h4⟩
    ·obtain rfl:=aE h;intro hN;have h2:=yE (ι:=ι) z s ci.toNat rP bu;have hlen:=C2 z s ci.toNat rP;obtain⟨h3,h4⟩:=hi.newRow (ro:=ro) (by simp at hN;omega) h2 elem;refine⟨_,_,_,.inl fG,?_,h3,h4⟩;have hle:li.toNat*s≤ci.toNat*s:=asB s (by omega);exact .sl _ _ _ _ _ _ _ _ _ (bX _ _ _ _) (by simp only[atx];rw[h2.1,hlen];exact hle) (by simp only[atx];rw[hlen];exact ar9 _) (by omega) (by omega) (fun k hk=>by cases hk;exact⟨rfl,by simp only[atx];rw[h2.1,hlen];exact ar9 _⟩) (fun _=>rfl)
  ·cases h
 ·cases h
end Go.Ev
namespace Go.Ev
variable{P:Program}{N ro:Nat}{ι:Io}{w:World}{σ:St}{ρ:Operand→IV}{r:Operand→Value}{o:Oper}{out:ez}
theorem Rt{x:IV}{v:Value}{n:Nat}(h:j8 x=some n)(hr:Rv ι x v)(w:World):(auM v).run P w=.ok n w:=by
 unfold j8 at h;split at h
 ·rename_i l c;split at h
  ·rename_i h0;cases h;cases hr;simp[auM,h0]
  ·cases h
 ·cases h;cases hr;rfl
 ·cases h;cases hr;rfl
 ·cases h;cases hr;rfl
 ·cases h;cases hr with
  |tree=>rfl
  |dW _ a=>cases a<;>rfl
 ·cases h
theorem QY{es:List IV}{s i j:Nat}(bD:∀e∈es,(cellsOf e).length=s)(hj:j<s):(es.flatMap cellsOf)[i*s+j]?=(es[i]?).bind fun e=>(cellsOf e)[j]? :=by
 induction es generalizing i with
 |nil=>simp
 |cons e es ih=>
  have he:=bD e (by simp);rw[auA];cases i with
  |zero=>simp only[au9,atx];rw[asf (by omega)];rfl
  |succ i=>
   rw[asw (by rw[asG];omega),auu,←ih (fun e he=>bD e (by simp[he]))]
   congr 1
   rw[he,asG];omega
theorem QZ{es:List IV}{s:Nat}(bD:∀e∈es,(cellsOf e).length=s):(es.flatMap cellsOf).length=es.length*s:=by
 induction es with
 |nil=>simp
 |cons e es ih=>rw[auA,asu,bD e (by simp),ih (fun e he=>bD e (by simp[he])),asS,asG];omega
theorem yF{size n:Nat}{x:IV}{v:Value}{cs:List IV}(hi:Inv N ι σ w)(h:eG size n σ x=some cs)(hr:Rv ι x v):
 ∃vs:List Value,(∀w':World,w'.heap=w.heap→(ata size n v).run P w'=.ok vs.toArray w')∧ax ι cs vs:=by
 have ji:∀w':World,w'.heap=w.heap→∀a:Addr,w'.cell? a=w.cell? a:=fun w' tP a=>by simp only[World.cell?,tP]
 unfold eG at h;split at h
 ·split at h
  ·cases h;cases hr;exact⟨[],fun w' _=>by simp[ata],ax.nil⟩
  ·cases h
 ·split at h
  ·rename_i h0;cases h;cases hr;subst h0;exact⟨[],fun w' _=>by simp[ata,loadCells,loadCellsFrom],ax.nil⟩
  ·cases h
 ·rename_i s;split at h
  ·rename_i h0;cases h;cases hr;refine⟨(s.data.toList.take n).map fun b=>.int .u8 b.toNat,fun w' _=>?_,ax.of_map fun a _=>.raw _⟩;simp only[ata,asj]
   congr 1
   apply auj;simp
  ·cases h
 ·rename_i id off len cap ep s;split at h
  ·rename_i hc;obtain⟨rfl,hn⟩:=hc;split at h
   ·rename_i p6 ar mn az;split at h
    ·rename_i hc;cases h;obtain⟨l,c,el,hl,tQ,aK,vm,gH,gX⟩:=Eu (hi.obj id _ az) hc.1 hc.2.1;cases hr with
     |sl _ _ _ _ _ _ l' k a cd hle Ru hs mv fv ha=>
      rw[hl]at cd;cases cd;have hmul:n*s≤len*s:=asB s hn;have Wh:(((c.toList.take l.n).drop off).take (n*s)).length=n*s:=by simp;omega
      have e1:(p6.drop off).take (n*s)=((p6.take l.n).drop off).take (n*s):=by
       rw[List.drop_take,ave];congr 1;omega
      refine⟨((c.toList.take l.n).drop off).take (n*s),fun w' tP=>?_,?_⟩
      ·simp only[ata];rcases Nat.eq_zero_or_pos n with h0|h0
       ·subst h0;simp[loadCells,loadCellsFrom]
       ·have ea:=ha (by omega);subst ea
        have TY:yB w l.b off (((c.toList.take l.n).drop off).take (n*s)):=by
         have:=QT (TV (Hn vm l.n) off) (n*s);simpa using this
        have:=run_loadCells_list (P:=P) w' ⟨l.b,off,none⟩ _ (fun j v hj=>by rw[gJ,ji w' tP];exact TY j v hj);rwa[Wh]at this
      ·rw[e1];exact(gX.drop off).take _
    ·cases h
   ·cases h
  ·cases h
 ·rename_i s es;split at h
  ·rename_i hc;obtain⟨rfl,hn⟩:=hc;cases h;cases hr with
   |tree _ _ b off c us hs hc bD hu hh=>
    have hmul:n*s≤es.length*s:=asB s hn;have aeP:∀e∈es.take n,(cellsOf e).length=s:=fun e he=>bD e (List.mem_of_mem_take he);have hlen:((es.take n).flatMap cellsOf).length=n*s:=by rw[QZ aeP,auc,avP hn]
    refine⟨(atI (n*s)).map us,fun w' tP=>?_,by simp[hlen],fun i x v hx hv=>?_⟩
    ·simp only[ata];rw[run_loadCells (P:=P) w' ⟨b,off,none⟩ (n*s) us];intro j hj;rw[gJ,ji w' tP];have hm:=hu j (by omega);unfold oC at hm;cases hb:ι.m b with
     |none=>simp[hb]at hm
     |some c=>
      obtain⟨el,f,hh'⟩:=hi.mem b c hb;rw[cell_of hh'];simpa[hb]using hm
    ·have ann:i<n*s:=by have:=(ar5.1 hx).1;omega
     have Wk:v=us i:=by
      simp[ann]at hv;exact hv.symm
     subst Wk;have hq:i/s*s+i % s=i:=Nat.div_add_mod' i s;have hj:i % s<s:=Nat.mod_lt _ hs;rw[←hq,QY aeP hj]at hx;rw[Option.bind_eq_some_iff]at hx;obtain⟨e,he,qB⟩:=hx;rw[asF]at he;split at he
     ·have:=hh _ _ _ _ he qB;rwa[hq]at this
     ·cases he
   |dW _ a c hs hz=>
    obtain rfl:n=0:=by simpa using hn
    refine⟨[],fun w' tP=>?_,by simp,fun i x v hx hv=>by simp at hx⟩;cases a<;>simp[ata,loadCells,loadCellsFrom]
  ·cases h
 ·cases h
theorem Ko(aG:Nat):∀(k c:Nat),c≤aG+(aG+768)/4→awv aG k c≤aG+(aG+768)/4
 |0,c,h=>h
 |k+1,c,h=>by
  unfold awv;split
  ·exact h
  ·exact Ko aG k _ (by omega)
theorem T4{aG cu:Nat}(h:cu<aG):at2 aG cu≤4*aG+4096:=by
 unfold at2;split
 ·omega
 ·split
  ·omega
  ·have:=Ko aG 4 cu (by omega);omega
theorem Inv.grown(hi:Inv N ι σ w)(hN:σ.n<N){cs:List IV}{vs:List Value}(hr:ax ι cs vs)(rest:List Value)(el:TypeId){size m c:Nat}(hs:0<size)(hm:cs.length=m*size)
 (hc:(vs++rest).length=c*size)(Rw:m≤c):
 let w':World:={w with heap:=w.heap.push (.cells (vs++rest).toArray el),drawn:=w.drawn+1}
 ∃ay,Rv ay (.sl σ.n 0 m none 0 size) (.slice (some ⟨w.heap.size,0,none⟩) m c)∧Inv N ay (σ.add (.cells cs 0 0)) w'∧Le ro ι w σ ay w' (σ.add (.cells cs 0 0)):=by
 intro w';obtain⟨h1,h2⟩:=hi.Rr (ro:=ro) hN hr rest el (w':=w') rfl rfl rfl rfl;exact⟨_,.sl _ _ _ _ _ _ _ _ _ (bX _ _ _ _) (by simp[hm]) (by simp only[atx];rw[hc];exact ar9 _) hs Rw (fun k hk=>by cases hk) (fun _=>rfl),h1,h2⟩
theorem Inv.aeQ(hi:Inv N ι σ w){id ar mn:Nat}{cs new:List IV}{b_:List Value}(az:σ.at id=some (.cells cs ar mn))(cy:ro≤id)(hr:ax ι new b_)
 {l:Loc}{c:Array Value}{el:TypeId}(hl:ι id ar=some l)(vm:w.heap[l.b]?=some (.cells c el (0,0)))(aa:cs.length+b_.length≤c.size):
 let w':=w.setRow l.b (c.toList.take cs.length++b_++c.toList.drop (cs.length+b_.length)).toArray
 let ay:=dF ι id (ar+1) ⟨l.b,cs.length+new.length,l.lim⟩
 Inv N ay (σ.put id (.cells (cs++new) (ar+1) mn)) w'∧Le ro ι w σ ay w' (σ.put id (.cells (cs++new) (ar+1) mn)):=by
 intro w' ay;have dr:=hi.obj id _ az;obtain⟨⟨tM,gE⟩,⟨l0,jB,kf⟩,aT⟩:=dr;obtain rfl:l=l0:=by rw[hl]at jB;exact aus jB
 have jI:ι id (ar+1)=none:=gE _ (by omega);have iV:=kc (l:=⟨l.b,cs.length+new.length,l.lim⟩) jI
 have gH:l.lim=c.size:=by
  obtain⟨l2,c2,MZ,h1,_,h3,h4,_⟩:=aT ar tM (ar9 _);rw[hl]at h1;cases h1;rw[vm]at h3;cases h3;exact h4
 have tP:w'.heap[l.b]?=some (.cells (c.toList.take cs.length++b_++c.toList.drop (cs.length+b_.length)).toArray el (0,0)):=setRow_heap w l.b c _ el _ vm;have Wh:=hr.1;refine hi.put az cy ⟨_,_,hl⟩ iV (fun i bc e=>by simp[ay,dF,bc]) ?_ (by simp only[w'];rw[setRow_size];exact ar9 _) (fun b _ gE=>ub _ _ _ _ ?_) rfl rfl rfl ?_
 ·intro b hb;rcases lK hb with hb|⟨_,hb⟩
  ·exact .inl hb
  ·subst hb;exact .inl ⟨_,_,hl,rfl⟩
 ·intro e;subst e;exact gE ⟨_,_,hl,rfl⟩
 ·refine⟨⟨by omega,fun e he=>?_⟩,⟨_,bX _ _ _ _,by simp⟩,fun e he j_=>?_⟩
  ·have:e≠ar+1:=by omega
   simp[ay,dF,this,gE e (by omega)]
  ·by_cases Kp:e=ar+1
   ·subst Kp;refine⟨_,_,el,bX _ _ _ _,by simp,tP,by simp;omega,fun k x hk hx=>?_⟩;obtain⟨l2,c2,MZ,h1,_,h3,_,h5⟩:=aT ar tM (ar9 _);rw[hl]at h1;cases h1;rw[vm]at h3;cases h3;by_cases wb:k<cs.length
    ·rw[asf wb]at hx;obtain⟨u,hu,iK⟩:=h5 k x (by omega) hx;refine⟨u,?_,iK.mono iV⟩;rw[atK,asv,asf (by simp;omega),asF,if_pos wb];simpa using hu
    ·rw[asw (by omega)]at hx;obtain⟨u,hu,iK⟩:=hr.get hx;have Rx:=(ar5.1 hu).1;refine⟨u,?_,iK.mono iV⟩;rw[atK,asf (by simp;omega),asw (by simp;omega)];simp only[auc,avb,avP (show cs.length≤c.size by omega)];exact hu
   ·obtain⟨l2,c2,MZ,h1,h2,h3,h4,h5⟩:=aT e he (by omega);by_cases Hp:l2.b=l.b
    ·rw[Hp,vm]at h3;cases h3;refine⟨l2,_,el,iV _ _ _ h1,by simp;omega,by rw[Hp];exact tP,by simp;omega,fun k x hk hx=>?_⟩;rw[asf (by omega)]at hx;obtain⟨u,hu,iK⟩:=h5 k x hk hx;refine⟨u,?_,iK.mono iV⟩;rw[atK,asv,asf (by simp;omega),asF,if_pos (by omega)];simpa using hu
    ·refine⟨l2,c2,MZ,iV _ _ _ h1,by simp;omega,by simp only[w'];rw[ub _ _ _ _ Hp];exact h3,h4,fun k x hk hx=>?_⟩;rw[asf (by omega)]at hx;obtain⟨u,hu,iK⟩:=h5 k x hk hx;exact⟨u,hu,iK.mono iV⟩
theorem Inv.ado(hi:Inv N ι σ w){id ar mn:Nat}{cs new:List IV}{zL b_:List Value}(az:σ.at id=some (.cells cs ar mn))(cy:ro≤id)(ano:ax ι cs zL)(hr:ax ι new b_)
 (rest:List Value)(el:TypeId):
 let w':World:={w with heap:=w.heap.push (.cells (zL++b_++rest).toArray el),drawn:=w.drawn+1}
 let ay:=dF ι id (ar+1) ⟨w.heap.size,cs.length+new.length,(zL++b_++rest).length⟩
 Inv N ay (σ.put id (.cells (cs++new) (ar+1) mn)) w'∧Le ro ι w σ ay w' (σ.put id (.cells (cs++new) (ar+1) mn)):=by
 intro w' ay;have dr:=hi.obj id _ az;obtain⟨⟨tM,gE⟩,⟨l0,jB,kf⟩,aT⟩:=dr;have jI:ι id (ar+1)=none:=gE _ (by omega);have iV:=kc (l:=⟨w.heap.size,cs.length+new.length,(zL++b_++rest).length⟩) jI;have hold:∀b,b<w.heap.size→w'.heap[b]?=w.heap[b]? :=fun b hb=>by simp only[w'];rw[Array.getElem?_push,if_neg (by omega)]
 have tP:w'.heap[w.heap.size]?=some (.cells (zL++b_++rest).toArray el (0,0)):=by simp[w']
 refine hi.put az cy ⟨_,_,jB⟩ iV (fun i bc e=>by simp[ay,dF,bc]) ?_ (by simp[w']) (fun b hb _=>hold b hb) rfl rfl rfl ?_
 ·intro b hb;rcases lK hb with hb|⟨_,hb⟩
  ·exact .inl hb
  ·subst hb;exact .inr ⟨ar9 _,by simp[w']⟩
 ·refine⟨⟨by omega,fun e he=>?_⟩,⟨_,bX _ _ _ _,by simp⟩,fun e he j_=>?_⟩
  ·have:e≠ar+1:=by omega
   simp[ay,dF,this,gE e (by omega)]
  ·by_cases Kp:e=ar+1
   ·subst Kp;refine⟨_,_,el,bX _ _ _ _,by simp,tP,by simp,fun k x hk hx=>?_⟩;obtain⟨u,hu,iK⟩:=(ano.append hr).get hx;have Rx:=(ar5.1 hu).1;refine⟨u,?_,iK.mono iV⟩;rw[atK,asf Rx];exact hu
   ·obtain⟨l2,c2,MZ,h1,h2,h3,h4,h5⟩:=aT e he (by omega);have aa:l2.b<w.heap.size:=hi.jA id _ ⟨_,_,h1,rfl⟩;refine⟨l2,c2,MZ,iV _ _ _ h1,by simp;omega,by rw[hold _ aa];exact h3,h4,fun k x hk hx=>?_⟩;rw[asf (by omega)]at hx;obtain⟨u,hu,iK⟩:=h5 k x hk hx;exact⟨u,hu,iK.mono iV⟩
end Go.Ev
namespace Go.Ev
variable{P:Program}{N ro:Nat}{ι:Io}{w:World}{σ:St}{ρ:Operand→IV}{r:Operand→Value}{o:Oper}{out:ez}
def qC(P:Program)(ro:Nat)(N:Nat)(ι:Io)(w:World)(σ:St)(s:Sem Value)(v:IV)(ah:St):Prop:=
 ∃u w' ay,s.run P w=.ok u w'∧Rv ay v u∧Inv N ay ah w'∧Le ro ι w σ ay w' ah
theorem Ja(aG cu:Nat)(el:TypeId)(w:World):∃c,aG≤c∧(choose (.appendCap aG cu el)).run P w=.ok c {w with drawn:=w.drawn+1}:=by
 refine⟨(Question.appendCap aG cu el).cut (w.tape w.drawn (.appendCap aG cu el)),?_,?_⟩
 ·simp only[Question.cut];omega
 ·simp[choose,atX,Question.forced]
structure Af(P:Program)(elem:TypeId)(size bytes aO n:Nat)(zero:Value):Prop where
 ard:aI P elem=some size
 hzero:cj P elem=some zero
 aeR:(P.info? elem).map (·.bytes)=some bytes
 om:size≠0
 hz:zero.cells.size=size
 I_:(4*(aO+n)+4096)*bytes≤2 ^47
 T5:aO+n≤2 ^40
def M4:TypeDesc->Bool
 | .int _=>true
 | _=>false
theorem C3{xd:TypeDesc}(h:∀k,xd≠.int k):M4 xd=false:=by cases xd <;> first | rfl | grind
structure AppK (elem:TypeId) (base:Option Addr) (aO eC size:Nat) (x:Value) where
 big:Bool->Sem Value
 rest:Bool->Nat->Sem Value
 eq:∀{P:Program}{w:World}{argTypes:Array TypeId}{ty sT xT:TypeId},argTypes[0]?=some sT->argTypes[1]?=some xT->P.underlying sT=some (.slice elem)->aI P elem=some size->
  (auB argTypes ty #[.slice base aO eC,x]).run P w=(do
   let u <- underlying xT
   let gL <- pure (M4 u)
   if gL then big gL
   else do
    let n <- auM x
    rest gL n).run P w
def appK(elem:TypeId) (base:Option Addr) (aO eC size:Nat) (x:Value):AppK elem base aO eC size x:=by
 apply AppK.mk
 intro P w argTypes ty sT xT h0 h1 hu hs
 unfold auB
 rw [h0,h1]
 show atX P (do
  let __x <- underlying sT
  _) w=_
 rw [asa,aN hu,ar8]
 show atX P (do
  let size <- sizeOf elem
  _) w=_
 rw [asa,eB hs,ar8]
 rfl
def n9(elem:TypeId) (gL:Bool) (base:Option Addr) (aO eC size n:Nat) (x:Value):Sem Value:=(appK elem base aO eC size x).rest gL n
theorem zeroC{z:Value}{size n:Nat}(h:z.cells.size=size) (hs:size≠0):atL z.cells n=((asn n z.cells.toList).flatten).toArray:=by
 unfold atL
 rw [h]
 have:=xx z.cells size n h hs
 rwa [h] at this
def uM(P:Program) (elem:TypeId) (size n:Nat) (x:Value) (b_:List Value) (w:World):Bool->Prop
 | false=>(ata size n x).run P w=.ok b_.toArray w
 | true=>∃z,cj P elem=some z/\z.cells.size=size/\size≠0/\b_=(asn n z.cells.toList).flatten
theorem Jb{elem:TypeId}{gL:Bool}{base:Option Addr}{aO eC size n:Nat}{x:Value}{b_:List Value}(hle:aO + n<=eC) (dG:uM P elem size n x b_ w gL):
  (n9 elem gL base aO eC size n x).run P w=(match base with
   | some a=>(storeCells (a.add (aO * size)) b_).run P w
   | none=>.ok () w).andThen fun _ w'=>.ok (.slice base (aO + n) eC) w':=by
 cases gL
 .have hn:(ata size n x).run P w=_:=dG
  simp only [n9,appK,if_pos hle,asa]
  cases base <;> simp [hn]
 have ⟨z,h0,h1,h2,h3⟩:=dG
 subst h3
 simp only [n9,appK,if_pos hle,asa]
 by_cases h4:n=0
 .subst h4
  cases base <;> simp
 .cases base <;> simp [iu h0,zeroC h1 h2,h4,h2,Nat.mul_ne_zero h4 h2]
theorem M1{elem:TypeId}{gL:Bool}{base:Option Addr}{aO eC size n bytes:Nat}{zero x:Value}{zL b_:List Value}(ha:Af P elem size bytes aO n zero) (M3:¬ aO + n<=eC)
  (dG:∀d,uM P elem size n x b_ { w with drawn:=d } gL) (hold:∀d,(ata size aO (.slice base aO eC)).run P { w with drawn:=d }=.ok zL.toArray { w with drawn:=d }):
  ∃c rest,aO + n<=c/\rest.length=(c - (aO + n)) * size/\
   (n9 elem gL base aO eC size n x).run P w=.ok (.slice (some ⟨w.heap.size,0,none⟩) (aO + n) c) { w with heap:=w.heap.push (.cells (zL ++ b_ ++ rest).toArray elem),drawn:=w.drawn + 1 }:=by
 have ⟨i,hi,hb,hti⟩:=CZ ha.aeR w
 have anp:∀w':World,(typeInfo elem).run P w'=.ok i w':=fun w'=>by simp [typeInfo,hi]
 have ⟨c,hc,hch⟩:=Ja (P:=P) (aO + n) eC elem w
 have ho:=hold (w.drawn + 1)
 have h1:¬ ((aO + n:Nat):Int) > aso.max:=by
  have:aso.max=9223372036854775807:=by decide
  have:=ha.T5
  omega
 have h2:¬ at2 (aO + n) eC * i.bytes > 2 ^ 48:=by
  have fv:=T4 (aG:=aO + n) (cu:=eC) (by omega)
  have:at2 (aO + n) eC * i.bytes<=(4 * (aO + n) + 4096) * i.bytes:=asB _ fv
  have:=ha.I_
  grind
 have lZ:(zeroValue elem).run P { w with drawn:=w.drawn + 1 }=.ok zero { w with drawn:=w.drawn + 1 }:=iu ha.hzero _
 have fw:atL zero.cells (c - (aO + n))=((asn (c - (aO + n)) zero.cells.toList).flatten).toArray:=by
  unfold atL
  rw [ha.hz]
  have:=xx zero.cells size (c - (aO + n)) ha.hz ha.om
  simp_all [ha.hz]
 refine ⟨c,(asn (c - (aO + n)) zero.cells.toList).flatten,hc,C2 zero size _ ha.hz,?_⟩
 cases gL
 .have hn:(ata size n x).run P { w with drawn:=w.drawn + 1 }=_:=dG (w.drawn + 1)
  simp only [n9,appK,if_neg M3,asa,anp,ar8,h1,false_and,if_false,h2,hch,run_askRoom,Bool.not_false,if_true,asj,List.getElem_toArray,List.getElem_cons_zero,List.getElem_cons_succ,ho,hn,lZ,fw,newRow,run_newObj]
  simp
 have ⟨z,k0,k1,k2,k3⟩:=dG (w.drawn + 1)
 cases ha.hzero.symm.trans k0
 subst k3
 have hN:n≠0->n * size≠0:=fun h=>Nat.mul_ne_zero h k2
 have hz':=zeroC (n:=n) k1 k2
 by_cases h4:n=0
 .subst h4
  simp only [n9,appK,if_neg M3,asa,anp,ar8,h1,false_and,if_false,h2,hch,run_askRoom,Bool.not_true,asD,Nat.zero_mul,if_true,asj,List.getElem_toArray,List.getElem_cons_zero,ho,lZ,fw,newRow,run_newObj]
  simp
 .simp only [n9,appK,if_neg M3,asa,anp,ar8,h1,false_and,if_false,h2,hch,run_askRoom,Bool.not_true,asD,if_neg (hN h4),asj,List.getElem_toArray,List.getElem_cons_zero,ho,hz',lZ,fw,newRow,run_newObj]
  simp
theorem Q0{argTypes:Array TypeId}{ty sT xT elem:TypeId}{xd:TypeDesc}{base:Option Addr}{aO eC size n:Nat}{x:Value}(h0:argTypes[0]?=some sT) (h1:argTypes[1]?=some xT)
  (hu:P.underlying sT=some (.slice elem)) (hx:P.underlying xT=some xd) (hd:∀k,xd≠.int k) (hs:aI P elem=some size) (hn:(auM x).run P w=.ok n w):
  (auB argTypes ty #[.slice base aO eC,x]).run P w=(n9 elem false base aO eC size n x).run P w:=by
 rw [(appK elem base aO eC size x).eq h0 h1 hu hs,asa,aN hx,ar8,C3 hd]
 show atX P (do
  let n <- auM x
  _) w=_
 rw [asa,hn,ar8]
 rfl
theorem Q1{argTypes:Array TypeId}{ty sT xT elem:TypeId}{k:IntKind}{base:Option Addr}{aO eC size bytes:Nat}{l:Int}(h0:argTypes[0]?=some sT) (h1:argTypes[1]?=some xT)
  (hu:P.underlying sT=some (.slice elem)) (hx:P.underlying xT=some (.int k)) (hs:aI P elem=some size) (hb:(P.info? elem).map (·.bytes)=some bytes) (jB:0<=l) (tR:l<=1000000)
  (I_:l.toNat * bytes<=2 ^ 48):
  (auB argTypes ty #[.slice base aO eC,.int .i64 l]).run P w=(n9 elem true base aO eC size l.toNat (.int .i64 l)).run P w:=by
 have ⟨i,hi,MY,hti⟩:=CZ hb w
 have wl:aso.wrap l=l:=avD _ (by omega)
 have c1:¬ l < 0:=by omega
 have c2:¬ l * (i.bytes:Int) > 2 ^ 48:=by
  grind
 rw [(appK elem base aO eC size _).eq h0 h1 hu hs,asa,aN hx,ar8]
 show atX P (if aso.wrap l < 0 then _ else (do
  let t <- typeInfo elem
  if aso.wrap l * (t.bytes:Int) > 2 ^ 48 then _ else _)) w=_
 rw [wl,if_neg c1,asa,hti,ar8,if_neg c2]
 rfl
theorem M5{size n:Nat}{zero:Value}{xd:TypeDesc}{x:IV}{vx:Value}{new:List IV}{elem:TypeId}(hi:Inv N ι σ w)(hs:size≠0)(hz:zero.cells.size=size)(lZ:cj P elem=some zero)
 (h:rO size zero xd σ x=some (n,new))(hx:Rv ι x vx):
 ∃b_,ax ι new b_∧(∀d,uM P elem size n vx b_ {w with drawn:=d} (M4 xd))∧
  ((∃k,xd=.int k∧∃l,vx=.int .i64 l∧0≤l∧l≤1000000∧n=l.toNat)∨((∀k,xd≠.int k)∧(auM vx).run P w=.ok n w)):=by
 unfold rO at h;split at h
 ·rename_i k;split at h
  ·rename_i l;split at h
   ·rename_i hl;cases h;cases hx;refine⟨_,yE zero size l.toNat hz hs,fun d=>?_,.inl ⟨k,rfl,l,rfl,hl.1,hl.2,rfl⟩⟩;exact ⟨_,lZ,hz,hs,rfl⟩
   ·cases h
  ·cases h
 ·rename_i hd;split at h
  ·rename_i n' hn;split at h
   ·rename_i cs hc;cases h;obtain⟨vs,h1,h2⟩:=yF (P:=P) hi hc hx;refine⟨vs,h2,fun d=>?_,.inr ⟨hd,Rt hn hx w⟩⟩;rw [C3 hd];exact h1 _ rfl
   ·cases h
  ·cases h
theorem Ba{elem:TypeId}{gL:Bool}{size bytes aO n eC:Nat}{zero vx:Value}{base:Option Addr}{s v:IV}{new:List IV}{b_:List Value}{ah:St}(hi:Inv N ι σ w)
 (ha:Af P elem size bytes aO n zero)(M3:¬aO+n≤eC)(hr:ax ι new b_)(hlen:new.length=n*size)(dG:∀d,uM P elem size n vx b_ {w with drawn:=d} gL)
 (hs:Rv ι s (.slice base aO eC))(h:ff size aO n new s σ=some (.val v ah))(hN:ah.n≤N):
 qC P ro N ι w σ (n9 elem gL base aO eC size n vx) v ah:=by
 unfold ff at h;split at h
 ·rename_i cu ho;split at h
  ·rename_i Ry;cases h;obtain⟨zL,h1,h2⟩:=yF (P:=P) hi ho hs;obtain⟨c,rest,hc,lq,fG⟩:=M1 (base:=base) ha M3 dG (fun d=>h1 _ rfl);have om:=ha.om
   obtain⟨ay,r1,r2,r3⟩:=hi.grown (ro:=ro) (by simp at hN;omega) (h2.append hr) rest elem (size:=size) (m:=aO+n) (c:=c) (by omega) (by simp[Ry,hlen,asG])
    (by
     have e1:=h2.1;have e2:=hr.1;simp only[asu,lq,←e1,←e2,Ry,hlen];rw[←asG,←asG]
     congr 1;omega) hc
   exact⟨_,_,ay,fG,r1,r2,r3⟩
  ·cases h
 ·cases h
theorem Inv.shrink(hi:Inv N ι σ w){id ar mn k:Nat}{cs:List IV}{l:Loc}(az:σ.at id=some (.cells cs ar mn))(cy:ro≤id)(hl:ι id ar=some l)(hk:k≤cs.length):
 Inv N (dF ι id (ar+1) ⟨l.b,k,l.lim⟩) (σ.put id (.cells (cs.take k) (ar+1) (ar+1))) w∧Le ro ι w σ (dF ι id (ar+1) ⟨l.b,k,l.lim⟩) w (σ.put id (.cells (cs.take k) (ar+1) (ar+1))):=by
 obtain⟨⟨tM,gE⟩,⟨l0,jB,kf⟩,aT⟩:=hi.obj id _ az;obtain rfl:l=l0:=by rw[hl]at jB;exact aus jB
 have jI:ι id (ar+1)=none:=gE _ (by omega);have iV:=kc (l:=⟨l.b,k,l.lim⟩) jI;refine hi.put az cy ⟨_,_,hl⟩ iV (fun i bc e=>by simp[dF,bc]) ?_ (ar9 _) (fun _ _ _=>rfl) rfl rfl rfl ?_
 ·intro b hb;rcases lK hb with hb|⟨_,hb⟩
  ·exact .inl hb
  ·subst hb;exact .inl ⟨_,_,hl,rfl⟩
 ·refine⟨⟨ar9 _,fun e he=>?_⟩,⟨_,bX _ _ _ _,by simp;omega⟩,fun e he j_=>?_⟩
  ·have:e≠ar+1:=by omega
   simp[dF,this,gE e (by omega)]
  ·have Kp:e=ar+1:=by omega
   subst Kp;obtain⟨l2,c2,MZ,h1,_,h3,h4,h5⟩:=aT ar tM (ar9 _);rw[hl]at h1;cases h1;refine⟨_,c2,MZ,bX _ _ _ _,by simp;omega,h3,h4,fun j x hj hx=>?_⟩;simp only at hj;rw[asF,if_pos hj]at hx;obtain⟨u,hu,iK⟩:=h5 j x (by omega) hx;exact⟨u,hu,iK.mono iV⟩
theorem C4{elem:TypeId}{gL:Bool}{st bytes aO n id ar mn c:Nat}{zero vx:Value}{new cs:List IV}{b_:List Value}{l:Loc}{a:Addr}(hi:Inv N ι σ w)
 (ha:Af P elem st bytes aO n zero)(hr:ax ι new b_)(hlen:new.length=n*st)(bf:new.all ab=true)(dG:∀d,uM P elem st n vx b_ {w with drawn:=d} gL)
 (az:σ.at id=some (.cells cs ar mn))(cy:ro≤id)(hl:ι id ar=some l)(hn:0+aO*st≤l.n)(gH:0+c*st≤l.lim)(bu:0<st)(hle:aO≤c)(Hr:0<c→a=⟨l.b,0,none⟩)
 (mv:aO*st=cs.length)(h0:¬n=0):
 qC P ro N ι w σ (n9 elem gL (some a) aO c st n vx) (.sl id 0 (aO+n) none (ar+1) st) (σ.put id (.cells (cs++new) (ar+1) mn)):=by
 have hw:({w with drawn:=w.drawn}:World)=w:=rfl;have T6:Rv ι (.sl id 0 aO none ar st) (.slice (some a) aO c):=.sl _ _ _ _ _ _ l c a hl hn gH bu hle (fun k hk=>by cases hk) Hr;obtain⟨⟨tM,_⟩,⟨l3,h3,h4⟩,_⟩:=hi.obj id _ az;rw[hl]at h3;cases h3;by_cases su:aO+n≤c
 ·obtain⟨l2,cc,el,fi,Jc,arM,vm,are,_⟩:=Eu (hi.obj id _ az) tM (ar9 _);rw[hl]at fi;cases fi;have hmul:(aO+n)*st≤c*st:=asB st su;have Wh:=hr.1;have aa:cs.length+b_.length≤cc.size:=by rw[asG]at hmul;omega
  obtain⟨r1,r2⟩:=hi.aeQ (ro:=ro) az cy hr hl vm aa;have xz:=Hr (by omega);subst xz;refine⟨.slice (some ⟨l.b,0,none⟩) (aO+n) c,_,_,?_,?_,r1,r2⟩
  ·rw[Jb su (dG w.drawn),hw];simp only[gJ,atx,mv,ll (P:=P) vm aa (so hr bf),ar8]
  ·exact .sl _ _ _ _ _ _ _ c _ (bX _ _ _ _) (by simp only[atx,hlen,←mv,asG];exact ar9 _) gH bu su (fun k hk=>by cases hk) (fun _=>rfl)
 ·have Hs:eG st aO σ (.sl id 0 aO none ar st)=some cs:=by
   simp only[eG,az];simp[tM,mv]
  obtain⟨zL,h5,h6⟩:=yF (P:=P) hi Hs T6;obtain⟨c',rest,xA,lq,fG⟩:=M1 (base:=some a) ha su dG (fun d=>h5 _ rfl);obtain⟨r1,r2⟩:=hi.ado (ro:=ro) az cy h6 hr rest elem;refine⟨_,_,_,fG,?_,r1,r2⟩;refine .sl _ _ _ _ _ _ _ c' _ (bX _ _ _ _) ?_ ?_ bu xA (fun k hk=>by cases hk) (fun _=>rfl)
  ·simp only[atx,hlen,←mv,asG];exact ar9 _
  ·have e1:=h6.1;have e2:=hr.1;simp only[atx,asu,lq,←e1,←e2,hlen,←mv];rw[←asG,←asG];exact asB _ (by omega)
theorem Q2{elem:TypeId}{gL:Bool}{size bytes aO n:Nat}{zero vs vx:Value}{s v:IV}{new:List IV}{b_:List Value}{ah:St}(hi:Inv N ι σ w)
 (ha:Af P elem size bytes aO n zero)(hr:ax ι new b_)(hlen:new.length=n*size)(bf:new.all ab=true)(dG:∀d,uM P elem size n vx b_ {w with drawn:=d} gL)
 (hs:Rv ι s vs)(oE:j8 s=some aO)(h:eA ro size aO n new s σ=some (.val v ah))(hN:ah.n≤N):
 ∃base eC,vs=.slice base aO eC∧qC P ro N ι w σ (n9 elem gL base aO eC size n vx) v ah:=by
 have hw:({w with drawn:=w.drawn}:World)=w:=rfl;have om:=ha.om
 have stay:∀{base:Option Addr} {eC:Nat},n=0→aO≤eC→(∃a,base=some a)∨base=none→∀{u:IV},Rv ι u (.slice base aO eC)→
  qC P ro N ι w σ (n9 elem gL base aO eC size n vx) u σ:=by
  intro base eC h0 hle hb u hu;subst h0;have hv:b_=[]:=List.eq_nil_of_length_eq_zero (by have:=hr.1;rw[au9]at hlen;omega);subst hv;refine⟨_,w,ι,?_,hu,hi,Le.refl _ _ _ _⟩;rw[Jb (by simpa using hle) (dG w.drawn)];cases base<;>simp[storeCells]
 unfold eA at h;split at h
 ·rename_i l c;split at h
  ·rename_i mv;obtain⟨rfl,rfl⟩:=mv;have e0:aO=0:=by simp[j8]at oE;exact oE.symm
   subst e0;cases hs;refine⟨none,0,rfl,?_⟩;split at h
   ·rename_i h0;cases h;exact stay h0 (ar9 _) (.inr rfl) (.raw _)
   ·rename_i h0;exact Ba hi ha (by omega) hr hlen dG (.raw _) h hN
  ·cases h
 ·have e0:aO=0:=by simp[j8]at oE;exact oE.symm
  subst e0;cases hs with
  |emp a=>
   refine⟨some a,0,rfl,?_⟩;split at h
   ·rename_i h0;cases h;exact stay h0 (ar9 _) (.inl ⟨a,rfl⟩) (.emp a)
   ·rename_i h0;exact Ba hi ha (by omega) hr hlen dG (.emp a) h hN
 ·rename_i st es;have e0:aO=es.length:=by simp[j8]at oE;exact oE.symm
  subst e0;split at h
  ·rename_i h0;cases h;cases hs with
   |tree _ _ b off c us bu hc bD hu hh=>exact⟨_,c,rfl,stay h0 hc (.inl ⟨_,rfl⟩) (.tree _ _ b off c us bu hc bD hu hh)⟩
   |dW _ a c bu hn=>exact⟨a,c,rfl,stay h0 (Nat.zero_le _) (by cases a with|none=>exact .inr rfl|some a=>exact .inl ⟨a,rfl⟩) (.dW _ a c bu hn)⟩
  ·cases h
 ·rename_i id off len cap ep st;have e0:aO=len:=by simp[j8]at oE;exact oE.symm
  subst e0;split at h
  ·cases h
  ·rename_i dK;have dK:st=size:=asM dK;subst dK;cases hs with
   |sl _ _ _ _ _ _ l c a hl hn gH bu hle fv Hr=>
    refine⟨some a,c,rfl,?_⟩;have T6:Rv ι (.sl id off aO cap ep st) (.slice (some a) aO c):=.sl _ _ _ _ _ _ l c a hl hn gH bu hle fv Hr;split at h
    ·rename_i h0;cases h;exact stay h0 hle (.inl ⟨a,rfl⟩) T6
    ·rename_i h0;split at h
     ·rename_i k;have hck:=(fv k rfl).1;subst hck;split at h
      ·rename_i su;split at h
       ·rename_i cs ar mn az;split at h
        ·rename_i hc;obtain⟨cy,rfl,C1⟩:=hc;cases h;have aiQ:off+aO*st+new.length≤cs.length:=by rw[hlen];rw[asG]at C1;omega
         obtain⟨l2,cc,el,fi,vm,aa,r1,r2⟩:=hi.write (ro:=ro) az cy aiQ hr;rw[hl]at fi;cases fi
         have tQ:l.n=cs.length:=by
          obtain⟨_,⟨l3,h3,h4⟩,_⟩:=hi.obj id _ az;rw[hl]at h3;cases h3;exact h4
         have xz:=Hr (by omega);subst xz;refine⟨.slice (some ⟨l.b,off,none⟩) (aO+n) c,_,ι,?_,?_,r1,r2⟩
         ·rw[Jb su (dG w.drawn),hw];simp only[gJ,ll (P:=P) vm aa (so hr bf),ar8]
         ·exact .sl _ _ _ _ _ _ l c _ hl (by omega) gH bu su fv (fun _=>rfl)
        ·cases h
       ·cases h
      ·rename_i su;exact Ba hi ha su hr hlen dG T6 h hN
     ·split at h
      ·rename_i cs ar mn az;split at h
       ·rename_i hc;obtain⟨cy,rfl,rfl,mv⟩:=hc;cases h;exact C4 hi ha hr hlen bf dG az cy hl hn gH bu hle Hr mv h0
       ·split at h
        ·rename_i hc;obtain⟨cy,rfl,rfl,mv⟩:=hc;cases h;obtain⟨i1,l1⟩:=hi.shrink (ro:=ro) az cy hl mv;have hx:=l1.ext;have:=C4 (ro:=ro) (id:=id) (ar:=ep+1) (mn:=ep+1) (cs:=cs.take (aO*st)) (l:=⟨l.b,aO*st,l.lim⟩) (a:=a) i1 ha (hr.mono hx) hlen bf dG (by rw[St.cJ,if_pos rfl]) cy (bX _ _ _ _) (by simp) gH bu hle Hr (by rw[auc];omega) h0;obtain⟨u,w',ay,k1,k2,k3,k4⟩:=this;exact⟨u,w',ay,k1,k2,k3,Le.trans (fun id h1 h2=>by simp only[St.mU]at h2;omega) l1 k4⟩
        ·cases h
      ·cases h
 ·cases h
theorem Wl{argTypes:Array TypeId}{ty:TypeId}{s x v:IV}{vs vx:Value}{ah:St}(hi:Inv N ι σ w)(hs:Rv ι s vs)(hx:Rv ι x vx)(h:jZ P ro argTypes s x σ=some (.val v ah))(hN:ah.n≤N):
 qC P ro N ι w σ (auB argTypes ty #[vs,vx]) v ah:=by
 unfold jZ at h;split at h
 ·rename_i sT xT h0 h1;split at h
  ·rename_i elem xd hu hxd;split at h
   ·rename_i size zero bytes aK hz hb;split at h
    ·cases h
    ·rename_i hc;have bu:size≠0:=fun e=>hc (.inl e);have rP:zero.cells.size=size:=asM fun e=>hc (.inr e);split at h
     ·rename_i n new aO Wm hls;split at h
      ·rename_i bJ;obtain⟨hlen,bf,I_,T5⟩:=bJ;obtain⟨b_,hr,dG,sw⟩:=M5 hi bu rP hz Wm hx;have ha:Af P elem size bytes aO n zero:=⟨aK,hz,hb,bu,rP,I_,T5⟩;obtain⟨base,eC,rfl,u,w',ay,fG,g⟩:=Q2 hi ha hr hlen bf dG hs hls h hN;refine⟨u,w',ay,?_,g⟩;rcases sw with⟨k,rfl,l,rfl,jB,tR,rfl⟩|⟨hd,hn⟩
       ·have Hp:l.toNat*bytes≤2 ^48:=by
         have:l.toNat*bytes≤(4*(aO+l.toNat)+4096)*bytes:=asB _ (by omega);omega
        rw[Q1 h0 h1 hu hxd aK hb jB tR Hp];exact fG
       ·rw[Q0 h0 h1 hu hxd hd aK hn];rw[C3 hd]at fG;exact fG
      ·cases h
     ·cases h
   ·cases h
  ·cases h
 ·cases h
end Go.Ev
