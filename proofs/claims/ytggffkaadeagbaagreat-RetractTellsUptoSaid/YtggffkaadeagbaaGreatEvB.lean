/- Lemmas over the model, without conditions of their own: operations of the ideal machine are sound (1). -/
import Derived.Test.YtggffkaadeagbaaGreatEvA
import Derived.Lib.Strings
import Derived.IntWalk
open Nat renaming le_refl->asR,zero_add->auf,min_eq_left->avQ,mul_le_mul_right->atk,add_mul->atq,mul_eq_zero->aww,zero_mul->avO
open List renaming getElem?_eq_some_iff->asM,getElem?_toArray->aut,getElem?_append_left->asY,range->aup,getElem?_map->as4,take_take->awF,length_take->at5,append_assoc->atf,length_append->atc,getElem?_take->atp,replicate->ate,flatten_cons->avh,ext_getElem?->awf,getElem?_eq_none->awS,map_cons->atJ,replicate_succ->au0,length_cons->atG,getElem?_cons_succ->ava,getElem?_append_right->atm,flatMap_cons->ave
open Go.Instr renaming loadAt->axT,sureAddr->au8,extract->axG,makeMap->axH,fieldAt->axI,indexAt->awC,index->ax1,fill->ayc,build->ax2
open Option renaming map_eq_some_iff->asS,isSome_iff_exists->avt
open Go.World renaming setRow->axU
open Option.some renaming inj->avB,injEq->asP
open Go.Sem renaming run_bind->asT,run_pure->as5,run->auH
open Go.Op renaming equalIn->aue,equal->avX,stringOp->avj
open Go.Result renaming andThen_ok->asQ
open Go renaming binOp->auB
open ByteArray renaming ext->aym,getElem_eq_getElem_data->ayn
open Go.IntKind renaming i64->as7
open Array renaming ext'->auZ,range->awT,toList_map->awg,getElem?_toList->auM,length_toList->avS,all_eq_true_iff_forall_mem->av3,map_empty->axr
open List.cons renaming injEq->atK
open Classical renaming byContradiction->atA
open Go.IntWalk renaming i64_in->awm
open Bool renaming false_eq_true->atn
open Go.Builtin renaming lenOf->avr,firstCells->atS,growBy->axf,nextslicecap->auN,zeroCells->auu,append_->avf
open Option renaming some->aa,none->ah
open Bool renaming true->ab,false->af
set_option linter.all false
namespace Go.Ev
variable{P:Program}{N ro:Nat}{ι:Io}{w:World}{σ:St}{ρ:Operand->IV}{r:Operand->Value}{o:Oper}{out:eN}
def IB(ro:Nat)(N:Nat)(ι:Io)(w:World)(σ:St)(res:Result Next)(v:IV)(ao:St):Prop:=
 ∃u w' aG,(res=.ok (.value u) w'\/(res=.ok .skip w'/\u=Go.undef))/\Rv aG v u/\Inv N aG ao w'/\Le ro ι w σ aG w' ao
def BJ(ι:Io):Df->Deferred->Prop
 |.DQ id,d=>∃l,ι id 0=aa l/\d={target:=.collected l.b,args:= #[]}
 |.call f args,d=>∃cap us vs:List Value,d={target:=.fn (.func f) cap.toArray,args:=us.toArray}/\aB ι args vs/\vs=us++cap
def bu(P:Program)(ro:Nat)(N:Nat)(ι:Io)(w:World)(σ:St)(r:Operand->Value)(o:Oper):eN->Prop
 |.val v ao=>ao.n<=N->IB ro N ι w σ ((execOp r o).run P w) v ao
 |.enter f args=>∃us:List Value,(execOp r o).run P w=.ok (.enter f us.toArray) w/\aB ι args us
 |.round id args=>∃l,∃us:List Value,ι id 0=aa l/\(execOp r o).run P w=(Instr.yield l.b us.toArray).run P w/\aB ι args us
 |.Te d=>∃dd,(execOp r o).run P w=.ok (.defer dd) w/\BJ ι d dd/\∃c,o.op=.defer c
 |.b_ v=>∃u,(execOp r o).run P w=.halt (.panic u) w/\Rv ι v u
theorem IB.same(hi:Inv N ι σ w){res:Result Next}{v:IV}{u:Value}(h:res=.ok (.value u) w)(hr:Rv ι v u):IB ro N ι w σ res v σ:=
 ⟨u,w,ι,.inl h,hr,hi,Le.refl _ _ _ _⟩
theorem bu.same(hi:Inv N ι σ w){v:IV}{u:Value}(h:(execOp r o).run P w=.ok (.value u) w)(hr:Rv ι v u):bu P ro N ι w σ r o (.val v σ):=
 λ_=>IB.same hi h hr
theorem aJ{v:IV}(h:ret v σ=aa out):out=.val v σ:=by cases h;rfl
theorem Tk{x:Operand}(hi:Inv N ι σ w)(hr:Rv ι (ρ x) (r x))(ho:o.op=.move x\/o.op=.assign x):bu P ro N ι w σ r o (.val (ρ x) σ):=
 bu.same hi (by rcases ho with ho|ho<;>simp[execOp,ho]) hr
theorem aeP{c a b:Operand}(hi:Inv N ι σ w)(hc:Rv ι (ρ c) (r c))(ha:Rv ι (ρ a) (r a))(hb:Rv ι (ρ b) (r b))(ho:o.op=.pick c a b)(h:av P ro ρ o σ=aa out):
 bu P ro N ι w σ r o out:=by
 unfold av at h;rw[ho]at h;simp only at h;split at h
 ·rename_i t ht;rw[ht]at hc;have GL:r c=.bool t:=by generalize hu:r c=u at hc;cases hc;rfl
  obtain rfl:=aJ h;cases t
  ·exact bu.same hi (u:=r b) (by simp[execOp,ho,GL,asBool]) hb
  ·exact bu.same hi (u:=r a) (by simp[execOp,ho,GL,asBool]) ha
 ·cases h
theorem VG{cs:List IV}{vs rest:List Value}{el:TypeId}{w':World}{l:Loc}{id:Nat}(hr:aB ι cs vs)(hl:ι id 0=aa l)(bC:∀e,0<e->ι id e=ah)(hn:l.n=cs.length)(ib:l.lim=(vs++rest).length)
 (hh:w'.heap[l.b]?=aa (.cells (vs++rest).toArray el (0,0))):kZ ι w' id (.cells cs 0 0):=by
 refine⟨⟨asR _,bC⟩,⟨l,hl,hn⟩,λe _ he=>?_⟩;obtain rfl:e=0:=by omega
 refine⟨l,(vs++rest).toArray,el,hl,by omega,hh,by simpa using ib,λk x _ hx=>?_⟩;obtain⟨u,hu,jt⟩:=hr.get hx;refine⟨u,?_,jt⟩;have ai:=(asM.1 hu).1;rw[aut,asY ai];exact hu
theorem Inv.Tl(hi:Inv N ι σ w)(hN:σ.n<N){cs:List IV}{vs:List Value}(hr:aB ι cs vs)(rest:List Value)(el:TypeId){w':World}(hw:w'.heap=w.heap.push (.cells (vs++rest).toArray el))
 (we:w'.os=w.os)(xY:w'.tape=w.tape)(xZ:w'.output=w.output):
 Inv N (dS ι σ.n 0 ⟨w.heap.size,cs.length,(vs++rest).length⟩) (σ.add (.cells cs 0 0)) w'/\Le ro ι w σ (dS ι σ.n 0 ⟨w.heap.size,cs.length,(vs++rest).length⟩) w' (σ.add (.cells cs 0 0)):=by
 have hx:∀e,ι σ.n e=ah:=hi.fresh _ (asR _) hN;have hh:w'.heap[w.heap.size]?=aa (.cells (vs++rest).toArray el (0,0)):=by rw[hw];simp
 refine hi.add hN hw we xY xZ rfl (VG (rest:=rest) (hr.mono (k_ (hx 0))) (cj _ _ _ _) (λe he=>?_) rfl rfl hh);have:e≠0:=by omega
 simp[dS,this,hx e]
theorem Inv.newRow(hi:Inv N ι σ w)(hN:σ.n<N){cs:List IV}{vs:List Value}(hr:aB ι cs vs)(el:TypeId):
 let l:Loc:=⟨w.heap.size,cs.length,vs.length⟩
 let w':World:={w with heap:=w.heap.push (.cells vs.toArray el)}
 Inv N (dS ι σ.n 0 l) (σ.add (.cells cs 0 0)) w'/\Le ro ι w σ (dS ι σ.n 0 l) w' (σ.add (.cells cs 0 0)):=by
 intro l w';have:=hi.Tl (ro:=ro) hN hr [] el (w':=w') (by simp[w']) rfl rfl rfl;simpa[l]using this
theorem abf{t:TypeId}(hi:Inv N ι σ w)(ho:o.op=.alloc t)(h:av P ro ρ o σ=aa out):bu P ro N ι w σ r o out:=by
 unfold av at h;rw[ho]at h;simp only at h;split at h
 ·rename_i z hz;obtain rfl:=aJ h;intro hN;obtain⟨h1,h2⟩:=hi.newRow (ro:=ro) (by simp at hN;omega) (aB.tj (ι:=ι) z.cells.toList) t;refine⟨.pointer (aa ⟨w.heap.size,0,ah⟩),_,_,.inl ?_,?_,h1,h2⟩
  ·simp[execOp,ho,Instr.alloc,ji hz,newVar,newRow]
  ·exact .ptr _ _ _ _ _ (cj _ _ _ _) (by simp)
 ·cases h
theorem agc{t:TypeId}{x:Operand}(hi:Inv N ι σ w)(hr:Rv ι (ρ x) (r x))(ho:o.op=.box t x)(h:av P ro ρ o σ=aa out):bu P ro N ι w σ r o out:=by
 unfold av at h;rw[ho]at h;simp only at h;split at h
 ·rename_i bz;obtain rfl:=aJ h;intro hN;obtain⟨h1,h2⟩:=hi.newRow (ro:=ro) (by simp at hN;omega) (hr.BH bz) t;refine⟨.pointer (aa ⟨w.heap.size,0,ah⟩),_,_,.inl ?_,?_,h1,h2⟩
  ·simp[execOp,ho,Instr.box,newVar,newRow]
  ·have:=(hr.BH bz).1;exact .ptr _ _ _ _ _ (cj _ _ _ _) (by simp only[auf];omega)
 ·cases h
theorem aeQ{t:TypeId}{x:Operand}(hi:Inv N ι σ w)(hr:Rv ι (ρ x) (r x))(ho:o.op=.load t x)(h:av P ro ρ o σ=aa out):bu P ro N ι w σ r o out:=by
 unfold av at h;rw[ho]at h;simp only at h;split at h
 ·rename_i id off ep ext hx;rw[hx]at hr;split at h
  ·rename_i s cs ay mn hs aE;split at h
   ·rename_i hc;split at h
    ·rename_i v hp;obtain rfl:=aJ h;obtain⟨a,u,ha,fU,jt⟩:=DV hi hs aE hc.1 hc.2.1 hc.2.2 hp hr;exact bu.same hi (u:=u) (by simp[execOp,ho,axT,au8,ha,fU]) jt
    ·cases h
   ·cases h
  ·cases h
 ·rename_i cs hx;rw[hx]at hr;split at h
  ·rename_i v hp;obtain rfl:=aJ h;generalize hq:r x=q at hr;cases hr with
   |lN _ b off us hu hh=>
    have kA:za w b off ((aup cs.length).map us):=by
     intro j v hj;simp only[as4,asS]at hj;obtain⟨j',fZ,rfl⟩:=hj
     have:j'=j/\j<cs.length:=by
      rw[asM]at fZ;obtain⟨h1,h2⟩:=fZ;simp at h1 h2;exact⟨h2.symm,h1⟩
     obtain⟨rfl,ai⟩:=this;have hm:=hu j' ai;unfold pk at hm;cases hb:ι.m b with
     |none=>simp[hb]at hm
     |some c=>
      obtain⟨el,f,hh'⟩:=hi.mem b c hb;rw[cell_of hh'];simpa[hb]using hm
    have hl:aB ι cs ((aup cs.length).map us):=by
     refine⟨by simp,λi c v h1 h2=>?_⟩;have ai:=(asM.1 h1).1
     have:v=us i:=by
      simp[ai]at h2;exact h2.symm
     subst this;exact hh i c h1
    obtain⟨u,h1,h2⟩:=Iz (k:=0) hp hl kA;exact bu.same hi (u:=u) (by simp at h1;simp[execOp,ho,axT,au8,hq,h1]) h2
  ·cases h
 ·cases h
end Go.Ev
namespace Go.Ev
variable{P:Program}{N ro:Nat}{ι:Io}{w:World}{σ:St}{ρ:Operand->IV}{r:Operand->Value}{o:Oper}{out:eN}
theorem uY(w:World)(g:Nat)(cs:Array Value)(b:Nat)(h:b≠g):(w.setRow g cs).heap[b]?=w.heap[b]? :=by
 simp only[axU,Array.getElem?_modify];rw[if_neg (by omega)]
theorem setRow_size(w:World)(g:Nat)(cs:Array Value):(w.setRow g cs).heap.size=w.heap.size:=by simp[axU]
theorem tq{cs:List IV}{vs:List Value}(hr:aB ι cs vs)(h:cs.all aj=ab):∀v∈vs,v.oneCell'=ab:=by
 intro v hv;obtain⟨i,hi⟩:=List.mem_iff_getElem?.1 hv;have ai:i<cs.length:=by have:=(asM.1 hi).1;have:=hr.1;omega
 have hc:=hr.2 i cs[i] v (List.getElem?_eq_getElem ai) hi;have hk:=X7 hc (List.all_eq_true.1 h _ (List.getElem_mem ai));cases v<;>first|rfl|exact absurd rfl (hk.1 _)|exact absurd rfl (hk.2 _)
theorem SM(A:List Value)(n off:Nat)(cn:List Value)(h1:off+cn.length<=n)(h2:n<=A.length)(k:Nat)(hk:k<n):
 (A.take off++cn++A.drop (off+cn.length))[k]?=((A.take n).take off++cn++(A.take n).drop (off+cn.length))[k]? :=by
 have e1:(A.take n).take off=A.take off:=by rw[awF,avQ (by omega)]
 have e2:A.drop (off+cn.length)=(A.take n).drop (off+cn.length)++A.drop n:=by
  have hA:A=A.take n++A.drop n:=(List.take_append_drop n A).symm;have hl:(A.take n).length=n:=by rw[at5];omega
  have:=List.drop_append_of_le_length (l₁:=A.take n) (l₂:=A.drop n) (i:=off+cn.length) (by omega);rw[<-hA]at this;exact this
 rw[e1,e2,<-atf];refine asY ?_;simp only[atc,at5,List.length_drop];omega
theorem Inv.write(hi:Inv N ι σ w){id off ay mn:Nat}{cs new:List IV}{cn:List Value}(aE:σ.at id=aa (.cells cs ay mn))(cF:ro<=id)(DW:off+new.length<=cs.length)
 (hr:aB ι new cn):∃l c el,ι id ay=aa l/\w.heap[l.b]?=aa (.cells c el (0,0))/\off+cn.length<=c.size/\
  Inv N ι (σ.put id (.cells (dF cs off new) ay ay)) (w.setRow l.b (c.toList.take off++cn++c.toList.drop (off+cn.length)).toArray)/\
  Le ro ι w σ ι (w.setRow l.b (c.toList.take off++cn++c.toList.drop (off+cn.length)).toArray) (σ.put id (.cells (dF cs off new) ay ay)):=by
 have dH:=hi.obj id _ aE;obtain⟨nD,⟨l0,jC,lg⟩,_⟩:=dH;obtain⟨l,c,el,hl,hn,aU,hc,ib,kA⟩:=FI (hi.obj id _ aE) nD.1 (asR _);obtain rfl:l=l0:=by rw[hl]at jC;exact avB jC
 have GM:=hr.1;have ai:off+cn.length<=c.size:=by omega
 refine⟨l,c,el,hl,hc,ai,?_⟩;refine hi.put aE cF ⟨_,_,hl⟩ (Ext.refl _) (λ_ _ _=>rfl) (λb hb=>.inl hb) (by rw[setRow_size];exact asR _) (λb _ bC=>uY _ _ _ _ ?_) rfl rfl rfl ?_
 ·intro e;subst e;exact bC ⟨_,_,hl,rfl⟩
 ·refine⟨⟨asR _,nD.2⟩,⟨l,hl,by simp[dF,lg];omega⟩,λe he ic=>?_⟩;obtain rfl:e=ay:=by omega
  refine⟨l,_,el,hl,by simp[dF];omega,setRow_heap w l.b c _ el _ hc,by simp;omega,λk x hk hx=>?_⟩;rw[lg,List.take_length]at kA;have pR:cs.length<=c.toList.length:=by simp;omega
  have VH:aB ι (dF cs off new) ((c.toList.take cs.length).take off++cn++(c.toList.take cs.length).drop (off+cn.length)):=kA.dF off hr;obtain⟨u,hu,jt⟩:=VH.get hx;refine⟨u,?_,jt⟩;simp only[aut];rw[<-hu];exact SM c.toList cs.length off cn (by omega) pR k (by omega)
theorem lZ{l:Loc}{c:Array Value}{el:TypeId}{off:Nat}{cn:List Value}(hc:w.heap[l.b]?=aa (.cells c el (0,0)))(ai:off+cn.length<=c.size)(h1:∀v∈cn,v.oneCell'=ab):
 (storeCells ⟨l.b,off,ah⟩ cn).run P w=.ok () (w.setRow l.b (c.toList.take off++cn++c.toList.drop (off+cn.length)).toArray):=by
 have:=run_storeCells_at (P:=P) l.b off el cn 0 c w hc (by omega) h1;simpa using this
theorem abg{t:TypeId}{a x:Operand}(hi:Inv N ι σ w)(ha:Rv ι (ρ a) (r a))(hx:Rv ι (ρ x) (r x))(ho:o.op=.store t a x)(h:av P ro ρ o σ=aa out):bu P ro N ι w σ r o out:=by
 unfold av at h;rw[ho]at h;simp only at h;split at h
 ·rename_i id off ep ext hp;rw[hp]at ha;split at h
  ·rename_i s cs ay mn hs aE;split at h
   ·rename_i hc;obtain⟨cF,hlen,jD,hep,DW,bz⟩:=hc;obtain rfl:=aJ h;intro hN;subst hep;have jd:=hx.BH bz;obtain⟨l,c,el,hl,wg,ai,h1,h2⟩:=hi.write (ro:=ro) aE cF (by rw[hlen];exact DW) jd;generalize hq:r a=q at ha;cases ha with
    |ptr _ _ _ _ l' cu iN=>
     rw[hl]at cu;cases cu;refine⟨Go.undef,_,_,.inr ⟨?_,rfl⟩,.raw _,h1,h2⟩;have aU:(r x).cells.size=s:=by have:=jd.1;simp at this;omega
     simp[execOp,ho,Instr.storeAt,au8,hq,storeVar,eP hs,aU,lZ (P:=P) wg ai (tq jd bz)]
   ·cases h
  ·cases h
 ·cases h
theorem SN{x:Operand}(hi:Inv N ι σ w)(hr:Rv ι (ρ x) (r x))(ho:o.op=.nilCheck x)(h:av P ro ρ o σ=aa out):bu P ro N ι w σ r o out:=by
 unfold av at h;rw[ho]at h;simp only at h;split at h
 all_goals first|(cases h;done)|skip
 all_goals
  rename_i hx;rw[hx]at hr;obtain rfl:=aJ h;generalize hq:r x=q at hr;refine bu.same hi (u:=q) ?_ hr;cases hr<;>simp[execOp,ho,hq]
theorem eval_bin{op:BinOp}{t yT:TypeId}{x y:Operand}(ho:o.op=.binOp op t x y yT){v:Value}(h:(do eqGuard op t x y (r x) (r y);binOp op t (r x) (r y):Sem Value).run P w=.ok v w):
 (execOp r o).run P w=.ok (.value v) w:=by
 simp only[execOp,ho,asT]at h⊢;rw[h];rfl
theorem toList_eq(s:ByteArray):s.toList=s.data.toList:=Lib.toList_data s
theorem X8{t:TypeId}{a b:IV}{u v:Value}(d:Nat)(h:AH P t a b=ab)(ha:Rv ι a u)(hb:Rv ι b v):
 ((aue (d+1) t u v).run P w=.ok af w)/\((aue (d+1) t v u).run P w=.ok af w):=by
 unfold AH at h;split at h
 all_goals first|(cases h;done)|skip
 all_goals
  split at h
  ·rename_i hu;cases ha;cases hb;refine⟨?_,?_⟩<;>simp only[aue,asT,aV hu,asQ]<;>rfl
  ·cases h
theorem x_{t:TypeId}{u v:Value}{c:Bool}(he:(aue (9999+1) t u v).run P w=.ok c w):
 (do pure (.bool (<-avX t u v)):Sem Value).run P w=.ok (.bool c) w/\(do pure (.bool (!(<-avX t u v))):Sem Value).run P w=.ok (.bool !c) w:=by
 have ic:(avX t u v).run P w=.ok c w:=he;constructor<;>simp only[asT,ic,asQ,as5]
theorem L5{t:TypeId}{a b:IV}{u v:Value}{x y:Operand}(h:AH P t a b=ab)(ha:Rv ι a u)(hb:Rv ι b v):
 ((∀op,(eqGuard op t x y u v).run P w=.ok () w)/\(auB .eql t u v).run P w=.ok (.bool af) w/\(auB .neq t u v).run P w=.ok (.bool ab) w)/\
 ((∀op,(eqGuard op t x y v u).run P w=.ok () w)/\(auB .eql t v u).run P w=.ok (.bool af) w/\(auB .neq t v u).run P w=.ok (.bool ab) w):=by
 have h1:=X8 (w:=w) 9999 h ha hb;have h2:=x_ h1.1;have h3:=x_ h1.2;unfold AH at h;split at h
 all_goals first|(cases h;done)|skip
 all_goals
  cases ha;cases hb;exact⟨⟨λop=>by cases op<;>rfl,h2.1,h2.2⟩,⟨λop=>by cases op<;>rfl,h3.1,h3.2⟩⟩
theorem abh{t:TypeId}{a b:IV}{u v:Value}{x y:Operand}(h:VA P t a b=ab)(ha:Rv ι a u)(hb:Rv ι b v):
 (∀op,(eqGuard op t x y u v).run P w=.ok () w)/\(auB .eql t u v).run P w=.ok (.bool af) w/\(auB .neq t u v).run P w=.ok (.bool ab) w:=by
 unfold VA at h;rw[Bool.or_eq_true]at h;rcases h with h|h
 ·exact(L5 (w:=w) (x:=x) (y:=y) h ha hb).1
 ·exact(L5 (w:=w) (x:=x) (y:=y) h hb ha).2
theorem OE{t:TypeId}{a b:IV}{u v:Value}{x y:Operand}{c:Bool}(h:ptrEq P t a b=aa c)(ha:Rv ι a u)(hb:Rv ι b v):
 (∀op,(eqGuard op t x y u v).run P w=.ok () w)/\(auB .eql t u v).run P w=.ok (.bool c) w/\(auB .neq t u v).run P w=.ok (.bool !c) w:=by
 unfold ptrEq at h;split at h
 ·rename_i i off e x1 j Kq f y1;split at h
  ·rename_i el hu;split at h
   ·rename_i s hs;split at h
    ·rename_i hc;obtain⟨rfl,rfl,h0⟩:=hc;cases h;cases ha with
     |ptr _ off _ _ l hl _=>
      cases hb with
      |ptr _ Kq _ _ l' cu _=>
       rw[hl]at cu;cases cu
       have he:∀d,(aue (d+1) t (.pointer (aa ⟨l.b,off,ah⟩)) (.pointer (aa ⟨l.b,Kq,ah⟩))).run P w=.ok (off==Kq) w:=by
        intro d;simp only[aue,asT,aV hu,asQ,eP hs,ne_eq,h0,not_false_eq_true,if_true,sameAddr,beq_self_eq_true];by_cases hh:off=Kq
        ·subst hh;simp
        ·have:((⟨l.b,off,ah⟩:Addr)==⟨l.b,Kq,ah⟩)=af:=by simp[hh]
         simp[this,hh]
       have h2:=x_ (he 9999);exact⟨λop=>by cases op<;>rfl,h2.1,h2.2⟩
    ·cases h
   ·cases h
  ·cases h
 ·cases h
theorem agd{op:BinOp}{t yT:TypeId}{x y:Operand}(hi:Inv N ι σ w)(hx:Rv ι (ρ x) (r x))(hy:Rv ι (ρ y) (r y))(ho:o.op=.binOp op t x y yT)(h:av P ro ρ o σ=aa out):
 bu P ro N ι w σ r o out:=by
 unfold av at h;rw[ho]at h;simp only at h;split at h
 ·rename_i v hv;obtain rfl:=aJ h
  suffices hs:∃u,(do eqGuard op t x y (r x) (r y);binOp op t (r x) (r y):Sem Value).run P w=.ok u w/\Rv ι v u by
   obtain⟨u,h1,h2⟩:=hs;exact bu.same hi (eval_bin ho h1) h2
  generalize pn:r x=a at hx;generalize hry:r y=b at hy;generalize tv:ρ x=ix at hx hv;generalize hiy:ρ y=iy at hy hv;unfold pP at hv
  have strs:∀(s u:ByteArray),ix=.raw (.string s)->iy=.raw (.string u)->a=.string s/\b=.string u:=by
   intro s u h1 h2;subst h1 h2;cases hx;cases hy;exact⟨rfl,rfl⟩
  split at hv
  ·rename_i s u;obtain⟨rfl,rfl⟩:=strs s u rfl rfl;cases hv;exact⟨_,by simp[eqGuard,auB,avj,toList_eq],.raw _⟩
  ·rename_i s u;obtain⟨rfl,rfl⟩:=strs s u rfl rfl;cases hv;exact⟨_,by simp[eqGuard,auB,avj,toList_eq],.raw _⟩
  ·rename_i s u;obtain⟨rfl,rfl⟩:=strs s u rfl rfl;cases hv;exact⟨_,by simp[eqGuard,auB,avj,toList_eq],.raw _⟩
  ·rename_i s u;obtain⟨rfl,rfl⟩:=strs s u rfl rfl;cases hv;exact⟨_,by simp[eqGuard,auB,avj,toList_eq],.raw _⟩
  ·rename_i s u;obtain⟨rfl,rfl⟩:=strs s u rfl rfl;cases hv;exact⟨_,by simp[eqGuard,auB,avj,toList_eq],.raw _⟩
  ·rename_i s u;obtain⟨rfl,rfl⟩:=strs s u rfl rfl;cases hv;exact⟨_,by simp[eqGuard,auB,avj,toList_eq],.raw _⟩
  ·rename_i s u;obtain⟨rfl,rfl⟩:=strs s u rfl rfl;split at hv
   ·rename_i aU;cases hv;refine⟨_,?_,.raw _⟩
    have e:(⟨(s.data.toList++u.data.toList).toArray⟩:ByteArray)=s++u:=by
     apply aym;simp
    rw[e]
    have hm:¬((s.size+u.size:Nat):Int)>as7.max:=by
     have:as7.max=9223372036854775807:=by decide
     rw[this];omega
    simp only[eqGuard,auB,avj,if_neg hm];simp
   ·cases hv
  ·split at hv
   ·rename_i u1 u2 h1 h2;rw[uX h1 hx,uX h2 hy];simp only[asS]at hv;obtain⟨z,hz,rfl⟩:=hv;exact⟨z,e_ w _ hz,Rv.lift z⟩
   ·split at hv
    ·rename_i re;obtain⟨hg,he⟩:=abh (w:=w) (x:=x) (y:=y) re hx hy;split at hv
     ·cases hv;exact⟨.bool af,by simp only[asT,hg .eql,asQ,he.1],.raw _⟩
     ·cases hv;exact⟨.bool ab,by simp only[asT,hg .neq,asQ,he.2],.raw _⟩
     ·cases hv
    ·split at hv
     ·obtain⟨hg,he⟩:=OE (w:=w) (x:=x) (y:=y) ‹ptrEq P t ix iy=aa _› hx hy;cases hv;exact⟨.bool _,by simp only[asT,hg .eql,asQ,he.1],.raw _⟩
     ·obtain⟨hg,he⟩:=OE (w:=w) (x:=x) (y:=y) ‹ptrEq P t ix iy=aa _› hx hy;cases hv;exact⟨.bool _,by simp only[asT,hg .neq,asQ,he.2],.raw _⟩
     ·cases hv
 ·cases h
end Go.Ev
namespace Go.Ev
variable{P:Program}{N ro:Nat}{ι:Io}{w:World}{σ:St}{ρ:Operand->IV}{r:Operand->Value}{o:Oper}{out:eN}
theorem fj{x:IV}{v u:Value}(hx:x=.raw v)(h:Rv ι x u):u=v:=by subst hx;cases h;rfl
theorem ajS{op:UnOp}{t:TypeId}{x:Operand}(hi:Inv N ι σ w)(hr:Rv ι (ρ x) (r x))(ho:o.op=.unOp op t x)(h:av P ro ρ o σ=aa out):bu P ro N ι w σ r o out:=by
 unfold av at h;rw[ho]at h;simp only at h;split at h
 ·rename_i v hx;split at h
  ·rename_i z hz;obtain rfl:=aJ h;have e:=fj hx hr;have:=e_ w _ hz;exact bu.same hi (u:=z) (by simp[execOp,ho,e,this]) (Rv.lift z)
  ·cases h
 ·cases h
theorem VI{s t:TypeId}{x:Operand}(hi:Inv N ι σ w)(hr:Rv ι (ρ x) (r x))(ho:o.op=.convert s t x)(h:av P ro ρ o σ=aa out):bu P ro N ι w σ r o out:=by
 unfold av at h;rw[ho]at h;simp only at h;split at h
 ·rename_i v hx;split at h
  ·rename_i d hs hu;obtain rfl:=aJ h;have e:=fj hx hr;refine bu.same hi (u:=.string v) ?_ (.raw _)
   have:(convert s t (.string v)).run P w=.ok (.string v) w:=by
    simp only[convert,asT,aV hs,aV hu,asQ];rfl
   simp[execOp,ho,e,this]
  ·cases h
 ·rename_i v _ hx;split at h
  ·rename_i z hz;obtain rfl:=aJ h;have e:=fj hx hr;have:=e_ w _ hz;exact bu.same hi (u:=z) (by simp[execOp,ho,e,this]) (Rv.lift z)
  ·cases h
 ·cases h
theorem Hq{t:TypeId}{x:Operand}(hi:Inv N ι σ w)(hr:Rv ι (ρ x) (r x))(ho:o.op=.makeInterface t x)(h:av P ro ρ o σ=aa out):bu P ro N ι w σ r o out:=by
 unfold av at h;rw[ho]at h;simp only at h;split at h
 ·cases h
 ·rename_i d hd hu;obtain rfl:=aJ h;refine bu.same hi (u:=.iface t (r x)) ?_ (.du _ _ _ hr);simp only[execOp,ho,Instr.makeInterface,asT,aV hu,asQ];cases d<;>first|rfl|(exact absurd rfl (hd _))
 ·cases h
theorem SO{f:Fn}{first cap:Array Operand}(hi:Inv N ι σ w)(hr:∀x∈first++cap,Rv ι (ρ x) (r x))(ho:o.op=.makeFunc f first cap)(h:av P ro ρ o σ=aa out):bu P ro N ι w σ r o out:=by
 unfold av at h;rw[ho]at h;simp only at h;obtain rfl:=aJ h;have h1:aB ι (first.toList.map ρ) (first.toList.map r):=aB.of_map λa ha=>hr a (by simp at ha⊢;exact .inl ha);have h2:aB ι (cap.toList.map ρ) (cap.toList.map r):=aB.of_map λa ha=>hr a (by simp at ha⊢;exact .inr ha);refine bu.same hi (u:=.func f (first.toList.map r).toArray (cap.toList.map r).toArray) ?_ (.fn _ _ _ _ _ h1.1 h1.2 h2.1 h2.2);simp only[execOp,ho,Instr.makeFunc,asT,as5,asQ]
 congr 3<;>(apply auZ;simp)
theorem VJ{x:Operand}{i:Nat}(hi:Inv N ι σ w)(hr:Rv ι (ρ x) (r x))(ho:o.op=.extract x i)(h:av P ro ρ o σ=aa out):bu P ro N ι w σ r o out:=by
 unfold av at h;rw[ho]at h;simp only at h;split at h
 ·rename_i vs hx;split at h
  ·rename_i v hv;obtain rfl:=aJ h;rw[hx]at hr;generalize hq:r x=q at hr;cases hr with
   |az _ us hl hh=>
    obtain⟨u,hu,jt⟩:=aB.get ⟨hl,hh⟩ hv;exact bu.same hi (u:=u) (by simp[execOp,ho,axG,hq,hu]) jt
  ·cases h
 ·rename_i vs hx;split at h
  ·rename_i v hv;obtain rfl:=aJ h;have e:=fj hx hr;exact bu.same hi (u:=v) (by simp[execOp,ho,axG,e,hv]) (.raw _)
  ·cases h
 ·cases h
theorem Inv.age(hi:Inv N ι σ w)(hN:σ.n<N):
 Inv N (dS ι σ.n 0 ⟨w.heap.size,1,1⟩) (σ.add (.map [] 0)) {w with heap:=w.heap.push (.map #[] 0)}/\
 Le ro ι w σ (dS ι σ.n 0 ⟨w.heap.size,1,1⟩) {w with heap:=w.heap.push (.map #[] 0)} (σ.add (.map [] 0)):=by
 refine hi.add hN rfl rfl rfl rfl rfl ⟨_, #[],cj _ _ _ _,by simp,by simp,λi e r h=>by simp at h⟩
theorem VK{t:TypeId}{x:Option Operand}(hi:Inv N ι σ w)(hr:∀y∈x.toArray,Rv ι (ρ y) (r y))(ho:o.op=.makeMap t x)(h:av P ro ρ o σ=aa out):bu P ro N ι w σ r o out:=by
 unfold av at h;rw[ho]at h;simp only at h
 have key:out=.val (.map σ.n) (σ.add (.map [] 0))->(execOp r o).run P w=.ok (.value (.map (aa w.heap.size))) {w with heap:=w.heap.push (.map #[] 0)}->bu P ro N ι w σ r o out:=by
  intro h1 h2;subst h1;intro hN;obtain⟨h3,h4⟩:=hi.age (ro:=ro) (by simp at hN;omega);exact⟨_,_,_,.inl h2,.map _ _ (cj _ _ _ _),h3,h4⟩
 split at h
 ·exact key (aJ h) (by simp[execOp,ho,axH])
 ·rename_i y;split at h
  ·rename_i hu hx;have e:=fj hx (hr _ (by simp));exact key (aJ h) (by simp[execOp,ho,axH,aV hu,e,asInt,asIntOf])
  ·cases h
theorem OF{s:TypeId}{x:Operand}{f:Nat}(hi:Inv N ι σ w)(hr:Rv ι (ρ x) (r x))(ho:o.op=.fieldAddr s x f)(h:av P ro ρ o σ=aa out):bu P ro N ι w σ r o out:=by
 unfold av at h;rw[ho]at h;simp only at h;split at h
 ·rename_i fields hu;split at h
  ·rename_i fd hf;split at h
   ·rename_i sz id off ep ext hs hx;split at h
    ·rename_i hc;obtain rfl:=aJ h;rw[hx]at hr;generalize hq:r x=q at hr;cases hr with
     |ptr _ _ _ _ l hl hle=>
      refine bu.same hi (u:=.pointer (aa ⟨l.b,off+fd.offset,ah⟩)) ?_ (.ptr _ _ _ _ l hl (by omega));simp[execOp,ho,axI,aV hu,hf,au8,hq,fieldPlace,eP hs,hc.1,ig]
    ·cases h
   ·rename_i sz cs hs hx;split at h
    ·rename_i hc;obtain rfl:=aJ h;rw[hx]at hr;generalize hq:r x=q at hr;cases hr with
     |lN _ b off us zf hh=>
      refine bu.same hi (u:=.pointer (aa ⟨b,off+fd.offset,ah⟩)) ?_ (.lN _ _ _ (λk=>us (fd.offset+k)) (λk hk=>?_) (λj c hj=>?_))
      ·simp[execOp,ho,axI,aV hu,hf,au8,hq,fieldPlace,eP hs,hc.1,ig]
      ·simp at hk;rw[show off+fd.offset+k=off+(fd.offset+k) by omega];exact zf _ (by omega)
      ·rw[atp]at hj;split at hj
       ·exact hh _ c (by simpa using hj)
       ·cases hj
    ·cases h
   ·cases h
  ·cases h
 ·cases h
theorem abi{t:TypeId}{x:Operand}{f:Nat}(hi:Inv N ι σ w)(hr:Rv ι (ρ x) (r x))(ho:o.op=.field t x f)(h:av P ro ρ o σ=aa out):bu P ro N ι w σ r o out:=by
 unfold av at h;rw[ho]at h;simp only at h;split at h
 ·rename_i fields cs hu hx;split at h
  ·rename_i fd hf;split at h
   ·rename_i v hp;obtain rfl:=aJ h;rw[hx]at hr;generalize hq:r x=q at hr;cases hr with
    |agg _ us hl hh=>
     obtain⟨u,h1,h2⟩:=OD hp ⟨hl,hh⟩ w;exact bu.same hi (u:=u) (by simp[execOp,ho,Instr.field,aV hu,hf,asAgg,hq,h1]) h2
   ·cases h
  ·cases h
 ·cases h
theorem OG{t:TypeId}{x ix:Operand}(hi:Inv N ι σ w)(hr:Rv ι (ρ x) (r x))(pn:Rv ι (ρ ix) (r ix))(ho:o.op=.indexAddr t x ix)(h:av P ro ρ o σ=aa out):bu P ro N ι w σ r o out:=by
 unfold av at h;rw[ho]at h;simp only at h;split at h
 ·rename_i elem k i hu tv;have ei:=fj tv pn;split at h
  ·rename_i id off len cap ep s hx;split at h
   ·rename_i hc;obtain⟨hs,h0,ai⟩:=hc;obtain rfl:=aJ h;rw[hx]at hr;generalize hq:r x=q at hr;have hn:i.toNat<len:=by omega
    have hmul:i.toNat*s+s<=len*s:=by
     have:(i.toNat+1)*s<=len*s:=atk s hn;rw[atq]at this;omega
    cases hr with
    |sl _ _ _ _ _ _ l c a hl hle ib bE l5 fO ha=>
     have arT:len*s<=c*s:=atk s l5;refine bu.same hi (u:=.pointer (aa ⟨l.b,off+i.toNat*s,ah⟩)) ?_ (.ptr _ _ _ _ l hl (by omega));have ea:=ha (by omega);subst ea;simp[execOp,ho,awC,ei,asIntOf,aV hu,hq,h0,ai,eP hs,ig]
   ·cases h
  ·rename_i s es hx;split at h
   ·rename_i hc;obtain⟨hs,h0⟩:=hc;split at h
    ·rename_i e he;split at h
     ·rename_i rB;obtain rfl:=aJ h;rw[hx]at hr;generalize hq:r x=q at hr;have ai:=(asM.1 he).1;have gk:i<es.length:=by omega
      have hmul:i.toNat*s+s<=es.length*s:=by
       have:(i.toNat+1)*s<=es.length*s:=atk s ai;rw[atq]at this;omega
      cases hr with
      |tree _ _ b off c us bE hc bH zf hh=>
       refine bu.same hi (u:=.pointer (aa ⟨b,off+i.toNat*s,ah⟩)) ?_ (.lN _ _ _ (λk=>us (i.toNat*s+k)) (λk hk=>?_) (λj c hj=>hh _ _ _ _ he hj))
       ·simp[execOp,ho,awC,ei,asIntOf,aV hu,hq,h0,gk,eP hs,ig]
       ·rw[show off+i.toNat*s+k=off+(i.toNat*s+k) by omega];exact zf _ (by omega)
      |dY=>simp at ai
     ·cases h
    ·cases h
   ·cases h
  ·cases h
 ·rename_i n elem k i hu tv;have ei:=fj tv pn;split at h
  ·rename_i id off ep ext s hx hs;split at h
   ·rename_i hc;obtain⟨bE,h0,ai,Kr⟩:=hc;obtain rfl:=aJ h;rw[hx]at hr;generalize hq:r x=q at hr;cases hr with
    |ptr _ _ _ _ l hl hle=>
     refine bu.same hi (u:=.pointer (aa ⟨l.b,off+i.toNat*s,ah⟩)) ?_ (.ptr _ _ _ _ l hl (by omega));simp[execOp,ho,awC,ei,asIntOf,aV hu,hq,au8,h0,ai,eP hs,ig]
   ·cases h
  ·cases h
 ·cases h
theorem abj{t:TypeId}{x ix:Operand}(hi:Inv N ι σ w)(hr:Rv ι (ρ x) (r x))(pn:Rv ι (ρ ix) (r ix))(ho:o.op=.index t x ix)(h:av P ro ρ o σ=aa out):bu P ro N ι w σ r o out:=by
 unfold av at h;rw[ho]at h;simp only at h;split at h
 ·rename_i s k i hu hx tv;have ei:=fj tv pn;have ex:=fj hx hr;split at h
  ·rename_i h0;split at h
   ·rename_i b hb;obtain rfl:=aJ h;refine bu.same hi (u:=.int .u8 b.toNat) ?_ (.raw _)
    have sJ:s[i.toNat]?=aa b:=by
     obtain⟨ai,he⟩:=asM.1 hb;have gk:i.toNat<s.size:=by simpa using ai
     rw[getElem?_pos s i.toNat gk];simpa[ayn]using he
    simp[execOp,ho,ax1,ei,ex,asIntOf,aV hu,h0,sJ]
   ·cases h
  ·cases h
 ·rename_i n elem cs k i hu hx tv;have ei:=fj tv pn;split at h
  ·rename_i s hs;split at h
   ·rename_i hc;split at h
    ·rename_i v hp;obtain rfl:=aJ h;rw[hx]at hr;generalize hq:r x=q at hr;cases hr with
     |agg _ us hl hh=>
      obtain⟨u,h1,h2⟩:=OD hp ⟨hl,hh⟩ w;exact bu.same hi (u:=u) (by simp[execOp,ho,ax1,ei,hq,asIntOf,aV hu,hc.1,hc.2,eP hs,h1]) h2
    ·cases h
   ·cases h
  ·cases h
 ·cases h
end Go.Ev
namespace Go.Ev
variable{P:Program}{N ro:Nat}{ι:Io}{w:World}{σ:St}{ρ:Operand->IV}{r:Operand->Value}{o:Oper}{out:eN}
theorem GN(l:List Value)(s:Nat)(hl:l.length=s):∀n,(aup (n*s)).map (λi=>l[i % s]!)=(ate n l).flatten
 |0=>by simp
 |n+1=>by
  rw[atq,Nat.one_mul,List.range_add,List.map_append,GN l s hl n,List.replicate_succ',List.flatten_append]
  congr 1
  simp only[avh,List.flatten_nil,List.append_nil,List.map_map];apply awf;intro i;by_cases hi:i<s
  ·have h1:(n*s+i) % s=i:=by rw[Nat.mul_comm,Nat.mul_add_mod,Nat.mod_eq_of_lt hi]
   simp[hi,h1,hl]
  ·rw[awS (by simp;omega),awS (by omega)]
theorem X9(l:List Value)(s n:Nat)(hl:l.length=s)(hs:s≠0):gO (l.map .raw) (n*s)=((ate n l).flatten).map .raw:=by
 unfold gO;split
 ·rename_i z hz;cases l with
  |nil=>simp at hz
  |cons a l=>
   cases l with
   |nil=>
    simp only[atJ,List.map_nil,atK,and_true]at hz;subst hz;have dK:s=1:=by simpa using hl.symm
    subst dK;rw[Nat.mul_one];clear hl hs;induction n with
    |zero=>rfl
    |succ n ih=>rw[au0,au0,avh,ih];rfl
   |cons b l=>simp at hz
 ·rw[List.length_map,hl,Nat.mul_div_cancel _ (by omega),List.map_flatten];simp
theorem ya(z:Array Value)(s n:Nat)(hz:z.size=s)(hs:s≠0):(awT (n*s)).map (λi=>z[i % z.size]!)=(((ate n z.toList).flatten)).toArray:=by
 apply auZ;have:=GN z.toList s (by simpa using hz) n;simp only[awg,Array.toList_range,hz];rw[<-this];apply List.map_congr_left;intro i _;simp[List.getElem!_eq_getElem?_getD,Array.getElem!_eq_getD]
theorem zg(z:Value)(s n:Nat)(hz:z.cells.size=s)(hs:s≠0):aB ι (gO (z.cells.toList.map .raw) (n*s)) ((ate n z.cells.toList).flatten):=by
 rw[X9 _ s n (by simpa using hz) hs];exact aB.tj _
theorem DX(z:Value)(s n:Nat)(hz:z.cells.size=s):((ate n z.cells.toList).flatten).length=n*s:=by
 simp[hz]
theorem L6(off:Nat):∀(l:List Value) (k:Nat) (A:Array Value) (i:Nat),off+k+l.length<=A.size->
 ((l.zipIdx k).foldl (λcs (x:Value×Nat)=>cs.setIfInBounds (off+x.2) x.1) A)[i]?=if off+k<=i/\i<off+k+l.length then l[i- off- k]? else A[i]?
 |[],k,A,i,_=>by
  have:¬(off+k<=i/\i<off+k+0):=by omega
  simp;intro h1 h2;omega
 |v::l,k,A,i,h=>by
  simp only[atG]at h;simp only[List.zipIdx_cons,List.foldl_cons];rw[L6 off l (k+1) _ i (by simp;omega)];by_cases h1:off+(k+1)<=i/\i<off+(k+1)+l.length
  ·rw[if_pos h1,if_pos (by simp;omega)];have:i- off- k=(i- off-(k+1))+1:=by omega
   rw[this,ava]
  ·rw[if_neg h1];by_cases h2:i=off+k
   ·subst h2;rw[if_pos (by simp)];have:off+k<A.size:=by omega
    simp[this]
   ·rw[if_neg (by simp;omega),Array.getElem?_setIfInBounds,if_neg (by omega)]
theorem FJ{place:Nat->Option (Nat×Nat)}:∀{parts:List (Nat×IV)} {yb:List (Nat×Value)} {cs cz:List IV} {A:Array Value},
 qs place cs parts=aa cz->aB ι cs A.toList->parts.length=yb.length->(∀(i:Nat) (p:Nat×IV) (q:Nat×Value),parts[i]?=aa p->yb[i]?=aa q->p.1=q.1/\Rv ι p.2 q.2)->
 ∃A',ayc place A yb=aa A'/\aB ι cz A'.toList
 |[],yb,cs,cz,A,h,hr,hl,hp=>by
  cases yb with
  |nil=>simp only[qs,asP]at h;subst h;exact⟨A,rfl,hr⟩
  |cons p q=>simp at hl
 |(i,x)::rest,yb,cs,cz,A,h,hr,hl,hp=>by
  cases yb with
  |nil=>simp at hl
  |cons q arU=>
   obtain⟨j,v⟩:=q;obtain⟨h1,h2⟩:=hp 0 _ _ rfl rfl;simp only at h1 h2;subst h1;simp only[qs]at h;split at h
   ·cases h
   ·rename_i off size mZ;split at h
    ·rename_i hc;obtain⟨hlen,hle,bz⟩:=hc;have jd:=h2.BH bz;have ij:v.cells.size=size:=by have:=jd.1;simp at this;omega
     have hAs:cs.length=A.size:=by have:=hr.1;simpa using this
     have hA:(v.cells.zipIdx.foldl (λcs (x:Value×Nat)=>cs.setIfInBounds (off+x.2) x.1) A).toList=A.toList.take off++v.cells.toList++A.toList.drop (off+v.cells.toList.length):=by
      apply awf;intro k;have hf:=L6 off v.cells.toList 0 A k (by simp;omega)
      have e:v.cells.zipIdx.foldl (λcs (x:Value×Nat)=>cs.setIfInBounds (off+x.2) x.1) A=(v.cells.toList.zipIdx 0).foldl (λcs (x:Value×Nat)=>cs.setIfInBounds (off+x.2) x.1) A:=by
       rw[<-Array.foldl_toList];simp
      rw[auM,e,hf];simp only[Nat.add_zero,Nat.sub_zero,avS];by_cases h3:k<off
      ·rw[if_neg (by omega),atf,asY (by simp;omega),atp,if_pos h3,auM]
      ·by_cases h4:k<off+v.cells.size
       ·rw[if_pos (by omega),asY (by simp;omega),atm (by simp;omega)]
        congr 1;simp;omega
       ·rw[if_neg (by omega),atm (by simp;omega),List.getElem?_drop,auM]
        congr 1;simp;omega
     have po:=hr.dF off jd;rw[<-hA]at po;obtain⟨A',h5,h6⟩:=FJ h po (by simpa using hl) (λi p q l6 Dk=>hp (i+1) p q l6 Dk);refine⟨A',?_,h6⟩;simp only[ayc,mZ];rw[if_neg (by simp;omega)];exact h5
    ·cases h
theorem Hr{parts:Array (Nat×Operand)}(hr:∀x∈(parts.toList.map (·.2)),Rv ι (ρ x) (r x)):
 ∀(i:Nat) (p:Nat×IV) (q:Nat×Value),(parts.toList.map λ(y:Nat×Operand)=>(y.1,ρ y.2))[i]?=aa p->((parts.map λ(y:Nat×Operand)=>(y.1,r y.2)).toList)[i]?=aa q->p.1=q.1/\Rv ι p.2 q.2:=by
 intro i p q h1 h2;simp only[as4,asS,awg]at h1 h2;obtain⟨a,ha,rfl⟩:=h1;obtain⟨b,hb,rfl⟩:=h2;rw[ha]at hb;cases hb;exact⟨rfl,hr _ (List.mem_map.2 ⟨a,List.mem_of_getElem? ha,rfl⟩)⟩
theorem run_places{fields:List Field}(h:∀f∈fields,(aN P f.type).isSome=ab):
 (fields.mapM λf=>(do pure (f.offset,<-sizeOf f.type):Sem (Nat×Nat))).run P w=.ok (fields.map λf=>(f.offset,(aN P f.type).getD 0)) w:=by
 induction fields with
 |nil=>rfl
 |cons f fs ih=>
  obtain⟨s,hs⟩:=avt.1 (h f (by simp));rw[List.mapM_cons];simp only[asT,eP hs,asQ,as5,ih (λg hg=>h g (by simp[hg])),atJ,hs,Option.getD_some]
theorem abk{t:TypeId}{parts:Array (Nat×Operand)}(hi:Inv N ι σ w)(hr:∀x∈(parts.toList.map (·.2)),Rv ι (ρ x) (r x))(ho:o.op=.build t parts)(h:av P ro ρ o σ=aa out):
 bu P ro N ι w σ r o out:=by
 unfold av at h;rw[ho]at h;simp only at h;split at h
 ·rename_i z fields hz hu;split at h
  ·rename_i cs hf;split at h
   ·rename_i bg;obtain rfl:=aJ h;obtain⟨A',h1,h2⟩:=FJ (ι:=ι) hf (A:=z.cells) (aB.tj _) (by simp) (Hr hr);refine bu.same hi (u:=.agg A') ?_ ?_
    ·have hp:=run_places (P:=P) (w:=w) (fields:=fields.toList) (λf hf=>av3.1 bg f (by simpa using hf))
     have mZ:(fields.mapM λf=>(do pure (f.offset,<-sizeOf f.type):Sem (Nat×Nat))).run P w=.ok (fields.map λf=>(f.offset,(aN P f.type).getD 0)) w:=by
      rw[Array.mapM_eq_mapM_toList,Sem.run_map,hp];simp only[asQ]
      congr 1
      apply auZ;simp
     have agf:(λ(i:Nat)=>(fields.map λ(f:Field)=>(f.offset,(aN P f.type).getD 0))[i]?)=(λ(i:Nat)=>(fields[i]?).bind λ(f:Field)=>(aN P f.type).map λs=>(f.offset,s)):=by
      funext i;rw[Array.getElem?_map];cases hfi:fields[i]? with
      |none=>rfl
      |some f=>
       obtain⟨s,hs⟩:=avt.1 (av3.1 bg f (Array.mem_of_getElem? hfi));simp[hs]
     rw[<-agf]at h1;simp only[execOp,ho,ax2,asT,ji hz,aV hu,mZ,asQ,h1,as5]
    ·have:=Rv.agg (ι:=ι) cs A'.toList h2.1 h2.2;simpa using this
   ·cases h
  ·cases h
 ·rename_i z n elem hz hu;split at h
  ·rename_i s hs;split at h
   ·rename_i cs hf;obtain rfl:=aJ h;obtain⟨A',h1,h2⟩:=FJ (ι:=ι) hf (A:=z.cells) (aB.tj _) (by simp) (Hr hr);refine bu.same hi (u:=.agg A') ?_ ?_
    ·simp only[execOp,ho,ax2,asT,ji hz,aV hu,eP hs,asQ,h1,as5]
    ·have:=Rv.agg (ι:=ι) cs A'.toList h2.1 h2.2;simpa using this
   ·cases h
  ·cases h
 ·cases h
theorem NZ{t:TypeId}{len:Nat}{parts:Array (Nat×Operand)}(hi:Inv N ι σ w)(hr:∀x∈(parts.toList.map (·.2)),Rv ι (ρ x) (r x))(ho:o.op=.buildSlice t len parts)
 (h:av P ro ρ o σ=aa out):bu P ro N ι w σ r o out:=by
 unfold av at h;rw[ho]at h;simp only at h;split at h
 ·rename_i elem hu;split at h
  ·rename_i s z hs hz;split at h
   ·cases h
   ·rename_i hc;have bE:s≠0:=λe=>hc (.inl e);have sK:z.cells.size=s:=atA λe=>hc (.inr (.inl e))
    have Ks:len*s<=2 ^20:=by
     have:¬len*s>2 ^20:=λe=>hc (.inr (.inr e));omega
    split at h
    ·rename_i cs hf;split at h
     ·rename_i bH;obtain⟨hlen,bz⟩:=bH;have VL:=ya z.cells s len sK bE;obtain⟨A',h1,h2⟩:=FJ (ι:=ι) hf (A:=((ate len z.cells.toList).flatten).toArray) (by simpa using zg z s len sK bE) (by simp) (Hr hr)
      have fU:(execOp r o).run P w=.ok (.value (.slice (aa ⟨w.heap.size,0,ah⟩) len len)) {w with heap:=w.heap.push (.cells A' elem)}:=by
       simp only[execOp,ho,Instr.buildSlice,asT,aV hu,eP hs,asQ];rw[if_neg (by omega)];by_cases h0:len*s=0
       ·have jC:len=0:=by rcases aww.1 h0 with h|h;exact h;exact absurd h bE
        have e0:awT (len*s)= #[]:=by rw[h0];rfl
        have e1:((ate len z.cells.toList).flatten).toArray= #[]:=by rw[jC];rfl
        rw[e1]at h1;simp only[if_pos h0,as5,asQ,e0,axr,h1,newRow,asT,run_newObj]
       ·simp only[h0,if_false,asT,ji hz,asQ,as5,VL,h1];simp[newRow]
      split at h
      ·rename_i jC;obtain rfl:=aJ h;subst jC;intro hN;obtain⟨h3,h4⟩:=hi.push (ro:=ro) (w':={w with heap:=w.heap.push (.cells A' elem)}) (o:=.cells A' elem) rfl rfl rfl rfl;exact⟨_,_,_,.inl fU,.emp _,h3,h4⟩
      ·obtain rfl:=aJ h;intro hN;have hA:A'=A'.toList.toArray:=by simp
       obtain⟨h3,h4⟩:=hi.newRow (ro:=ro) (by simp at hN;omega) h2 elem;have hAl:cs.length=A'.size:=by have:=h2.1;simpa using this
       refine⟨_,_,_,.inl fU,?_,by simpa using h3,by simpa using h4⟩;exact .sl _ _ _ _ _ _ _ _ _ (cj _ _ _ _) (by simp;omega) (by simp;omega) (by omega) (asR _) (λk hk=>by cases hk;exact⟨rfl,by simp;omega⟩) (λ_=>rfl)
     ·cases h
    ·cases h
  ·cases h
 ·cases h
theorem OH{t:TypeId}{l c:Operand}(hi:Inv N ι σ w)(l7:Rv ι (ρ l) (r l))(GL:Rv ι (ρ c) (r c))(ho:o.op=.makeSlice t l c)
 (h:av P ro ρ o σ=aa out):bu P ro N ι w σ r o out:=by
 unfold av at h;rw[ho]at h;simp only at h;split at h
 ·rename_i elem k1 li k2 ci hu hl hc;have el:=fj hl l7;have ec:=fj hc GL;split at h
  ·rename_i s z bytes hs hz hb;split at h
   ·cases h
   ·rename_i bQ;have bE:s≠0:=λe=>bQ (.inl e);have sK:z.cells.size=s:=atA λe=>bQ (.inr (.inl e));have l5:0<=li/\li<=ci/\ci<=1000000:=atA λe=>bQ (.inr (.inr (.inl e)))
    have IC:bytes<=1000000:=by
     have:¬bytes>1000000:=λe=>bQ (.inr (.inr (.inr e)));omega
    obtain⟨i,da,OI,hti⟩:=DU hb w;have wl:as7.wrap li=li:=awm _ (by omega);have wc:as7.wrap ci=ci:=awm _ (by omega);have VL:=ya z.cells s ci.toNat sK bE;have c1:¬ci<0:=by omega
    have c2:¬(2 ^48:Int)<(i.bytes:Int)*ci:=by
     have h1:(i.bytes:Int)*ci<=1000000*1000000:=by
      have cN:(i.bytes:Int)<=1000000:=by omega
      exact Int.mul_le_mul cN l5.2.2 (by omega) (by omega)
     omega
    have c3:¬li<0:=by omega
    have c4:¬ci<li:=by omega
    have fU:(execOp r o).run P w=.ok (.value (.slice (aa ⟨w.heap.size,0,ah⟩) li.toNat ci.toNat)) {w with heap:=w.heap.push (.cells ((ate ci.toNat z.cells.toList).flatten).toArray elem)}:=by
     simp only[execOp,ho,Instr.makeSlice,asT,aV hu,el,ec,asInt,asIntOf,as5,asQ,hti,wl,wc,gt_iff_lt,c1,c2,c3,c4,decide_false,Bool.or_self,atn,if_false,run_askRoom,eP hs];by_cases h0:ci.toNat*s=0
     ·have pR:ci.toNat=0:=by rcases aww.1 h0 with h|h;exact h;exact absurd h bE
      have e0:awT (ci.toNat*s)= #[]:=by rw[h0];rfl
      have e1:((ate ci.toNat z.cells.toList).flatten).toArray= #[]:=by rw[pR];rfl
      simp only[if_pos h0,as5,asQ,e0,e1,axr,newRow,asT,run_newObj]
     ·simp only[if_neg h0,asT,ji hz,asQ,as5,VL,newRow,run_newObj]
    split at h
    ·rename_i pR;obtain rfl:=aJ h;intro hN;obtain⟨h3,h4⟩:=hi.push (ro:=ro) (w':={w with heap:=w.heap.push (.cells ((ate ci.toNat z.cells.toList).flatten).toArray elem)}) (o:=.cells ((ate ci.toNat z.cells.toList).flatten).toArray elem) rfl rfl rfl rfl;have jC:li=0:=by omega
     subst pR jC;exact⟨_,_,ι,.inl fU,.emp _,h3,h4⟩
    ·obtain rfl:=aJ h;intro hN;have h2:=zg (ι:=ι) z s ci.toNat sK bE;have hlen:=DX z s ci.toNat sK;obtain⟨h3,h4⟩:=hi.newRow (ro:=ro) (by simp at hN;omega) h2 elem;refine⟨_,_,_,.inl fU,?_,h3,h4⟩;have hle:li.toNat*s<=ci.toNat*s:=atk s (by omega);exact .sl _ _ _ _ _ _ _ _ _ (cj _ _ _ _) (by simp only[auf];rw[h2.1,hlen];exact hle) (by simp only[auf];rw[hlen];exact asR _) (by omega) (by omega) (λk hk=>by cases hk;exact⟨rfl,by simp only[auf];rw[h2.1,hlen];exact asR _⟩) (λ_=>rfl)
  ·cases h
 ·cases h
end Go.Ev
namespace Go.Ev
variable{P:Program}{N ro:Nat}{ι:Io}{w:World}{σ:St}{ρ:Operand->IV}{r:Operand->Value}{o:Oper}{out:eN}
theorem Tn{x:IV}{v:Value}{n:Nat}(h:kY x=aa n)(hr:Rv ι x v)(w:World):(avr v).run P w=.ok n w:=by
 unfold kY at h;split at h
 ·rename_i l c;split at h
  ·rename_i h0;cases h;cases hr;simp[avr,h0]
  ·cases h
 ·cases h;cases hr;rfl
 ·cases h;cases hr;rfl
 ·cases h;cases hr;rfl
 ·cases h;cases hr with
  |tree=>rfl
  |dY _ a=>cases a<;>rfl
 ·cases h
theorem SP{es:List IV}{s i j:Nat}(bH:∀e∈es,(cellsOf e).length=s)(hj:j<s):(es.flatMap cellsOf)[i*s+j]?=(es[i]?).bind λe=>(cellsOf e)[j]? :=by
 induction es generalizing i with
 |nil=>simp
 |cons e es ih=>
  have he:=bH e (by simp);rw[ave];cases i with
  |zero=>simp only[avO,auf];rw[asY (by omega)];rfl
  |succ i=>
   rw[atm (by rw[atq];omega),ava,<-ih (λe he=>bH e (by simp[he]))]
   congr 1
   rw[he,atq];omega
theorem SQ{es:List IV}{s:Nat}(bH:∀e∈es,(cellsOf e).length=s):(es.flatMap cellsOf).length=es.length*s:=by
 induction es with
 |nil=>simp
 |cons e es ih=>rw[ave,atc,bH e (by simp),ih (λe he=>bH e (by simp[he])),atG,atq];omega
theorem zh{size n:Nat}{x:IV}{v:Value}{cs:List IV}(hi:Inv N ι σ w)(h:eU size n σ x=aa cs)(hr:Rv ι x v):
 ∃vs:List Value,(∀w':World,w'.heap=w.heap->(atS size n v).run P w'=.ok vs.toArray w')/\aB ι cs vs:=by
 have ik:∀w':World,w'.heap=w.heap->∀a:Addr,w'.cell? a=w.cell? a:=λw' wT a=>by simp only[World.cell?,wT]
 unfold eU at h;split at h
 ·split at h
  ·cases h;cases hr;exact⟨[],λw' _=>by simp[atS],aB.nil⟩
  ·cases h
 ·split at h
  ·rename_i h0;cases h;cases hr;subst h0;exact⟨[],λw' _=>by simp[atS,loadCells,loadCellsFrom],aB.nil⟩
  ·cases h
 ·rename_i s;split at h
  ·rename_i h0;cases h;cases hr;refine⟨(s.data.toList.take n).map λb=>.int .u8 b.toNat,λw' _=>?_,aB.of_map λa _=>.raw _⟩;simp only[atS,as5]
   congr 1
   apply auZ;simp
  ·cases h
 ·rename_i id off len cap ep s;split at h
  ·rename_i hc;obtain⟨rfl,hn⟩:=hc;split at h
   ·rename_i qQ ay mn aE;split at h
    ·rename_i hc;cases h;obtain⟨l,c,el,hl,qR,aU,wg,ib,kA⟩:=FI (hi.obj id _ aE) hc.1 hc.2.1;cases hr with
     |sl _ _ _ _ _ _ l' k a cu hle To hs l5 fO ha=>
      rw[hl]at cu;cases cu;have hmul:n*s<=len*s:=atk s hn;have GM:(((c.toList.take l.n).drop off).take (n*s)).length=n*s:=by simp;omega
      have e1:(qQ.drop off).take (n*s)=((qQ.take l.n).drop off).take (n*s):=by
       rw[List.drop_take,awF];congr 1;omega
      refine⟨((c.toList.take l.n).drop off).take (n*s),λw' wT=>?_,?_⟩
      ·simp only[atS];rcases Nat.eq_zero_or_pos n with h0|h0
       ·subst h0;simp[loadCells,loadCellsFrom]
       ·have ea:=ha (by omega);subst ea
        have VH:za w l.b off (((c.toList.take l.n).drop off).take (n*s)):=by
         have:=SK (VF (IA wg l.n) off) (n*s);simpa using this
        have:=run_loadCells_list (P:=P) w' ⟨l.b,off,ah⟩ _ (λj v hj=>by rw[ig,ik w' wT];exact VH j v hj);rwa[GM]at this
      ·rw[e1];exact(kA.drop off).take _
    ·cases h
   ·cases h
  ·cases h
 ·rename_i s es;split at h
  ·rename_i hc;obtain⟨rfl,hn⟩:=hc;cases h;cases hr with
   |tree _ _ b off c us hs hc bH hu hh=>
    have hmul:n*s<=es.length*s:=atk s hn;have agh:∀e∈es.take n,(cellsOf e).length=s:=λe he=>bH e (List.mem_of_mem_take he);have hlen:((es.take n).flatMap cellsOf).length=n*s:=by rw[SQ agh,at5,avQ hn]
    refine⟨(aup (n*s)).map us,λw' wT=>?_,by simp[hlen],λi x v hx hv=>?_⟩
    ·simp only[atS];rw[run_loadCells (P:=P) w' ⟨b,off,ah⟩ (n*s) us];intro j hj;rw[ig,ik w' wT];have hm:=hu j (by omega);unfold pk at hm;cases hb:ι.m b with
     |none=>simp[hb]at hm
     |some c=>
      obtain⟨el,f,hh'⟩:=hi.mem b c hb;rw[cell_of hh'];simpa[hb]using hm
    ·have aoh:i<n*s:=by have:=(asM.1 hx).1;omega
     have X_:v=us i:=by
      simp[aoh]at hv;exact hv.symm
     subst X_;have hq:i/s*s+i % s=i:=Nat.div_add_mod' i s;have hj:i % s<s:=Nat.mod_lt _ hs;rw[<-hq,SP agh hj]at hx;rw[Option.bind_eq_some_iff]at hx;obtain⟨e,he,rB⟩:=hx;rw[atp]at he;split at he
     ·have:=hh _ _ _ _ he rB;rwa[hq]at this
     ·cases he
   |dY _ a c hs hz=>
    obtain rfl:n=0:=by simpa using hn
    refine⟨[],λw' wT=>?_,by simp,λi x v hx hv=>by simp at hx⟩;cases a<;>simp[atS,loadCells,loadCellsFrom]
  ·cases h
 ·cases h
theorem L7(aS:Nat):∀(k c:Nat),c<=aS+(aS+768)/4->axf aS k c<=aS+(aS+768)/4
 |0,c,h=>h
 |k+1,c,h=>by
  unfold axf;split
  ·exact h
  ·exact L7 aS k _ (by omega)
theorem VM{aS cL:Nat}(h:cL<aS):auN aS cL<=4*aS+4096:=by
 unfold auN;split
 ·omega
 ·split
  ·omega
  ·have:=L7 aS 4 cL (by omega);omega
theorem Inv.grown(hi:Inv N ι σ w)(hN:σ.n<N){cs:List IV}{vs:List Value}(hr:aB ι cs vs)(rest:List Value)(el:TypeId){size m c:Nat}(hs:0<size)(hm:cs.length=m*size)
 (hc:(vs++rest).length=c*size)(Tp:m<=c):
 let w':World:={w with heap:=w.heap.push (.cells (vs++rest).toArray el),drawn:=w.drawn+1}
 ∃aG,Rv aG (.sl σ.n 0 m ah 0 size) (.slice (aa ⟨w.heap.size,0,ah⟩) m c)/\Inv N aG (σ.add (.cells cs 0 0)) w'/\Le ro ι w σ aG w' (σ.add (.cells cs 0 0)):=by
 intro w';obtain⟨h1,h2⟩:=hi.Tl (ro:=ro) hN hr rest el (w':=w') rfl rfl rfl rfl;exact⟨_,.sl _ _ _ _ _ _ _ _ _ (cj _ _ _ _) (by simp[hm]) (by simp only[auf];rw[hc];exact asR _) hs Tp (λk hk=>by cases hk) (λ_=>rfl),h1,h2⟩
theorem Inv.agi(hi:Inv N ι σ w){id ay mn:Nat}{cs new:List IV}{cn:List Value}(aE:σ.at id=aa (.cells cs ay mn))(cF:ro<=id)(hr:aB ι new cn)
 {l:Loc}{c:Array Value}{el:TypeId}(hl:ι id ay=aa l)(wg:w.heap[l.b]?=aa (.cells c el (0,0)))(ai:cs.length+cn.length<=c.size):
 let w':=w.setRow l.b (c.toList.take cs.length++cn++c.toList.drop (cs.length+cn.length)).toArray
 let aG:=dS ι id (ay+1) ⟨l.b,cs.length+new.length,l.lim⟩
 Inv N aG (σ.put id (.cells (cs++new) (ay+1) mn)) w'/\Le ro ι w σ aG w' (σ.put id (.cells (cs++new) (ay+1) mn)):=by
 intro w' aG;have dH:=hi.obj id _ aE;obtain⟨⟨nD,bC⟩,⟨l0,jC,lg⟩,bg⟩:=dH;obtain rfl:l=l0:=by rw[hl]at jC;exact avB jC
 have kz:ι id (ay+1)=ah:=bC _ (by omega);have jD:=k_ (l:=⟨l.b,cs.length+new.length,l.lim⟩) kz
 have ib:l.lim=c.size:=by
  obtain⟨l2,c2,OJ,h1,_,h3,h4,_⟩:=bg ay nD (asR _);rw[hl]at h1;cases h1;rw[wg]at h3;cases h3;exact h4
 have wT:w'.heap[l.b]?=aa (.cells (c.toList.take cs.length++cn++c.toList.drop (cs.length+cn.length)).toArray el (0,0)):=setRow_heap w l.b c _ el _ wg;have GM:=hr.1;refine hi.put aE cF ⟨_,_,hl⟩ jD (λi aW e=>by simp[aG,dS,aW]) ?_ (by simp only[w'];rw[setRow_size];exact asR _) (λb _ bC=>uY _ _ _ _ ?_) rfl rfl rfl ?_
 ·intro b hb;rcases mw hb with hb|⟨_,hb⟩
  ·exact .inl hb
  ·subst hb;exact .inl ⟨_,_,hl,rfl⟩
 ·intro e;subst e;exact bC ⟨_,_,hl,rfl⟩
 ·refine⟨⟨by omega,λe he=>?_⟩,⟨_,cj _ _ _ _,by simp⟩,λe he ic=>?_⟩
  ·have:e≠ay+1:=by omega
   simp[aG,dS,this,bC e (by omega)]
  ·by_cases L8:e=ay+1
   ·subst L8;refine⟨_,_,el,cj _ _ _ _,by simp,wT,by simp;omega,λk x hk hx=>?_⟩;obtain⟨l2,c2,OJ,h1,_,h3,_,h5⟩:=bg ay nD (asR _);rw[hl]at h1;cases h1;rw[wg]at h3;cases h3;by_cases uQ:k<cs.length
    ·rw[asY uQ]at hx;obtain⟨u,hu,jt⟩:=h5 k x (by omega) hx;refine⟨u,?_,jt.mono jD⟩;rw[aut,atf,asY (by simp;omega),atp,if_pos uQ];simpa using hu
    ·rw[atm (by omega)]at hx;obtain⟨u,hu,jt⟩:=hr.get hx;have Tq:=(asM.1 hu).1;refine⟨u,?_,jt.mono jD⟩;rw[aut,asY (by simp;omega),atm (by simp;omega)];simp only[at5,avS,avQ (show cs.length<=c.size by omega)];exact hu
   ·obtain⟨l2,c2,OJ,h1,h2,h3,h4,h5⟩:=bg e he (by omega);by_cases IC:l2.b=l.b
    ·rw[IC,wg]at h3;cases h3;refine⟨l2,_,el,jD _ _ _ h1,by simp;omega,by rw[IC];exact wT,by simp;omega,λk x hk hx=>?_⟩;rw[asY (by omega)]at hx;obtain⟨u,hu,jt⟩:=h5 k x hk hx;refine⟨u,?_,jt.mono jD⟩;rw[aut,atf,asY (by simp;omega),atp,if_pos (by omega)];simpa using hu
    ·refine⟨l2,c2,OJ,jD _ _ _ h1,by simp;omega,by simp only[w'];rw[uY _ _ _ _ IC];exact h3,h4,λk x hk hx=>?_⟩;rw[asY (by omega)]at hx;obtain⟨u,hu,jt⟩:=h5 k x hk hx;exact⟨u,hu,jt.mono jD⟩
theorem Inv.aeR(hi:Inv N ι σ w){id ay mn:Nat}{cs new:List IV}{Ao cn:List Value}(aE:σ.at id=aa (.cells cs ay mn))(cF:ro<=id)(aoi:aB ι cs Ao)(hr:aB ι new cn)
 (rest:List Value)(el:TypeId):
 let w':World:={w with heap:=w.heap.push (.cells (Ao++cn++rest).toArray el),drawn:=w.drawn+1}
 let aG:=dS ι id (ay+1) ⟨w.heap.size,cs.length+new.length,(Ao++cn++rest).length⟩
 Inv N aG (σ.put id (.cells (cs++new) (ay+1) mn)) w'/\Le ro ι w σ aG w' (σ.put id (.cells (cs++new) (ay+1) mn)):=by
 intro w' aG;have dH:=hi.obj id _ aE;obtain⟨⟨nD,bC⟩,⟨l0,jC,lg⟩,bg⟩:=dH;have kz:ι id (ay+1)=ah:=bC _ (by omega);have jD:=k_ (l:=⟨w.heap.size,cs.length+new.length,(Ao++cn++rest).length⟩) kz;have hold:∀b,b<w.heap.size->w'.heap[b]?=w.heap[b]? :=λb hb=>by simp only[w'];rw[Array.getElem?_push,if_neg (by omega)]
 have wT:w'.heap[w.heap.size]?=aa (.cells (Ao++cn++rest).toArray el (0,0)):=by simp[w']
 refine hi.put aE cF ⟨_,_,jC⟩ jD (λi aW e=>by simp[aG,dS,aW]) ?_ (by simp[w']) (λb hb _=>hold b hb) rfl rfl rfl ?_
 ·intro b hb;rcases mw hb with hb|⟨_,hb⟩
  ·exact .inl hb
  ·subst hb;exact .inr ⟨asR _,by simp[w']⟩
 ·refine⟨⟨by omega,λe he=>?_⟩,⟨_,cj _ _ _ _,by simp⟩,λe he ic=>?_⟩
  ·have:e≠ay+1:=by omega
   simp[aG,dS,this,bC e (by omega)]
  ·by_cases L8:e=ay+1
   ·subst L8;refine⟨_,_,el,cj _ _ _ _,by simp,wT,by simp,λk x hk hx=>?_⟩;obtain⟨u,hu,jt⟩:=(aoi.append hr).get hx;have Tq:=(asM.1 hu).1;refine⟨u,?_,jt.mono jD⟩;rw[aut,asY Tq];exact hu
   ·obtain⟨l2,c2,OJ,h1,h2,h3,h4,h5⟩:=bg e he (by omega);have ai:l2.b<w.heap.size:=hi.jc id _ ⟨_,_,h1,rfl⟩;refine⟨l2,c2,OJ,jD _ _ _ h1,by simp;omega,by rw[hold _ ai];exact h3,h4,λk x hk hx=>?_⟩;rw[asY (by omega)]at hx;obtain⟨u,hu,jt⟩:=h5 k x hk hx;exact⟨u,hu,jt.mono jD⟩
end Go.Ev
namespace Go.Ev
variable{P:Program}{N ro:Nat}{ι:Io}{w:World}{σ:St}{ρ:Operand->IV}{r:Operand->Value}{o:Oper}{out:eN}
def rC(P:Program)(ro:Nat)(N:Nat)(ι:Io)(w:World)(σ:St)(s:Sem Value)(v:IV)(ao:St):Prop:=
 ∃u w' aG,s.run P w=.ok u w'/\Rv aG v u/\Inv N aG ao w'/\Le ro ι w σ aG w' ao
theorem Kt(aS cL:Nat)(el:TypeId)(w:World):∃c,aS<=c/\(choose (.appendCap aS cL el)).run P w=.ok c {w with drawn:=w.drawn+1}:=by
 refine⟨(Question.appendCap aS cL el).cut (w.tape w.drawn (.appendCap aS cL el)),?_,?_⟩
 ·simp only[Question.cut];omega
 ·simp[choose,auH,Question.forced]
structure AM(P:Program)(elem:TypeId)(size bytes aY n:Nat)(zero:Value):Prop where
 arV:aN P elem=aa size
 hzero:cy P elem=aa zero
 agj:(P.info? elem).map (·.bytes)=aa bytes
 tx:size≠0
 hz:zero.cells.size=size
 Ks:(4*(aY+n)+4096)*bytes<=2 ^47
 VN:aY+n<=2 ^40
def OM:TypeDesc->Bool
 | .int _=>ab
 | _=>af
theorem DY{xd:TypeDesc}(h:∀k,xd≠.int k):OM xd=af:=by cases xd <;> first | rfl | grind
structure AppK (elem:TypeId) (base:Option Addr) (aY eQ size:Nat) (x:Value) where
 big:Bool->Sem Value
 rest:Bool->Nat->Sem Value
 eq:∀{P:Program}{w:World}{argTypes:Array TypeId}{ty sT xT:TypeId},argTypes[0]?=aa sT->argTypes[1]?=aa xT->P.underlying sT=aa (.slice elem)->aN P elem=aa size->
  (avf argTypes ty #[.slice base aY eQ,x]).run P w=(do
   let u <- underlying xT
   let il <- pure (OM u)
   if il then big il
   else do
    let n <- avr x
    rest il n).run P w
def appK(elem:TypeId) (base:Option Addr) (aY eQ size:Nat) (x:Value):AppK elem base aY eQ size x:=by
 apply AppK.mk
 intro P w argTypes ty sT xT h0 h1 hu hs
 unfold avf
 rw [h0,h1]
 show auH P (do
  let __x <- underlying sT
  _) w=_
 rw [asT,aV hu,asQ]
 show auH P (do
  let size <- sizeOf elem
  _) w=_
 rw [asT,eP hs,asQ]
 rfl
def oU(elem:TypeId) (il:Bool) (base:Option Addr) (aY eQ size n:Nat) (x:Value):Sem Value:=(appK elem base aY eQ size x).rest il n
theorem zeroC{z:Value}{size n:Nat}(h:z.cells.size=size) (hs:size≠0):auu z.cells n=((ate n z.cells.toList).flatten).toArray:=by
 unfold auu
 rw [h]
 have:=ya z.cells size n h hs
 rwa [h] at this
def vq(P:Program) (elem:TypeId) (size n:Nat) (x:Value) (cn:List Value) (w:World):Bool->Prop
 | af=>(atS size n x).run P w=.ok cn.toArray w
 | ab=>∃z,cy P elem=aa z/\z.cells.size=size/\size≠0/\cn=(ate n z.cells.toList).flatten
theorem Ku{elem:TypeId}{il:Bool}{base:Option Addr}{aY eQ size n:Nat}{x:Value}{cn:List Value}(hle:aY + n<=eQ) (fg:vq P elem size n x cn w il):
  (oU elem il base aY eQ size n x).run P w=(match base with
   | aa a=>(storeCells (a.add (aY * size)) cn).run P w
   | ah=>.ok () w).andThen fun _ w'=>.ok (.slice base (aY + n) eQ) w':=by
 cases il
 .have hn:(atS size n x).run P w=_:=fg
  simp only [oU,appK,if_pos hle,asT]
  cases base <;> simp [hn]
 have ⟨z,h0,h1,h2,h3⟩:=fg
 subst h3
 simp only [oU,appK,if_pos hle,asT]
 by_cases h4:n=0
 .subst h4
  cases base <;> simp
 .cases base <;> simp [ji h0,zeroC h1 h2,h4,h2,Nat.mul_ne_zero h4 h2]
theorem OL{elem:TypeId}{il:Bool}{base:Option Addr}{aY eQ size n bytes:Nat}{zero x:Value}{Ao cn:List Value}(ha:AM P elem size bytes aY n zero) (zi:¬ aY + n<=eQ)
  (fg:∀d,vq P elem size n x cn { w with drawn:=d } il) (hold:∀d,(atS size aY (.slice base aY eQ)).run P { w with drawn:=d }=.ok Ao.toArray { w with drawn:=d }):
  ∃c rest,aY + n<=c/\rest.length=(c - (aY + n)) * size/\
   (oU elem il base aY eQ size n x).run P w=.ok (.slice (aa ⟨w.heap.size,0,ah⟩) (aY + n) c) { w with heap:=w.heap.push (.cells (Ao ++ cn ++ rest).toArray elem),drawn:=w.drawn + 1 }:=by
 have ⟨i,hi,hb,hti⟩:=DU ha.agj w
 have aoj:∀w':World,(typeInfo elem).run P w'=.ok i w':=fun w'=>by simp [typeInfo,hi]
 have ⟨c,hc,hch⟩:=Kt (P:=P) (aY + n) eQ elem w
 have ho:=hold (w.drawn + 1)
 have h1:¬ ((aY + n:Nat):Int) > as7.max:=by
  have:as7.max=9223372036854775807:=by decide
  have:=ha.VN
  omega
 have h2:¬ auN (aY + n) eQ * i.bytes > 2 ^ 48:=by
  have fO:=VM (aS:=aY + n) (cL:=eQ) (by omega)
  have:auN (aY + n) eQ * i.bytes<=(4 * (aY + n) + 4096) * i.bytes:=atk _ fO
  have:=ha.Ks
  grind
 have nE:(zeroValue elem).run P { w with drawn:=w.drawn + 1 }=.ok zero { w with drawn:=w.drawn + 1 }:=ji ha.hzero _
 have gr:auu zero.cells (c - (aY + n))=((ate (c - (aY + n)) zero.cells.toList).flatten).toArray:=by
  unfold auu
  rw [ha.hz]
  have:=ya zero.cells size (c - (aY + n)) ha.hz ha.tx
  simp_all [ha.hz]
 refine ⟨c,(ate (c - (aY + n)) zero.cells.toList).flatten,hc,DX zero size _ ha.hz,?_⟩
 cases il
 .have hn:(atS size n x).run P { w with drawn:=w.drawn + 1 }=_:=fg (w.drawn + 1)
  simp only [oU,appK,if_neg zi,asT,aoj,asQ,h1,false_and,if_false,h2,hch,run_askRoom,Bool.not_false,if_true,as5,List.getElem_toArray,List.getElem_cons_zero,List.getElem_cons_succ,ho,hn,nE,gr,newRow,run_newObj]
  simp
 have ⟨z,k0,k1,k2,k3⟩:=fg (w.drawn + 1)
 cases ha.hzero.symm.trans k0
 subst k3
 have hN:n≠0->n * size≠0:=fun h=>Nat.mul_ne_zero h k2
 have hz':=zeroC (n:=n) k1 k2
 by_cases h4:n=0
 .subst h4
  simp only [oU,appK,if_neg zi,asT,aoj,asQ,h1,false_and,if_false,h2,hch,run_askRoom,Bool.not_true,atn,Nat.zero_mul,if_true,as5,List.getElem_toArray,List.getElem_cons_zero,ho,nE,gr,newRow,run_newObj]
  simp
 .simp only [oU,appK,if_neg zi,asT,aoj,asQ,h1,false_and,if_false,h2,hch,run_askRoom,Bool.not_true,atn,if_neg (hN h4),as5,List.getElem_toArray,List.getElem_cons_zero,ho,hz',nE,gr,newRow,run_newObj]
  simp
theorem SR{argTypes:Array TypeId}{ty sT xT elem:TypeId}{xd:TypeDesc}{base:Option Addr}{aY eQ size n:Nat}{x:Value}(h0:argTypes[0]?=aa sT) (h1:argTypes[1]?=aa xT)
  (hu:P.underlying sT=aa (.slice elem)) (hx:P.underlying xT=aa xd) (hd:∀k,xd≠.int k) (hs:aN P elem=aa size) (hn:(avr x).run P w=.ok n w):
  (avf argTypes ty #[.slice base aY eQ,x]).run P w=(oU elem af base aY eQ size n x).run P w:=by
 rw [(appK elem base aY eQ size x).eq h0 h1 hu hs,asT,aV hx,asQ,DY hd]
 show auH P (do
  let n <- avr x
  _) w=_
 rw [asT,hn,asQ]
 rfl
theorem SU{argTypes:Array TypeId}{ty sT xT elem:TypeId}{k:IntKind}{base:Option Addr}{aY eQ size bytes:Nat}{l:Int}(h0:argTypes[0]?=aa sT) (h1:argTypes[1]?=aa xT)
  (hu:P.underlying sT=aa (.slice elem)) (hx:P.underlying xT=aa (.int k)) (hs:aN P elem=aa size) (hb:(P.info? elem).map (·.bytes)=aa bytes) (jC:0<=l) (rD:l<=1000000)
  (Ks:l.toNat * bytes<=2 ^ 48):
  (avf argTypes ty #[.slice base aY eQ,.int .i64 l]).run P w=(oU elem ab base aY eQ size l.toNat (.int .i64 l)).run P w:=by
 have ⟨i,hi,OI,hti⟩:=DU hb w
 have wl:as7.wrap l=l:=awm _ (by omega)
 have c1:¬ l < 0:=by omega
 have c2:¬ l * (i.bytes:Int) > 2 ^ 48:=by
  grind
 rw [(appK elem base aY eQ size _).eq h0 h1 hu hs,asT,aV hx,asQ]
 show auH P (if as7.wrap l < 0 then _ else (do
  let t <- typeInfo elem
  if as7.wrap l * (t.bytes:Int) > 2 ^ 48 then _ else _)) w=_
 rw [wl,if_neg c1,asT,hti,asQ,if_neg c2]
 rfl
theorem ON{size n:Nat}{zero:Value}{xd:TypeDesc}{x:IV}{vx:Value}{new:List IV}{elem:TypeId}(hi:Inv N ι σ w)(hs:size≠0)(hz:zero.cells.size=size)(nE:cy P elem=aa zero)
 (h:sI size zero xd σ x=aa (n,new))(hx:Rv ι x vx):
 ∃cn,aB ι new cn/\(∀d,vq P elem size n vx cn {w with drawn:=d} (OM xd))/\
  ((∃k,xd=.int k/\∃l,vx=.int .i64 l/\0<=l/\l<=1000000/\n=l.toNat)\/((∀k,xd≠.int k)/\(avr vx).run P w=.ok n w)):=by
 unfold sI at h;split at h
 ·rename_i k;split at h
  ·rename_i l;split at h
   ·rename_i hl;cases h;cases hx;refine⟨_,zg zero size l.toNat hz hs,λd=>?_,.inl ⟨k,rfl,l,rfl,hl.1,hl.2,rfl⟩⟩;exact ⟨_,nE,hz,hs,rfl⟩
   ·cases h
  ·cases h
 ·rename_i hd;split at h
  ·rename_i n' hn;split at h
   ·rename_i cs hc;cases h;obtain⟨vs,h1,h2⟩:=zh (P:=P) hi hc hx;refine⟨vs,h2,λd=>?_,.inr ⟨hd,Tn hn hx w⟩⟩;rw [DY hd];exact h1 _ rfl
   ·cases h
  ·cases h
theorem BK{elem:TypeId}{il:Bool}{size bytes aY n eQ:Nat}{zero vx:Value}{base:Option Addr}{s v:IV}{new:List IV}{cn:List Value}{ao:St}(hi:Inv N ι σ w)
 (ha:AM P elem size bytes aY n zero)(zi:¬aY+n<=eQ)(hr:aB ι new cn)(hlen:new.length=n*size)(fg:∀d,vq P elem size n vx cn {w with drawn:=d} il)
 (hs:Rv ι s (.slice base aY eQ))(h:fF size aY n new s σ=aa (.val v ao))(hN:ao.n<=N):
 rC P ro N ι w σ (oU elem il base aY eQ size n vx) v ao:=by
 unfold fF at h;split at h
 ·rename_i cL ho;split at h
  ·rename_i hol;cases h;obtain⟨Ao,h1,h2⟩:=zh (P:=P) hi ho hs;obtain⟨c,rest,hc,l7,fU⟩:=OL (base:=base) ha zi fg (λd=>h1 _ rfl);have tx:=ha.tx
   obtain⟨aG,r1,r2,r3⟩:=hi.grown (ro:=ro) (by simp at hN;omega) (h2.append hr) rest elem (size:=size) (m:=aY+n) (c:=c) (by omega) (by simp[hol,hlen,atq])
    (by
     have e1:=h2.1;have e2:=hr.1;simp only[atc,l7,<-e1,<-e2,hol,hlen];rw[<-atq,<-atq]
     congr 1;omega) hc
   exact⟨_,_,aG,fU,r1,r2,r3⟩
  ·cases h
 ·cases h
theorem Inv.shrink(hi:Inv N ι σ w){id ay mn k:Nat}{cs:List IV}{l:Loc}(aE:σ.at id=aa (.cells cs ay mn))(cF:ro<=id)(hl:ι id ay=aa l)(hk:k<=cs.length):
 Inv N (dS ι id (ay+1) ⟨l.b,k,l.lim⟩) (σ.put id (.cells (cs.take k) (ay+1) (ay+1))) w/\Le ro ι w σ (dS ι id (ay+1) ⟨l.b,k,l.lim⟩) w (σ.put id (.cells (cs.take k) (ay+1) (ay+1))):=by
 obtain⟨⟨nD,bC⟩,⟨l0,jC,lg⟩,bg⟩:=hi.obj id _ aE;obtain rfl:l=l0:=by rw[hl]at jC;exact avB jC
 have kz:ι id (ay+1)=ah:=bC _ (by omega);have jD:=k_ (l:=⟨l.b,k,l.lim⟩) kz;refine hi.put aE cF ⟨_,_,hl⟩ jD (λi aW e=>by simp[dS,aW]) ?_ (asR _) (λ_ _ _=>rfl) rfl rfl rfl ?_
 ·intro b hb;rcases mw hb with hb|⟨_,hb⟩
  ·exact .inl hb
  ·subst hb;exact .inl ⟨_,_,hl,rfl⟩
 ·refine⟨⟨asR _,λe he=>?_⟩,⟨_,cj _ _ _ _,by simp;omega⟩,λe he ic=>?_⟩
  ·have:e≠ay+1:=by omega
   simp[dS,this,bC e (by omega)]
  ·have L8:e=ay+1:=by omega
   subst L8;obtain⟨l2,c2,OJ,h1,_,h3,h4,h5⟩:=bg ay nD (asR _);rw[hl]at h1;cases h1;refine⟨_,c2,OJ,cj _ _ _ _,by simp;omega,h3,h4,λj x hj hx=>?_⟩;simp only at hj;rw[atp,if_pos hj]at hx;obtain⟨u,hu,jt⟩:=h5 j x (by omega) hx;exact⟨u,hu,jt.mono jD⟩
theorem DZ{elem:TypeId}{il:Bool}{st bytes aY n id ay mn c:Nat}{zero vx:Value}{new cs:List IV}{cn:List Value}{l:Loc}{a:Addr}(hi:Inv N ι σ w)
 (ha:AM P elem st bytes aY n zero)(hr:aB ι new cn)(hlen:new.length=n*st)(bz:new.all aj=ab)(fg:∀d,vq P elem st n vx cn {w with drawn:=d} il)
 (aE:σ.at id=aa (.cells cs ay mn))(cF:ro<=id)(hl:ι id ay=aa l)(hn:0+aY*st<=l.n)(ib:0+c*st<=l.lim)(bE:0<st)(hle:aY<=c)(IE:0<c->a=⟨l.b,0,ah⟩)
 (l5:aY*st=cs.length)(h0:¬n=0):
 rC P ro N ι w σ (oU elem il (aa a) aY c st n vx) (.sl id 0 (aY+n) ah (ay+1) st) (σ.put id (.cells (cs++new) (ay+1) mn)):=by
 have hw:({w with drawn:=w.drawn}:World)=w:=rfl;have VO:Rv ι (.sl id 0 aY ah ay st) (.slice (aa a) aY c):=.sl _ _ _ _ _ _ l c a hl hn ib bE hle (λk hk=>by cases hk) IE;obtain⟨⟨nD,_⟩,⟨l3,h3,h4⟩,_⟩:=hi.obj id _ aE;rw[hl]at h3;cases h3;by_cases tz:aY+n<=c
 ·obtain⟨l2,cc,el,fa,Kv,ass,wg,arW,_⟩:=FI (hi.obj id _ aE) nD (asR _);rw[hl]at fa;cases fa;have hmul:(aY+n)*st<=c*st:=atk st tz;have GM:=hr.1;have ai:cs.length+cn.length<=cc.size:=by rw[atq]at hmul;omega
  obtain⟨r1,r2⟩:=hi.agi (ro:=ro) aE cF hr hl wg ai;have yc:=IE (by omega);subst yc;refine⟨.slice (aa ⟨l.b,0,ah⟩) (aY+n) c,_,_,?_,?_,r1,r2⟩
  ·rw[Ku tz (fg w.drawn),hw];simp only[ig,auf,l5,lZ (P:=P) wg ai (tq hr bz),asQ]
  ·exact .sl _ _ _ _ _ _ _ c _ (cj _ _ _ _) (by simp only[auf,hlen,<-l5,atq];exact asR _) ib bE tz (λk hk=>by cases hk) (λ_=>rfl)
 ·have IF:eU st aY σ (.sl id 0 aY ah ay st)=aa cs:=by
   simp only[eU,aE];simp[nD,l5]
  obtain⟨Ao,h5,h6⟩:=zh (P:=P) hi IF VO;obtain⟨c',rest,yd,l7,fU⟩:=OL (base:=aa a) ha tz fg (λd=>h5 _ rfl);obtain⟨r1,r2⟩:=hi.aeR (ro:=ro) aE cF h6 hr rest elem;refine⟨_,_,_,fU,?_,r1,r2⟩;refine .sl _ _ _ _ _ _ _ c' _ (cj _ _ _ _) ?_ ?_ bE yd (λk hk=>by cases hk) (λ_=>rfl)
  ·simp only[auf,hlen,<-l5,atq];exact asR _
  ·have e1:=h6.1;have e2:=hr.1;simp only[auf,atc,l7,<-e1,<-e2,hlen,<-l5];rw[<-atq,<-atq];exact atk _ (by omega)
theorem SV{elem:TypeId}{il:Bool}{size bytes aY n:Nat}{zero vs vx:Value}{s v:IV}{new:List IV}{cn:List Value}{ao:St}(hi:Inv N ι σ w)
 (ha:AM P elem size bytes aY n zero)(hr:aB ι new cn)(hlen:new.length=n*size)(bz:new.all aj=ab)(fg:∀d,vq P elem size n vx cn {w with drawn:=d} il)
 (hs:Rv ι s vs)(nG:kY s=aa aY)(h:eO ro size aY n new s σ=aa (.val v ao))(hN:ao.n<=N):
 ∃base eQ,vs=.slice base aY eQ/\rC P ro N ι w σ (oU elem il base aY eQ size n vx) v ao:=by
 have hw:({w with drawn:=w.drawn}:World)=w:=rfl;have tx:=ha.tx
 have stay:∀{base:Option Addr} {eQ:Nat},n=0->aY<=eQ->(∃a,base=aa a)\/base=ah->∀{u:IV},Rv ι u (.slice base aY eQ)->
  rC P ro N ι w σ (oU elem il base aY eQ size n vx) u σ:=by
  intro base eQ h0 hle hb u hu;subst h0;have hv:cn=[]:=List.eq_nil_of_length_eq_zero (by have:=hr.1;rw[avO]at hlen;omega);subst hv;refine⟨_,w,ι,?_,hu,hi,Le.refl _ _ _ _⟩;rw[Ku (by simpa using hle) (fg w.drawn)];cases base<;>simp[storeCells]
 unfold eO at h;split at h
 ·rename_i l c;split at h
  ·rename_i l5;obtain⟨rfl,rfl⟩:=l5;have e0:aY=0:=by simp[kY]at nG;exact nG.symm
   subst e0;cases hs;refine⟨ah,0,rfl,?_⟩;split at h
   ·rename_i h0;cases h;exact stay h0 (asR _) (.inr rfl) (.raw _)
   ·rename_i h0;exact BK hi ha (by omega) hr hlen fg (.raw _) h hN
  ·cases h
 ·have e0:aY=0:=by simp[kY]at nG;exact nG.symm
  subst e0;cases hs with
  |emp a=>
   refine⟨aa a,0,rfl,?_⟩;split at h
   ·rename_i h0;cases h;exact stay h0 (asR _) (.inl ⟨a,rfl⟩) (.emp a)
   ·rename_i h0;exact BK hi ha (by omega) hr hlen fg (.emp a) h hN
 ·rename_i st es;have e0:aY=es.length:=by simp[kY]at nG;exact nG.symm
  subst e0;split at h
  ·rename_i h0;cases h;cases hs with
   |tree _ _ b off c us bE hc bH hu hh=>exact⟨_,c,rfl,stay h0 hc (.inl ⟨_,rfl⟩) (.tree _ _ b off c us bE hc bH hu hh)⟩
   |dY _ a c bE hn=>exact⟨a,c,rfl,stay h0 (Nat.zero_le _) (by cases a with|none=>exact .inr rfl|some a=>exact .inl ⟨a,rfl⟩) (.dY _ a c bE hn)⟩
  ·cases h
 ·rename_i id off len cap ep st;have e0:aY=len:=by simp[kY]at nG;exact nG.symm
  subst e0;split at h
  ·cases h
  ·rename_i cw;have cw:st=size:=atA cw;subst cw;cases hs with
   |sl _ _ _ _ _ _ l c a hl hn ib bE hle fO IE=>
    refine⟨aa a,c,rfl,?_⟩;have VO:Rv ι (.sl id off aY cap ep st) (.slice (aa a) aY c):=.sl _ _ _ _ _ _ l c a hl hn ib bE hle fO IE;split at h
    ·rename_i h0;cases h;exact stay h0 hle (.inl ⟨a,rfl⟩) VO
    ·rename_i h0;split at h
     ·rename_i k;have hck:=(fO k rfl).1;subst hck;split at h
      ·rename_i tz;split at h
       ·rename_i cs ay mn aE;split at h
        ·rename_i hc;obtain⟨cF,rfl,DW⟩:=hc;cases h;have ajT:off+aY*st+new.length<=cs.length:=by rw[hlen];rw[atq]at DW;omega
         obtain⟨l2,cc,el,fa,wg,ai,r1,r2⟩:=hi.write (ro:=ro) aE cF ajT hr;rw[hl]at fa;cases fa
         have qR:l.n=cs.length:=by
          obtain⟨_,⟨l3,h3,h4⟩,_⟩:=hi.obj id _ aE;rw[hl]at h3;cases h3;exact h4
         have yc:=IE (by omega);subst yc;refine⟨.slice (aa ⟨l.b,off,ah⟩) (aY+n) c,_,ι,?_,?_,r1,r2⟩
         ·rw[Ku tz (fg w.drawn),hw];simp only[ig,lZ (P:=P) wg ai (tq hr bz),asQ]
         ·exact .sl _ _ _ _ _ _ l c _ hl (by omega) ib bE tz fO (λ_=>rfl)
        ·cases h
       ·cases h
      ·rename_i tz;exact BK hi ha tz hr hlen fg VO h hN
     ·split at h
      ·rename_i cs ay mn aE;split at h
       ·rename_i hc;obtain⟨cF,rfl,rfl,l5⟩:=hc;cases h;exact DZ hi ha hr hlen bz fg aE cF hl hn ib bE hle IE l5 h0
       ·split at h
        ·rename_i hc;obtain⟨cF,rfl,rfl,l5⟩:=hc;cases h;obtain⟨i1,l1⟩:=hi.shrink (ro:=ro) aE cF hl l5;have hx:=l1.ext;have:=DZ (ro:=ro) (id:=id) (ay:=ep+1) (mn:=ep+1) (cs:=cs.take (aY*st)) (l:=⟨l.b,aY*st,l.lim⟩) (a:=a) i1 ha (hr.mono hx) hlen bz fg (by rw[St.c_,if_pos rfl]) cF (cj _ _ _ _) (by simp) ib bE hle IE (by rw[at5];omega) h0;obtain⟨u,w',aG,k1,k2,k3,k4⟩:=this;exact⟨u,w',aG,k1,k2,k3,Le.trans (λid h1 h2=>by simp only[St.nS]at h2;omega) l1 k4⟩
        ·cases h
      ·cases h
 ·cases h
theorem Ya{argTypes:Array TypeId}{ty:TypeId}{s x v:IV}{vs vx:Value}{ao:St}(hi:Inv N ι σ w)(hs:Rv ι s vs)(hx:Rv ι x vx)(h:kW P ro argTypes s x σ=aa (.val v ao))(hN:ao.n<=N):
 rC P ro N ι w σ (avf argTypes ty #[vs,vx]) v ao:=by
 unfold kW at h;split at h
 ·rename_i sT xT h0 h1;split at h
  ·rename_i elem xd hu hxd;split at h
   ·rename_i size zero bytes aU hz hb;split at h
    ·cases h
    ·rename_i hc;have bE:size≠0:=λe=>hc (.inl e);have sK:zero.cells.size=size:=atA λe=>hc (.inr e);split at h
     ·rename_i n new aY Yb hls;split at h
      ·rename_i bQ;obtain⟨hlen,bz,Ks,VN⟩:=bQ;obtain⟨cn,hr,fg,tA⟩:=ON hi bE sK hz Yb hx;have ha:AM P elem size bytes aY n zero:=⟨aU,hz,hb,bE,sK,Ks,VN⟩;obtain⟨base,eQ,rfl,u,w',aG,fU,g⟩:=SV hi ha hr hlen bz fg hs hls h hN;refine⟨u,w',aG,?_,g⟩;rcases tA with⟨k,rfl,l,rfl,jC,rD,rfl⟩|⟨hd,hn⟩
       ·have IC:l.toNat*bytes<=2 ^48:=by
         have:l.toNat*bytes<=(4*(aY+l.toNat)+4096)*bytes:=atk _ (by omega);omega
        rw[SU h0 h1 hu hxd aU hb jC rD IC];exact fU
       ·rw[SR h0 h1 hu hxd hd aU hn];rw[DY hd]at fU;exact fU
      ·cases h
     ·cases h
   ·cases h
  ·cases h
 ·cases h
end Go.Ev
