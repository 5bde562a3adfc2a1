/- Lemmas over the model, without conditions of their own: operations of the ideal machine are sound (1). -/
import Derived.Test.YtpfogalbnijcoaaGreatEvA
import Derived.Lib.Strings
import Derived.IntWalk
open Nat renaming le_refl->ar8,zero_add->atv,min_eq_left->avL,mul_le_mul_right->asx,add_mul->asE,mul_eq_zero->avM,zero_mul->au6
open List renaming getElem?_eq_some_iff->ar3,getElem?_toArray->atG,getElem?_append_left->asd,range->atD,getElem?_map->asi,take_take->avX,length_take->atz,append_assoc->ast,length_append->ass,getElem?_take->asD,replicate->asr,flatten_cons->auz,ext_getElem?->avv,getElem?_eq_none->av8,map_cons->asZ,replicate_succ->aug,length_cons->asV,getElem?_cons_succ->aur,getElem?_append_right->asz,flatMap_cons->auv
open Go.Instr renaming loadAt->axa,sureAddr->auo,extract->awY,makeMap->awZ,fieldAt->aw0,indexAt->avS,index->axi,fill->axu,build->axj
open Option renaming map_eq_some_iff->ar9,isSome_iff_exists->auM
open Go.World renaming setRow->axb
open Option.some renaming inj->auU,injEq->ar6
open Go.Sem renaming run_bind->ar_,run_pure->asj,run->atV
open Go.Op renaming equalIn->atu,equal->avd,stringOp->auC
open Go.Result renaming andThen_ok->ar7
open Go renaming binOp->atN
open ByteArray renaming ext->axE,getElem_eq_getElem_data->axF
open Go.IntKind renaming i64->asC
open Array renaming ext'->auf,range->av9,toList_map->avw,getElem?_toList->at0,length_toList->au9,all_eq_true_iff_forall_mem->avj,map_empty->awH
open List.cons renaming injEq->as4
open Classical renaming byContradiction->asO
open Go.IntWalk renaming i64_in->avC
open Bool renaming false_eq_true->asA
open Go.Builtin renaming lenOf->auK,firstCells->as9,growBy->awv,nextslicecap->at1,zeroCells->atH,append_->auw
open Option renaming some->aa,none->ah
open Bool renaming true->ab,false->af
set_option linter.all false
namespace Go.Ev
variable{P:Program}{N ro:Nat}{ι:Io}{w:World}{σ:St}{ρ:Operand->IV}{r:Operand->Value}{o:Oper}{out:eC}
def H6(ro:Nat)(N:Nat)(ι:Io)(w:World)(σ:St)(res:Result Next)(v:IV)(ao:St):Prop:=
 ∃u w' aG,(res=.ok (.value u) w'\/(res=.ok .skip w'/\u=Go.undef))/\Rv aG v u/\Inv N aG ao w'/\Le ro ι w σ aG w' ao
def By(ι:Io):Df->Deferred->Prop
 |.Dq id,d=>∃l,ι id 0=aa l/\d={target:=.collected l.b,args:= #[]}
 |.call f args,d=>∃cap us vs:List Value,d={target:=.fn (.func f) cap.toArray,args:=us.toArray}/\aC ι args vs/\vs=us++cap
def bu(P:Program)(ro:Nat)(N:Nat)(ι:Io)(w:World)(σ:St)(r:Operand->Value)(o:Oper):eC->Prop
 |.val v ao=>ao.n<=N->H6 ro N ι w σ ((execOp r o).run P w) v ao
 |.enter f args=>∃us:List Value,(execOp r o).run P w=.ok (.enter f us.toArray) w/\aC ι args us
 |.round id args=>∃l,∃us:List Value,ι id 0=aa l/\(execOp r o).run P w=(Instr.yield l.b us.toArray).run P w/\aC ι args us
 |.SP d=>∃dd,(execOp r o).run P w=.ok (.defer dd) w/\By ι d dd/\∃c,o.op=.defer c
 |.bY v=>∃u,(execOp r o).run P w=.halt (.panic u) w/\Rv ι v u
theorem H6.same(hi:Inv N ι σ w){res:Result Next}{v:IV}{u:Value}(h:res=.ok (.value u) w)(hr:Rv ι v u):H6 ro N ι w σ res v σ:=
 ⟨u,w,ι,.inl h,hr,hi,Le.refl _ _ _ _⟩
theorem bu.same(hi:Inv N ι σ w){v:IV}{u:Value}(h:(execOp r o).run P w=.ok (.value u) w)(hr:Rv ι v u):bu P ro N ι w σ r o (.val v σ):=
 λ_=>H6.same hi h hr
theorem aJ{v:IV}(h:ret v σ=aa out):out=.val v σ:=by cases h;rfl
theorem SY{x:Operand}(hi:Inv N ι σ w)(hr:Rv ι (ρ x) (r x))(ho:o.op=.move x\/o.op=.assign x):bu P ro N ι w σ r o (.val (ρ x) σ):=
 bu.same hi (by rcases ho with ho|ho<;>simp[execOp,ho]) hr
theorem ad7{c a b:Operand}(hi:Inv N ι σ w)(hc:Rv ι (ρ c) (r c))(ha:Rv ι (ρ a) (r a))(hb:Rv ι (ρ b) (r b))(ho:o.op=.pick c a b)(h:av P ro ρ o σ=aa out):
 bu P ro N ι w σ r o out:=by
 unfold av at h;rw[ho]at h;simp only at h;split at h
 ·rename_i t ht;rw[ht]at hc;have Gj:r c=.bool t:=by generalize hu:r c=u at hc;cases hc;rfl
  obtain rfl:=aJ h;cases t
  ·exact bu.same hi (u:=r b) (by simp[execOp,ho,Gj,asBool]) hb
  ·exact bu.same hi (u:=r a) (by simp[execOp,ho,Gj,asBool]) ha
 ·cases h
theorem Vb{cs:List IV}{vs rest:List Value}{el:TypeId}{w':World}{l:Loc}{id:Nat}(hr:aC ι cs vs)(hl:ι id 0=aa l)(bw:∀e,0<e->ι id e=ah)(hn:l.n=cs.length)(gU:l.lim=(vs++rest).length)
 (hh:w'.heap[l.b]?=aa (.cells (vs++rest).toArray el (0,0))):kH ι w' id (.cells cs 0 0):=by
 refine⟨⟨ar8 _,bw⟩,⟨l,hl,hn⟩,λe _ he=>?_⟩;obtain rfl:e=0:=by omega
 refine⟨l,(vs++rest).toArray,el,hl,by omega,hh,by simpa using gU,λk x _ hx=>?_⟩;obtain⟨u,hu,jd⟩:=hr.get hx;refine⟨u,?_,jd⟩;have ai:=(ar3.1 hu).1;rw[atG,asd ai];exact hu
theorem Inv.SZ(hi:Inv N ι σ w)(hN:σ.n<N){cs:List IV}{vs:List Value}(hr:aC ι cs vs)(rest:List Value)(el:TypeId){w':World}(hw:w'.heap=w.heap.push (.cells (vs++rest).toArray el))
 (vJ:w'.os=w.os)(xK:w'.tape=w.tape)(xL:w'.output=w.output):
 Inv N (dM ι σ.n 0 ⟨w.heap.size,cs.length,(vs++rest).length⟩) (σ.add (.cells cs 0 0)) w'/\Le ro ι w σ (dM ι σ.n 0 ⟨w.heap.size,cs.length,(vs++rest).length⟩) w' (σ.add (.cells cs 0 0)):=by
 have hx:∀e,ι σ.n e=ah:=hi.fresh _ (ar8 _) hN;have hh:w'.heap[w.heap.size]?=aa (.cells (vs++rest).toArray el (0,0)):=by rw[hw];simp
 refine hi.add hN hw vJ xK xL rfl (Vb (rest:=rest) (hr.mono (kI (hx 0))) (cd _ _ _ _) (λe he=>?_) rfl rfl hh);have:e≠0:=by omega
 simp[dM,this,hx e]
theorem Inv.newRow(hi:Inv N ι σ w)(hN:σ.n<N){cs:List IV}{vs:List Value}(hr:aC ι cs vs)(el:TypeId):
 let l:Loc:=⟨w.heap.size,cs.length,vs.length⟩
 let w':World:={w with heap:=w.heap.push (.cells vs.toArray el)}
 Inv N (dM ι σ.n 0 l) (σ.add (.cells cs 0 0)) w'/\Le ro ι w σ (dM ι σ.n 0 l) w' (σ.add (.cells cs 0 0)):=by
 intro l w';have:=hi.SZ (ro:=ro) hN hr [] el (w':=w') (by simp[w']) rfl rfl rfl;simpa[l]using this
theorem aau{t:TypeId}(hi:Inv N ι σ w)(ho:o.op=.alloc t)(h:av P ro ρ o σ=aa out):bu P ro N ι w σ r o out:=by
 unfold av at h;rw[ho]at h;simp only at h;split at h
 ·rename_i z hz;obtain rfl:=aJ h;intro hN;obtain⟨h1,h2⟩:=hi.newRow (ro:=ro) (by simp at hN;omega) (aC.sU (ι:=ι) z.cells.toList) t;refine⟨.pointer (aa ⟨w.heap.size,0,ah⟩),_,_,.inl ?_,?_,h1,h2⟩
  ·simp[execOp,ho,Instr.alloc,iX hz,newVar,newRow]
  ·exact .ptr _ _ _ _ _ (cd _ _ _ _) (by simp)
 ·cases h
theorem afw{t:TypeId}{x:Operand}(hi:Inv N ι σ w)(hr:Rv ι (ρ x) (r x))(ho:o.op=.box t x)(h:av P ro ρ o σ=aa out):bu P ro N ι w σ r o out:=by
 unfold av at h;rw[ho]at h;simp only at h;split at h
 ·rename_i bp;obtain rfl:=aJ h;intro hN;obtain⟨h1,h2⟩:=hi.newRow (ro:=ro) (by simp at hN;omega) (hr.Bw bp) t;refine⟨.pointer (aa ⟨w.heap.size,0,ah⟩),_,_,.inl ?_,?_,h1,h2⟩
  ·simp[execOp,ho,Instr.box,newVar,newRow]
  ·have:=(hr.Bw bp).1;exact .ptr _ _ _ _ _ (cd _ _ _ _) (by simp only[atv];omega)
 ·cases h
theorem ad8{t:TypeId}{x:Operand}(hi:Inv N ι σ w)(hr:Rv ι (ρ x) (r x))(ho:o.op=.load t x)(h:av P ro ρ o σ=aa out):bu P ro N ι w σ r o out:=by
 unfold av at h;rw[ho]at h;simp only at h;split at h
 ·rename_i id off ep ext hx;rw[hx]at hr;split at h
  ·rename_i s cs ay mn hs aE;split at h
   ·rename_i hc;split at h
    ·rename_i v hp;obtain rfl:=aJ h;obtain⟨a,u,ha,fJ,jd⟩:=Dt hi hs aE hc.1 hc.2.1 hc.2.2 hp hr;exact bu.same hi (u:=u) (by simp[execOp,ho,axa,auo,ha,fJ]) jd
    ·cases h
   ·cases h
  ·cases h
 ·rename_i cs hx;rw[hx]at hr;split at h
  ·rename_i v hp;obtain rfl:=aJ h;generalize hq:r x=q at hr;cases hr with
   |lp _ b off us hu hh=>
    have kb:y6 w b off ((atD cs.length).map us):=by
     intro j v hj;simp only[asi,ar9]at hj;obtain⟨j',fO,rfl⟩:=hj
     have:j'=j/\j<cs.length:=by
      rw[ar3]at fO;obtain⟨h1,h2⟩:=fO;simp at h1 h2;exact⟨h2.symm,h1⟩
     obtain⟨rfl,ai⟩:=this;have hm:=hu j' ai;unfold oE at hm;cases hb:ι.m b with
     |none=>simp[hb]at hm
     |some c=>
      obtain⟨el,f,hh'⟩:=hi.mem b c hb;rw[cell_of hh'];simpa[hb]using hm
    have hl:aC ι cs ((atD cs.length).map us):=by
     refine⟨by simp,λi c v h1 h2=>?_⟩;have ai:=(ar3.1 h1).1
     have:v=us i:=by
      simp[ai]at h2;exact h2.symm
     subst this;exact hh i c h1
    obtain⟨u,h1,h2⟩:=H4 (k:=0) hp hl kb;exact bu.same hi (u:=u) (by simp at h1;simp[execOp,ho,axa,auo,hq,h1]) h2
  ·cases h
 ·cases h
end Go.Ev
namespace Go.Ev
variable{P:Program}{N ro:Nat}{ι:Io}{w:World}{σ:St}{ρ:Operand->IV}{r:Operand->Value}{o:Oper}{out:eC}
theorem uB(w:World)(g:Nat)(cs:Array Value)(b:Nat)(h:b≠g):(w.setRow g cs).heap[b]?=w.heap[b]? :=by
 simp only[axb,Array.getElem?_modify];rw[if_neg (by omega)]
theorem setRow_size(w:World)(g:Nat)(cs:Array Value):(w.setRow g cs).heap.size=w.heap.size:=by simp[axb]
theorem sW{cs:List IV}{vs:List Value}(hr:aC ι cs vs)(h:cs.all aj=ab):∀v∈vs,v.oneCell'=ab:=by
 intro v hv;obtain⟨i,hi⟩:=List.mem_iff_getElem?.1 hv;have ai:i<cs.length:=by have:=(ar3.1 hi).1;have:=hr.1;omega
 have hc:=hr.2 i cs[i] v (List.getElem?_eq_getElem ai) hi;have hk:=Xo hc (List.all_eq_true.1 h _ (List.getElem_mem ai));cases v<;>first|rfl|exact absurd rfl (hk.1 _)|exact absurd rfl (hk.2 _)
theorem Sk(A:List Value)(n off:Nat)(cj:List Value)(h1:off+cj.length<=n)(h2:n<=A.length)(k:Nat)(hk:k<n):
 (A.take off++cj++A.drop (off+cj.length))[k]?=((A.take n).take off++cj++(A.take n).drop (off+cj.length))[k]? :=by
 have e1:(A.take n).take off=A.take off:=by rw[avX,avL (by omega)]
 have e2:A.drop (off+cj.length)=(A.take n).drop (off+cj.length)++A.drop n:=by
  have hA:A=A.take n++A.drop n:=(List.take_append_drop n A).symm;have hl:(A.take n).length=n:=by rw[atz];omega
  have:=List.drop_append_of_le_length (l₁:=A.take n) (l₂:=A.drop n) (i:=off+cj.length) (by omega);rw[<-hA]at this;exact this
 rw[e1,e2,<-ast];refine asd ?_;simp only[ass,atz,List.length_drop];omega
theorem Inv.write(hi:Inv N ι σ w){id off ay mn:Nat}{cs new:List IV}{cj:List Value}(aE:σ.at id=aa (.cells cs ay mn))(cB:ro<=id)(Du:off+new.length<=cs.length)
 (hr:aC ι new cj):∃l c el,ι id ay=aa l/\w.heap[l.b]?=aa (.cells c el (0,0))/\off+cj.length<=c.size/\
  Inv N ι (σ.put id (.cells (dw cs off new) ay ay)) (w.setRow l.b (c.toList.take off++cj++c.toList.drop (off+cj.length)).toArray)/\
  Le ro ι w σ ι (w.setRow l.b (c.toList.take off++cj++c.toList.drop (off+cj.length)).toArray) (σ.put id (.cells (dw cs off new) ay ay)):=by
 have dz:=hi.obj id _ aE;obtain⟨qs,⟨l0,jn,kJ⟩,_⟩:=dz;obtain⟨l,c,el,hl,hn,aT,hc,gU,kb⟩:=Fj (hi.obj id _ aE) qs.1 (ar8 _);obtain rfl:l=l0:=by rw[hl]at jn;exact auU jn
 have Gk:=hr.1;have ai:off+cj.length<=c.size:=by omega
 refine⟨l,c,el,hl,hc,ai,?_⟩;refine hi.put aE cB ⟨_,_,hl⟩ (Ext.refl _) (λ_ _ _=>rfl) (λb hb=>.inl hb) (by rw[setRow_size];exact ar8 _) (λb _ bw=>uB _ _ _ _ ?_) rfl rfl rfl ?_
 ·intro e;subst e;exact bw ⟨_,_,hl,rfl⟩
 ·refine⟨⟨ar8 _,qs.2⟩,⟨l,hl,by simp[dw,kJ];omega⟩,λe he gV=>?_⟩;obtain rfl:e=ay:=by omega
  refine⟨l,_,el,hl,by simp[dw];omega,setRow_heap w l.b c _ el _ hc,by simp;omega,λk x hk hx=>?_⟩;rw[kJ,List.take_length]at kb;have pj:cs.length<=c.toList.length:=by simp;omega
  have Vc:aC ι (dw cs off new) ((c.toList.take cs.length).take off++cj++(c.toList.take cs.length).drop (off+cj.length)):=kb.dw off hr;obtain⟨u,hu,jd⟩:=Vc.get hx;refine⟨u,?_,jd⟩;simp only[atG];rw[<-hu];exact Sk c.toList cs.length off cj (by omega) pj k (by omega)
theorem lC{l:Loc}{c:Array Value}{el:TypeId}{off:Nat}{cj:List Value}(hc:w.heap[l.b]?=aa (.cells c el (0,0)))(ai:off+cj.length<=c.size)(h1:∀v∈cj,v.oneCell'=ab):
 (storeCells ⟨l.b,off,ah⟩ cj).run P w=.ok () (w.setRow l.b (c.toList.take off++cj++c.toList.drop (off+cj.length)).toArray):=by
 have:=run_storeCells_at (P:=P) l.b off el cj 0 c w hc (by omega) h1;simpa using this
theorem aav{t:TypeId}{a x:Operand}(hi:Inv N ι σ w)(ha:Rv ι (ρ a) (r a))(hx:Rv ι (ρ x) (r x))(ho:o.op=.store t a x)(h:av P ro ρ o σ=aa out):bu P ro N ι w σ r o out:=by
 unfold av at h;rw[ho]at h;simp only at h;split at h
 ·rename_i id off ep ext hp;rw[hp]at ha;split at h
  ·rename_i s cs ay mn hs aE;split at h
   ·rename_i hc;obtain⟨cB,hlen,jo,hep,Du,bp⟩:=hc;obtain rfl:=aJ h;intro hN;subst hep;have iP:=hx.Bw bp;obtain⟨l,c,el,hl,vK,ai,h1,h2⟩:=hi.write (ro:=ro) aE cB (by rw[hlen];exact Du) iP;generalize hq:r a=q at ha;cases ha with
    |ptr _ _ _ _ l' cq il=>
     rw[hl]at cq;cases cq;refine⟨Go.undef,_,_,.inr ⟨?_,rfl⟩,.raw _,h1,h2⟩;have aT:(r x).cells.size=s:=by have:=iP.1;simp at this;omega
     simp[execOp,ho,Instr.storeAt,auo,hq,storeVar,eE hs,aT,lC (P:=P) vK ai (sW iP bp)]
   ·cases h
  ·cases h
 ·cases h
theorem Sl{x:Operand}(hi:Inv N ι σ w)(hr:Rv ι (ρ x) (r x))(ho:o.op=.nilCheck x)(h:av P ro ρ o σ=aa out):bu P ro N ι w σ r o out:=by
 unfold av at h;rw[ho]at h;simp only at h;split at h
 all_goals first|(cases h;done)|skip
 all_goals
  rename_i hx;rw[hx]at hr;obtain rfl:=aJ h;generalize hq:r x=q at hr;refine bu.same hi (u:=q) ?_ hr;cases hr<;>simp[execOp,ho,hq]
theorem eval_bin{op:BinOp}{t yT:TypeId}{x y:Operand}(ho:o.op=.binOp op t x y yT){v:Value}(h:(do eqGuard op t x y (r x) (r y);binOp op t (r x) (r y):Sem Value).run P w=.ok v w):
 (execOp r o).run P w=.ok (.value v) w:=by
 simp only[execOp,ho,ar_]at h⊢;rw[h];rfl
theorem toList_eq(s:ByteArray):s.toList=s.data.toList:=Lib.toList_data s
theorem Xp{t:TypeId}{a b:IV}{u v:Value}(d:Nat)(h:AB P t a b=ab)(ha:Rv ι a u)(hb:Rv ι b v):
 ((atu (d+1) t u v).run P w=.ok af w)/\((atu (d+1) t v u).run P w=.ok af w):=by
 unfold AB at h;split at h
 all_goals first|(cases h;done)|skip
 all_goals
  split at h
  ·rename_i hu;cases ha;cases hb;refine⟨?_,?_⟩<;>simp only[atu,ar_,aV hu,ar7]<;>rfl
  ·cases h
theorem xM{t:TypeId}{u v:Value}{c:Bool}(he:(atu (9999+1) t u v).run P w=.ok c w):
 (do pure (.bool (<-avd t u v)):Sem Value).run P w=.ok (.bool c) w/\(do pure (.bool (!(<-avd t u v))):Sem Value).run P w=.ok (.bool !c) w:=by
 have gV:(avd t u v).run P w=.ok c w:=he;constructor<;>simp only[ar_,gV,ar7,asj]
theorem Ln{t:TypeId}{a b:IV}{u v:Value}{x y:Operand}(h:AB P t a b=ab)(ha:Rv ι a u)(hb:Rv ι b v):
 ((∀op,(eqGuard op t x y u v).run P w=.ok () w)/\(atN .eql t u v).run P w=.ok (.bool af) w/\(atN .neq t u v).run P w=.ok (.bool ab) w)/\
 ((∀op,(eqGuard op t x y v u).run P w=.ok () w)/\(atN .eql t v u).run P w=.ok (.bool af) w/\(atN .neq t v u).run P w=.ok (.bool ab) w):=by
 have h1:=Xp (w:=w) 9999 h ha hb;have h2:=xM h1.1;have h3:=xM h1.2;unfold AB at h;split at h
 all_goals first|(cases h;done)|skip
 all_goals
  cases ha;cases hb;exact⟨⟨λop=>by cases op<;>rfl,h2.1,h2.2⟩,⟨λop=>by cases op<;>rfl,h3.1,h3.2⟩⟩
theorem aaw{t:TypeId}{a b:IV}{u v:Value}{x y:Operand}(h:U6 P t a b=ab)(ha:Rv ι a u)(hb:Rv ι b v):
 (∀op,(eqGuard op t x y u v).run P w=.ok () w)/\(atN .eql t u v).run P w=.ok (.bool af) w/\(atN .neq t u v).run P w=.ok (.bool ab) w:=by
 unfold U6 at h;rw[Bool.or_eq_true]at h;rcases h with h|h
 ·exact(Ln (w:=w) (x:=x) (y:=y) h ha hb).1
 ·exact(Ln (w:=w) (x:=x) (y:=y) h hb ha).2
theorem NZ{t:TypeId}{a b:IV}{u v:Value}{x y:Operand}{c:Bool}(h:ptrEq P t a b=aa c)(ha:Rv ι a u)(hb:Rv ι b v):
 (∀op,(eqGuard op t x y u v).run P w=.ok () w)/\(atN .eql t u v).run P w=.ok (.bool c) w/\(atN .neq t u v).run P w=.ok (.bool !c) w:=by
 unfold ptrEq at h;split at h
 ·rename_i i off e x1 j JX f y1;split at h
  ·rename_i el hu;split at h
   ·rename_i s hs;split at h
    ·rename_i hc;obtain⟨rfl,rfl,h0⟩:=hc;cases h;cases ha with
     |ptr _ off _ _ l hl _=>
      cases hb with
      |ptr _ JX _ _ l' cq _=>
       rw[hl]at cq;cases cq
       have he:∀d,(atu (d+1) t (.pointer (aa ⟨l.b,off,ah⟩)) (.pointer (aa ⟨l.b,JX,ah⟩))).run P w=.ok (off==JX) w:=by
        intro d;simp only[atu,ar_,aV hu,ar7,eE hs,ne_eq,h0,not_false_eq_true,if_true,sameAddr,beq_self_eq_true];by_cases hh:off=JX
        ·subst hh;simp
        ·have:((⟨l.b,off,ah⟩:Addr)==⟨l.b,JX,ah⟩)=af:=by simp[hh]
         simp[this,hh]
       have h2:=xM (he 9999);exact⟨λop=>by cases op<;>rfl,h2.1,h2.2⟩
    ·cases h
   ·cases h
  ·cases h
 ·cases h
theorem afx{op:BinOp}{t yT:TypeId}{x y:Operand}(hi:Inv N ι σ w)(hx:Rv ι (ρ x) (r x))(hy:Rv ι (ρ y) (r y))(ho:o.op=.binOp op t x y yT)(h:av P ro ρ o σ=aa out):
 bu P ro N ι w σ r o out:=by
 unfold av at h;rw[ho]at h;simp only at h;split at h
 ·rename_i v hv;obtain rfl:=aJ h
  suffices hs:∃u,(do eqGuard op t x y (r x) (r y);binOp op t (r x) (r y):Sem Value).run P w=.ok u w/\Rv ι v u by
   obtain⟨u,h1,h2⟩:=hs;exact bu.same hi (eval_bin ho h1) h2
  generalize oF:r x=a at hx;generalize hry:r y=b at hy;generalize sX:ρ x=ix at hx hv;generalize hiy:ρ y=iy at hy hv;unfold pf at hv
  have strs:∀(s u:ByteArray),ix=.raw (.string s)->iy=.raw (.string u)->a=.string s/\b=.string u:=by
   intro s u h1 h2;subst h1 h2;cases hx;cases hy;exact⟨rfl,rfl⟩
  split at hv
  ·rename_i s u;obtain⟨rfl,rfl⟩:=strs s u rfl rfl;cases hv;exact⟨_,by simp[eqGuard,atN,auC,toList_eq],.raw _⟩
  ·rename_i s u;obtain⟨rfl,rfl⟩:=strs s u rfl rfl;cases hv;exact⟨_,by simp[eqGuard,atN,auC,toList_eq],.raw _⟩
  ·rename_i s u;obtain⟨rfl,rfl⟩:=strs s u rfl rfl;cases hv;exact⟨_,by simp[eqGuard,atN,auC,toList_eq],.raw _⟩
  ·rename_i s u;obtain⟨rfl,rfl⟩:=strs s u rfl rfl;cases hv;exact⟨_,by simp[eqGuard,atN,auC,toList_eq],.raw _⟩
  ·rename_i s u;obtain⟨rfl,rfl⟩:=strs s u rfl rfl;cases hv;exact⟨_,by simp[eqGuard,atN,auC,toList_eq],.raw _⟩
  ·rename_i s u;obtain⟨rfl,rfl⟩:=strs s u rfl rfl;cases hv;exact⟨_,by simp[eqGuard,atN,auC,toList_eq],.raw _⟩
  ·rename_i s u;obtain⟨rfl,rfl⟩:=strs s u rfl rfl;split at hv
   ·rename_i aT;cases hv;refine⟨_,?_,.raw _⟩
    have e:(⟨(s.data.toList++u.data.toList).toArray⟩:ByteArray)=s++u:=by
     apply axE;simp
    rw[e]
    have hm:¬((s.size+u.size:Nat):Int)>asC.max:=by
     have:asC.max=9223372036854775807:=by decide
     rw[this];omega
    simp only[eqGuard,atN,auC,if_neg hm];simp
   ·cases hv
  ·split at hv
   ·rename_i u1 u2 h1 h2;rw[uA h1 hx,uA h2 hy];simp only[ar9]at hv;obtain⟨z,hz,rfl⟩:=hv;exact⟨z,eQ w _ hz,Rv.lift z⟩
   ·split at hv
    ·rename_i qG;obtain⟨hg,he⟩:=aaw (w:=w) (x:=x) (y:=y) qG hx hy;split at hv
     ·cases hv;exact⟨.bool af,by simp only[ar_,hg .eql,ar7,he.1],.raw _⟩
     ·cases hv;exact⟨.bool ab,by simp only[ar_,hg .neq,ar7,he.2],.raw _⟩
     ·cases hv
    ·split at hv
     ·obtain⟨hg,he⟩:=NZ (w:=w) (x:=x) (y:=y) ‹ptrEq P t ix iy=aa _› hx hy;cases hv;exact⟨.bool _,by simp only[ar_,hg .eql,ar7,he.1],.raw _⟩
     ·obtain⟨hg,he⟩:=NZ (w:=w) (x:=x) (y:=y) ‹ptrEq P t ix iy=aa _› hx hy;cases hv;exact⟨.bool _,by simp only[ar_,hg .neq,ar7,he.2],.raw _⟩
     ·cases hv
 ·cases h
end Go.Ev
namespace Go.Ev
variable{P:Program}{N ro:Nat}{ι:Io}{w:World}{σ:St}{ρ:Operand->IV}{r:Operand->Value}{o:Oper}{out:eC}
theorem eY{x:IV}{v u:Value}(hx:x=.raw v)(h:Rv ι x u):u=v:=by subst hx;cases h;rfl
theorem ai_{op:UnOp}{t:TypeId}{x:Operand}(hi:Inv N ι σ w)(hr:Rv ι (ρ x) (r x))(ho:o.op=.unOp op t x)(h:av P ro ρ o σ=aa out):bu P ro N ι w σ r o out:=by
 unfold av at h;rw[ho]at h;simp only at h;split at h
 ·rename_i v hx;split at h
  ·rename_i z hz;obtain rfl:=aJ h;have e:=eY hx hr;have:=eQ w _ hz;exact bu.same hi (u:=z) (by simp[execOp,ho,e,this]) (Rv.lift z)
  ·cases h
 ·cases h
theorem Vd{s t:TypeId}{x:Operand}(hi:Inv N ι σ w)(hr:Rv ι (ρ x) (r x))(ho:o.op=.convert s t x)(h:av P ro ρ o σ=aa out):bu P ro N ι w σ r o out:=by
 unfold av at h;rw[ho]at h;simp only at h;split at h
 ·rename_i v hx;split at h
  ·rename_i d hs hu;obtain rfl:=aJ h;have e:=eY hx hr;refine bu.same hi (u:=.string v) ?_ (.raw _)
   have:(convert s t (.string v)).run P w=.ok (.string v) w:=by
    simp only[convert,ar_,aV hs,aV hu,ar7];rfl
   simp[execOp,ho,e,this]
  ·cases h
 ·rename_i v _ hx;split at h
  ·rename_i z hz;obtain rfl:=aJ h;have e:=eY hx hr;have:=eQ w _ hz;exact bu.same hi (u:=z) (by simp[execOp,ho,e,this]) (Rv.lift z)
  ·cases h
 ·cases h
theorem G1{t:TypeId}{x:Operand}(hi:Inv N ι σ w)(hr:Rv ι (ρ x) (r x))(ho:o.op=.makeInterface t x)(h:av P ro ρ o σ=aa out):bu P ro N ι w σ r o out:=by
 unfold av at h;rw[ho]at h;simp only at h;split at h
 ·cases h
 ·rename_i d hd hu;obtain rfl:=aJ h;refine bu.same hi (u:=.iface t (r x)) ?_ (.di _ _ _ hr);simp only[execOp,ho,Instr.makeInterface,ar_,aV hu,ar7];cases d<;>first|rfl|(exact absurd rfl (hd _))
 ·cases h
theorem Sn{f:Fn}{first cap:Array Operand}(hi:Inv N ι σ w)(hr:∀x∈first++cap,Rv ι (ρ x) (r x))(ho:o.op=.makeFunc f first cap)(h:av P ro ρ o σ=aa out):bu P ro N ι w σ r o out:=by
 unfold av at h;rw[ho]at h;simp only at h;obtain rfl:=aJ h;have h1:aC ι (first.toList.map ρ) (first.toList.map r):=aC.of_map λa ha=>hr a (by simp at ha⊢;exact .inl ha);have h2:aC ι (cap.toList.map ρ) (cap.toList.map r):=aC.of_map λa ha=>hr a (by simp at ha⊢;exact .inr ha);refine bu.same hi (u:=.func f (first.toList.map r).toArray (cap.toList.map r).toArray) ?_ (.fn _ _ _ _ _ h1.1 h1.2 h2.1 h2.2);simp only[execOp,ho,Instr.makeFunc,ar_,asj,ar7]
 congr 3<;>(apply auf;simp)
theorem Ve{x:Operand}{i:Nat}(hi:Inv N ι σ w)(hr:Rv ι (ρ x) (r x))(ho:o.op=.extract x i)(h:av P ro ρ o σ=aa out):bu P ro N ι w σ r o out:=by
 unfold av at h;rw[ho]at h;simp only at h;split at h
 ·rename_i vs hx;split at h
  ·rename_i v hv;obtain rfl:=aJ h;rw[hx]at hr;generalize hq:r x=q at hr;cases hr with
   |az _ us hl hh=>
    obtain⟨u,hu,jd⟩:=aC.get ⟨hl,hh⟩ hv;exact bu.same hi (u:=u) (by simp[execOp,ho,awY,hq,hu]) jd
  ·cases h
 ·rename_i vs hx;split at h
  ·rename_i v hv;obtain rfl:=aJ h;have e:=eY hx hr;exact bu.same hi (u:=v) (by simp[execOp,ho,awY,e,hv]) (.raw _)
  ·cases h
 ·cases h
theorem Inv.afy(hi:Inv N ι σ w)(hN:σ.n<N):
 Inv N (dM ι σ.n 0 ⟨w.heap.size,1,1⟩) (σ.add (.map [] 0)) {w with heap:=w.heap.push (.map #[] 0)}/\
 Le ro ι w σ (dM ι σ.n 0 ⟨w.heap.size,1,1⟩) {w with heap:=w.heap.push (.map #[] 0)} (σ.add (.map [] 0)):=by
 refine hi.add hN rfl rfl rfl rfl rfl ⟨_, #[],cd _ _ _ _,by simp,by simp,λi e r h=>by simp at h⟩
theorem Vf{t:TypeId}{x:Option Operand}(hi:Inv N ι σ w)(hr:∀y∈x.toArray,Rv ι (ρ y) (r y))(ho:o.op=.makeMap t x)(h:av P ro ρ o σ=aa out):bu P ro N ι w σ r o out:=by
 unfold av at h;rw[ho]at h;simp only at h
 have key:out=.val (.map σ.n) (σ.add (.map [] 0))->(execOp r o).run P w=.ok (.value (.map (aa w.heap.size))) {w with heap:=w.heap.push (.map #[] 0)}->bu P ro N ι w σ r o out:=by
  intro h1 h2;subst h1;intro hN;obtain⟨h3,h4⟩:=hi.afy (ro:=ro) (by simp at hN;omega);exact⟨_,_,_,.inl h2,.map _ _ (cd _ _ _ _),h3,h4⟩
 split at h
 ·exact key (aJ h) (by simp[execOp,ho,awZ])
 ·rename_i y;split at h
  ·rename_i hu hx;have e:=eY hx (hr _ (by simp));exact key (aJ h) (by simp[execOp,ho,awZ,aV hu,e,asInt,asIntOf])
  ·cases h
theorem N0{s:TypeId}{x:Operand}{f:Nat}(hi:Inv N ι σ w)(hr:Rv ι (ρ x) (r x))(ho:o.op=.fieldAddr s x f)(h:av P ro ρ o σ=aa out):bu P ro N ι w σ r o out:=by
 unfold av at h;rw[ho]at h;simp only at h;split at h
 ·rename_i fields hu;split at h
  ·rename_i fd hf;split at h
   ·rename_i sz id off ep ext hs hx;split at h
    ·rename_i hc;obtain rfl:=aJ h;rw[hx]at hr;generalize hq:r x=q at hr;cases hr with
     |ptr _ _ _ _ l hl hle=>
      refine bu.same hi (u:=.pointer (aa ⟨l.b,off+fd.offset,ah⟩)) ?_ (.ptr _ _ _ _ l hl (by omega));simp[execOp,ho,aw0,aV hu,hf,auo,hq,fieldPlace,eE hs,hc.1,gX]
    ·cases h
   ·rename_i sz cs hs hx;split at h
    ·rename_i hc;obtain rfl:=aJ h;rw[hx]at hr;generalize hq:r x=q at hr;cases hr with
     |lp _ b off us y8 hh=>
      refine bu.same hi (u:=.pointer (aa ⟨b,off+fd.offset,ah⟩)) ?_ (.lp _ _ _ (λk=>us (fd.offset+k)) (λk hk=>?_) (λj c hj=>?_))
      ·simp[execOp,ho,aw0,aV hu,hf,auo,hq,fieldPlace,eE hs,hc.1,gX]
      ·simp at hk;rw[show off+fd.offset+k=off+(fd.offset+k) by omega];exact y8 _ (by omega)
      ·rw[asD]at hj;split at hj
       ·exact hh _ c (by simpa using hj)
       ·cases hj
    ·cases h
   ·cases h
  ·cases h
 ·cases h
theorem aax{t:TypeId}{x:Operand}{f:Nat}(hi:Inv N ι σ w)(hr:Rv ι (ρ x) (r x))(ho:o.op=.field t x f)(h:av P ro ρ o σ=aa out):bu P ro N ι w σ r o out:=by
 unfold av at h;rw[ho]at h;simp only at h;split at h
 ·rename_i fields cs hu hx;split at h
  ·rename_i fd hf;split at h
   ·rename_i v hp;obtain rfl:=aJ h;rw[hx]at hr;generalize hq:r x=q at hr;cases hr with
    |agg _ us hl hh=>
     obtain⟨u,h1,h2⟩:=NY hp ⟨hl,hh⟩ w;exact bu.same hi (u:=u) (by simp[execOp,ho,Instr.field,aV hu,hf,asAgg,hq,h1]) h2
   ·cases h
  ·cases h
 ·cases h
theorem N1{t:TypeId}{x ix:Operand}(hi:Inv N ι σ w)(hr:Rv ι (ρ x) (r x))(oF:Rv ι (ρ ix) (r ix))(ho:o.op=.indexAddr t x ix)(h:av P ro ρ o σ=aa out):bu P ro N ι w σ r o out:=by
 unfold av at h;rw[ho]at h;simp only at h;split at h
 ·rename_i elem k i hu sX;have ei:=eY sX oF;split at h
  ·rename_i id off len cap ep s hx;split at h
   ·rename_i hc;obtain⟨hs,h0,ai⟩:=hc;obtain rfl:=aJ h;rw[hx]at hr;generalize hq:r x=q at hr;have hn:i.toNat<len:=by omega
    have hmul:i.toNat*s+s<=len*s:=by
     have:(i.toNat+1)*s<=len*s:=asx s hn;rw[asE]at this;omega
    cases hr with
    |sl _ _ _ _ _ _ l c a hl hle gU bE lD fB ha=>
     have aq9:len*s<=c*s:=asx s lD;refine bu.same hi (u:=.pointer (aa ⟨l.b,off+i.toNat*s,ah⟩)) ?_ (.ptr _ _ _ _ l hl (by omega));have ea:=ha (by omega);subst ea;simp[execOp,ho,avS,ei,asIntOf,aV hu,hq,h0,ai,eE hs,gX]
   ·cases h
  ·rename_i s es hx;split at h
   ·rename_i hc;obtain⟨hs,h0⟩:=hc;split at h
    ·rename_i e he;split at h
     ·rename_i qW;obtain rfl:=aJ h;rw[hx]at hr;generalize hq:r x=q at hr;have ai:=(ar3.1 he).1;have fX:i<es.length:=by omega
      have hmul:i.toNat*s+s<=es.length*s:=by
       have:(i.toNat+1)*s<=es.length*s:=asx s ai;rw[asE]at this;omega
      cases hr with
      |tree _ _ b off c us bE hc bH y8 hh=>
       refine bu.same hi (u:=.pointer (aa ⟨b,off+i.toNat*s,ah⟩)) ?_ (.lp _ _ _ (λk=>us (i.toNat*s+k)) (λk hk=>?_) (λj c hj=>hh _ _ _ _ he hj))
       ·simp[execOp,ho,avS,ei,asIntOf,aV hu,hq,h0,fX,eE hs,gX]
       ·rw[show off+i.toNat*s+k=off+(i.toNat*s+k) by omega];exact y8 _ (by omega)
      |dS=>simp at ai
     ·cases h
    ·cases h
   ·cases h
  ·cases h
 ·rename_i n elem k i hu sX;have ei:=eY sX oF;split at h
  ·rename_i id off ep ext s hx hs;split at h
   ·rename_i hc;obtain⟨bE,h0,ai,JY⟩:=hc;obtain rfl:=aJ h;rw[hx]at hr;generalize hq:r x=q at hr;cases hr with
    |ptr _ _ _ _ l hl hle=>
     refine bu.same hi (u:=.pointer (aa ⟨l.b,off+i.toNat*s,ah⟩)) ?_ (.ptr _ _ _ _ l hl (by omega));simp[execOp,ho,avS,ei,asIntOf,aV hu,hq,auo,h0,ai,eE hs,gX]
   ·cases h
  ·cases h
 ·cases h
theorem aay{t:TypeId}{x ix:Operand}(hi:Inv N ι σ w)(hr:Rv ι (ρ x) (r x))(oF:Rv ι (ρ ix) (r ix))(ho:o.op=.index t x ix)(h:av P ro ρ o σ=aa out):bu P ro N ι w σ r o out:=by
 unfold av at h;rw[ho]at h;simp only at h;split at h
 ·rename_i s k i hu hx sX;have ei:=eY sX oF;have ex:=eY hx hr;split at h
  ·rename_i h0;split at h
   ·rename_i b hb;obtain rfl:=aJ h;refine bu.same hi (u:=.int .u8 b.toNat) ?_ (.raw _)
    have si:s[i.toNat]?=aa b:=by
     obtain⟨ai,he⟩:=ar3.1 hb;have fX:i.toNat<s.size:=by simpa using ai
     rw[getElem?_pos s i.toNat fX];simpa[axF]using he
    simp[execOp,ho,axi,ei,ex,asIntOf,aV hu,h0,si]
   ·cases h
  ·cases h
 ·rename_i n elem cs k i hu hx sX;have ei:=eY sX oF;split at h
  ·rename_i s hs;split at h
   ·rename_i hc;split at h
    ·rename_i v hp;obtain rfl:=aJ h;rw[hx]at hr;generalize hq:r x=q at hr;cases hr with
     |agg _ us hl hh=>
      obtain⟨u,h1,h2⟩:=NY hp ⟨hl,hh⟩ w;exact bu.same hi (u:=u) (by simp[execOp,ho,axi,ei,hq,asIntOf,aV hu,hc.1,hc.2,eE hs,h1]) h2
    ·cases h
   ·cases h
  ·cases h
 ·cases h
end Go.Ev
namespace Go.Ev
variable{P:Program}{N ro:Nat}{ι:Io}{w:World}{σ:St}{ρ:Operand->IV}{r:Operand->Value}{o:Oper}{out:eC}
theorem Gp(l:List Value)(s:Nat)(hl:l.length=s):∀n,(atD (n*s)).map (λi=>l[i % s]!)=(asr n l).flatten
 |0=>by simp
 |n+1=>by
  rw[asE,Nat.one_mul,List.range_add,List.map_append,Gp l s hl n,List.replicate_succ',List.flatten_append]
  congr 1
  simp only[auz,List.flatten_nil,List.append_nil,List.map_map];apply avv;intro i;by_cases hi:i<s
  ·have h1:(n*s+i) % s=i:=by rw[Nat.mul_comm,Nat.mul_add_mod,Nat.mod_eq_of_lt hi]
   simp[hi,h1,hl]
  ·rw[av8 (by simp;omega),av8 (by omega)]
theorem Xq(l:List Value)(s n:Nat)(hl:l.length=s)(hs:s≠0):gI (l.map .raw) (n*s)=((asr n l).flatten).map .raw:=by
 unfold gI;split
 ·rename_i z hz;cases l with
  |nil=>simp at hz
  |cons a l=>
   cases l with
   |nil=>
    simp only[asZ,List.map_nil,as4,and_true]at hz;subst hz;have dC:s=1:=by simpa using hl.symm
    subst dC;rw[Nat.mul_one];clear hl hs;induction n with
    |zero=>rfl
    |succ n ih=>rw[aug,aug,auz,ih];rfl
   |cons b l=>simp at hz
 ·rw[List.length_map,hl,Nat.mul_div_cancel _ (by omega),List.map_flatten];simp
theorem xN(z:Array Value)(s n:Nat)(hz:z.size=s)(hs:s≠0):(av9 (n*s)).map (λi=>z[i % z.size]!)=(((asr n z.toList).flatten)).toArray:=by
 apply auf;have:=Gp z.toList s (by simpa using hz) n;simp only[avw,Array.toList_range,hz];rw[<-this];apply List.map_congr_left;intro i _;simp[List.getElem!_eq_getElem?_getD,Array.getElem!_eq_getD]
theorem y9(z:Value)(s n:Nat)(hz:z.cells.size=s)(hs:s≠0):aC ι (gI (z.cells.toList.map .raw) (n*s)) ((asr n z.cells.toList).flatten):=by
 rw[Xq _ s n (by simpa using hz) hs];exact aC.sU _
theorem Dv(z:Value)(s n:Nat)(hz:z.cells.size=s):((asr n z.cells.toList).flatten).length=n*s:=by
 simp[hz]
theorem Lo(off:Nat):∀(l:List Value) (k:Nat) (A:Array Value) (i:Nat),off+k+l.length<=A.size->
 ((l.zipIdx k).foldl (λcs (x:Value×Nat)=>cs.setIfInBounds (off+x.2) x.1) A)[i]?=if off+k<=i/\i<off+k+l.length then l[i- off- k]? else A[i]?
 |[],k,A,i,_=>by
  have:¬(off+k<=i/\i<off+k+0):=by omega
  simp;intro h1 h2;omega
 |v::l,k,A,i,h=>by
  simp only[asV]at h;simp only[List.zipIdx_cons,List.foldl_cons];rw[Lo off l (k+1) _ i (by simp;omega)];by_cases h1:off+(k+1)<=i/\i<off+(k+1)+l.length
  ·rw[if_pos h1,if_pos (by simp;omega)];have:i- off- k=(i- off-(k+1))+1:=by omega
   rw[this,aur]
  ·rw[if_neg h1];by_cases h2:i=off+k
   ·subst h2;rw[if_pos (by simp)];have:off+k<A.size:=by omega
    simp[this]
   ·rw[if_neg (by simp;omega),Array.getElem?_setIfInBounds,if_neg (by omega)]
theorem Fk{place:Nat->Option (Nat×Nat)}:∀{parts:List (Nat×IV)} {xO:List (Nat×Value)} {cs cx:List IV} {A:Array Value},
 pZ place cs parts=aa cx->aC ι cs A.toList->parts.length=xO.length->(∀(i:Nat) (p:Nat×IV) (q:Nat×Value),parts[i]?=aa p->xO[i]?=aa q->p.1=q.1/\Rv ι p.2 q.2)->
 ∃A',axu place A xO=aa A'/\aC ι cx A'.toList
 |[],xO,cs,cx,A,h,hr,hl,hp=>by
  cases xO with
  |nil=>simp only[pZ,ar6]at h;subst h;exact⟨A,rfl,hr⟩
  |cons p q=>simp at hl
 |(i,x)::rest,xO,cs,cx,A,h,hr,hl,hp=>by
  cases xO with
  |nil=>simp at hl
  |cons q aq_=>
   obtain⟨j,v⟩:=q;obtain⟨h1,h2⟩:=hp 0 _ _ rfl rfl;simp only at h1 h2;subst h1;simp only[pZ]at h;split at h
   ·cases h
   ·rename_i off size nW;split at h
    ·rename_i hc;obtain⟨hlen,hle,bp⟩:=hc;have iP:=h2.Bw bp;have gY:v.cells.size=size:=by have:=iP.1;simp at this;omega
     have hAs:cs.length=A.size:=by have:=hr.1;simpa using this
     have hA:(v.cells.zipIdx.foldl (λcs (x:Value×Nat)=>cs.setIfInBounds (off+x.2) x.1) A).toList=A.toList.take off++v.cells.toList++A.toList.drop (off+v.cells.toList.length):=by
      apply avv;intro k;have hf:=Lo off v.cells.toList 0 A k (by simp;omega)
      have e:v.cells.zipIdx.foldl (λcs (x:Value×Nat)=>cs.setIfInBounds (off+x.2) x.1) A=(v.cells.toList.zipIdx 0).foldl (λcs (x:Value×Nat)=>cs.setIfInBounds (off+x.2) x.1) A:=by
       rw[<-Array.foldl_toList];simp
      rw[at0,e,hf];simp only[Nat.add_zero,Nat.sub_zero,au9];by_cases h3:k<off
      ·rw[if_neg (by omega),ast,asd (by simp;omega),asD,if_pos h3,at0]
      ·by_cases h4:k<off+v.cells.size
       ·rw[if_pos (by omega),asd (by simp;omega),asz (by simp;omega)]
        congr 1;simp;omega
       ·rw[if_neg (by omega),asz (by simp;omega),List.getElem?_drop,at0]
        congr 1;simp;omega
     have oG:=hr.dw off iP;rw[<-hA]at oG;obtain⟨A',h5,h6⟩:=Fk h oG (by simpa using hl) (λi p q lE CZ=>hp (i+1) p q lE CZ);refine⟨A',?_,h6⟩;simp only[axu,nW];rw[if_neg (by simp;omega)];exact h5
    ·cases h
theorem G2{parts:Array (Nat×Operand)}(hr:∀x∈(parts.toList.map (·.2)),Rv ι (ρ x) (r x)):
 ∀(i:Nat) (p:Nat×IV) (q:Nat×Value),(parts.toList.map λ(y:Nat×Operand)=>(y.1,ρ y.2))[i]?=aa p->((parts.map λ(y:Nat×Operand)=>(y.1,r y.2)).toList)[i]?=aa q->p.1=q.1/\Rv ι p.2 q.2:=by
 intro i p q h1 h2;simp only[asi,ar9,avw]at h1 h2;obtain⟨a,ha,rfl⟩:=h1;obtain⟨b,hb,rfl⟩:=h2;rw[ha]at hb;cases hb;exact⟨rfl,hr _ (List.mem_map.2 ⟨a,List.mem_of_getElem? ha,rfl⟩)⟩
theorem run_places{fields:List Field}(h:∀f∈fields,(aN P f.type).isSome=ab):
 (fields.mapM λf=>(do pure (f.offset,<-sizeOf f.type):Sem (Nat×Nat))).run P w=.ok (fields.map λf=>(f.offset,(aN P f.type).getD 0)) w:=by
 induction fields with
 |nil=>rfl
 |cons f fs ih=>
  obtain⟨s,hs⟩:=auM.1 (h f (by simp));rw[List.mapM_cons];simp only[ar_,eE hs,ar7,asj,ih (λg hg=>h g (by simp[hg])),asZ,hs,Option.getD_some]
theorem aaz{t:TypeId}{parts:Array (Nat×Operand)}(hi:Inv N ι σ w)(hr:∀x∈(parts.toList.map (·.2)),Rv ι (ρ x) (r x))(ho:o.op=.build t parts)(h:av P ro ρ o σ=aa out):
 bu P ro N ι w σ r o out:=by
 unfold av at h;rw[ho]at h;simp only at h;split at h
 ·rename_i z fields hz hu;split at h
  ·rename_i cs hf;split at h
   ·rename_i bz;obtain rfl:=aJ h;obtain⟨A',h1,h2⟩:=Fk (ι:=ι) hf (A:=z.cells) (aC.sU _) (by simp) (G2 hr);refine bu.same hi (u:=.agg A') ?_ ?_
    ·have hp:=run_places (P:=P) (w:=w) (fields:=fields.toList) (λf hf=>avj.1 bz f (by simpa using hf))
     have nW:(fields.mapM λf=>(do pure (f.offset,<-sizeOf f.type):Sem (Nat×Nat))).run P w=.ok (fields.map λf=>(f.offset,(aN P f.type).getD 0)) w:=by
      rw[Array.mapM_eq_mapM_toList,Sem.run_map,hp];simp only[ar7]
      congr 1
      apply auf;simp
     have afz:(λ(i:Nat)=>(fields.map λ(f:Field)=>(f.offset,(aN P f.type).getD 0))[i]?)=(λ(i:Nat)=>(fields[i]?).bind λ(f:Field)=>(aN P f.type).map λs=>(f.offset,s)):=by
      funext i;rw[Array.getElem?_map];cases hfi:fields[i]? with
      |none=>rfl
      |some f=>
       obtain⟨s,hs⟩:=auM.1 (avj.1 bz f (Array.mem_of_getElem? hfi));simp[hs]
     rw[<-afz]at h1;simp only[execOp,ho,axj,ar_,iX hz,aV hu,nW,ar7,h1,asj]
    ·have:=Rv.agg (ι:=ι) cs A'.toList h2.1 h2.2;simpa using this
   ·cases h
  ·cases h
 ·rename_i z n elem hz hu;split at h
  ·rename_i s hs;split at h
   ·rename_i cs hf;obtain rfl:=aJ h;obtain⟨A',h1,h2⟩:=Fk (ι:=ι) hf (A:=z.cells) (aC.sU _) (by simp) (G2 hr);refine bu.same hi (u:=.agg A') ?_ ?_
    ·simp only[execOp,ho,axj,ar_,iX hz,aV hu,eE hs,ar7,h1,asj]
    ·have:=Rv.agg (ι:=ι) cs A'.toList h2.1 h2.2;simpa using this
   ·cases h
  ·cases h
 ·cases h
theorem Ni{t:TypeId}{len:Nat}{parts:Array (Nat×Operand)}(hi:Inv N ι σ w)(hr:∀x∈(parts.toList.map (·.2)),Rv ι (ρ x) (r x))(ho:o.op=.buildSlice t len parts)
 (h:av P ro ρ o σ=aa out):bu P ro N ι w σ r o out:=by
 unfold av at h;rw[ho]at h;simp only at h;split at h
 ·rename_i elem hu;split at h
  ·rename_i s z hs hz;split at h
   ·cases h
   ·rename_i hc;have bE:s≠0:=λe=>hc (.inl e);have sj:z.cells.size=s:=asO λe=>hc (.inr (.inl e))
    have JZ:len*s<=2 ^20:=by
     have:¬len*s>2 ^20:=λe=>hc (.inr (.inr e));omega
    split at h
    ·rename_i cs hf;split at h
     ·rename_i bH;obtain⟨hlen,bp⟩:=bH;have Vh:=xN z.cells s len sj bE;obtain⟨A',h1,h2⟩:=Fk (ι:=ι) hf (A:=((asr len z.cells.toList).flatten).toArray) (by simpa using y9 z s len sj bE) (by simp) (G2 hr)
      have fJ:(execOp r o).run P w=.ok (.value (.slice (aa ⟨w.heap.size,0,ah⟩) len len)) {w with heap:=w.heap.push (.cells A' elem)}:=by
       simp only[execOp,ho,Instr.buildSlice,ar_,aV hu,eE hs,ar7];rw[if_neg (by omega)];by_cases h0:len*s=0
       ·have jn:len=0:=by rcases avM.1 h0 with h|h;exact h;exact absurd h bE
        have e0:av9 (len*s)= #[]:=by rw[h0];rfl
        have e1:((asr len z.cells.toList).flatten).toArray= #[]:=by rw[jn];rfl
        rw[e1]at h1;simp only[if_pos h0,asj,ar7,e0,awH,h1,newRow,ar_,run_newObj]
       ·simp only[h0,if_false,ar_,iX hz,ar7,asj,Vh,h1];simp[newRow]
      split at h
      ·rename_i jn;obtain rfl:=aJ h;subst jn;intro hN;obtain⟨h3,h4⟩:=hi.push (ro:=ro) (w':={w with heap:=w.heap.push (.cells A' elem)}) (o:=.cells A' elem) rfl rfl rfl rfl;exact⟨_,_,_,.inl fJ,.emp _,h3,h4⟩
      ·obtain rfl:=aJ h;intro hN;have hA:A'=A'.toList.toArray:=by simp
       obtain⟨h3,h4⟩:=hi.newRow (ro:=ro) (by simp at hN;omega) h2 elem;have hAl:cs.length=A'.size:=by have:=h2.1;simpa using this
       refine⟨_,_,_,.inl fJ,?_,by simpa using h3,by simpa using h4⟩;exact .sl _ _ _ _ _ _ _ _ _ (cd _ _ _ _) (by simp;omega) (by simp;omega) (by omega) (ar8 _) (λk hk=>by cases hk;exact⟨rfl,by simp;omega⟩) (λ_=>rfl)
     ·cases h
    ·cases h
  ·cases h
 ·cases h
theorem N2{t:TypeId}{l c:Operand}(hi:Inv N ι σ w)(lF:Rv ι (ρ l) (r l))(Gj:Rv ι (ρ c) (r c))(ho:o.op=.makeSlice t l c)
 (h:av P ro ρ o σ=aa out):bu P ro N ι w σ r o out:=by
 unfold av at h;rw[ho]at h;simp only at h;split at h
 ·rename_i elem k1 li k2 ci hu hl hc;have el:=eY hl lF;have ec:=eY hc Gj;split at h
  ·rename_i s z bytes hs hz hb;split at h
   ·cases h
   ·rename_i bP;have bE:s≠0:=λe=>bP (.inl e);have sj:z.cells.size=s:=asO λe=>bP (.inr (.inl e));have lD:0<=li/\li<=ci/\ci<=1000000:=asO λe=>bP (.inr (.inr (.inl e)))
    have H7:bytes<=1000000:=by
     have:¬bytes>1000000:=λe=>bP (.inr (.inr (.inr e)));omega
    obtain⟨i,cW,N3,hti⟩:=Ds hb w;have wl:asC.wrap li=li:=avC _ (by omega);have wc:asC.wrap ci=ci:=avC _ (by omega);have Vh:=xN z.cells s ci.toNat sj bE;have c1:¬ci<0:=by omega
    have c2:¬(2 ^48:Int)<(i.bytes:Int)*ci:=by
     have h1:(i.bytes:Int)*ci<=1000000*1000000:=by
      have cI:(i.bytes:Int)<=1000000:=by omega
      exact Int.mul_le_mul cI lD.2.2 (by omega) (by omega)
     omega
    have c3:¬li<0:=by omega
    have c4:¬ci<li:=by omega
    have fJ:(execOp r o).run P w=.ok (.value (.slice (aa ⟨w.heap.size,0,ah⟩) li.toNat ci.toNat)) {w with heap:=w.heap.push (.cells ((asr ci.toNat z.cells.toList).flatten).toArray elem)}:=by
     simp only[execOp,ho,Instr.makeSlice,ar_,aV hu,el,ec,asInt,asIntOf,asj,ar7,hti,wl,wc,gt_iff_lt,c1,c2,c3,c4,decide_false,Bool.or_self,asA,if_false,run_askRoom,eE hs];by_cases h0:ci.toNat*s=0
     ·have pj:ci.toNat=0:=by rcases avM.1 h0 with h|h;exact h;exact absurd h bE
      have e0:av9 (ci.toNat*s)= #[]:=by rw[h0];rfl
      have e1:((asr ci.toNat z.cells.toList).flatten).toArray= #[]:=by rw[pj];rfl
      simp only[if_pos h0,asj,ar7,e0,e1,awH,newRow,ar_,run_newObj]
     ·simp only[if_neg h0,ar_,iX hz,ar7,asj,Vh,newRow,run_newObj]
    split at h
    ·rename_i pj;obtain rfl:=aJ h;intro hN;obtain⟨h3,h4⟩:=hi.push (ro:=ro) (w':={w with heap:=w.heap.push (.cells ((asr ci.toNat z.cells.toList).flatten).toArray elem)}) (o:=.cells ((asr ci.toNat z.cells.toList).flatten).toArray elem) rfl rfl rfl rfl;have jn:li=0:=by omega
     subst pj jn;exact⟨_,_,ι,.inl fJ,.emp _,h3,h4⟩
    ·obtain rfl:=aJ h;intro hN;have h2:=y9 (ι:=ι) z s ci.toNat sj bE;have hlen:=Dv z s ci.toNat sj;obtain⟨h3,h4⟩:=hi.newRow (ro:=ro) (by simp at hN;omega) h2 elem;refine⟨_,_,_,.inl fJ,?_,h3,h4⟩;have hle:li.toNat*s<=ci.toNat*s:=asx s (by omega);exact .sl _ _ _ _ _ _ _ _ _ (cd _ _ _ _) (by simp only[atv];rw[h2.1,hlen];exact hle) (by simp only[atv];rw[hlen];exact ar8 _) (by omega) (by omega) (λk hk=>by cases hk;exact⟨rfl,by simp only[atv];rw[h2.1,hlen];exact ar8 _⟩) (λ_=>rfl)
  ·cases h
 ·cases h
end Go.Ev
namespace Go.Ev
variable{P:Program}{N ro:Nat}{ι:Io}{w:World}{σ:St}{ρ:Operand->IV}{r:Operand->Value}{o:Oper}{out:eC}
theorem S0{x:IV}{v:Value}{n:Nat}(h:kG x=aa n)(hr:Rv ι x v)(w:World):(auK v).run P w=.ok n w:=by
 unfold kG at h;split at h
 ·rename_i l c;split at h
  ·rename_i h0;cases h;cases hr;simp[auK,h0]
  ·cases h
 ·cases h;cases hr;rfl
 ·cases h;cases hr;rfl
 ·cases h;cases hr;rfl
 ·cases h;cases hr with
  |tree=>rfl
  |dS _ a=>cases a<;>rfl
 ·cases h
theorem Sp{es:List IV}{s i j:Nat}(bH:∀e∈es,(cellsOf e).length=s)(hj:j<s):(es.flatMap cellsOf)[i*s+j]?=(es[i]?).bind λe=>(cellsOf e)[j]? :=by
 induction es generalizing i with
 |nil=>simp
 |cons e es ih=>
  have he:=bH e (by simp);rw[auv];cases i with
  |zero=>simp only[au6,atv];rw[asd (by omega)];rfl
  |succ i=>
   rw[asz (by rw[asE];omega),aur,<-ih (λe he=>bH e (by simp[he]))]
   congr 1
   rw[he,asE];omega
theorem Sq{es:List IV}{s:Nat}(bH:∀e∈es,(cellsOf e).length=s):(es.flatMap cellsOf).length=es.length*s:=by
 induction es with
 |nil=>simp
 |cons e es ih=>rw[auv,ass,bH e (by simp),ih (λe he=>bH e (by simp[he])),asV,asE];omega
theorem y_{size n:Nat}{x:IV}{v:Value}{cs:List IV}(hi:Inv N ι σ w)(h:eL size n σ x=aa cs)(hr:Rv ι x v):
 ∃vs:List Value,(∀w':World,w'.heap=w.heap->(as9 size n v).run P w'=.ok vs.toArray w')/\aC ι cs vs:=by
 have gZ:∀w':World,w'.heap=w.heap->∀a:Addr,w'.cell? a=w.cell? a:=λw' C0 a=>by simp only[World.cell?,C0]
 unfold eL at h;split at h
 ·split at h
  ·cases h;cases hr;exact⟨[],λw' _=>by simp[as9],aC.nil⟩
  ·cases h
 ·split at h
  ·rename_i h0;cases h;cases hr;subst h0;exact⟨[],λw' _=>by simp[as9,loadCells,loadCellsFrom],aC.nil⟩
  ·cases h
 ·rename_i s;split at h
  ·rename_i h0;cases h;cases hr;refine⟨(s.data.toList.take n).map λb=>.int .u8 b.toNat,λw' _=>?_,aC.of_map λa _=>.raw _⟩;simp only[as9,asj]
   congr 1
   apply auf;simp
  ·cases h
 ·rename_i id off len cap ep s;split at h
  ·rename_i hc;obtain⟨rfl,hn⟩:=hc;split at h
   ·rename_i qt ay mn aE;split at h
    ·rename_i hc;cases h;obtain⟨l,c,el,hl,Dw,aT,vK,gU,kb⟩:=Fj (hi.obj id _ aE) hc.1 hc.2.1;cases hr with
     |sl _ _ _ _ _ _ l' k a cq hle S1 hs lD fB ha=>
      rw[hl]at cq;cases cq;have hmul:n*s<=len*s:=asx s hn;have Gk:(((c.toList.take l.n).drop off).take (n*s)).length=n*s:=by simp;omega
      have e1:(qt.drop off).take (n*s)=((qt.take l.n).drop off).take (n*s):=by
       rw[List.drop_take,avX];congr 1;omega
      refine⟨((c.toList.take l.n).drop off).take (n*s),λw' C0=>?_,?_⟩
      ·simp only[as9];rcases Nat.eq_zero_or_pos n with h0|h0
       ·subst h0;simp[loadCells,loadCellsFrom]
       ·have ea:=ha (by omega);subst ea
        have Vc:y6 w l.b off (((c.toList.take l.n).drop off).take (n*s)):=by
         have:=Si (Va (H5 vK l.n) off) (n*s);simpa using this
        have:=run_loadCells_list (P:=P) w' ⟨l.b,off,ah⟩ _ (λj v hj=>by rw[gX,gZ w' C0];exact Vc j v hj);rwa[Gk]at this
      ·rw[e1];exact(kb.drop off).take _
    ·cases h
   ·cases h
  ·cases h
 ·rename_i s es;split at h
  ·rename_i hc;obtain⟨rfl,hn⟩:=hc;cases h;cases hr with
   |tree _ _ b off c us hs hc bH hu hh=>
    have hmul:n*s<=es.length*s:=asx s hn;have afA:∀e∈es.take n,(cellsOf e).length=s:=λe he=>bH e (List.mem_of_mem_take he);have hlen:((es.take n).flatMap cellsOf).length=n*s:=by rw[Sq afA,atz,avL hn]
    refine⟨(atD (n*s)).map us,λw' C0=>?_,by simp[hlen],λi x v hx hv=>?_⟩
    ·simp only[as9];rw[run_loadCells (P:=P) w' ⟨b,off,ah⟩ (n*s) us];intro j hj;rw[gX,gZ w' C0];have hm:=hu j (by omega);unfold oE at hm;cases hb:ι.m b with
     |none=>simp[hb]at hm
     |some c=>
      obtain⟨el,f,hh'⟩:=hi.mem b c hb;rw[cell_of hh'];simpa[hb]using hm
    ·have ank:i<n*s:=by have:=(ar3.1 hx).1;omega
     have Xr:v=us i:=by
      simp[ank]at hv;exact hv.symm
     subst Xr;have hq:i/s*s+i % s=i:=Nat.div_add_mod' i s;have hj:i % s<s:=Nat.mod_lt _ hs;rw[<-hq,Sp afA hj]at hx;rw[Option.bind_eq_some_iff]at hx;obtain⟨e,he,qW⟩:=hx;rw[asD]at he;split at he
     ·have:=hh _ _ _ _ he qW;rwa[hq]at this
     ·cases he
   |dS _ a c hs hz=>
    obtain rfl:n=0:=by simpa using hn
    refine⟨[],λw' C0=>?_,by simp,λi x v hx hv=>by simp at hx⟩;cases a<;>simp[as9,loadCells,loadCellsFrom]
  ·cases h
 ·cases h
theorem Lp(bj:Nat):∀(k c:Nat),c<=bj+(bj+768)/4->awv bj k c<=bj+(bj+768)/4
 |0,c,h=>h
 |k+1,c,h=>by
  unfold awv;split
  ·exact h
  ·exact Lp bj k _ (by omega)
theorem Vi{bj cH:Nat}(h:cH<bj):at1 bj cH<=4*bj+4096:=by
 unfold at1;split
 ·omega
 ·split
  ·omega
  ·have:=Lp bj 4 cH (by omega);omega
theorem Inv.grown(hi:Inv N ι σ w)(hN:σ.n<N){cs:List IV}{vs:List Value}(hr:aC ι cs vs)(rest:List Value)(el:TypeId){size m c:Nat}(hs:0<size)(hm:cs.length=m*size)
 (hc:(vs++rest).length=c*size)(S2:m<=c):
 let w':World:={w with heap:=w.heap.push (.cells (vs++rest).toArray el),drawn:=w.drawn+1}
 ∃aG,Rv aG (.sl σ.n 0 m ah 0 size) (.slice (aa ⟨w.heap.size,0,ah⟩) m c)/\Inv N aG (σ.add (.cells cs 0 0)) w'/\Le ro ι w σ aG w' (σ.add (.cells cs 0 0)):=by
 intro w';obtain⟨h1,h2⟩:=hi.SZ (ro:=ro) hN hr rest el (w':=w') rfl rfl rfl rfl;exact⟨_,.sl _ _ _ _ _ _ _ _ _ (cd _ _ _ _) (by simp[hm]) (by simp only[atv];rw[hc];exact ar8 _) hs S2 (λk hk=>by cases hk) (λ_=>rfl),h1,h2⟩
theorem Inv.afB(hi:Inv N ι σ w){id ay mn:Nat}{cs new:List IV}{cj:List Value}(aE:σ.at id=aa (.cells cs ay mn))(cB:ro<=id)(hr:aC ι new cj)
 {l:Loc}{c:Array Value}{el:TypeId}(hl:ι id ay=aa l)(vK:w.heap[l.b]?=aa (.cells c el (0,0)))(ai:cs.length+cj.length<=c.size):
 let w':=w.setRow l.b (c.toList.take cs.length++cj++c.toList.drop (cs.length+cj.length)).toArray
 let aG:=dM ι id (ay+1) ⟨l.b,cs.length+new.length,l.lim⟩
 Inv N aG (σ.put id (.cells (cs++new) (ay+1) mn)) w'/\Le ro ι w σ aG w' (σ.put id (.cells (cs++new) (ay+1) mn)):=by
 intro w' aG;have dz:=hi.obj id _ aE;obtain⟨⟨qs,bw⟩,⟨l0,jn,kJ⟩,bz⟩:=dz;obtain rfl:l=l0:=by rw[hl]at jn;exact auU jn
 have j_:ι id (ay+1)=ah:=bw _ (by omega);have jo:=kI (l:=⟨l.b,cs.length+new.length,l.lim⟩) j_
 have gU:l.lim=c.size:=by
  obtain⟨l2,c2,N4,h1,_,h3,h4,_⟩:=bz ay qs (ar8 _);rw[hl]at h1;cases h1;rw[vK]at h3;cases h3;exact h4
 have C0:w'.heap[l.b]?=aa (.cells (c.toList.take cs.length++cj++c.toList.drop (cs.length+cj.length)).toArray el (0,0)):=setRow_heap w l.b c _ el _ vK;have Gk:=hr.1;refine hi.put aE cB ⟨_,_,hl⟩ jo (λi aZ e=>by simp[aG,dM,aZ]) ?_ (by simp only[w'];rw[setRow_size];exact ar8 _) (λb _ bw=>uB _ _ _ _ ?_) rfl rfl rfl ?_
 ·intro b hb;rcases lU hb with hb|⟨_,hb⟩
  ·exact .inl hb
  ·subst hb;exact .inl ⟨_,_,hl,rfl⟩
 ·intro e;subst e;exact bw ⟨_,_,hl,rfl⟩
 ·refine⟨⟨by omega,λe he=>?_⟩,⟨_,cd _ _ _ _,by simp⟩,λe he gV=>?_⟩
  ·have:e≠ay+1:=by omega
   simp[aG,dM,this,bw e (by omega)]
  ·by_cases Lq:e=ay+1
   ·subst Lq;refine⟨_,_,el,cd _ _ _ _,by simp,C0,by simp;omega,λk x hk hx=>?_⟩;obtain⟨l2,c2,N4,h1,_,h3,_,h5⟩:=bz ay qs (ar8 _);rw[hl]at h1;cases h1;rw[vK]at h3;cases h3;by_cases uo:k<cs.length
    ·rw[asd uo]at hx;obtain⟨u,hu,jd⟩:=h5 k x (by omega) hx;refine⟨u,?_,jd.mono jo⟩;rw[atG,ast,asd (by simp;omega),asD,if_pos uo];simpa using hu
    ·rw[asz (by omega)]at hx;obtain⟨u,hu,jd⟩:=hr.get hx;have S3:=(ar3.1 hu).1;refine⟨u,?_,jd.mono jo⟩;rw[atG,asd (by simp;omega),asz (by simp;omega)];simp only[atz,au9,avL (show cs.length<=c.size by omega)];exact hu
   ·obtain⟨l2,c2,N4,h1,h2,h3,h4,h5⟩:=bz e he (by omega);by_cases H7:l2.b=l.b
    ·rw[H7,vK]at h3;cases h3;refine⟨l2,_,el,jo _ _ _ h1,by simp;omega,by rw[H7];exact C0,by simp;omega,λk x hk hx=>?_⟩;rw[asd (by omega)]at hx;obtain⟨u,hu,jd⟩:=h5 k x hk hx;refine⟨u,?_,jd.mono jo⟩;rw[atG,ast,asd (by simp;omega),asD,if_pos (by omega)];simpa using hu
    ·refine⟨l2,c2,N4,jo _ _ _ h1,by simp;omega,by simp only[w'];rw[uB _ _ _ _ H7];exact h3,h4,λk x hk hx=>?_⟩;rw[asd (by omega)]at hx;obtain⟨u,hu,jd⟩:=h5 k x hk hx;exact⟨u,hu,jd.mono jo⟩
theorem Inv.ad9(hi:Inv N ι σ w){id ay mn:Nat}{cs new:List IV}{Ah cj:List Value}(aE:σ.at id=aa (.cells cs ay mn))(cB:ro<=id)(anl:aC ι cs Ah)(hr:aC ι new cj)
 (rest:List Value)(el:TypeId):
 let w':World:={w with heap:=w.heap.push (.cells (Ah++cj++rest).toArray el),drawn:=w.drawn+1}
 let aG:=dM ι id (ay+1) ⟨w.heap.size,cs.length+new.length,(Ah++cj++rest).length⟩
 Inv N aG (σ.put id (.cells (cs++new) (ay+1) mn)) w'/\Le ro ι w σ aG w' (σ.put id (.cells (cs++new) (ay+1) mn)):=by
 intro w' aG;have dz:=hi.obj id _ aE;obtain⟨⟨qs,bw⟩,⟨l0,jn,kJ⟩,bz⟩:=dz;have j_:ι id (ay+1)=ah:=bw _ (by omega);have jo:=kI (l:=⟨w.heap.size,cs.length+new.length,(Ah++cj++rest).length⟩) j_;have hold:∀b,b<w.heap.size->w'.heap[b]?=w.heap[b]? :=λb hb=>by simp only[w'];rw[Array.getElem?_push,if_neg (by omega)]
 have C0:w'.heap[w.heap.size]?=aa (.cells (Ah++cj++rest).toArray el (0,0)):=by simp[w']
 refine hi.put aE cB ⟨_,_,jn⟩ jo (λi aZ e=>by simp[aG,dM,aZ]) ?_ (by simp[w']) (λb hb _=>hold b hb) rfl rfl rfl ?_
 ·intro b hb;rcases lU hb with hb|⟨_,hb⟩
  ·exact .inl hb
  ·subst hb;exact .inr ⟨ar8 _,by simp[w']⟩
 ·refine⟨⟨by omega,λe he=>?_⟩,⟨_,cd _ _ _ _,by simp⟩,λe he gV=>?_⟩
  ·have:e≠ay+1:=by omega
   simp[aG,dM,this,bw e (by omega)]
  ·by_cases Lq:e=ay+1
   ·subst Lq;refine⟨_,_,el,cd _ _ _ _,by simp,C0,by simp,λk x hk hx=>?_⟩;obtain⟨u,hu,jd⟩:=(anl.append hr).get hx;have S3:=(ar3.1 hu).1;refine⟨u,?_,jd.mono jo⟩;rw[atG,asd S3];exact hu
   ·obtain⟨l2,c2,N4,h1,h2,h3,h4,h5⟩:=bz e he (by omega);have ai:l2.b<w.heap.size:=hi.iO id _ ⟨_,_,h1,rfl⟩;refine⟨l2,c2,N4,jo _ _ _ h1,by simp;omega,by rw[hold _ ai];exact h3,h4,λk x hk hx=>?_⟩;rw[asd (by omega)]at hx;obtain⟨u,hu,jd⟩:=h5 k x hk hx;exact⟨u,hu,jd.mono jo⟩
end Go.Ev
namespace Go.Ev
variable{P:Program}{N ro:Nat}{ι:Io}{w:World}{σ:St}{ρ:Operand->IV}{r:Operand->Value}{o:Oper}{out:eC}
def qX(P:Program)(ro:Nat)(N:Nat)(ι:Io)(w:World)(σ:St)(s:Sem Value)(v:IV)(ao:St):Prop:=
 ∃u w' aG,s.run P w=.ok u w'/\Rv aG v u/\Inv N aG ao w'/\Le ro ι w σ aG w' ao
theorem J0(bj cH:Nat)(el:TypeId)(w:World):∃c,bj<=c/\(choose (.appendCap bj cH el)).run P w=.ok c {w with drawn:=w.drawn+1}:=by
 refine⟨(Question.appendCap bj cH el).cut (w.tape w.drawn (.appendCap bj cH el)),?_,?_⟩
 ·simp only[Question.cut];omega
 ·simp[choose,atV,Question.forced]
structure AH(P:Program)(elem:TypeId)(size bytes aY n:Nat)(zero:Value):Prop where
 ara:aN P elem=aa size
 hzero:cw P elem=aa zero
 afC:(P.info? elem).map (·.bytes)=aa bytes
 sY:size≠0
 hz:zero.cells.size=size
 JZ:(4*(aY+n)+4096)*bytes<=2 ^47
 Vj:aY+n<=2 ^40
def N7:TypeDesc->Bool
 | .int _=>ab
 | _=>af
theorem Dx{xd:TypeDesc}(h:∀k,xd≠.int k):N7 xd=af:=by cases xd<;>first|rfl|grind
structure ZQk (elem:TypeId)(base:Option Addr)(aY eF size:Nat)(x:Value) where
 big:Bool->Sem Value
 rest:Bool->Nat->Sem Value
 eq:∀{P:Program}{w:World}{argTypes:Array TypeId}{ty sT xT:TypeId},argTypes[0]?=aa sT->argTypes[1]?=aa xT->P.underlying sT=aa (.slice elem)->aN P elem=aa size->
  (auw argTypes ty #[.slice base aY eF,x]).run P w=(do
   let u<-underlying xT
   let g_<-pure (N7 u)
   if g_ then big g_
   else do
    let n<-auK x
    rest g_ n).run P w
def zQk(elem:TypeId)(base:Option Addr)(aY eF size:Nat)(x:Value):ZQk elem base aY eF size x:=by
 apply ZQk.mk
 intro P w argTypes ty sT xT h0 h1 hu hs
 unfold auw
 rw[h0,h1]
 show atV P (do
  let __x<-underlying sT
  _) w=_
 rw[ar_,aV hu,ar7]
 show atV P (do
  let size<-sizeOf elem
  _) w=_
 rw[ar_,eE hs,ar7]
 rfl
def om(elem:TypeId)(g_:Bool)(base:Option Addr)(aY eF size n:Nat)(x:Value):Sem Value:=(zQk elem base aY eF size x).rest g_ n
theorem zQc{z:Value}{size n:Nat}(h:z.cells.size=size)(hs:size≠0):atH z.cells n=((asr n z.cells.toList).flatten).toArray:=by
 unfold atH
 rw[h]
 have:=xN z.cells size n h hs
 rwa[h]at this
def uX(P:Program)(elem:TypeId)(size n:Nat)(x:Value)(cj:List Value)(w:World):Bool->Prop
 | af=>(as9 size n x).run P w=.ok cj.toArray w
 | ab=>∃z,cw P elem=aa z/\z.cells.size=size/\size≠0/\cj=(asr n z.cells.toList).flatten
theorem J1{elem:TypeId}{g_:Bool}{base:Option Addr}{aY eF size n:Nat}{x:Value}{cj:List Value}(hle:aY+n<=eF)(eV:uX P elem size n x cj w g_):
  (om elem g_ base aY eF size n x).run P w=(match base with
   | aa a=>(storeCells (a.add (aY*size)) cj).run P w
   | ah=>.ok () w).andThen fun _ w'=>.ok (.slice base (aY+n) eF) w':=by
 cases g_
 .have hn:(as9 size n x).run P w=_:=eV
  simp only[om,zQk,if_pos hle,ar_]
  cases base<;>simp[hn]
 have⟨z,h0,h1,h2,h3⟩:=eV
 subst h3
 simp only[om,zQk,if_pos hle,ar_]
 by_cases h4:n=0
 .subst h4
  cases base<;>simp
 .cases base<;>simp[iX h0,zQc h1 h2,h4,h2,Nat.mul_ne_zero h4 h2]
theorem N6{elem:TypeId}{g_:Bool}{base:Option Addr}{aY eF size n bytes:Nat}{zero x:Value}{Ah cj:List Value}(ha:AH P elem size bytes aY n zero)(za:¬aY+n<=eF)
  (eV:∀d,uX P elem size n x cj {w with drawn:=d} g_) (hold:∀d,(as9 size aY (.slice base aY eF)).run P {w with drawn:=d}=.ok Ah.toArray {w with drawn:=d}):
  ∃c rest,aY+n<=c/\rest.length=(c-(aY+n))*size/\
   (om elem g_ base aY eF size n x).run P w=.ok (.slice (aa ⟨w.heap.size,0,ah⟩) (aY+n) c) {w with heap:=w.heap.push (.cells (Ah++cj++rest).toArray elem),drawn:=w.drawn+1}:=by
 have⟨i,hi,hb,hti⟩:=Ds ha.afC w
 have anm:∀w':World,(typeInfo elem).run P w'=.ok i w':=fun w'=>by simp[typeInfo,hi]
 have⟨c,hc,hch⟩:=J0 (P:=P) (aY+n) eF elem w
 have ho:=hold (w.drawn+1)
 have h1:¬((aY+n:Nat):Int) > asC.max:=by
  have:asC.max=9223372036854775807:=by decide
  have:=ha.Vj
  omega
 have h2:¬at1 (aY+n) eF*i.bytes>2 ^ 48:=by
  have fB:=Vi (bj:=aY+n) (cH:=eF) (by omega)
  have:at1 (aY+n) eF*i.bytes<=(4*(aY+n)+4096)*i.bytes:=asx _ fB
  have:=ha.JZ
  grind
 have mV:(zeroValue elem).run P {w with drawn:=w.drawn+1}=.ok zero {w with drawn:=w.drawn+1}:=iX ha.hzero _
 have gg:atH zero.cells (c-(aY+n))=((asr (c-(aY+n)) zero.cells.toList).flatten).toArray:=by
  unfold atH
  rw[ha.hz]
  have:=xN zero.cells size (c-(aY+n)) ha.hz ha.sY
  simp_all[ha.hz]
 refine⟨c,(asr (c-(aY+n)) zero.cells.toList).flatten,hc,Dv zero size _ ha.hz,?_⟩
 cases g_
 .have hn:(as9 size n x).run P {w with drawn:=w.drawn+1}=_:=eV (w.drawn+1)
  simp only[om,zQk,if_neg za,ar_,anm,ar7,h1,false_and,if_false,h2,hch,run_askRoom,Bool.not_false,if_true,asj,List.getElem_toArray,List.getElem_cons_zero,List.getElem_cons_succ,ho,hn,mV,gg,newRow,run_newObj]
  simp
 have⟨z,k0,k1,k2,k3⟩:=eV (w.drawn+1)
 cases ha.hzero.symm.trans k0
 subst k3
 have hN:n≠0->n*size≠0:=fun h=>Nat.mul_ne_zero h k2
 have hz':=zQc (n:=n) k1 k2
 by_cases h4:n=0
 .subst h4
  simp only[om,zQk,if_neg za,ar_,anm,ar7,h1,false_and,if_false,h2,hch,run_askRoom,Bool.not_true,asA,Nat.zero_mul,if_true,asj,List.getElem_toArray,List.getElem_cons_zero,ho,mV,gg,newRow,run_newObj]
  simp
 .simp only[om,zQk,if_neg za,ar_,anm,ar7,h1,false_and,if_false,h2,hch,run_askRoom,Bool.not_true,asA,if_neg (hN h4),asj,List.getElem_toArray,List.getElem_cons_zero,ho,hz',mV,gg,newRow,run_newObj]
  simp
theorem Sr{argTypes:Array TypeId}{ty sT xT elem:TypeId}{xd:TypeDesc}{base:Option Addr}{aY eF size n:Nat}{x:Value}(h0:argTypes[0]?=aa sT)(h1:argTypes[1]?=aa xT)
  (hu:P.underlying sT=aa (.slice elem)) (hx:P.underlying xT=aa xd) (hd:∀k,xd≠.int k) (hs:aN P elem=aa size) (hn:(auK x).run P w=.ok n w):
  (auw argTypes ty #[.slice base aY eF,x]).run P w=(om elem af base aY eF size n x).run P w:=by
 rw[(zQk elem base aY eF size x).eq h0 h1 hu hs,ar_,aV hx,ar7,Dx hd]
 show atV P (do
  let n<-auK x
  _) w=_
 rw[ar_,hn,ar7]
 rfl
theorem Ss{argTypes:Array TypeId}{ty sT xT elem:TypeId}{k:IntKind}{base:Option Addr}{aY eF size bytes:Nat}{l:Int}(h0:argTypes[0]?=aa sT)(h1:argTypes[1]?=aa xT)
  (hu:P.underlying sT=aa (.slice elem)) (hx:P.underlying xT=aa (.int k)) (hs:aN P elem=aa size) (hb:(P.info? elem).map (·.bytes)=aa bytes) (jn:0<=l) (qY:l<=1000000)
  (JZ:l.toNat*bytes<=2 ^ 48):
  (auw argTypes ty #[.slice base aY eF,.int .i64 l]).run P w=(om elem ab base aY eF size l.toNat (.int .i64 l)).run P w:=by
 have⟨i,hi,N3,hti⟩:=Ds hb w
 have wl:asC.wrap l=l:=avC _ (by omega)
 have c1:¬l < 0:=by omega
 have c2:¬l*(i.bytes:Int)>2 ^ 48:=by
  grind
 rw[(zQk elem base aY eF size _).eq h0 h1 hu hs,ar_,aV hx,ar7]
 show atV P (if asC.wrap l < 0 then _ else (do
  let t<-typeInfo elem
  if asC.wrap l*(t.bytes:Int)>2 ^ 48 then _ else _)) w=_
 rw[wl,if_neg c1,ar_,hti,ar7,if_neg c2]
 rfl
theorem N8{size n:Nat}{zero:Value}{xd:TypeDesc}{x:IV}{vx:Value}{new:List IV}{elem:TypeId}(hi:Inv N ι σ w)(hs:size≠0)(hz:zero.cells.size=size)(mV:cw P elem=aa zero)
 (h:sg size zero xd σ x=aa (n,new))(hx:Rv ι x vx):
 ∃cj,aC ι new cj/\(∀d,uX P elem size n vx cj {w with drawn:=d} (N7 xd))/\
  ((∃k,xd=.int k/\∃l,vx=.int .i64 l/\0<=l/\l<=1000000/\n=l.toNat)\/((∀k,xd≠.int k)/\(auK vx).run P w=.ok n w)):=by
 unfold sg at h;split at h
 ·rename_i k;split at h
  ·rename_i l;split at h
   ·rename_i hl;cases h;cases hx;refine⟨_,y9 zero size l.toNat hz hs,λd=>?_,.inl ⟨k,rfl,l,rfl,hl.1,hl.2,rfl⟩⟩;exact ⟨_,mV,hz,hs,rfl⟩
   ·cases h
  ·cases h
 ·rename_i hd;split at h
  ·rename_i n' hn;split at h
   ·rename_i cs hc;cases h;obtain⟨vs,h1,h2⟩:=y_ (P:=P) hi hc hx;refine⟨vs,h2,λd=>?_,.inr ⟨hd,S0 hn hx w⟩⟩;rw [Dx hd];exact h1 _ rfl
   ·cases h
  ·cases h
theorem Bz{elem:TypeId}{g_:Bool}{size bytes aY n eF:Nat}{zero vx:Value}{base:Option Addr}{s v:IV}{new:List IV}{cj:List Value}{ao:St}(hi:Inv N ι σ w)
 (ha:AH P elem size bytes aY n zero)(za:¬aY+n<=eF)(hr:aC ι new cj)(hlen:new.length=n*size)(eV:∀d,uX P elem size n vx cj {w with drawn:=d} g_)
 (hs:Rv ι s (.slice base aY eF))(h:fk size aY n new s σ=aa (.val v ao))(hN:ao.n<=N):
 qX P ro N ι w σ (om elem g_ base aY eF size n vx) v ao:=by
 unfold fk at h;split at h
 ·rename_i cH ho;split at h
  ·rename_i hol;cases h;obtain⟨Ah,h1,h2⟩:=y_ (P:=P) hi ho hs;obtain⟨c,rest,hc,lF,fJ⟩:=N6 (base:=base) ha za eV (λd=>h1 _ rfl);have sY:=ha.sY
   obtain⟨aG,r1,r2,r3⟩:=hi.grown (ro:=ro) (by simp at hN;omega) (h2.append hr) rest elem (size:=size) (m:=aY+n) (c:=c) (by omega) (by simp[hol,hlen,asE])
    (by
     have e1:=h2.1;have e2:=hr.1;simp only[ass,lF,<-e1,<-e2,hol,hlen];rw[<-asE,<-asE]
     congr 1;omega) hc
   exact⟨_,_,aG,fJ,r1,r2,r3⟩
  ·cases h
 ·cases h
theorem Inv.shrink(hi:Inv N ι σ w){id ay mn k:Nat}{cs:List IV}{l:Loc}(aE:σ.at id=aa (.cells cs ay mn))(cB:ro<=id)(hl:ι id ay=aa l)(hk:k<=cs.length):
 Inv N (dM ι id (ay+1) ⟨l.b,k,l.lim⟩) (σ.put id (.cells (cs.take k) (ay+1) (ay+1))) w/\Le ro ι w σ (dM ι id (ay+1) ⟨l.b,k,l.lim⟩) w (σ.put id (.cells (cs.take k) (ay+1) (ay+1))):=by
 obtain⟨⟨qs,bw⟩,⟨l0,jn,kJ⟩,bz⟩:=hi.obj id _ aE;obtain rfl:l=l0:=by rw[hl]at jn;exact auU jn
 have j_:ι id (ay+1)=ah:=bw _ (by omega);have jo:=kI (l:=⟨l.b,k,l.lim⟩) j_;refine hi.put aE cB ⟨_,_,hl⟩ jo (λi aZ e=>by simp[dM,aZ]) ?_ (ar8 _) (λ_ _ _=>rfl) rfl rfl rfl ?_
 ·intro b hb;rcases lU hb with hb|⟨_,hb⟩
  ·exact .inl hb
  ·subst hb;exact .inl ⟨_,_,hl,rfl⟩
 ·refine⟨⟨ar8 _,λe he=>?_⟩,⟨_,cd _ _ _ _,by simp;omega⟩,λe he gV=>?_⟩
  ·have:e≠ay+1:=by omega
   simp[dM,this,bw e (by omega)]
  ·have Lq:e=ay+1:=by omega
   subst Lq;obtain⟨l2,c2,N4,h1,_,h3,h4,h5⟩:=bz ay qs (ar8 _);rw[hl]at h1;cases h1;refine⟨_,c2,N4,cd _ _ _ _,by simp;omega,h3,h4,λj x hj hx=>?_⟩;simp only at hj;rw[asD,if_pos hj]at hx;obtain⟨u,hu,jd⟩:=h5 j x (by omega) hx;exact⟨u,hu,jd.mono jo⟩
theorem Dy{elem:TypeId}{g_:Bool}{st bytes aY n id ay mn c:Nat}{zero vx:Value}{new cs:List IV}{cj:List Value}{l:Loc}{a:Addr}(hi:Inv N ι σ w)
 (ha:AH P elem st bytes aY n zero)(hr:aC ι new cj)(hlen:new.length=n*st)(bp:new.all aj=ab)(eV:∀d,uX P elem st n vx cj {w with drawn:=d} g_)
 (aE:σ.at id=aa (.cells cs ay mn))(cB:ro<=id)(hl:ι id ay=aa l)(hn:0+aY*st<=l.n)(gU:0+c*st<=l.lim)(bE:0<st)(hle:aY<=c)(H9:0<c->a=⟨l.b,0,ah⟩)
 (lD:aY*st=cs.length)(h0:¬n=0):
 qX P ro N ι w σ (om elem g_ (aa a) aY c st n vx) (.sl id 0 (aY+n) ah (ay+1) st) (σ.put id (.cells (cs++new) (ay+1) mn)):=by
 have hw:({w with drawn:=w.drawn}:World)=w:=rfl;have Vk:Rv ι (.sl id 0 aY ah ay st) (.slice (aa a) aY c):=.sl _ _ _ _ _ _ l c a hl hn gU bE hle (λk hk=>by cases hk) H9;obtain⟨⟨qs,_⟩,⟨l3,h3,h4⟩,_⟩:=hi.obj id _ aE;rw[hl]at h3;cases h3;by_cases sZ:aY+n<=c
 ·obtain⟨l2,cc,el,eR,J2,arJ,vK,arb,_⟩:=Fj (hi.obj id _ aE) qs (ar8 _);rw[hl]at eR;cases eR;have hmul:(aY+n)*st<=c*st:=asx st sZ;have Gk:=hr.1;have ai:cs.length+cj.length<=cc.size:=by rw[asE]at hmul;omega
  obtain⟨r1,r2⟩:=hi.afB (ro:=ro) aE cB hr hl vK ai;have xP:=H9 (by omega);subst xP;refine⟨.slice (aa ⟨l.b,0,ah⟩) (aY+n) c,_,_,?_,?_,r1,r2⟩
  ·rw[J1 sZ (eV w.drawn),hw];simp only[gX,atv,lD,lC (P:=P) vK ai (sW hr bp),ar7]
  ·exact .sl _ _ _ _ _ _ _ c _ (cd _ _ _ _) (by simp only[atv,hlen,<-lD,asE];exact ar8 _) gU bE sZ (λk hk=>by cases hk) (λ_=>rfl)
 ·have H_:eL st aY σ (.sl id 0 aY ah ay st)=aa cs:=by
   simp only[eL,aE];simp[qs,lD]
  obtain⟨Ah,h5,h6⟩:=y_ (P:=P) hi H_ Vk;obtain⟨c',rest,xQ,lF,fJ⟩:=N6 (base:=aa a) ha sZ eV (λd=>h5 _ rfl);obtain⟨r1,r2⟩:=hi.ad9 (ro:=ro) aE cB h6 hr rest elem;refine⟨_,_,_,fJ,?_,r1,r2⟩;refine .sl _ _ _ _ _ _ _ c' _ (cd _ _ _ _) ?_ ?_ bE xQ (λk hk=>by cases hk) (λ_=>rfl)
  ·simp only[atv,hlen,<-lD,asE];exact ar8 _
  ·have e1:=h6.1;have e2:=hr.1;simp only[atv,ass,lF,<-e1,<-e2,hlen,<-lD];rw[<-asE,<-asE];exact asx _ (by omega)
theorem Su{elem:TypeId}{g_:Bool}{size bytes aY n:Nat}{zero vs vx:Value}{s v:IV}{new:List IV}{cj:List Value}{ao:St}(hi:Inv N ι σ w)
 (ha:AH P elem size bytes aY n zero)(hr:aC ι new cj)(hlen:new.length=n*size)(bp:new.all aj=ab)(eV:∀d,uX P elem size n vx cj {w with drawn:=d} g_)
 (hs:Rv ι s vs)(oH:kG s=aa aY)(h:eD ro size aY n new s σ=aa (.val v ao))(hN:ao.n<=N):
 ∃base eF,vs=.slice base aY eF/\qX P ro N ι w σ (om elem g_ base aY eF size n vx) v ao:=by
 have hw:({w with drawn:=w.drawn}:World)=w:=rfl;have sY:=ha.sY
 have stay:∀{base:Option Addr} {eF:Nat},n=0->aY<=eF->(∃a,base=aa a)\/base=ah->∀{u:IV},Rv ι u (.slice base aY eF)->
  qX P ro N ι w σ (om elem g_ base aY eF size n vx) u σ:=by
  intro base eF h0 hle hb u hu;subst h0;have hv:cj=[]:=List.eq_nil_of_length_eq_zero (by have:=hr.1;rw[au6]at hlen;omega);subst hv;refine⟨_,w,ι,?_,hu,hi,Le.refl _ _ _ _⟩;rw[J1 (by simpa using hle) (eV w.drawn)];cases base<;>simp[storeCells]
 unfold eD at h;split at h
 ·rename_i l c;split at h
  ·rename_i lD;obtain⟨rfl,rfl⟩:=lD;have e0:aY=0:=by simp[kG]at oH;exact oH.symm
   subst e0;cases hs;refine⟨ah,0,rfl,?_⟩;split at h
   ·rename_i h0;cases h;exact stay h0 (ar8 _) (.inr rfl) (.raw _)
   ·rename_i h0;exact Bz hi ha (by omega) hr hlen eV (.raw _) h hN
  ·cases h
 ·have e0:aY=0:=by simp[kG]at oH;exact oH.symm
  subst e0;cases hs with
  |emp a=>
   refine⟨aa a,0,rfl,?_⟩;split at h
   ·rename_i h0;cases h;exact stay h0 (ar8 _) (.inl ⟨a,rfl⟩) (.emp a)
   ·rename_i h0;exact Bz hi ha (by omega) hr hlen eV (.emp a) h hN
 ·rename_i st es;have e0:aY=es.length:=by simp[kG]at oH;exact oH.symm
  subst e0;split at h
  ·rename_i h0;cases h;cases hs with
   |tree _ _ b off c us bE hc bH hu hh=>exact⟨_,c,rfl,stay h0 hc (.inl ⟨_,rfl⟩) (.tree _ _ b off c us bE hc bH hu hh)⟩
   |dS _ a c bE hn=>exact⟨a,c,rfl,stay h0 (Nat.zero_le _) (by cases a with|none=>exact .inr rfl|some a=>exact .inl ⟨a,rfl⟩) (.dS _ a c bE hn)⟩
  ·cases h
 ·rename_i id off len cap ep st;have e0:aY=len:=by simp[kG]at oH;exact oH.symm
  subst e0;split at h
  ·cases h
  ·rename_i ct;have ct:st=size:=asO ct;subst ct;cases hs with
   |sl _ _ _ _ _ _ l c a hl hn gU bE hle fB H9=>
    refine⟨aa a,c,rfl,?_⟩;have Vk:Rv ι (.sl id off aY cap ep st) (.slice (aa a) aY c):=.sl _ _ _ _ _ _ l c a hl hn gU bE hle fB H9;split at h
    ·rename_i h0;cases h;exact stay h0 hle (.inl ⟨a,rfl⟩) Vk
    ·rename_i h0;split at h
     ·rename_i k;have hck:=(fB k rfl).1;subst hck;split at h
      ·rename_i sZ;split at h
       ·rename_i cs ay mn aE;split at h
        ·rename_i hc;obtain⟨cB,rfl,Du⟩:=hc;cases h;have aja:off+aY*st+new.length<=cs.length:=by rw[hlen];rw[asE]at Du;omega
         obtain⟨l2,cc,el,eR,vK,ai,r1,r2⟩:=hi.write (ro:=ro) aE cB aja hr;rw[hl]at eR;cases eR
         have Dw:l.n=cs.length:=by
          obtain⟨_,⟨l3,h3,h4⟩,_⟩:=hi.obj id _ aE;rw[hl]at h3;cases h3;exact h4
         have xP:=H9 (by omega);subst xP;refine⟨.slice (aa ⟨l.b,off,ah⟩) (aY+n) c,_,ι,?_,?_,r1,r2⟩
         ·rw[J1 sZ (eV w.drawn),hw];simp only[gX,lC (P:=P) vK ai (sW hr bp),ar7]
         ·exact .sl _ _ _ _ _ _ l c _ hl (by omega) gU bE sZ fB (λ_=>rfl)
        ·cases h
       ·cases h
      ·rename_i sZ;exact Bz hi ha sZ hr hlen eV Vk h hN
     ·split at h
      ·rename_i cs ay mn aE;split at h
       ·rename_i hc;obtain⟨cB,rfl,rfl,lD⟩:=hc;cases h;exact Dy hi ha hr hlen bp eV aE cB hl hn gU bE hle H9 lD h0
       ·split at h
        ·rename_i hc;obtain⟨cB,rfl,rfl,lD⟩:=hc;cases h;obtain⟨i1,l1⟩:=hi.shrink (ro:=ro) aE cB hl lD;have hx:=l1.ext;have:=Dy (ro:=ro) (id:=id) (ay:=ep+1) (mn:=ep+1) (cs:=cs.take (aY*st)) (l:=⟨l.b,aY*st,l.lim⟩) (a:=a) i1 ha (hr.mono hx) hlen bp eV (by rw[St.cV,if_pos rfl]) cB (cd _ _ _ _) (by simp) gU bE hle H9 (by rw[atz];omega) h0;obtain⟨u,w',aG,k1,k2,k3,k4⟩:=this;exact⟨u,w',aG,k1,k2,k3,Le.trans (λid h1 h2=>by simp only[St.nu]at h2;omega) l1 k4⟩
        ·cases h
      ·cases h
 ·cases h
theorem Xs{argTypes:Array TypeId}{ty:TypeId}{s x v:IV}{vs vx:Value}{ao:St}(hi:Inv N ι σ w)(hs:Rv ι s vs)(hx:Rv ι x vx)(h:kE P ro argTypes s x σ=aa (.val v ao))(hN:ao.n<=N):
 qX P ro N ι w σ (auw argTypes ty #[vs,vx]) v ao:=by
 unfold kE at h;split at h
 ·rename_i sT xT h0 h1;split at h
  ·rename_i elem xd hu hxd;split at h
   ·rename_i size zero bytes aT hz hb;split at h
    ·cases h
    ·rename_i hc;have bE:size≠0:=λe=>hc (.inl e);have sj:zero.cells.size=size:=asO λe=>hc (.inr e);split at h
     ·rename_i n new aY Xt hls;split at h
      ·rename_i bP;obtain⟨hlen,bp,JZ,Vj⟩:=bP;obtain⟨cj,hr,eV,s5⟩:=N8 hi bE sj hz Xt hx;have ha:AH P elem size bytes aY n zero:=⟨aT,hz,hb,bE,sj,JZ,Vj⟩;obtain⟨base,eF,rfl,u,w',aG,fJ,g⟩:=Su hi ha hr hlen bp eV hs hls h hN;refine⟨u,w',aG,?_,g⟩;rcases s5 with⟨k,rfl,l,rfl,jn,qY,rfl⟩|⟨hd,hn⟩
       ·have H7:l.toNat*bytes<=2 ^48:=by
         have:l.toNat*bytes<=(4*(aY+l.toNat)+4096)*bytes:=asx _ (by omega);omega
        rw[Ss h0 h1 hu hxd aT hb jn qY H7];exact fJ
       ·rw[Sr h0 h1 hu hxd hd aT hn];rw[Dx hd]at fJ;exact fJ
      ·cases h
     ·cases h
   ·cases h
  ·cases h
 ·cases h
end Go.Ev
