/- Lemmas over the model, without conditions of their own: operations of the ideal machine are sound (2). -/
import Derived.Test.YtpfogalbnijcoaaGreatEvB
open Option renaming map_some->asy,getD_some->asW,getD_none->ati,bind_some->asa,map_eq_some_iff->ar9
open Option.some renaming injEq->ar6
open Go.Instr renaming sliceBound->avq,sliceBounds->awo,sliceAt->auc,slice->axk,findNow->atf,findAsking->as0,findKey->atx,lookup->avk,keyThatStays->auI,mapUpdate->avD,mapEntry->awR,range->av_,next->auh,typeAssert->auV
open Go.Sem renaming run->atV,run_bind->ar_,run_pure->asj
open Go.Result renaming andThen_ok->ar7
open ByteArray renaming ext->axE,data_extract->axQ
open Array renaming ext'->auf,getElem?_eq_some_iff->asX,getElem?_eq_getElem->asw,eq_empty_of_size_eq_zero->auu,toList_map->avw,getD_eq_getD_getElem?->atk
open Nat renaming le_refl->ar8,add_mul->asE,mul_le_mul_right->asx,zero_le->asT,min->auY,min_zero->axv,le_of_not_lt->at7,le_of_eq->axw,blt->as7,blt_eq->av2,le_trans->asq
open Bool renaming false_eq_true->asA
open Classical renaming byContradiction->asO
open List renaming length_nil->atq,eq_nil_of_length_eq_zero->asF,getElem?_cons_succ->aur,isEmpty_iff->ate
open Go.Builtin renaming len_->awP,cap_->awQ,clear_->aww,zeroCells->atH,copy_->avN,delete_->avr
open Go renaming Obj->axl,undef->asQ
open Go.Utf8 renaming decode->atS
open Go.Question renaming forced->at3
open Go.Deferred renaming ofValue->ave
open Go.Made renaming depth->awp
open Go.Value renaming iface->awa
open Go.Region renaming wanted->awS
open Go.stepG renaming exec->axx
open Go.Frame renaming atR->axG
open Option renaming some->aa,none->ah
open Bool renaming true->ab,false->af
set_option linter.all false
namespace Go.Ev
variable{P:Program}{N ro:Nat}{ι:Io}{w:World}{σ:St}{ρ:Operand->IV}{r:Operand->Value}{o:Oper}{out:eC}
def Bd:Option Nat->Option Value->Prop
 |none,v=>v=ah
 |some n,v=>∃k i,v=aa (.int k i)/\0<=i/\i.toNat=n
theorem J3{x:Option Operand}{q:Option Nat}(h:gm (x.map ρ)=aa q)(hr:∀y,x=aa y->Rv ι (ρ y) (r y)):Bd q (x.map r):=by
 cases x with
 |none=>simp[gm]at h;subst h;rfl
 |some y=>
  have hy:=hr y rfl;simp only[asy,gm]at h;split at h
  ·rename_i he;cases he
  ·rename_i k i he;simp only[ar6]at he;split at h
   ·rename_i h0;cases h;exact⟨k,i,by simp[eY he hy],h0,rfl⟩
   ·cases h
  ·cases h
theorem zb{v:Value}{n y:Nat}{code:BoundsCode}(h:∃k i,v=.int k i/\0<=i/\i.toNat=n)(hle:n<=y)(w:World):(avq v y code).run P w=.ok n w:=by
 obtain⟨k,i,rfl,h0,h1⟩:=h;have:i<=(y:Int):=by omega
 simp[avq,asIntOf,h0,this,h1]
theorem BA{isSlice:Bool}{len cap:Nat}{lo hi mx:Option Value}{ql qh qm:Option Nat}(hl:Bd ql lo)(hh:Bd qh hi)(hm:Bd qm mx)(AI:¬(qm.isSome=ab/\qh.isSome=af))
 (h1:qm.getD cap<=cap)(h2:∀h,qh=aa h->h<=qm.getD cap)(h3:ql.getD 0<=qh.getD len)(w:World):
 (awo isSlice len cap lo hi mx).run P w=.ok (ql.getD 0,qh.getD len,qm.getD cap) w:=by
 have fin:∀(h m:Nat) (code:BoundsCode),ql.getD 0<=h->atV P (match lo with
  |some v=>do
   let l<-avq v h code
   pure (l,h,m)
  |none=>do
   let l<-pure 0
   pure (l,h,m)) w=.ok (ql.getD 0,h,m) w:=by
  intro h m code hle;cases ql with
  |none=>cases hl;rfl
  |some l=>
   obtain⟨k,i,rfl,h0,h1⟩:=hl;simp only[ar_,zb (P:=P) (v:=.int k i) (n:=l) (y:=h) (code:=code) ⟨k,i,rfl,h0,h1⟩ hle w,ar7,asj,asW]
 unfold awo;cases qm with
 |none=>
  cases hm;cases qh with
  |none=>
   cases hh;simp only[ar_,asj,ar7,ati];exact fin len cap _ h3
  |some h=>
   obtain⟨k,i,rfl,h0,h4⟩:=hh;have hb:=zb (P:=P) (v:=.int k i) (n:=h) (y:=cap) (code:=if isSlice then .sliceAcap else .sliceAlen) ⟨k,i,rfl,h0,h4⟩ (h2 h rfl) w;simp only[ar_,asj,ar7,hb,ati,asW];exact fin h cap _ h3
 |some m=>
  obtain⟨km,im,rfl,C1,Gq⟩:=hm;have qu:=zb (P:=P) (v:=.int km im) (n:=m) (y:=cap) (code:=if isSlice then .slice3Acap else .slice3Alen) ⟨km,im,rfl,C1,Gq⟩ h1 w;cases qh with
  |none=>exact absurd ⟨rfl,rfl⟩ AI
  |some h=>
   obtain⟨k,i,rfl,h0,h4⟩:=hh;have hb:=zb (P:=P) (v:=.int k i) (n:=h) (y:=m) (code:=.slice3B) ⟨k,i,rfl,h0,h4⟩ (h2 h rfl) w;simp only[ar_,ar7,qu,hb,asW];exact fin h m _ h3
theorem mW{t elem:TypeId}{sz len cap:Nat}{a:Option Addr}{lo hi mx:Option Value}{ql qh qm:Option Nat}(hu:P.underlying t=aa (.slice elem))(hs:aN P elem=aa sz)
 (hl:Bd ql lo)(hh:Bd qh hi)(hm:Bd qm mx)(AI:¬(qm.isSome=ab/\qh.isSome=af))(h1:qm.getD cap<=cap)(h2:∀h,qh=aa h->h<=qm.getD cap)(h3:ql.getD 0<=qh.getD len)(w:World):
 (auc t (.slice a len cap) lo hi mx).run P w=
  .ok (.slice (if qm.getD cap=ql.getD 0 then a else a.map (·.add (ql.getD 0*sz))) (qh.getD len- ql.getD 0) (qm.getD cap- ql.getD 0)) w:=by
 have hb:=BA (P:=P) (isSlice:=ab) hl hh hm AI h1 h2 h3 w;simp only[auc,ar_,aV hu,ar7,axk,hb,eE hs,asj]
theorem extract_eq(s:ByteArray)(l h:Nat):(⟨((s.data.toList.drop l).take (h- l)).toArray⟩:ByteArray)=s.extract l h:=by
 apply axE;apply auf;simp[axQ,List.extract_eq_take_drop]
theorem aaA{t:TypeId}{x:Operand}{lo hi mx:Option Operand}(cW:Inv N ι σ w)(hr:Rv ι (ρ x) (r x))(zd:∀y,lo=aa y->Rv ι (ρ y) (r y))(Xu:∀y,hi=aa y->Rv ι (ρ y) (r y))
 (s6:∀y,mx=aa y->Rv ι (ρ y) (r y))(ho:o.op=.slice t x lo hi mx)(h:av P ro ρ o σ=aa out):bu P ro N ι w σ r o out:=by
 unfold av at h;rw[ho]at h;simp only at h;split at h
 ·rename_i v hv;obtain rfl:=aJ h
  suffices hs:∃u,(auc t (r x) (lo.map r) (hi.map r) (mx.map r)).run P w=.ok u w/\Rv ι v u by
   obtain⟨u,h1,h2⟩:=hs;exact bu.same cW (u:=u) (by simp[execOp,ho,h1]) h2
  generalize hq:r x=q at hr;generalize hiq:ρ x=iq at hr hv;unfold fm at hv;split at hv
  ·rename_i _ _ _ ql qh qm e1 e2 e3;have bl:=J3 e1 zd;have bh:=J3 e2 Xu;have bm:=J3 e3 s6;clear e1 e2 e3;split at hv
   ·cases hv
   ·rename_i AI;split at hv
    ·rename_i hu;split at hv
     ·rename_i s;split at hv
      ·rename_i hc;obtain⟨rfl,h1,h2⟩:=hc;cases hv;cases hr;refine⟨.string (s.extract (ql.getD 0) (qh.getD s.size)),?_,by rw[extract_eq];exact .raw _⟩;have hb:=BA (P:=P) (isSlice:=af) (len:=s.size) (cap:=s.size) (mx:=ah) bl bh (qm:=ah) rfl (by simp) (ar8 _) (λh hh=>by subst hh;simpa using h2) h1 w;have qs:mx.map r=ah:=bm;simp only[auc,ar_,aV hu,ar7,axk,qs,Option.isSome_none,asA,if_false,asj,hb]
      ·cases hv
     ·cases hv
    ·rename_i elem hu;split at hv
     ·cases hv
     ·rename_i sz aT;split at hv
      ·split at hv
       ·rename_i hc;obtain⟨h1,h2,h3⟩:=hc;cases hv;cases hr;have hb:=mW (P:=P) (a:=ah) (len:=0) (cap:=0) hu aT bl bh bm AI (by omega) (λh hh=>by subst hh;simp at h2;omega) (by omega) w;rw[h1,h2,h3]at hb;exact⟨_,by simpa using hb,.raw _⟩
       ·cases hv
      ·split at hv
       ·rename_i hc;obtain⟨h1,h2,h3⟩:=hc;cases hv;cases hr with
        |emp a=>
         have hb:=mW (P:=P) (a:=aa a) (len:=0) (cap:=0) hu aT bl bh bm AI (by omega) (λh hh=>by subst hh;simp at h2;omega) (by omega) w;rw[h1,h2,h3]at hb;exact⟨_,by simpa using hb,.emp a⟩
       ·cases hv
      ·rename_i id off len cap ep s;split at hv
       ·cases hv
       ·rename_i ir;have ir:sz=s:=asO ir;subst ir;cases hr with
        |sl _ _ _ _ _ _ l c a hl hn gU bE hle fB ha=>
         have known:∀m:Nat,qm.getD c=m->m<=c->(off+m*sz<=l.n)->ql.getD 0<=qh.getD len->qh.getD len<=m->
          aa v=aa (if m=ql.getD 0 then .emp else .sl id (off+ql.getD 0*sz) (qh.getD len- ql.getD 0) (aa (m- ql.getD 0)) ep sz)->
          ∃u,(auc t (.slice (aa a) len c) (lo.map r) (hi.map r) (mx.map r)).run P w=.ok u w/\Rv ι v u:=by
          intro m e1 e2 e3 e4 e5 e6;have hb:=mW (P:=P) (a:=aa a) (len:=len) (cap:=c) hu aT bl bh bm AI (by omega) (λh hh=>by subst hh;simp only[asW]at e5;omega) e4 w;rw[e1]at hb;refine⟨_,hb,?_⟩;by_cases Dz:m=ql.getD 0
          ·rw[if_pos Dz]at e6;cases e6;rw[if_pos Dz,show qh.getD len- ql.getD 0=0 by omega,show m- ql.getD 0=0 by omega];exact .emp a
          ·rw[if_neg Dz]at e6;cases e6;rw[if_neg Dz];have xP:=ha (by omega);subst xP;simp only[asy,gX];have Gq:ql.getD 0*sz+(m- ql.getD 0)*sz=m*sz:=by rw[<-asE];congr 1;omega
           have hm2:ql.getD 0*sz+(qh.getD len- ql.getD 0)*sz=qh.getD len*sz:=by rw[<-asE];congr 1;omega
           have hm3:qh.getD len*sz<=m*sz:=asx sz e5;have hm4:m*sz<=c*sz:=asx sz e2;exact .sl _ _ _ _ _ _ l _ _ hl (by omega) (by omega) bE (by omega) (λk hk=>by cases hk;exact⟨rfl,by omega⟩) (λ_=>rfl)
         split at hv
         ·rename_i _ m;split at hv
          ·rename_i hc;obtain⟨h1,h2,h3⟩:=hc
           have qs:m<=c/\off+m*sz<=l.n:=by
            cases cap with
            |none=>
             simp only[ati]at h3;have:m*sz<=len*sz:=asx sz h3;exact⟨by omega,by omega⟩
            |some k=>
             simp only[asW]at h3;obtain⟨hk,AJ⟩:=fB k rfl;subst hk;have:m*sz<=c*sz:=asx sz h3;exact⟨h3,by omega⟩
           refine known m rfl qs.1 qs.2 h1 h2 ?_;rw[<-hv];split<;>rfl
          ·cases hv
         ·rename_i m;split at hv
          ·rename_i hc;obtain⟨h1,h2⟩:=hc;obtain⟨hk,AJ⟩:=fB m rfl;subst hk;refine known c rfl (ar8 _) AJ h1 h2 ?_;rw[<-hv];split<;>rfl
          ·cases hv
         ·split at hv
          ·rename_i hc;obtain⟨h1,h2⟩:=hc;cases hv;have hb:=mW (P:=P) (a:=aa a) (len:=len) (cap:=c) hu aT bl bh bm AI (ar8 _) (λh hh=>by subst hh;simp only[asW,ati]at h2⊢;omega) h1 w;simp only[ati]at hb;have Gq:ql.getD 0*sz+(c- ql.getD 0)*sz=c*sz:=by rw[<-asE];congr 1;omega
           have hm2:ql.getD 0*sz+(qh.getD len- ql.getD 0)*sz=qh.getD len*sz:=by rw[<-asE];congr 1;omega
           have hm3:qh.getD len*sz<=len*sz:=asx sz h2;by_cases dV:c=ql.getD 0
           ·rw[if_pos dV]at hb;exact⟨_,hb,.sl _ _ _ _ _ _ l _ _ hl (by omega) (by omega) bE (by omega) (λk hk=>by cases hk) (λh0=>by omega)⟩
           ·rw[if_neg dV]at hb;have xP:=ha (by omega);subst xP;simp only[asy,gX]at hb;exact⟨_,hb,.sl _ _ _ _ _ _ l _ _ hl (by omega) (by omega) bE (by omega) (λk hk=>by cases hk) (λ_=>rfl)⟩
          ·cases hv
      ·rename_i s es;split at hv
       ·cases hv
       ·rename_i ir;have ir:sz=s:=asO ir;subst ir;cases hr with
        |tree _ _ b off c us bE qW bH y8 hh=>
         split at hv
         ·split at hv
          ·rename_i hc;obtain⟨h1,h2⟩:=hc;cases hv;have hb:=mW (P:=P) (a:=aa ⟨b,off,ah⟩) (len:=es.length) (cap:=c) hu aT bl bh bm AI (ar8 _) (λh hh=>by subst hh;simp only[asW,ati]at h2⊢;omega) h1 w;simp only[ati]at hb;have hlen:((es.take (qh.getD es.length)).drop (ql.getD 0)).length=qh.getD es.length- ql.getD 0:=by simp;omega
           have afD:∀bb oo,(c≠ql.getD 0->bb=b/\oo=off+ql.getD 0*sz)->Rv ι (.tree sz ((es.take (qh.getD es.length)).drop (ql.getD 0))) (.slice (aa ⟨bb,oo,ah⟩) (qh.getD es.length- ql.getD 0) (c- ql.getD 0)):=by
            intro bb oo hbo;rw[<-hlen];refine .tree _ _ _ _ _ (λk=>us (ql.getD 0*sz+k)) bE (by omega) (λe he=>bH e (List.mem_of_mem_take (List.mem_of_mem_drop he))) (λk hk=>?_) (λi e j x he hx=>?_)
            ·rw[hlen]at hk;have Gq:ql.getD 0*sz+(qh.getD es.length- ql.getD 0)*sz=qh.getD es.length*sz:=by rw[<-asE];congr 1;omega
             have hm2:qh.getD es.length*sz<=es.length*sz:=asx sz h2
             have aZ:c≠ql.getD 0:=by
              intro dV;have:qh.getD es.length- ql.getD 0=0:=by omega
              rw[this]at hk;omega
             obtain⟨rfl,rfl⟩:=hbo aZ;rw[show off+ql.getD 0*sz+k=off+(ql.getD 0*sz+k) by omega];exact y8 _ (by omega)
            ·rw[List.getElem?_drop,List.getElem?_take]at he;split at he
             ·have:=hh _ _ _ _ he hx;rwa[asE,Nat.add_assoc]at this
             ·cases he
           by_cases dV:c=ql.getD 0
           ·rw[if_pos dV]at hb;exact⟨_,hb,afD b off (λh=>absurd dV h)⟩
           ·rw[if_neg dV]at hb;simp only[asy,gX]at hb;exact⟨_,hb,afD b _ (λ_=>⟨rfl,rfl⟩)⟩
          ·cases hv
         ·rename_i m;split at hv
          ·rename_i hc;obtain⟨rfl,h1,h2⟩:=hc;cases hv;have hb:=mW (P:=P) (a:=aa ⟨b,off,ah⟩) (len:=es.length) (cap:=c) hu aT bl bh bm AI (asT _) (λh hh=>by subst hh;simp only[asW]at h2⊢;omega) (by omega) w;rw[h1,h2]at hb;exact⟨_,by simpa using hb,.dS _ _ _ bE (by simp)⟩
          ·cases hv
        |dS _ a c bE hn=>
         split at hv
         ·split at hv
          ·rename_i hc;obtain⟨h1,h2⟩:=hc;cases hv;simp only[atq]at h1 h2;have jn:ql.getD 0=0:=by omega
           have Ia:qh.getD 0=0:=by omega
           have hb:=mW (P:=P) (a:=a) (len:=0) (cap:=c) hu aT bl bh bm AI (ar8 _) (λh hh=>by subst hh;simp only[asW,ati]at Ia⊢;omega) (by omega) w;simp only[ati,jn,Ia]at hb;refine⟨_,hb,?_⟩;simp only[List.take_nil,List.drop_nil]
           exact .dS _ _ _ bE (λhx=>by
            cases a with
            |none=>have:=hn rfl;omega
            |some a=>split at hx<;>simp at hx)
          ·cases hv
         ·rename_i m;split at hv
          ·rename_i hc;obtain⟨rfl,h1,h2⟩:=hc;cases hv;have hb:=mW (P:=P) (a:=a) (len:=0) (cap:=c) hu aT bl bh bm AI (asT _) (λh hh=>by subst hh;simp only[asW]at h2⊢;omega) (by omega) w;simp only[atq]at h2;rw[h1,h2]at hb;exact⟨_,by simpa using hb,.dS _ _ _ bE (by simp)⟩
          ·cases hv
      ·cases hv
    ·rename_i n elem hu;split at hv
     ·rename_i id off ep ext s hs;split at hv
      ·rename_i hc;obtain⟨bE,aZ,rfl,h1,h2⟩:=hc;cases hr with
       |ptr _ _ _ _ l hl hx=>
        have hb:=BA (P:=P) (isSlice:=af) (len:=n) (cap:=n) bl bh bm AI (ar8 _) (λh hh=>by subst hh;simpa using h2) h1 w;simp only[ati]at hb
        have fJ:(auc t (.pointer (aa ⟨l.b,off,ah⟩)) (lo.map r) (hi.map r) (mx.map r)).run P w=
         .ok (.slice (aa (if n=ql.getD 0 then⟨l.b,off,ah⟩else(⟨l.b,off,ah⟩:Addr).add (ql.getD 0*s))) (qh.getD n- ql.getD 0) (n- ql.getD 0)) w:=by
         simp only[auc,ar_,aV hu,ar7,Instr.sureAddr,asj,hb,eE hs]
        refine⟨_,fJ,?_⟩;split at hv
        ·rename_i Ib;cases hv;rw[if_pos Ib,show qh.getD n- ql.getD 0=0 by omega,show n- ql.getD 0=0 by omega];exact .emp _
        ·rename_i Ib;cases hv;rw[if_neg Ib,gX];have Gq:ql.getD 0*s+(n- ql.getD 0)*s=n*s:=by rw[<-asE];congr 1;omega
         have hm2:ql.getD 0*s+(qh.getD n- ql.getD 0)*s=qh.getD n*s:=by rw[<-asE];congr 1;omega
         have hm3:qh.getD n*s<=n*s:=asx s h2;exact .sl _ _ _ _ _ _ l _ _ hl (by omega) (by omega) (by omega) (by omega) (λk hk=>by cases hk;exact⟨rfl,by omega⟩) (λ_=>rfl)
      ·cases hv
     ·cases hv
    ·cases hv
  ·cases hv
 ·cases h
end Go.Ev
namespace Go.Ev
variable{P:Program}{N ro:Nat}{ι:Io}{w:World}{σ:St}{ρ:Operand->IV}{r:Operand->Value}{o:Oper}{out:eC}
theorem N9{c:Call}{b:Builtin}(ho:o.op=.call c)(hb:c.callee=.builtin b):
 execOp r o=builtin b c.argTypes o.type (c.args.map λ|.const _=>ab|_=>af) (c.args.map r):=by
 simp only[execOp,ho,resolve,hb];rfl
def xR(P:Program)(ro:Nat)(N:Nat)(ι:Io)(w:World)(σ:St)(s:Sem Next)(out:eC):Prop:=
 ∃v ao,out=.val v ao/\(ao.n<=N->H6 ro N ι w σ (s.run P w) v ao)
theorem xR.Xv{s:Sem Value}{v:IV}{ao:St}(h:ao.n<=N->qX P ro N ι w σ s v ao):xR P ro N ι w σ (do pure (.value (<-s))) (.val v ao):=by
 refine⟨v,ao,rfl,λhN=>?_⟩;obtain⟨u,w',aG,h1,h2,h3,h4⟩:=h hN;exact⟨u,w',aG,.inl (by simp only[ar_,h1,ar7,asj]),h2,h3,h4⟩
theorem xR.same{s:Sem Value}{v:IV}{u:Value}(hi:Inv N ι σ w)(h:s.run P w=.ok u w)(hr:Rv ι v u):xR P ro N ι w σ (do pure (.value (<-s))) (.val v σ):=
 xR.Xv λ_=>⟨u,w,ι,h,hr,hi,Le.refl _ _ _ _⟩
theorem uC{x:IV}{vs:List Value}(h:aC ι [x] vs):∃v,vs=[v]/\Rv ι x v:=by
 obtain⟨v,wy,rfl,h1,h2⟩:=h.sS;exact⟨v,by rw[h2.of_nil],h1⟩
theorem J4{x y:IV}{vs:List Value}(h:aC ι [x,y] vs):∃v u,vs=[v,u]/\Rv ι x v/\Rv ι y u:=by
 obtain⟨v,wy,rfl,h1,h2⟩:=h.sS;obtain⟨u,rfl,h3⟩:=uC h2;exact⟨v,u,rfl,h1,h3⟩
theorem ad_{argTypes:Array TypeId}{ty:TypeId}{x v:IV}{u:Value}(hi:Inv N ι σ w)(hr:Rv ι x u)(h:oC P argTypes x σ=aa v):∃z,(awP argTypes ty #[u]).run P w=.ok z w/\Rv ι v z:=by
 unfold oC at h;cases sn:argTypes[0]? with
 |none=>simp[sn]at h
 |some t=>
  rw[sn,asa]at h;have e1:(#[u]:Array Value)[0]?=aa u:=rfl;unfold awP;rw[sn,e1];split at h
  ·rename_i hu;cases h;cases hr;exact⟨_,by simp only[ar_,aV hu,ar7,asj,goInt],.raw _⟩
  ·rename_i hu;cases h;cases hr;exact⟨_,by simp only[ar_,aV hu,ar7,asj,goInt];rfl,.raw _⟩
  ·rename_i hu;cases h;cases hr<;>
   exact⟨_,by simp only[ar_,aV hu,ar7,asj,goInt]<;>rfl,.raw _⟩
  ·rename_i hu;cases h;cases hr;exact⟨_,by simp only[ar_,aV hu,ar7,asj,goInt],.raw _⟩
  ·rename_i hu;cases h;cases hr;exact⟨_,by simp only[ar_,aV hu,ar7,asj,goInt],.raw _⟩
  ·rename_i hu;cases h;cases hr;exact⟨_,by simp only[ar_,aV hu,ar7,asj,goInt],.raw _⟩
  ·rename_i id hu;split at h
   ·rename_i es clock aE;cases h;cases hr with
    |map _ l hl=>
     obtain⟨l',res,cq,hh,he⟩:=hi.obj id _ aE;rw[hl]at cq;cases cq;have:(getObj l.b).run P w=.ok (.map res clock) w:=by simp[getObj,atV,hh]
     refine⟨.int .i64 res.size,?_,?_⟩
     ·simp only[ar_,aV hu,ar7,this,asj,goInt]
     ·rw[<-he.1];exact .raw _
   ·cases h
  ·rename_i n e hu;cases h;exact⟨.int .i64 n,by simp only[ar_,aV hu,ar7];rfl,.raw _⟩
  ·cases h
theorem aea{argTypes:Array TypeId}{ty:TypeId}{x v:IV}{u:Value}(hr:Rv ι x u)(h:U7 P argTypes x=aa v):∃z,(awQ argTypes ty #[u]).run P w=.ok z w/\Rv ι v z:=by
 unfold U7 at h;cases sn:argTypes[0]? with
 |none=>simp[sn]at h
 |some t=>
  rw[sn,asa]at h;have e1:(#[u]:Array Value)[0]?=aa u:=rfl;unfold awQ;rw[sn,e1];split at h
  ·rename_i c _ _ hu;cases h;cases hr with
   |sl _ _ _ _ _ _ l c' a hl hn gU bE hle fB ha=>
    obtain⟨rfl,_⟩:=fB _ rfl;exact⟨_,by simp only[ar_,aV hu,ar7,asj,goInt],.raw _⟩
  ·rename_i hu;cases h;cases hr;exact⟨_,by simp only[ar_,aV hu,ar7,asj,goInt];rfl,.raw _⟩
  ·rename_i hu;cases h;cases hr;exact⟨_,by simp only[ar_,aV hu,ar7,asj,goInt],.raw _⟩
  ·rename_i n e hu;cases h;exact⟨.int .i64 n,by simp only[ar_,aV hu,ar7];rfl,.raw _⟩
  ·cases h
theorem bU{b:Nat}{ob:axl}(h:w.heap[b]?=aa ob)(hc:∀c e f,ob≠.cells c e f):(getObj b).run P w=.ok ob w:=by
 simp only[getObj,atV,h]
theorem eH{b:Nat}{ob eK:axl}(h:w.heap[b]?=aa ob)(hc:∀c e f,ob≠.cells c e f):(setObj b eK).run P w=.ok () {w with heap:=w.heap.setIfInBounds b eK}:=by
 simp only[setObj,atV,h]
theorem Inv.kF(hi:Inv N ι σ w){id:Nat}{ob eK:Ob}{l:Loc}{go:axl}(aE:σ.at id=aa ob)(cB:ro<=id)(hl:ι id 0=aa l)(dz:kH ι {w with heap:=w.heap.setIfInBounds l.b go} id eK):
 Inv N ι (σ.put id eK) {w with heap:=w.heap.setIfInBounds l.b go}/\Le ro ι w σ ι {w with heap:=w.heap.setIfInBounds l.b go} (σ.put id eK):=by
 refine hi.put aE cB ⟨_,_,hl⟩ (Ext.refl _) (λ_ _ _=>rfl) (λb hb=>.inl hb) (by simp) (λb _ bw=>?_) rfl rfl rfl dz;have:l.b≠b:=λe=>bw ⟨0,l,hl,e⟩;simp[this]
theorem Xw{argTypes:Array TypeId}{ty:TypeId}{x:IV}{u:Value}(hi:Inv N ι σ w)(hr:Rv ι x u)(h:sR P ro argTypes x σ=aa out):
 ∃v ao,out=.val v ao/\(ao.n<=N->qX P ro N ι w σ (aww argTypes ty #[u]) v ao):=by
 unfold sR at h;cases sn:argTypes[0]? with
 |none=>simp[sn]at h
 |some t=>
  rw[sn,asa]at h;have e1:(#[u]:Array Value)[0]?=aa u:=rfl
  have idle:∀{d:TypeDesc},P.underlying t=aa d->(∃l c,u=.slice ah l c)\/u=.map ah\/(∃a c,u=.slice a 0 c)->
   qX P ro N ι w σ (aww argTypes ty #[u]) .undef σ:=by
   intro d hu hc;unfold aww;rw[sn,e1];refine⟨.tuple #[],w,ι,?_,.raw _,hi,Le.refl _ _ _ _⟩;rcases hc with⟨l,c,rfl⟩|rfl|⟨a,c,rfl⟩
   ·simp only[ar_,aV hu,ar7];cases d<;>rfl
   ·simp only[ar_,aV hu,ar7];cases d<;>rfl
   ·cases a<;>(simp only[ar_,aV hu,ar7];cases d<;>rfl)
  split at h
  ·rename_i hu;obtain rfl:=aJ h;cases hr;exact⟨_,_,rfl,λ_=>idle hu (.inl ⟨_,_,rfl⟩)⟩
  ·rename_i hu;obtain rfl:=aJ h;cases hr;exact⟨_,_,rfl,λ_=>idle hu (.inr (.inl rfl))⟩
  ·rename_i hu;obtain rfl:=aJ h;cases hr;exact⟨_,_,rfl,λ_=>idle hu (.inr (.inr ⟨_,_,rfl⟩))⟩
  ·rename_i id hu;split at h
   ·rename_i es clock aE;split at h
    ·rename_i cB;obtain rfl:=aJ h;refine⟨_,_,rfl,λhN=>?_⟩;unfold aww;rw[sn,e1];cases hr with
     |map _ l hl=>
      obtain⟨l',res,cq,hh,he⟩:=hi.obj id _ aE;rw[hl]at cq;cases cq;have ai:l.b<w.heap.size:=hi.iO id _ ⟨_,_,hl,rfl⟩;obtain⟨h1,h2⟩:=hi.kF (ro:=ro) (eK:=.map [] clock) (go:=.map #[] clock) aE cB hl ⟨l, #[],hl,by simp[ai],by simp,λi e r h=>by simp at h⟩;refine⟨.tuple #[],_,ι,?_,.raw _,h1,h2⟩;simp only[ar_,aV hu,ar7,bU (P:=P) hh (by simp),eH (P:=P) hh (by simp),asj]
    ·cases h
   ·cases h
  ·rename_i elem id off len cap ep s hu;split at h
   ·rename_i h0;obtain rfl:=aJ h;subst h0;cases hr with
    |sl _ _ _ _ _ _ l c' a hl hn gU bE hle fB ha=>exact⟨_,_,rfl,λ_=>idle hu (.inr (.inr ⟨_,_,rfl⟩))⟩
   ·rename_i h0;split at h
    ·rename_i cs ay mn aE;split at h
     ·rename_i z hz;split at h
      ·rename_i hc;obtain⟨hs,sj,bp,cB,rfl,Du⟩:=hc;obtain rfl:=aJ h;refine⟨_,_,rfl,λhN=>?_⟩;unfold aww;rw[sn,e1];cases hr with
       |sl _ _ _ _ _ _ l c' a hl hn gU bE hle fB ha=>
        have Gj:=y9 (ι:=ι) z s len sj hs;have lD:=Dv z s len sj;obtain⟨l2,cc,el,eR,vK,ai,r1,r2⟩:=hi.write (ro:=ro) (off:=off) aE cB (by rw[Gj.1,lD];exact Du) Gj;rw[hl]at eR;cases eR;have xP:=ha (by omega);subst xP;refine⟨.tuple #[],_,ι,?_,.raw _,r1,r2⟩
        have Gr:atH z.cells len=((List.replicate len z.cells.toList).flatten).toArray:=by
         unfold atH;have:=xN z.cells s len sj hs;rwa[<-sj]at this
        simp only[ar_,aV hu,ar7];simp only[iX hz,ar7,Gr,lC (P:=P) vK ai (sW Gj bp),asj]
      ·cases h
     ·cases h
    ·cases h
  ·cases h
theorem aaB{argTypes:Array TypeId}{ty:TypeId}{d s:IV}{vd vs:Value}(hi:Inv N ι σ w)(hd:Rv ι d vd)(hs:Rv ι s vs)(h:Fg P ro argTypes d s σ=aa out):
 ∃v ao,out=.val v ao/\(ao.n<=N->qX P ro N ι w σ (avN argTypes ty #[vd,vs]) v ao):=by
 unfold Fg at h;cases sn:argTypes[0]? with
 |none=>simp[sn]at h
 |some t=>
  rw[sn,asa]at h;split at h
  ·rename_i elem hu;split at h
   ·rename_i size dl sl aT DA oH;split at h
    ·rename_i new eV;split at h
     ·cases h
     ·rename_i hc;have hlen:new.length=auY sl dl*size:=asO λe=>hc (.inl e);have bp:new.all aj=ab:=by cases hb:new.all aj with|true=>rfl|false=>exact absurd (.inr hb) hc
      obtain⟨cj,H_,hrv⟩:=y_ (P:=P) hi eV hs;have fP:=S0 (P:=P) oH hs w;have e0:(#[vd,vs]:Array Value)[0]?=aa vd:=rfl;have e1:(#[vd,vs]:Array Value)[1]?=aa vs:=rfl
      have run:∀{base:Option Addr} {cap:Nat},vd=.slice base dl cap->(avN argTypes ty #[vd,vs]).run P w=
       ((match base with|some a=>(storeCells a cj).run P w|none=>.ok () w).andThen λ_ w'=>.ok (.int .i64 (auY sl dl)) w'):=by
       intro base cap hv;unfold avN;rw[sn,e0,e1];subst hv;simp only[ar_,aV hu,ar7,fP,eE aT,H_ w rfl];cases base<;>simp[goInt]
      split at h
      ·obtain rfl:=aJ h;refine⟨_,_,rfl,λ_=>?_⟩;have h0:dl=0:=by simp[kG]at DA;exact DA.symm
       subst h0;cases hd;exact⟨_,w,ι,run rfl,.raw _,hi,Le.refl _ _ _ _⟩
      ·obtain rfl:=aJ h;refine⟨_,_,rfl,λ_=>?_⟩;have h0:dl=0:=by simp[kG]at DA;exact DA.symm
       subst h0;cases hd with
       |emp a=>
        have hv0:cj=[]:=asF (by have:=hrv.1;have:auY sl 0=0:=axv sl;rw[this]at hlen;omega);subst hv0;exact⟨_,w,ι,(run rfl).trans (by simp[storeCells]),.raw _,hi,Le.refl _ _ _ _⟩
      ·rename_i id off len cap ep st;have h0:len=dl:=by simp[kG]at DA;exact DA
       subst h0;cases hd with
       |sl _ _ _ _ _ _ l c' a hl hn gU bE hle fB ha=>
        split at h
        ·rename_i hz;obtain rfl:=aJ h;refine⟨_,_,rfl,λ_=>?_⟩;have hv0:cj=[]:=asF (by have:=hrv.1;rw[hz]at hlen;omega);subst hv0;refine⟨.int .i64 (auY sl len),w,ι,(run rfl).trans (by simp[storeCells]),?_,hi,Le.refl _ _ _ _⟩;rw[hz];exact .raw _
        ·rename_i hz;split at h
         ·rename_i cs ay mn aE;split at h
          ·rename_i kK;obtain⟨rfl,cB,rfl,Du⟩:=kK;obtain rfl:=aJ h;refine⟨_,_,rfl,λ_=>?_⟩;obtain⟨l2,cc,el,eR,vK,ai,r1,r2⟩:=hi.write (ro:=ro) (off:=off) aE cB (by rw[hlen];exact Du) hrv;rw[hl]at eR;cases eR
           have sY:0<len:=by
            rcases Nat.eq_zero_or_pos len with h|h
            ·subst h;exact absurd (axv sl) hz
            ·exact h
           have xP:=ha (by omega);subst xP;refine⟨_,_,ι,(run rfl).trans ?_,.raw _,r1,r2⟩;simp only[lC (P:=P) vK ai (sW hrv bp),ar7]
          ·cases h
         ·cases h
      ·cases h
    ·cases h
   ·cases h
  ·cases h
end Go.Ev
namespace Go.Ev
variable{P:Program}{N ro:Nat}{ι:Io}{w:World}{σ:St}{ρ:Operand->IV}{r:Operand->Value}{o:Oper}{out:eC}
theorem bx{α β:Type}(x:Sem α)(f:α->Sem β):aS P (x>>=f)=(aS P x).bind λa=>aS P (f a):=by
 show aS P (x.bind f)=_;induction x with
 |pure a=>rfl
 |program k ih=>simp only[Sem.bind,aS];exact ih P
 |mark m k ih=>simp only[Sem.bind,aS];exact ih
 |_=>rfl
theorem mv{α β:Type}{x:Sem α}{f:α->Sem β}{b:β}(h:aS P (x>>=f)=aa b):∃a,aS P x=aa a/\aS P (f a)=aa b:=by
 rw[bx]at h;exact Option.bind_eq_some_iff.1 h
def SameKeys(es aF:List MapEntry):Prop:=es.length=aF.length/\∀(i:Nat) (e e':MapEntry),es[i]?=aa e->aF[i]?=aa e'->e.key=e'.key
theorem SameKeys.tail{e e':MapEntry}{es aF:List MapEntry}(h:SameKeys (e::es) (e'::aF)):e.key=e'.key/\SameKeys es aF:=
 ⟨h.2 0 e e' rfl rfl,by simpa using h.1,λi a b h1 h2=>h.2 (i+1) a b h1 h2⟩
theorem DB{kind:TypeDesc}{k:Value}:∀{es aF:List MapEntry} (i:Nat) {q:Option (Nat×Value)},SameKeys es aF->atf kind k es i=aa q->
 (q=ah/\atf kind k aF i=aa ah)\/(∃j v e',q=aa (j,v)/\i<=j/\aF[j- i]?=aa e'/\atf kind k aF i=aa (aa (j,e'.val)))
 |[],aF,i,q,hk,h=>by
  cases aF with
  |nil=>simp only[atf,ar6]at h;subst h;exact .inl ⟨rfl,rfl⟩
  |cons a b=>have:=hk.1;simp at this
 |e::es,aF,i,q,hk,h=>by
  cases aF with
  |nil=>have:=hk.1;simp at this
  |cons e' aF=>
   obtain⟨h1,h2⟩:=hk.tail;simp only[atf]at h⊢;rw[h1]at h;split at h
   ·rename_i hs;cases h;exact .inr ⟨i,_,e',rfl,ar8 _,by simp,rfl⟩
   ·rename_i hs;rcases DB (i+1) h2 h with⟨h3,h4⟩|⟨j,v,e2,h3,h4,h5,h6⟩
    ·exact .inl ⟨h3,h4⟩
    ·refine .inr ⟨j,v,e2,h3,by omega,?_,h6⟩;rw[show j- i=(j-(i+1))+1 by omega,aur];exact h5
   ·cases h
theorem DC{kind:TypeDesc}{k:Value}:∀{es aF:List MapEntry} (i:Nat),SameKeys es aF->atf kind k es i=ah->atf kind k aF i=ah
 |[],aF,i,hk,h=>by simp[atf]at h
 |e::es,aF,i,hk,h=>by
  cases aF with
  |nil=>have:=hk.1;simp at this
  |cons e' aF=>
   obtain⟨h1,h2⟩:=hk.tail;simp only[atf]at h⊢;rw[h1]at h;split at h
   ·cases h
   ·exact DC (i+1) h2 h
   ·rfl
theorem zf{kt:TypeId}{k:Value}:∀{es aF:List MapEntry} (i:Nat) {q:Option (Nat×Value)},SameKeys es aF->aS P (as0 kt k es i)=aa q->
 (q=ah/\∀w,(as0 kt k aF i).run P w=.ok ah w)\/(∃j v e',q=aa (j,v)/\i<=j/\aF[j- i]?=aa e'/\∀w,(as0 kt k aF i).run P w=.ok (aa (j,e'.val)) w)
 |[],aF,i,q,hk,h=>by
  cases aF with
  |nil=>simp only[as0]at h;cases h;exact .inl ⟨rfl,λw=>rfl⟩
  |cons a b=>have:=hk.1;simp at this
 |e::es,aF,i,q,hk,h=>by
  cases aF with
  |nil=>have:=hk.1;simp at this
  |cons e' aF=>
   obtain⟨h1,h2⟩:=hk.tail;simp only[as0]at h⊢;rw[h1]at h;obtain⟨b,hb,h⟩:=mv h;cases b with
   |true=>
    simp only[if_true]at h;cases h;refine .inr ⟨i,_,e',rfl,ar8 _,by simp,λw=>?_⟩;simp only[ar_,eQ w _ hb,ar7,if_true,asj]
   |false=>
    simp only[asA,if_false]at h;rcases zf (i+1) h2 h with⟨h3,h4⟩|⟨j,v,e2,h3,h4,h5,h6⟩
    ·refine .inl ⟨h3,λw=>?_⟩;simp only[ar_,eQ w _ hb,ar7,asA,if_false,h4]
    ·refine .inr ⟨j,v,e2,h3,by omega,?_,λw=>?_⟩
     ·rw[show j- i=(j-(i+1))+1 by omega,aur];exact h5
     ·simp only[ar_,eQ w _ hb,ar7,asA,if_false,h6]
theorem pk{empty:Bool}{kt:TypeId}{k:Value}{es:List (Value×IV×Nat)}{res:Array MapEntry}{q:Option Nat}(he:gw ι es res)(h:gT P empty kt k es=aa q)(w:World):
 (Instr.checkKey empty 10000 kt k).run P w=.ok () w/\
 ((q=ah/\(atx kt k res.toList).run P w=.ok ah w)\/(∃i e rr,q=aa i/\es[i]?=aa e/\res[i]?=aa rr/\(atx kt k res.toList).run P w=.ok (aa (i,rr.val)) w)):=by
 have hk:SameKeys (es.map λe=>{key:=e.1,val:=asQ,born:=e.2.2}) res.toList:=by
  refine⟨by simp[he.1],λi a b h1 h2=>?_⟩;simp only[List.getElem?_map,ar9]at h1;obtain⟨e,h1,rfl⟩:=h1;exact(he.2 i e b h1 (by simpa using h2)).1.symm
 have fin:∀{q':Option (Nat×Value)},aS P (atx kt k (es.map λe=>{key:=e.1,val:=asQ,born:=e.2.2}))=aa q'->
  (q'=ah/\(atx kt k res.toList).run P w=.ok ah w)\/(∃i v rr,q'=aa (i,v)/\res[i]?=aa rr/\(atx kt k res.toList).run P w=.ok (aa (i,rr.val)) w):=by
  intro q' h;unfold atx at h⊢;obtain⟨d,hd,h⟩:=mv h;have Ic:=eQ w _ hd;simp only[ar_,Ic,ar7];split at h
  ·rename_i q2 N_;cases h;rcases DB 0 hk N_ with⟨h3,h4⟩|⟨j,v,e2,h3,h4,h5,h6⟩
   ·exact .inl ⟨h3,by rw[h4];rfl⟩
   ·exact .inr ⟨j,v,e2,h3,by simpa using h5,by rw[h6];rfl⟩
  ·rename_i N_;rw[DC 0 hk N_];rcases zf 0 hk h with⟨h3,h4⟩|⟨j,v,e2,h3,h4,h5,h6⟩
   ·exact .inl ⟨h3,h4 w⟩
   ·exact .inr ⟨j,v,e2,h3,by simpa using h5,h6 w⟩
 unfold gT at h;split at h
 ·rename_i i v hp;cases h;obtain⟨_,h1,h2⟩:=mv hp;refine⟨eQ w _ h1,.inr ?_⟩;rcases fin h2 with⟨h3,_⟩|⟨j,v',rr,h3,h4,h5⟩
  ·cases h3
  ·cases h3;have ai:i<es.length:=by have:=(asX.1 h4).1;have:=he.1;omega
   exact⟨i,es[i],rr,rfl,List.getElem?_eq_getElem ai,h4,h5⟩
 ·rename_i hp;cases h;obtain⟨_,h1,h2⟩:=mv hp;refine⟨eQ w _ h1,.inl ⟨rfl,?_⟩⟩;rcases fin h2 with⟨_,h4⟩|⟨j,v',rr,h3,h4,h5⟩
  ·exact h4
  ·cases h3
 ·cases h
theorem gw.nil:gw ι [] #[]:=⟨rfl,λi e r h=>by simp at h⟩
theorem gw.isEmpty{es:List (Value×IV×Nat)}{res:Array MapEntry}(h:gw ι es res):es.isEmpty=res.isEmpty:=by
 have:=h.1;rw[Bool.eq_iff_iff,ate,Array.isEmpty_iff];rw[<-List.length_eq_zero_iff,<-Array.size_eq_zero_iff,this]
theorem Xx{t:TypeId}{x ix:Operand}{ok:Bool}(hi:Inv N ι σ w)(hr:Rv ι (ρ x) (r x))(oF:Rv ι (ρ ix) (r ix))(ho:o.op=.lookup t x ix ok)(h:av P ro ρ o σ=aa out):bu P ro N ι w σ r o out:=by
 unfold av at h;rw[ho]at h;simp only at h;split at h
 ·rename_i kt elem es key hu gx mE;have hk:=uA mE oF
  have aaC:∃res,gw ι es res/\((r x=.map ah/\res= #[])\/∃b clock,r x=.map (aa b)/\w.heap[b]?=aa (.map res clock)):=by
   generalize hq:r x=q at hr;unfold entriesOf at gx;split at gx
   ·rename_i hx;rw[hx]at hr;cases gx;cases hr;exact⟨#[],gw.nil,.inl ⟨rfl,rfl⟩⟩
   ·rename_i id hx;rw[hx]at hr;split at gx
    ·rename_i aF clock aE;cases gx;cases hr with
     |map _ l hl=>
      obtain⟨l',res,cq,hh,he⟩:=hi.obj id _ aE;rw[hl]at cq;cases cq;exact⟨res,he,.inr ⟨l.b,clock,rfl,hh⟩⟩
    ·cases gx
   ·cases gx
  obtain⟨res,he,er⟩:=aaC;split at h
  ·rename_i i z xS hz;split at h
   ·rename_i e s7;obtain rfl:=aJ h;obtain⟨hc,hf⟩:=pk he xS w;rcases hf with⟨hn,_⟩|⟨j,e',rr,hj,h1,h2,h3⟩
    ·cases hn
    ·cases hj;rw[s7]at h1;cases h1;obtain⟨_,hv,_⟩:=he.2 i e rr s7 h2;refine bu.same hi (u:=if ok then .tuple #[rr.val,.bool ab]else rr.val) ?_ ?_
     ·rw[he.isEmpty]at hc;rcases er with⟨hx,rfl⟩|⟨b,clock,hx,hh⟩
      ·simp only[execOp,ho,avk,ar_,aV hu,ar7,hx,hk,hc,h3,asj]
      ·simp only[execOp,ho,avk,ar_,aV hu,ar7,hx,bU (P:=P) hh (by simp),hk,hc,h3,asj]
     ·cases ok
      ·exact hv
      ·have:=aC.cons hv (aC.cons (Rv.raw (ι:=ι) (.bool ab)) aC.nil);exact .az _ _ this.1 this.2
   ·cases h
  ·rename_i z xS hz;obtain rfl:=aJ h;obtain⟨hc,hf⟩:=pk he xS w;rcases hf with⟨_,h3⟩|⟨j,e',rr,hj,h1,h2,h3⟩
   ·refine bu.same hi (u:=if ok then .tuple #[z,.bool af]else z) ?_ ?_
    ·rw[he.isEmpty]at hc;rcases er with⟨hx,rfl⟩|⟨b,clock,hx,hh⟩
     ·simp only[execOp,ho,avk,ar_,aV hu,ar7,hx,hk,hc,h3,iX hz,asj]
     ·simp only[execOp,ho,avk,ar_,aV hu,ar7,hx,bU (P:=P) hh (by simp),hk,hc,h3,iX hz,asj]
    ·cases ok
     ·exact Rv.lift z
     ·have:=aC.cons (Rv.lift (ι:=ι) z) (aC.cons (Rv.raw (ι:=ι) (.bool af)) aC.nil);exact .az _ _ this.1 this.2
   ·cases hj
  ·cases h
 ·cases h
theorem gw.set{es:List (Value×IV×Nat)}{res:Array MapEntry}{i:Nat}{e:Value×IV×Nat}{key:Value}{v:IV}{u:Value}{f:MapEntry->MapEntry}(h:gw ι es res)(he:es[i]?=aa e)(hv:Rv ι v u)
 (hf:∀rr,res[i]?=aa rr->f rr={key:=key,val:=u,born:=rr.born}):gw ι (es.set i (key,v,e.2.2)) (res.modify i f):=by
 refine⟨by simp[h.1],λj a b h1 h2=>?_⟩;rw[List.getElem?_set]at h1;rw[Array.getElem?_modify]at h2;by_cases mX:i=j
 ·subst mX;rw[if_pos rfl]at h1 h2;split at h1
  ·cases h1;cases Oa:res[i]? with
   |none=>simp[Oa]at h2
   |some rr=>
    obtain⟨_,_,hb⟩:=h.2 i e rr he Oa;simp only[Oa,asy,ar6]at h2;rw[hf rr Oa]at h2;subst h2;exact⟨rfl,hv,hb⟩
  ·cases h1
 ·rw[if_neg mX]at h1 h2;exact h.2 j a b h1 h2
theorem gw.push{es:List (Value×IV×Nat)}{res:Array MapEntry}{key:Value}{v:IV}{u:Value}{n:Nat}(h:gw ι es res)(hv:Rv ι v u):gw ι (es++[(key,v,n)]) (res.push {key:=key,val:=u,born:=n}):=by
 refine⟨by simp[h.1],λj a b h1 h2=>?_⟩;rw[Array.getElem?_push]at h2;by_cases hj:j<es.length
 ·rw[List.getElem?_append_left hj]at h1;rw[if_neg (by have:=h.1;omega)]at h2;exact h.2 j a b h1 h2
 ·rw[List.getElem?_append_right (by omega)]at h1;by_cases zg:j=es.length
  ·subst zg;rw[if_pos h.1]at h2;simp at h1 h2;subst h1 h2;exact⟨rfl,hv,rfl⟩
  ·have:1<=j- es.length:=by omega
   rw[List.getElem?_eq_none (by simp;omega)]at h1;cases h1
theorem AK(hi:Inv N ι σ w){id clock:Nat}{es:List (Value×IV×Nat)}{u:Value}(hr:Rv ι (.map id) u)(aE:σ.at id=aa (.map es clock)):
 ∃l res,u=.map (aa l.b)/\ι id 0=aa l/\w.heap[l.b]?=aa (.map res clock)/\l.b<w.heap.size/\gw ι es res:=by
 cases hr with
 |map _ l hl=>
  obtain⟨l',res,cq,hh,he⟩:=hi.obj id _ aE;rw[hl]at cq;cases cq;exact⟨l,res,rfl,hl,hh,hi.iO id _ ⟨_,_,hl,rfl⟩,he⟩
theorem nw{l:Loc}{id clock:Nat}{es:List (Value×IV×Nat)}{res:Array MapEntry}(hl:ι id 0=aa l)(ai:l.b<w.heap.size)(he:gw ι es res):
 kH ι {w with heap:=w.heap.setIfInBounds l.b (.map res clock)} id (.map es clock):=⟨l,res,hl,by simp[ai],he⟩
theorem Lr{cH new:Value}(h:Instr.sameBits 10000 cH new=ab)(w:World):(auI cH new).run P w=.ok new w:=by
 unfold auI;rw[if_pos h];rfl
theorem Xy{t kt elem:TypeId}{m k v:IV}{um uk uv:Value}{ao:St}(hi:Inv N ι σ w)(hu:P.underlying t=aa (.map kt elem))(hm:Rv ι m um)(hk:Rv ι k uk)(hv:Rv ι v uv)
 (h:pe P ro kt m k v σ=aa ao):∃w',(avD t um uk uv).run P w=.ok () w'/\Inv N ι ao w'/\Le ro ι w σ ι w' ao:=by
 unfold pe at h;split at h
 ·rename_i id key mE;have uo:=uA mE hk;subst uo;split at h
  ·rename_i es clock aE;obtain⟨l,res,rfl,hl,hh,ai,he⟩:=AK hi hm aE;split at h
   ·cases h
   ·rename_i cB;have cB:ro<=id:=at7 λh=>cB (by omega);split at h
    ·rename_i i xS;split at h
     ·rename_i e s7;split at h
      ·rename_i Xz;cases h;obtain⟨hc,hf⟩:=pk he xS w;rcases hf with⟨hn,_⟩|⟨j,e',rr,hj,h1,h2,h3⟩
       ·cases hn
       ·cases hj;rw[s7]at h1;cases h1;have Ie:=(he.2 i e rr s7 h2).1;obtain⟨r1,r2⟩:=hi.kF (ro:=ro) aE cB hl (nw (clock:=clock) hl ai (he.set s7 hv (key:=uk) (f:=λe=>{e with key:=uk,val:=uv}) (λrr _=>rfl)));refine⟨_,?_,r1,r2⟩
        have ct:(auI (((res[i]?).map (·.key)).getD uk) uk).run P w=.ok uk w:=by
         rw[h2];simp only[asy,asW];exact Lr (by rw[Ie];exact Xz) w
        simp only[avD,ar_,aV hu,ar7,bU (P:=P) hh (by simp),hc,h3,ct,eH (P:=P) hh (by simp)]
      ·cases h
     ·cases h
    ·rename_i xS;cases h;obtain⟨hc,hf⟩:=pk he xS w;rcases hf with⟨_,h3⟩|⟨j,e',rr,hj,h1,h2,h3⟩
     ·obtain⟨r1,r2⟩:=hi.kF (ro:=ro) aE cB hl (nw (clock:=clock+1) hl ai (he.push hv (key:=uk) (n:=clock)));refine⟨_,?_,r1,r2⟩;simp only[avD,ar_,aV hu,ar7,bU (P:=P) hh (by simp),hc,h3,eH (P:=P) hh (by simp)]
     ·cases hj
    ·cases h
  ·cases h
 ·cases h
theorem DE{t:TypeId}{m k x:Operand}(hi:Inv N ι σ w)(hm:Rv ι (ρ m) (r m))(hk:Rv ι (ρ k) (r k))(hx:Rv ι (ρ x) (r x))(ho:o.op=.mapUpdate t m k x\/o.op=.insert t m k x)
 (h:av P ro ρ o σ=aa out):bu P ro N ι w σ r o out:=by
 have h':(match P.underlying t with
  |some (.map kt _)=>match pe P ro kt (ρ m) (ρ k) (ρ x) σ with
   |some ao=>ret .undef ao
   |none=>ah
  |_=>ah)=aa out:=by
  unfold av at h;rcases ho with ho|ho<;>rw[ho]at h<;>exact h
 clear h;split at h'
 ·rename_i kt elem hu;split at h'
  ·rename_i ao hs;obtain rfl:=aJ h';intro hN;obtain⟨w',h1,h2,h3⟩:=Xy (N:=N) hi hu hm hk hx hs;refine⟨asQ,w',ι,.inr ⟨?_,rfl⟩,.raw _,h2,h3⟩;rcases ho with ho|ho<;>simp only[execOp,ho,ar_,h1,ar7,asj]
  ·cases h'
 ·cases h'
theorem Sv{t:TypeId}{m k:Operand}(hi:Inv N ι σ w)(hm:Rv ι (ρ m) (r m))(hk:Rv ι (ρ k) (r k))(ho:o.op=.mapEntry t m k)(h:av P ro ρ o σ=aa out):bu P ro N ι w σ r o out:=by
 unfold av at h;rw[ho]at h;simp only at h;split at h
 ·rename_i kt elem hu;split at h
  ·rename_i z id key hz lr mE;have uo:=uA mE hk;rw[lr]at hm;split at h
   ·rename_i es clock aE;obtain⟨l,res,Ls,hl,hh,ai,he⟩:=AK hi hm aE;split at h
    ·cases h
    ·rename_i cB;have cB:ro<=id:=at7 λh=>cB (by omega);split at h
     ·rename_i i xS;split at h
      ·rename_i e s7;split at h
       ·rename_i Xz;obtain rfl:=aJ h;intro hN;obtain⟨hc,hf⟩:=pk he xS w;rcases hf with⟨hn,_⟩|⟨j,e',rr,hj,h1,h2,h3⟩
        ·cases hn
        ·cases hj;rw[s7]at h1;cases h1;obtain⟨Ie,hvr,hbr⟩:=he.2 i e rr s7 h2;obtain⟨r1,r2⟩:=hi.kF (ro:=ro) aE cB hl (nw (clock:=clock) hl ai (he.set s7 hvr (key:=key) (f:=λe=>{e with key:=key}) (λrr' Oc=>by rw[h2]at Oc;cases Oc;rfl)));refine⟨.tuple #[rr.val,.int .i64 e.2.2],_,ι,.inl ?_,?_,r1,r2⟩
         ·have ct:(auI rr.key key).run P w=.ok key w:=Lr (by rw[Ie];exact Xz) w;simp only[execOp,ho,awR,Ls,uo,ar_,aV hu,ar7,bU (P:=P) hh (by simp),hc,h3,ct,eH (P:=P) hh (by simp),asj,h2,asy,asW,hbr,goInt]
         ·have:=aC.cons hvr (aC.cons (Rv.raw (ι:=ι) (.int .i64 e.2.2)) aC.nil);exact .az _ _ this.1 this.2
       ·cases h
      ·cases h
     ·rename_i xS;obtain rfl:=aJ h;intro hN;obtain⟨hc,hf⟩:=pk he xS w;rcases hf with⟨_,h3⟩|⟨j,e',rr,hj,h1,h2,h3⟩
      ·obtain⟨r1,r2⟩:=hi.kF (ro:=ro) aE cB hl (nw (clock:=clock+1) hl ai (he.push (Rv.lift (ι:=ι) z) (key:=key) (n:=clock)));refine⟨.tuple #[z,.int .i64 clock],_,ι,.inl ?_,?_,r1,r2⟩
       ·simp only[execOp,ho,awR,Ls,uo,ar_,aV hu,ar7,bU (P:=P) hh (by simp),hc,h3,iX hz,eH (P:=P) hh (by simp),asj,goInt]
       ·have:=aC.cons (Rv.lift (ι:=ι) z) (aC.cons (Rv.raw (ι:=ι) (.int .i64 clock)) aC.nil);exact .az _ _ this.1 this.2
      ·cases hj
     ·cases h
   ·cases h
  ·cases h
 ·cases h
end Go.Ev
namespace Go.Ev
variable{P:Program}{N ro:Nat}{ι:Io}{w:World}{σ:St}{ρ:Operand->IV}{r:Operand->Value}{o:Oper}{out:eC}
theorem Nj{t:TypeId}{m st x:Operand}(hi:Inv N ι σ w)(hm:Rv ι (ρ m) (r m))(hs:Rv ι (ρ st) (r st))(hx:Rv ι (ρ x) (r x))(ho:o.op=.entryStore t m st x)
 (h:av P ro ρ o σ=aa out):bu P ro N ι w σ r o out:=by
 unfold av at h;rw[ho]at h;simp only at h;split at h
 ·rename_i id k born lr ct;have est:=eY ct hs;rw[lr]at hm;split at h
  ·rename_i es clock aE;obtain⟨l,res,Ls,hl,hh,ai,he⟩:=AK hi hm aE;split at h
   ·cases h
   ·rename_i cB;have cB:ro<=id:=at7 λh=>cB (by omega);split at h
    ·rename_i i hfi;split at h
     ·rename_i e s7;obtain rfl:=aJ h;intro hN;have dY:i<res.size:=by have:=(List.getElem?_eq_some_iff.1 s7).1;have:=he.1;omega
      have h2:res[i]?=aa res[i]:=asw dY;obtain⟨Ie,_,_⟩:=he.2 i e _ s7 h2
      obtain⟨r1,r2⟩:=hi.kF (ro:=ro) aE cB hl (nw (clock:=clock) hl ai (he.set s7 hx (key:=e.1) (f:=λe=>{e with val:=r x}) (λrr' Oc=>by
       rw[h2]at Oc;cases Oc;rw[<-Ie])))
      have uj:res.findIdx? (λe=>(e.born:Int)==born)=aa i:=by
       rw[show res=res.toList.toArray by simp,List.findIdx?_toArray]
       have:∀(es:List (Value×IV×Nat)) (rs:List MapEntry) (i:Nat),es.length=rs.length->(∀(j:Nat) (e:Value×IV×Nat) (rr:MapEntry),es[j]?=aa e->rs[j]?=aa rr->rr.born=e.2.2)->
        es.findIdx? (λe=>(e.2.2:Int)==born)=aa i->rs.findIdx? (λe=>(e.born:Int)==born)=aa i:=by
        intro es;induction es with
        |nil=>intro rs i hl _ hf;simp at hf
        |cons e es ih=>
         intro rs i hl hb hf;cases rs with
         |nil=>simp at hl
         |cons rr rs=>
          have h0:=hb 0 e rr rfl rfl;rw[List.findIdx?_cons]at hf⊢;rw[h0];split at hf
          ·rename_i hc;rw[if_pos hc];exact hf
          ·rename_i hc;rw[if_neg hc];simp only[ar9]at hf⊢;obtain⟨j,hj,rfl⟩:=hf;exact⟨j,ih rs j (by simpa using hl) (λk a b h1 h2=>hb (k+1) a b h1 h2) hj,rfl⟩
       exact this es res.toList i (by simpa using he.1) (λj e rr h1 h2=>(he.2 j e rr h1 (by simpa using h2)).2.2) hfi
      refine⟨asQ,_,ι,.inr ⟨?_,rfl⟩,.raw _,r1,r2⟩;simp only[execOp,ho,Instr.entryStore,Ls,est,asInt,asIntOf,ar_,asj,ar7,bU (P:=P) hh (by simp),uj,eH (P:=P) hh (by simp)]
     ·cases h
    ·cases h
  ·cases h
 ·cases h
theorem Vl{argTypes:Array TypeId}{ty:TypeId}{m k:IV}{um uk:Value}(hi:Inv N ι σ w)(hm:Rv ι m um)(hk:Rv ι k uk)(h:xw P ro argTypes m k σ=aa out):
 ∃v ao,out=.val v ao/\(ao.n<=N->qX P ro N ι w σ (avr argTypes ty #[um,uk]) v ao):=by
 unfold xw at h;cases sn:argTypes[0]? with
 |none=>simp[sn]at h
 |some t=>
  rw[sn,asa]at h;have e0:(#[um,uk]:Array Value)[0]?=aa um:=rfl;have e1:(#[um,uk]:Array Value)[1]?=aa uk:=rfl;split at h
  ·rename_i kt elem id key hu mE;have uo:=uA mE hk;split at h
   ·rename_i es clock aE;obtain⟨l,res,rfl,hl,hh,ai,he⟩:=AK hi hm aE;split at h
    ·cases h
    ·rename_i cB;have cB:ro<=id:=at7 λh=>cB (by omega);split at h
     ·rename_i i xS;obtain rfl:=aJ h;refine⟨_,_,rfl,λ_=>?_⟩;obtain⟨hc,hf⟩:=pk he xS w;rcases hf with⟨hn,_⟩|⟨j,e',rr,hj,h1,h2,h3⟩
      ·cases hn
      ·cases hj;have lF:i<res.size:=(asX.1 h2).1
       have gV:gw ι (es.eraseIdx i) (res.eraseIdxIfInBounds i):=by
        have e2:res.eraseIdxIfInBounds i=(res.toList.eraseIdx i).toArray:=by
         rw[Array.eraseIdxIfInBounds,dif_pos lF];apply auf;simp
        rw[e2];have hle:=he.1;refine⟨by simp only[List.length_eraseIdx,List.size_toArray,Array.length_toList,hle],λj a b ha hb=>?_⟩;simp only[List.getElem?_toArray]at hb;rw[List.getElem?_eraseIdx]at ha hb;split at ha
        ·rename_i hc;rw[if_pos hc]at hb;exact he.2 j a b ha (by simpa using hb)
        ·rename_i hc;rw[if_neg hc]at hb;exact he.2 (j+1) a b ha (by simpa using hb)
       obtain⟨r1,r2⟩:=hi.kF (ro:=ro) aE cB hl (nw (clock:=clock) hl ai gV);refine⟨.tuple #[],_,ι,?_,.raw _,r1,r2⟩;unfold avr;rw[sn,e0,e1];rw[he.isEmpty]at hc;simp only[ar_,aV hu,ar7,bU (P:=P) hh (by simp),uo,hc,h3,eH (P:=P) hh (by simp),asj]
     ·rename_i xS;obtain rfl:=aJ h;refine⟨_,_,rfl,λ_=>?_⟩;obtain⟨hc,hf⟩:=pk he xS w;rcases hf with⟨_,h3⟩|⟨j,e',rr,hj,h1,h2,h3⟩
      ·obtain⟨r1,r2⟩:=hi.kF (ro:=ro) aE cB hl (nw (clock:=clock) hl ai he);refine⟨.tuple #[],_,ι,?_,.raw _,r1,r2⟩;unfold avr;rw[sn,e0,e1];rw[he.isEmpty]at hc;simp only[ar_,aV hu,ar7,bU (P:=P) hh (by simp),uo,hc,h3,eH (P:=P) hh (by simp),asj]
      ·cases hj
     ·cases h
   ·cases h
  ·cases h
theorem Inv.DF(hi:Inv N ι σ w)(hN:σ.n<N){go:axl}{ob:Ob}(dz:kH (dM ι σ.n 0 ⟨w.heap.size,1,1⟩) {w with heap:=w.heap.push go} σ.n ob):
 Inv N (dM ι σ.n 0 ⟨w.heap.size,1,1⟩) (σ.add ob) {w with heap:=w.heap.push go}/\Le ro ι w σ (dM ι σ.n 0 ⟨w.heap.size,1,1⟩) {w with heap:=w.heap.push go} (σ.add ob):=
 hi.add hN rfl rfl rfl rfl rfl dz
theorem aaD{t:TypeId}{x:Operand}(hi:Inv N ι σ w)(hr:Rv ι (ρ x) (r x))(ho:o.op=.range t x)(h:av P ro ρ o σ=aa out):bu P ro N ι w σ r o out:=by
 unfold av at h;rw[ho]at h;simp only at h;have rv:∀(aG:Io) (n b:Nat),Rv (dM aG n 0 ⟨b,1,1⟩) (.ptr n 0 0 1) (.pointer (aa ⟨b,0,ah⟩)):=λaG n b=>.ptr _ _ _ _ _ (cd _ _ _ _) (by simp);split at h
 ·rename_i s hu hx;have e:=eY hx hr;obtain rfl:=aJ h;intro hN;obtain⟨h1,h2⟩:=hi.DF (ro:=ro) (go:=.stringIter s 0) (ob:=.pY s 0) (by simp at hN;omega) ⟨_,cd _ _ _ _,by simp⟩;exact⟨_,_,_,.inl (by simp only[execOp,ho,av_,ar_,aV hu,ar7,e,asj,run_newObj]),rv _ _ _,h1,h2⟩
 ·rename_i k e' hu hx;have e:=eY hx hr;obtain rfl:=aJ h;intro hN;obtain⟨h1,h2⟩:=hi.DF (ro:=ro) (go:=.mapIter ah 0 #[] 0) (ob:=.jz ah 0 [] 0) (by simp at hN;omega) ⟨_,ah,cd _ _ _ _,by simp,rfl⟩;exact⟨_,_,_,.inl (by simp only[execOp,ho,av_,ar_,aV hu,ar7,e,asj,run_newObj]),rv _ _ _,h1,h2⟩
 ·rename_i k e' m hu hx;rw[hx]at hr;split at h
  ·rename_i es clock aE;obtain⟨l,res,Ls,hl,hh,ai,he⟩:=AK hi hr aE;obtain rfl:=aJ h;intro hN;have aZ:ι σ.n 0=ah:=hi.fresh _ (ar8 _) (by simp at hN;omega) 0
   obtain⟨h1,h2⟩:=hi.DF (ro:=ro) (go:=.mapIter (aa l.b) clock #[] clock) (ob:=.jz (aa m) clock [] clock) (by simp at hN;omega)
    ⟨_,aa l.b,cd _ _ _ _,by simp,l,kI aZ _ _ _ hl,rfl⟩
   exact⟨_,_,_,.inl (by simp only[execOp,ho,av_,ar_,aV hu,ar7,Ls,bU (P:=P) hh (by simp),asj,run_newObj]),rv _ _ _,h1,h2⟩
  ·cases h
 ·cases h
theorem p5{vs:List IV}{us:List Value}(h:aC ι vs us):Rv ι (.az vs) (.tuple us.toArray):=.az _ _ h.1 h.2
theorem aeb{it:Operand}{str:Bool}(hi:Inv N ι σ w)(hr:Rv ι (ρ it) (r it))(ho:o.op=.next it str)(h:av P ro ρ o σ=aa out):bu P ro N ι w σ r o out:=by
 unfold av at h;rw[ho]at h;simp only at h;split at h
 ·rename_i id hx;rw[hx]at hr;split at h
  ·cases h
  ·rename_i cB;have cB:ro<=id:=at7 λh=>cB (by omega);generalize hq:r it=q at hr;cases hr with
   |ptr _ _ _ _ l hl hle=>
    have ai:l.b<w.heap.size:=hi.iO id _ ⟨_,_,hl,rfl⟩;split at h
    ·rename_i s pos aE;obtain⟨l',cq,hh⟩:=hi.obj id _ aE;rw[hl]at cq;cases cq;split at h
     ·rename_i sY;obtain rfl:=aJ h;intro hN;obtain⟨r1,r2⟩:=hi.kF (ro:=ro) (eK:=.pY s (pos+(atS s pos).2)) (go:=.stringIter s (pos+(atS s pos).2)) aE cB hl ⟨l,hl,by simp[ai]⟩;refine⟨.tuple #[.bool ab,.int .i64 pos,.int .i32 (atS s pos).1],_,ι,.inl ?_,?_,r1,r2⟩
      ·simp only[execOp,ho,auh,hq,ar_,bU (P:=P) hh (by simp),ar7,sY,if_true,eH (P:=P) hh (by simp),asj,goInt]
      ·exact p5 (aC.cons (.raw _) (aC.cons (.raw _) (aC.cons (.raw _) aC.nil)))
     ·rename_i sY;obtain rfl:=aJ h;refine bu.same hi (u:=.tuple #[.bool af]) ?_ (p5 (aC.cons (.raw _) aC.nil));simp only[execOp,ho,auh,hq,ar_,bU (P:=P) hh (by simp),ar7,sY,if_false,asj]
    ·rename_i a b c aE;obtain⟨l',mr,cq,hh,hm⟩:=hi.obj id _ aE;rw[hl]at cq;cases cq;simp only at hm;subst hm;obtain rfl:=aJ h;refine bu.same hi (u:=.tuple #[.bool af]) ?_ (p5 (aC.cons (.raw _) aC.nil));simp only[execOp,ho,auh,hq,ar_,bU (P:=P) hh (by simp),ar7,asj]
    ·rename_i m since seen last aE;obtain⟨l',mr,cq,hh,hm⟩:=hi.obj id _ aE;rw[hl]at cq;cases cq;obtain⟨lm,Od,rfl⟩:=hm;split at h
     ·rename_i es clock Oe;obtain⟨lm',res,DG,Gs,he⟩:=hi.obj m _ Oe;rw[Od]at DG;cases DG
      have over:∀{aaE:Array (Option MapEntry)},aaE= #[ah]->(choose (.mapNext aaE.size)).run P w=.ok 0 w:=by
       intro aaE hc;subst hc;simp[choose,atV,at3]
      split at h
      ·have hre:res= #[]:=auu (by have:=he.1;simpa using this.symm);subst hre;obtain rfl:=aJ h;refine bu.same hi (u:=.tuple #[.bool af]) ?_ (p5 (aC.cons (.raw _) aC.nil));simp[execOp,ho,auh,hq,bU (P:=P) hh (by simp),bU (P:=P) Gs (by simp),choose,atV,at3]
      ·rename_i e;have aT:res.size=1:=by have:=he.1;simpa using this.symm
       obtain⟨rr,rfl⟩:∃rr,res= #[rr]:=by
        refine⟨res[0],?_⟩;apply Array.ext (by simp[aT]);intro i h1 h2;have:i=0:=by omega
        subst this;rfl
       obtain⟨hk,hv,hb⟩:=he.2 0 e rr rfl rfl;split at h
       ·rename_i vL;split at h
        ·rename_i jB;obtain rfl:=aJ h;refine bu.same hi (u:=.tuple #[.bool af]) ?_ (p5 (aC.cons (.raw _) aC.nil));have afE:rr.born∈seen:=by rw[hb];exact vL
         have Of:¬last<=rr.born:=by rw[hb];omega
         have aaF:Array.filter (λe=> !seen.toArray.contains e.born) #[rr]= #[]:=by simp[afE]
         simp[execOp,ho,auh,hq,bU (P:=P) hh (by simp),bU (P:=P) Gs (by simp),choose,atV,at3,afE,Of]
        ·cases h
       ·rename_i vL;split at h
        ·rename_i hc;obtain⟨bL,rfl⟩:=hc;obtain rfl:=aJ h;intro hN;have cI:rr.born<since:=by rw[hb];exact bL
         obtain⟨r1,r2⟩:=hi.kF (ro:=ro) (eK:=.jz (aa m) since [e.2.2] clock) (go:=.mapIter (aa lm.b) since #[rr.born] clock) aE cB hl ⟨l,aa lm.b,hl,by simp[ai,hb],lm,Od,rfl⟩;refine⟨.tuple #[.bool ab,rr.key,rr.val],_,ι,.inl ?_,?_,r1,r2⟩
         ·have fg:¬since<=rr.born:=by omega
          simp[execOp,ho,auh,hq,bU (P:=P) hh (by simp),bU (P:=P) Gs (by simp),choose,atV,at3,cI,fg,eH (P:=P) hh (by simp)]
         ·rw[<-hk];exact p5 (aC.cons (.raw _) (aC.cons (Rv.lift _) (aC.cons hv aC.nil)))
        ·cases h
      ·cases h
     ·cases h
    ·cases h
 ·cases h
theorem aaG{it:Operand}(hi:Inv N ι σ w)(hr:Rv ι (ρ it) (r it))(ho:o.op=.entry it)(h:av P ro ρ o σ=aa out):bu P ro N ι w σ r o out:=by
 unfold av at h;rw[ho]at h;simp only at h;split at h
 ·rename_i id hx;rw[hx]at hr;generalize hq:r it=q at hr;cases hr with
  |ptr _ _ _ _ l hl hle=>
   split at h
   ·rename_i m since seen xu aE;obtain⟨l',mr,cq,hh,hm⟩:=hi.obj id _ aE;rw[hl]at cq;cases cq;obtain⟨lm,Od,rfl⟩:=hm;split at h
    ·rename_i es clock Fh Oe jB;obtain⟨lm',res,DG,Gs,he⟩:=hi.obj m _ Oe;rw[Od]at DG;cases DG;split at h
     ·rename_i bH;split at h
      ·rename_i e Og;obtain rfl:=aJ h
       have key:∀(es:List (Value×IV×Nat)) (rs:List MapEntry),es.length=rs.length->(∀(j:Nat) (e:Value×IV×Nat) (rr:MapEntry),es[j]?=aa e->rs[j]?=aa rr->rr.key=e.1/\Rv ι e.2.1 rr.val/\rr.born=e.2.2)->
        es.find? (λe=>e.2.2==Fh)=aa e->∃rr,rs.find? (λe=>e.born==Fh)=aa rr/\rr.key=e.1/\Rv ι e.2.1 rr.val:=by
        intro es;induction es with
        |nil=>intro rs _ _ hf;simp at hf
        |cons a es ih=>
         intro rs hl hb hf;cases rs with
         |nil=>simp at hl
         |cons rr rs=>
          obtain⟨h1,h2,h3⟩:=hb 0 a rr rfl rfl;rw[List.find?_cons]at hf⊢;rw[h3];split at hf
          ·rename_i hc;cases hf;exact⟨rr,rfl,h1,h2⟩
          ·rename_i hc;exact ih rs (by simpa using hl) (λk x y h1 h2=>hb (k+1) x y h1 h2) hf
       obtain⟨rr,hf,hk,hv⟩:=key es res.toList (by simpa using he.1) (λj e rr h1 h2=>he.2 j e rr h1 (by simpa using h2)) Og;have hf':res.find? (λe=>e.born==Fh)=aa rr:=by rw[<-hf,<-Array.find?_toList]
       have Of:seen.toArray.back?=aa Fh:=by rw[<-jB];simp
       refine bu.same hi (u:=.tuple #[rr.key,rr.val]) ?_ (by rw[<-hk];exact p5 (aC.cons (Rv.lift _) (aC.cons hv aC.nil)));subst bH;simp[execOp,ho,Instr.entry,hq,bU (P:=P) hh (by simp),bU (P:=P) Gs (by simp),Of,hf']
      ·cases h
     ·cases h
    ·cases h
   ·cases h
 ·cases h
end Go.Ev
namespace Go.Ev
variable{P:Program}{N ro:Nat}{ι:Io}{w:World}{σ:St}{ρ:Operand->IV}{r:Operand->Value}{o:Oper}{out:eC}
theorem afF{argTypes:Array TypeId}{ty:TypeId}{args:List IV}{us:List Value}{v:IV}(hr:aC ι args us)(h:NS P args=aa v):∃z,(Builtin.min_ argTypes ty us.toArray).run P w=.ok z w/\Rv ι v z:=by
 unfold NS at h;split at h
 ·rename_i vs hv;rw[<-uW hv hr]at h;rw[ar9]at h;obtain⟨z,hz,rfl⟩:=h;exact⟨z,eQ w _ hz,Rv.lift z⟩
 ·cases h
theorem afG{argTypes:Array TypeId}{ty:TypeId}{args:List IV}{us:List Value}{v:IV}(hr:aC ι args us)(h:JW P args=aa v):∃z,(Builtin.max_ argTypes ty us.toArray).run P w=.ok z w/\Rv ι v z:=by
 unfold JW at h;split at h
 ·rename_i vs hv;rw[<-uW hv hr]at h;rw[ar9]at h;obtain⟨z,hz,rfl⟩:=h;exact⟨z,eQ w _ hz,Rv.lift z⟩
 ·cases h
theorem Gt{argTypes:Array TypeId}{s x:IV}(h:kE P ro argTypes s x σ=aa out):∃v ao,out=.val v ao:=by
 have hn:∀{size aY n:Nat} {new:List IV} {s:IV},fk size aY n new s σ=aa out->∃v ao,out=.val v ao:=by
  intro size aY n new s h;unfold fk at h;split at h
  ·split at h
   ·exact⟨_,_,aJ h⟩
   ·cases h
  ·cases h
 unfold kE at h;split at h
 ·split at h
  ·split at h
   ·split at h
    ·cases h
    ·split at h
     ·split at h
      ·unfold eD at h
       repeat' split at h
       all_goals first|exact⟨_,_,aJ h⟩|exact hn h|cases h
      ·cases h
     ·cases h
   ·cases h
  ·cases h
 ·cases h
theorem bu.ofB{c:Call}{b:Builtin}{us:List Value}(ho:o.op=.call c)(hb:c.callee=.builtin b)(xU:c.args.map r=us.toArray)(h:xR P ro N ι w σ (builtin b c.argTypes o.type (c.args.map λ|.const _=>ab|_=>af) us.toArray) out):
 bu P ro N ι w σ r o out:=by
 obtain⟨v,ao,rfl,h⟩:=h;intro hN;rw[N9 ho hb,xU];exact h hN
theorem Vm{b:Builtin}{argTypes:Array TypeId}{ty:TypeId}{cs:Array Bool}{args:List IV}{us:List Value}(hi:Inv N ι σ w)(hr:aC ι args us)(h:dB P ro b argTypes args σ=aa out):
 xR P ro N ι w σ (builtin b argTypes ty cs us.toArray) out:=by
 unfold dB at h;split at h
 ·split at h
  ·obtain⟨v,u,rfl,h1,h2⟩:=J4 hr;obtain⟨v',ao,rfl⟩:=Gt h;exact xR.Xv λhN=>Xs hi h1 h2 h hN
  ·cases h
 ·split at h
  ·obtain⟨v,rfl,h1⟩:=uC hr;rw[ar9]at h;obtain⟨z,hz,rfl⟩:=h;obtain⟨u,hu,jd⟩:=ad_ (ty:=ty) hi h1 hz;exact xR.same hi hu jd
  ·cases h
 ·split at h
  ·obtain⟨v,rfl,h1⟩:=uC hr;rw[ar9]at h;obtain⟨z,hz,rfl⟩:=h;obtain⟨u,hu,jd⟩:=aea (ty:=ty) (w:=w) h1 hz;exact xR.same hi hu jd
  ·cases h
 ·rw[ar9]at h;obtain⟨z,hz,rfl⟩:=h;obtain⟨u,hu,jd⟩:=afF (argTypes:=argTypes) (ty:=ty) (w:=w) hr hz;exact xR.same hi hu jd
 ·rw[ar9]at h;obtain⟨z,hz,rfl⟩:=h;obtain⟨u,hu,jd⟩:=afG (argTypes:=argTypes) (ty:=ty) (w:=w) hr hz;exact xR.same hi hu jd
 ·split at h
  ·obtain⟨v,u,rfl,h1,h2⟩:=J4 hr;obtain⟨v',ao,rfl,h3⟩:=Vl (ty:=ty) hi h1 h2 h;exact xR.Xv h3
  ·cases h
 ·split at h
  ·obtain⟨v,rfl,h1⟩:=uC hr;obtain⟨v',ao,rfl,h3⟩:=Xw (ty:=ty) hi h1 h;exact xR.Xv h3
  ·cases h
 ·split at h
  ·obtain⟨v,u,rfl,h1,h2⟩:=J4 hr;obtain⟨v',ao,rfl,h3⟩:=aaB (ty:=ty) hi h1 h2 h;exact xR.Xv h3
  ·cases h
 ·cases h
theorem AL{l:Array Operand}(h:∀x,Rv ι (ρ x) (r x)):aC ι (l.toList.map ρ) (l.toList.map r):=aC.of_map λx _=>h x
theorem uY{f:FuncId}{fn:Func}{us:Array Value}(h:P.funcs[f]?=aa fn)(hb:(fn.body.isSome&&fn.name != "runtime.NumGoroutine")=ab):(callFunc f us).run P w=.ok (.enter f us) w:=by
 simp only[Bool.and_eq_true,bne_iff_ne,ne_eq]at hb;have h2:fn.body≠ah:=by cases hh:fn.body<;>simp_all
 simp[callFunc,h,h2,hb.2]
theorem DH{x:IV}{v:Value}{args:List IV}{us:List Value}(hx:Rv ι x v)(hr:aC ι args us)(h:gu P x args=aa out):
 ∃d,(ave v us.toArray).run P w=.ok d w/\((∃f as vs,out=.enter f as/\(invoke d.target d.args).run P w=.ok (.enter f vs.toArray) w/\aC ι as vs/\By ι (.call f as) d)\/
  (∃id l,out=.round id args/\ι id 0=aa l/\d.target=.fn (.yield l.b) #[]/\d.args=us.toArray)):=by
 unfold gu at h;split at h
 ·rename_i f first cap
  cases hx with
  |fn _ _ _ cs ds hl h1 eR h2=>
   split at h
   ·rename_i fn bT;split at h
    ·rename_i hb;cases h;have gY:aC ι (first++args++cap) (cs++us++ds):=(aC.append ⟨hl,h1⟩ hr).append ⟨eR,h2⟩;refine⟨{target:=.fn (.func f) ds.toArray,args:=cs.toArray++us.toArray},rfl,.inl ⟨f,_,_,rfl,?_,gY,ds,cs++us,_,by simp,gY,rfl⟩⟩;simp only[invoke];rw[uY bT hb];simp
    ·cases h
   ·cases h
 ·rename_i f a b;cases hx;split at h
  ·rename_i he;obtain⟨rfl,rfl⟩:a= #[]/\b= #[]:=⟨auu he.1,auu he.2⟩;split at h
   ·rename_i fn bT;split at h
    ·rename_i hb;cases h;refine⟨{target:=.fn (.func f) #[],args:=us.toArray},by simp[ave],.inl ⟨f,_,us,rfl,?_,hr,[],us,us,by simp,hr,by simp⟩⟩;simp only[invoke];rw[uY bT hb];simp
    ·cases h
   ·cases h
  ·cases h
 ·rename_i id;cases hx with
  |AA _ l hl=>
   cases h;exact⟨{target:=.fn (.yield l.b) #[],args:=us.toArray},by simp[ave],.inr ⟨id,l,rfl,hl,rfl,rfl⟩⟩
 ·cases h
theorem XA{x:IV}{u:Value}{name:String}{args:List IV}{us:List Value}(hx:Rv ι x u)(hr:aC ι args us)(h:uy P x name args=aa out):
 ∃f as vs,out=.enter f as/\(invoke (.fn (.method name) #[]) (#[u]++us.toArray)).run P w=.ok (.enter f vs.toArray) w/\aC ι as vs:=by
 unfold uy at h;split at h
 ·rename_i t v;cases hx with
  |di _ _ uv hv=>
   split at h
   ·rename_i i el hi hd;split at h
    ·rename_i m hm;split at h
     ·rename_i f pr hf;split at h
      ·rename_i hc;obtain⟨Vn,rfl⟩:=hc;have Vn:m.path.toList=[]:=ate.1 Vn;split at h
       ·rename_i fn bT;split at h
        ·rename_i hb;cases h;refine⟨f,v::args,uv::us,rfl,?_,aC.cons hv hr⟩
         have ajb:∀n,(method (n+1) t uv name).run P w=.ok (f,uv) w:=by
          intro n;simp[method,typeInfo,hi,hm,Vn,follow,hf,receiverAt,aV hd,Place.get]
         have ajc:∃n,P.types.size+awp=n+1:=⟨P.types.size+(awp- 1),by unfold awp;omega⟩;obtain⟨n,hn⟩:=ajc;have e0:(#[awa t uv]++us.toArray)[0]?=aa (.iface t uv):=by simp
         have e1:(#[awa t uv]++us.toArray).extract 1 (#[awa t uv]++us.toArray).size=us.toArray:=by
          apply auf;simp
         have e2:(#[uv]++us.toArray)=(uv::us).toArray:=by apply auf;simp
         have e3:(callMethod (.iface t uv) name us.toArray).run P w=.ok (.enter f (uv::us).toArray) w:=by
          have hp:(program:Sem Program).run P w=.ok P w:=rfl;simp only[callMethod,ar_,hp,ar7,hn,ajb,e2];exact uY bT hb
         simp only[invoke,e0,e1];exact e3
        ·cases h
       ·cases h
      ·cases h
     ·cases h
    ·cases h
   ·cases h
 ·cases h
theorem aec{c:Call}(hi:Inv N ι σ w)(hr:∀x,Rv ι (ρ x) (r x))(ho:o.op=.call c)(h:av P ro ρ o σ=aa out):bu P ro N ι w σ r o out:=by
 unfold av at h;rw[ho]at h;(try dsimp only at h);have xU:c.args.map r=(c.args.toList.map r).toArray:=by apply auf;rw[avw]
 split at h
 ·rename_i b hb;exact bu.ofB ho hb xU (Vm hi (AL hr) h)
 ·rename_i f hf;obtain⟨d,hd,h⟩:=DH (w:=w) (hr f) (AL hr) h
  have e:(execOp r o).run P w=(invoke d.target d.args).run P w:=by
   simp only[execOp,ho,resolve,hf,xU,ar_,hd,ar7]
  rcases h with⟨f',as,vs,rfl,h1,h2,_⟩|⟨id,l,rfl,h1,h2,h3⟩
  ·exact⟨vs,by rw[e,h1],h2⟩
  ·exact⟨l,_,h1,by rw[e,h2,h3];rfl,AL hr⟩
 ·rename_i x name hx;obtain⟨f,as,vs,rfl,h1,h2⟩:=XA (w:=w) (hr x) (AL hr) h;exact⟨vs,by simp only[execOp,ho,resolve,hx,xU,ar_,asj,ar7,h1],h2⟩
theorem aaH{c:Call}(hr:∀x,Rv ι (ρ x) (r x))(ho:o.op=.defer c)(h:av P ro ρ o σ=aa out):bu P ro N ι w σ r o out:=by
 unfold av at h;rw[ho]at h;(try dsimp only at h);have xU:c.args.map r=(c.args.toList.map r).toArray:=by apply auf;rw[avw]
 split at h
 ·rename_i f hf;split at h
  ·rename_i f' args hc;cases h;obtain⟨d,hd,h⟩:=DH (w:=w) (hr f) (AL hr) hc;rcases h with⟨f',as,vs,he,_,_,h3⟩|⟨id,l,he,_⟩
   ·cases he;exact⟨d,by simp only[execOp,ho,resolve,hf,xU,ar_,hd,ar7,asj],h3,c,ho⟩
   ·cases he
  ·cases h
 ·cases h
theorem aaI{x:Operand}(hr:Rv ι (ρ x) (r x))(ho:o.op=.panic x)(h:av P ro ρ o σ=aa out):bu P ro N ι w σ r o out:=by
 unfold av at h;rw[ho]at h;simp only at h;split at h
 ·rename_i t v hx;cases h;rw[hx]at hr;generalize hq:r x=q at hr;have oG:=hr;cases hr with
  |di _ _ u hu=>
   refine⟨_,?_,oG⟩;simp only[execOp,ho,Instr.panic,hq,goPanic,ar_];rfl
 ·cases h
theorem Nk{x:Operand}{xt asserted:TypeId}{ok:Bool}(hi:Inv N ι σ w)(hr:Rv ι (ρ x) (r x))(ho:o.op=.typeAssert x xt asserted ok)(h:av P ro ρ o σ=aa out):bu P ro N ι w σ r o out:=by
 unfold av at h;rw[ho]at h;simp only at h;split at h
 ·cases h
 ·rename_i d z Lt hu hz
  have hd:∀{α:Type} (k1:Array (String×TypeId)->α) (k2:α),(match d with|.interface want=>k1 want|_=>k2)=k2:=by
   intro α k1 k2;cases d<;>first|rfl|exact absurd rfl (Lt _)
  split at h
  ·rename_i t v hx;rw[hx]at hr;generalize hq:r x=q at hr;cases hr with
   |di _ _ u jd=>
    split at h
    ·rename_i hte;have Vo:t=asserted:=by simpa using hte
     obtain rfl:=aJ h;cases ok with
     |true=>
      refine bu.same hi (u:=.tuple #[u,.bool ab]) ?_ ?_
      ·cases d<;>first
        |exact absurd rfl (Lt _)
        |simp[execOp,ho,auV,hq,aV hu,Vo]
      ·have:=aC.cons jd (aC.cons (Rv.raw (ι:=ι) (.bool ab)) aC.nil);exact p5 this
     |false=>
      refine bu.same hi (u:=u) ?_ jd
      cases d<;>first
       |exact absurd rfl (Lt _)
       |simp[execOp,ho,auV,hq,aV hu,Vo]
    ·rename_i hte;have Vo:¬t=asserted:=by simpa using hte
     split at h
     ·rename_i bp;subst bp;obtain rfl:=aJ h;refine bu.same hi (u:=.tuple #[z,.bool af]) ?_ ?_
      ·cases d<;>first
        |exact absurd rfl (Lt _)
        |simp[execOp,ho,auV,hq,aV hu,Vo,iX hz]
      ·have:=aC.cons (Rv.lift (ι:=ι) z) (aC.cons (Rv.raw (ι:=ι) (.bool af)) aC.nil);exact p5 this
     ·cases h
  ·rename_i hx;have e:=eY hx hr;split at h
   ·rename_i bp;subst bp;obtain rfl:=aJ h;refine bu.same hi (u:=.tuple #[z,.bool af]) ?_ ?_
    ·cases d<;>first
      |exact absurd rfl (Lt _)
      |simp[execOp,ho,auV,e,aV hu,iX hz]
    ·have:=aC.cons (Rv.lift (ι:=ι) z) (aC.cons (Rv.raw (ι:=ι) (.bool af)) aC.nil);exact p5 this
   ·cases h
  ·cases h
 ·cases h
theorem oI(hi:Inv N ι σ w)(hr:∀x,Rv ι (ρ x) (r x))(h:av P ro ρ o σ=aa out):bu P ro N ι w σ r o out:=by
 cases ho:o.op with
 |move x=>unfold av at h;rw[ho]at h;simp only at h;obtain rfl:=aJ h;exact SY hi (hr _) (.inl ho)
 |assign x=>unfold av at h;rw[ho]at h;simp only at h;obtain rfl:=aJ h;exact SY hi (hr _) (.inr ho)
 |pick c a b=>exact ad7 hi (hr _) (hr _) (hr _) ho h
 |alloc t=>exact aau hi ho h
 |box t x=>exact afw hi (hr _) ho h
 |build t parts=>exact aaz hi (λx _=>hr x) ho h
 |buildSlice t len parts=>exact Ni hi (λx _=>hr x) ho h
 |load t a=>exact ad8 hi (hr _) ho h
 |store t a x=>exact aav hi (hr _) (hr _) ho h
 |nilCheck x=>exact Sl hi (hr _) ho h
 |binOp op t x y yT=>exact afx hi (hr _) (hr _) ho h
 |unOp op t x=>exact ai_ hi (hr _) ho h
 |convert s t x=>exact Vd hi (hr _) ho h
 |makeInterface t x=>exact G1 hi (hr _) ho h
 |makeFunc f a b=>exact Sn hi (λx _=>hr x) ho h
 |makeMap t x=>exact Vf hi (λx _=>hr x) ho h
 |makeSlice t l c=>exact N2 hi (hr _) (hr _) ho h
 |slice t x lo cW mx=>exact aaA hi (hr _) (λx _=>hr x) (λx _=>hr x) (λx _=>hr x) ho h
 |fieldAddr s x f=>exact N0 hi (hr _) ho h
 |field t x f=>exact aax hi (hr _) ho h
 |indexAddr t x ix=>exact N1 hi (hr _) (hr _) ho h
 |index t x ix=>exact aay hi (hr _) (hr _) ho h
 |lookup t x ix ok=>exact Xx hi (hr _) (hr _) ho h
 |mapUpdate t m k x=>exact DE hi (hr _) (hr _) (hr _) (.inl ho) h
 |insert t m k x=>exact DE hi (hr _) (hr _) (hr _) (.inr ho) h
 |mapEntry t m k=>exact Sv hi (hr _) (hr _) ho h
 |entryStore t m st x=>exact Nj hi (hr _) (hr _) (hr _) ho h
 |range t x=>exact aaD hi (hr _) ho h
 |next it s=>exact aeb hi (hr _) ho h
 |entry it=>exact aaG hi (hr _) ho h
 |extract t i=>exact Ve hi (hr _) ho h
 |call c=>exact aec hi hr ho h
 |defer c=>exact aaH hr ho h
 |panic x=>exact aaI (hr _) ho h
 |typeAssert x xt t ok=>exact Nk hi (hr _) ho h
 |_=>unfold av at h;rw[ho]at h;cases h
end Go.Ev
namespace Go.Ev
variable{P:Program}{ro:Nat}{σ:St}{ρ:Operand->IV}{o:Oper}{out:eC}
def Grown(σ:St):eC->Prop
 |.val _ ao=>σ.n<=ao.n
 |_=>True
theorem so{v:IV}{ao:St}(hle:σ.n<=ao.n)(h:ret v ao=aa out):Grown σ out:=by rw[aJ h];exact hle
theorem wK{v:IV}(h:ret v σ=aa out):Grown σ out:=so (ar8 σ.n) h
theorem vM{v:IV}{id:Nat}{ob:Ob}(h:ret v (σ.put id ob)=aa out):Grown σ out:=so (ao:=σ.put id ob) (ar8 σ.n) h
theorem Lu{v:IV}{ob:Ob}(h:ret v (σ.add ob)=aa out):Grown σ out:=so (Nat.le_succ _) h
theorem Oh{kt:TypeId}{m k v:IV}{ao:St}(h:pe P ro kt m k v σ=aa ao):ao.n=σ.n:=by
 unfold pe at h
 repeat' split at h
 all_goals first|(cases h;done)|(cases h;rfl)
theorem Oi{f:IV}{args:List IV}(h:gu P f args=aa out):Grown σ out:=by
 unfold gu at h
 repeat' split at h
 all_goals first|(cases h;done)|(cases h;exact trivial)
theorem Oj{x:IV}{name:String}{args:List IV}(h:uy P x name args=aa out):Grown σ out:=by
 unfold uy at h
 repeat' split at h
 all_goals first|(cases h;done)|(cases h;exact trivial)
theorem Ol{argTypes:Array TypeId}{s x:IV}(h:kE P ro argTypes s x σ=aa out):Grown σ out:=by
 have hn:∀{size aY n:Nat} {new:List IV} {s:IV},fk size aY n new s σ=aa out->Grown σ out:=by
  intro size aY n new s h;unfold fk at h;split at h
  ·split at h
   ·exact Lu h
   ·cases h
  ·cases h
 unfold kE at h;split at h
 ·split at h
  ·split at h
   ·split at h
    ·cases h
    ·split at h
     ·split at h
      ·unfold eD at h
       repeat' split at h
       all_goals first|exact wK h|exact vM h|exact so (by exact ar8 σ.n) h|exact hn h|cases h
      ·cases h
     ·cases h
   ·cases h
  ·cases h
 ·cases h
theorem Nl{b:Builtin}{argTypes:Array TypeId}{args:List IV}(h:dB P ro b argTypes args σ=aa out):Grown σ out:=by
 unfold dB at h;split at h
 ·split at h
  ·exact Ol h
  ·cases h
 ·split at h
  ·rw[ar9]at h;obtain⟨z,hz,rfl⟩:=h;exact ar8 _
  ·cases h
 ·split at h
  ·rw[ar9]at h;obtain⟨z,hz,rfl⟩:=h;exact ar8 _
  ·cases h
 ·rw[ar9]at h;obtain⟨z,hz,rfl⟩:=h;exact ar8 _
 ·rw[ar9]at h;obtain⟨z,hz,rfl⟩:=h;exact ar8 _
 ·split at h
  ·unfold xw at h
   repeat' split at h
   all_goals first|exact vM h|cases h
  ·cases h
 ·split at h
  ·unfold sR at h
   repeat' split at h
   all_goals first|exact wK h|exact vM h|cases h
  ·cases h
 ·split at h
  ·unfold Fg at h
   repeat' split at h
   all_goals first|exact wK h|exact vM h|cases h
  ·cases h
 ·cases h
theorem lV(h:av P ro ρ o σ=aa out):Grown σ out:=by
 unfold av at h;cases ho:o.op<;>rw[ho]at h<;>(try dsimp only at h)
 case call c=>
  split at h
  ·exact Nl h
  ·exact Oi h
  ·exact Oj h
 case defer c=>
  split at h
  ·split at h
   ·cases h;exact trivial
   ·cases h
  ·cases h
 case mapUpdate=>
  split at h
  ·split at h
   ·rename_i ao hs;exact so (axw (Oh hs).symm) h
   ·cases h
  ·cases h
 case insert=>
  split at h
  ·split at h
   ·rename_i ao hs;exact so (axw (Oh hs).symm) h
   ·cases h
  ·cases h
 all_goals (repeat' split at h)
 all_goals first|exact wK h|exact vM h|exact Lu h|(cases h;done)|(cases h;exact trivial)
end Go.Ev
namespace Go.Ev
variable{P:Program}{N ro:Nat}{ι:Io}{w:World}{σ:St}{e:Env}{a:Act}
def c9(ι:Io)(e:Env)(ts:Array Value):Prop:=e.n=ts.size/\∀t,Rv ι (e.at t) (ts.getD t asQ)
def jX(ι:Io):List Df->List Deferred->Prop
 |[],[]=>True
 |d::ds,x::xs=>By ι d x/\jX ι ds xs
 |_,_=>False
theorem c9.mono{aG:Io}(gR:Ext ι aG){ts:Array Value}(h:c9 ι e ts):c9 aG e ts:=⟨h.1,λt=>(h.2 t).mono gR⟩
theorem By.mono{aG:Io}(gR:Ext ι aG){d:Df}{x:Deferred}(h:By ι d x):By aG d x:=by
 cases d with
 |Dq id=>obtain⟨l,h1,h2⟩:=h;exact⟨l,gR _ _ _ h1,h2⟩
 |call f as=>obtain⟨cap,us,vs,h1,h2,h3⟩:=h;exact⟨cap,us,vs,h1,h2.mono gR,h3⟩
theorem jX.mono{aG:Io}(gR:Ext ι aG):∀{ds:List Df} {xs:List Deferred},jX ι ds xs->jX aG ds xs
 |[],[],_=>trivial
 |_::_,_::_,h=>⟨By.mono gR h.1,jX.mono gR h.2⟩
 |[],_::_,h=>h.elim
 |_::_,[],h=>h.elim
theorem jX.nil{xs:List Deferred}(h:jX ι [] xs):xs=[]:=by cases xs with|nil=>rfl|cons=>exact h.elim
theorem rQ:Rv ι .undef asQ:=.raw _
theorem Env.cV(e:Env)(d:Nat)(v:IV)(t:Nat):(e.put (aa d) v).at t=if d<e.n/\d=t then v else e.at t:=by
 unfold Env.put;simp only;by_cases h:d<e.n
 ·have hb:as7 d e.n=ab:=by simpa[av2]using h
  rw[hb];simp only[if_true,Env.at,T.fW];by_cases hd:d=t
  ·simp[hd];intro h2;omega
  ·simp[hd]
 ·have hb:as7 d e.n=af:=by
   cases hc:as7 d e.n with
   |false=>rfl
   |true=>exact absurd (by simpa using hc) h
  rw[hb];simp[h]
theorem Env.nu(e:Env)(d:Option Nat)(v:IV):(e.put d v).n=e.n:=by
 cases d with
 |none=>rfl
 |some d=>simp only[Env.put];split<;>rfl
theorem c9.set{ts:Array Value}{v:IV}{u:Value}(h:c9 ι e ts)(hv:Rv ι v u)(d:Nat):c9 ι (e.put (aa d) v) (ts.setIfInBounds d u):=by
 refine⟨by rw[Env.nu,h.1];simp,λt=>?_⟩;rw[Env.cV]
 have hs:(ts.setIfInBounds d u).getD t asQ=if d<ts.size/\d=t then u else ts.getD t asQ:=by
  simp only[atk,Array.getElem?_setIfInBounds];by_cases hd:d=t
  ·subst hd;by_cases hl:d<ts.size
   ·simp[hl]
   ·simp[hl]
  ·simp[hd]
 rw[hs,<-h.1];split
 ·exact hv
 ·exact h.2 t
theorem c9.put{v:IV}{u:Value}(h:c9 ι e a.tmps)(hv:Rv ι v u)(dst:Option Tmp):c9 ι (e.put dst v) (a.put dst u).tmps:=by
 cases dst with
 |none=>exact h
 |some d=>exact h.set hv d
theorem c9.eval(h:c9 ι e a.tmps)(x:Operand):Rv ι (ax e x) (a.eval x):=by
 cases x with
 |tmp t=>exact h.2 t
 |const v=>exact Rv.lift v
 |global g=>exact .raw _
 |func f=>exact .raw _
theorem aed{x:IV}{b:Bool}(h:Rv ι x (.bool b)):x=.raw (.bool b):=by
 generalize hu:Value.bool b=u at h;cases h<;>first|(cases hu;done)|(cases hu;rfl)
theorem sq{o:Oper}{ops:Array Oper}(h:c9 ι e a.tmps):awS o (yielded ops a.tmps)=aO o ops e:=by
 unfold awS aO;cases hg:o.guard with
 |none=>rfl
 |some g=>
  obtain⟨j,want⟩:=g;simp only[yielded];cases hd:(ops[j]?).bind (·.dst)with
  |none=>rfl
  |some d=>
   simp only[asa];by_cases hl:d<e.n
   ·have hb:as7 d e.n=ab:=by simpa[av2]using hl
    rw[hb];have cq:d<a.tmps.size:=by rw[<-h.1];exact hl
    have hr:=h.2 d;rw[atk,asw cq,asW]at hr;rw[asw cq];simp only[if_true];generalize a.tmps[d]=u at hr;cases u with
    |bool b=>rw[aed hr];simp
    |_=>
     generalize e.at d=x at hr;cases hr<;>rfl
   ·have hb:as7 d e.n=af:=by
     cases hc:as7 d e.n with
     |false=>rfl
     |true=>exact absurd (by simpa using hc) hl
    rw[hb];have cq:¬d<a.tmps.size:=by rw[<-h.1];exact hl
    rw[Array.getElem?_eq_none (at7 cq)];rfl
def noGoto(Q:Exit->Act->World->Prop):Exit->Act->World->Prop
 |.goto _,_,_=>False
 |e,a,w=>Q e a w
section scope
variable{F:Fence}{n:Nat}{b:Frame}{k:List Item}{cs:List Frame}{Q:Exit->Act->World->Prop}
theorem oq{c:Code}:step P (lone (b.atR a (.code (.scope c)::k)) cs w)=.next (lone (b.atR a (.code c::.inScope c::k)) cs w):=
 step_lone_go (by simp[stepG,axx,axG])
theorem Nn{c:Code}:step P (lone (b.atR a (.inScope c::k)) cs w)=.next (lone (b.atR a k) cs w):=
 step_lone_go (by simp[stepG,axx,axG])
theorem Ig{c:Code}(h:c.wpIn F n P (noGoto Q) a w):(Code.scope c).wpIn F n P Q a w:=by
 intro b k cs cB hb hr;have h0:(lone (b.atR a (.code (.scope c)::k)) cs w).fenced P F:=fenced_calm hb hr rfl;obtain⟨e,a₁,w₁,hq,J5⟩:=h b (.inScope c::k) cs cB hb hr;cases e with
 |normal=>exact⟨.normal,a₁,w₁,hq,.head h0 oq (StepsIn.trans J5 (.one (fenced_calm hb hr rfl) Nn))⟩
 |exit id=>
  have hx:exitTo id (.inScope c::k)=exitTo id k:=by simp[exitTo]
  exact⟨.exit id,a₁,w₁,hq,λk' hk=>.head h0 oq (J5.1 k' (by rw[hx];exact hk)),
   λoG hk=>let⟨k₁,h1,h2⟩:=J5.2 oG (by rw[hx];exact hk);⟨k₁,h1,.head h0 oq h2⟩⟩
 |goto l=>exact hq.elim
 |ret=>exact⟨_,a₁,w₁,hq,.of_steps (.one h0 oq) J5⟩
 |panic ch=>exact⟨_,a₁,w₁,hq,.of_steps (.one h0 oq) J5⟩
 |outgrown=>exact⟨_,a₁,w₁,hq,.of_steps (.one h0 oq) J5⟩
end scope
def bX(S:Self):Prop:=∀ro rd fn c e df σ cr,S.code ro rd fn c e df σ=aa cr->σ.n<=cr.σ.n
structure bF(S:Self):Prop where
 call:∀ro f args σ v ao,S.call ro f args σ=aa (v,ao)->σ.n<=ao.n
 bY:∀ro f args σ v ao,S.bY ro f args σ=aa (v,ao)->σ.n<=ao.n
 wx:∀ro f args m σ m' ao,S.wx ro f args m σ=aa (m',ao)->σ.n<=ao.n
variable{S:Self}
theorem Vp(hc:bX S){l:Nat}{args:List IV}{v:IV}{ao:St}(h:AD S ro l args σ=aa (v,ao)):σ.n<=ao.n:=by
 unfold AD at h;split at h
 ·split at h
  ·cases h
  ·simp only at h;split at h
   ·rename_i e1 aq h1;split at h
    ·split at h
     ·rename_i ex e2 dm h2;split at h
      ·cases h
      split at h
      ·cases h;have:=hc _ _ _ _ _ _ _ _ h1;have:=hc _ _ _ _ _ _ _ _ h2;simp only[St.nu]at*
       omega
      ·cases h
     ·cases h
    ·cases h
   ·cases h
 ·cases h
theorem G3(hc:bX S)(hk:bF S){o:Oper}{v:IV}{ao:St}(h:jA P S ro e o σ=aa (v,ao)):σ.n<=ao.n:=by
 unfold jA at h;split at h
 ·rename_i v1 aq h1;cases h;exact lV h1
 ·exact hk.call _ _ _ _ _ _ h
 ·exact Vp hc h
 ·cases h
theorem xV(hc:bX S)(hk:bF S){rd:Option Nat}{ops:Array Oper}:∀{l:List Oper} {e:Env} {df:List Df} {σ:St} {cr:CR},yY P S ro rd ops l e df σ=aa cr->σ.n<=cr.σ.n
 |[],e,df,σ,cr,h=>by cases h;exact ar8 _
 |o::rest,e,df,σ,cr,h=>by
  unfold yY at h;split at h
  ·split at h
   ·rename_i v aq h1;exact asq (G3 hc hk h1) (xV hc hk h)
   ·split at h
    ·split at h
     ·exact xV hc hk h
     ·cases h
    ·split at h
     ·rename_i h2;cases h;exact hk.bY _ _ _ _ _ _ h2
     ·cases h
    ·cases h;exact ar8 _
    ·cases h
  ·exact xV hc hk h
section draw
variable[Sm]
theorem C2(hc:bX S)(hk:bF S){pl:dR}{ops:Array Oper}{o:Oper}{j:Nat}{d d':DS}(h:bQ P S pl ro ops o j d=aa d'):d.n<=d'.n:=by
 unfold bQ at h;simp only at h;split at h
 ·cases h
 ·split at h
  ·split at h
   ·split at h
    ·split at h
     ·cases h;exact ar8 _
     ·cases h
    ·cases h
   ·split at h
    ·rename_i h1;cases h;exact lV h1
    ·cases h
   ·split at h
    ·split at h
     ·cases h;exact ar8 _
     ·cases h
    ·cases h
   ·split at h
    ·rename_i h1;cases h;exact G3 (P:=P) hc hk h1
    ·cases h
   ·split at h
    ·rename_i h1;split at h
     ·cases h;exact G3 (P:=P) hc hk h1
     ·cases h
    ·cases h
  ·split at h
   ·split at h
    ·cases h;exact ar8 _
    ·cases h
   ·cases h;exact ar8 _
theorem DI{SF:Nat->Self}(hc:∀j,bX (SF j))(hk:∀j,bF (SF j)){pl:dR}{ops:Array Oper}:∀{l:List (Oper×Nat)} {d d':DS},iW P SF pl ro ops l d=aa d'->d.n<=d'.n
 |[],d,d',h=>by cases h;exact ar8 _
 |(o,j)::rest,d,d',h=>by
  unfold iW at h;split at h
  ·rename_i d1 h1;exact asq (C2 (hc j) (hk j) h1) (DI hc hk h)
  ·cases h
theorem BB{SF:Nat->Self}(hc:∀j,bX (SF j))(hk:∀j,bF (SF j)){ops:Array Oper}{df:List Df}{cr:CR}(h:p4 P SF ro ops e df σ=aa cr):σ.n<=cr.σ.n:=by
 unfold p4 at h;simp only at h;split at h
 ·split at h
  ·rename_i h1;cases h;exact DI hc hk h1
  ·cases h
 ·cases h
end draw
theorem XB(hc:bX S)(hk:bF S){ops:Array Oper}{df:List Df}{cr:CR}(h:NW P S ro ops e df σ=aa cr):σ.n<=cr.σ.n:= @BB _ _ _ _ NV _ (λ_=>hc) (λ_=>hk) _ _ _ h
theorem Lv(hc:bX S)(hk:bF S):bX (lB P S):=by
 intro ro rd fn c e df σ cr h;change vH P S ro rd fn c e df σ=aa cr at h;cases c<;>unfold vH at h<;>dsimp only at h
 case skip=>cases h;exact ar8 _
 case label=>cases h;exact ar8 _
 case exit=>cases h;exact ar8 _
 case goto=>cases h;exact ar8 _
 case ret=>cases h;exact ar8 _
 case refuse=>cases h
 case region=>
  split at h
  ·exact XB hc hk h
  ·exact xV hc hk h
 case seq=>
  split at h
  ·rename_i h1;exact asq (hc _ _ _ _ _ _ _ _ h1) (hc _ _ _ _ _ _ _ _ h)
  ·exact hc _ _ _ _ _ _ _ _ h
 case cond=>
  split at h
  ·exact hc _ _ _ _ _ _ _ _ h
  ·cases h
 case block=>
  split at h
  ·rename_i h1;split at h
   ·cases h;have:=hc _ _ _ _ _ _ _ _ h1;exact this
   ·cases h;have:=hc _ _ _ _ _ _ _ _ h1;exact this
  ·exact hc _ _ _ _ _ _ _ _ h
 case loop=>
  split at h
  ·rename_i h1;exact asq (hc _ _ _ _ _ _ _ _ h1) (hc _ _ _ _ _ _ _ _ h)
  ·exact hc _ _ _ _ _ _ _ _ h
 case scope=>
  split at h
  ·cases h
  ·exact hc _ _ _ _ _ _ _ _ h
 case rangeFunc=>
  split at h
  ·rename_i mc aq mark oJ
   have h1:σ.n<=aq.n:=by
    split at oJ
    ·cases oJ;simp
    ·split at oJ
     ·cases oJ;exact ar8 _
     ·cases oJ
   split at h
   ·split at h
    ·rename_i h2;have h3:=hk.call _ _ _ _ _ _ h2;simp only[St.kY]at h3;split at h
     ·split at h
      ·cases h
      ·split at h
       ·cases h;simp only[St.nu];omega
       ·have h4:=hc _ _ _ _ _ _ _ _ h;simp only[St.nu]at h4;omega
     ·cases h
    ·cases h
   ·cases h
  ·cases h
theorem kc(hk:bF S):∀{df:List Df} {m m':Option IV} {σ ao:St},fV S ro df m σ=aa (m',ao)->σ.n<=ao.n
 |[],m,m',σ,ao,h=>by cases h;exact ar8 _
 |.Dq id::ds,m,m',σ,ao,h=>by
  unfold fV at h;split at h
  ·split at h
   ·exact kc hk (σ:=σ.put id (.Gi ab)) h
   ·cases h
  ·cases h
 |.call f args::ds,m,m',σ,ao,h=>by
  unfold fV at h;split at h
  ·rename_i h1;exact asq (hk.wx _ _ _ _ _ _ _ h1) (kc hk h)
  ·cases h
theorem Lw(hc:bX S)(hk:bF S){f:FuncId}{args:List IV}{r:Func×Env×Option IV×St}(h:AF P S ro f args σ=aa r):σ.n<=r.2.2.2.n:=by
 unfold AF at h;split at h
 ·split at h
  ·split at h
   ·cases h
   ·simp only at h;split at h
    ·rename_i h1;split at h
     ·rename_i h2;cases h;exact asq (hc _ _ _ _ _ _ _ _ h1) (kc hk h2)
     ·cases h
    ·rename_i h1;split at h
     ·rename_i h2;cases h;exact asq (hc _ _ _ _ _ _ _ _ h1) (kc hk h2)
     ·cases h
    ·rename_i h1;split at h
     ·rename_i h2;cases h;exact asq (hc _ _ _ _ _ _ _ _ h1) (kc hk h2)
     ·cases h
    ·cases h
  ·cases h
 ·cases h
theorem su{ops:Array Oper}:∀{l:List Oper} {e:Env} {m:Option IV} {σ:St} {r:Env×Option IV×St},nU P ro ops l e m σ=aa r->σ.n<=r.2.2.n
 |[],e,m,σ,r,h=>by cases h;exact ar8 _
 |o::rest,e,m,σ,r,h=>by
  unfold nU at h;split at h
  ·split at h
   ·split at h
    ·exact su h
    ·exact su h
   ·split at h
    ·rename_i h1;exact asq (lV h1) (su h)
    ·cases h
  ·exact su h
theorem G4(hc:bX S){fn:FuncId}:∀{c:Code} {e:Env} {m:Option IV} {σ:St} {r:CR×Option IV},yZ P S ro fn c e m σ=aa r->σ.n<=r.1.σ.n:=by
 intro c
 have other:∀{c:Code} {e:Env} {m:Option IV} {σ:St} {r:CR×Option IV},(match S.code ro ah fn c e [] σ with|some r=>aa (r,m)|none=>ah)=aa r->σ.n<=r.1.σ.n:=by
  intro c e m σ r h;split at h
  ·rename_i h1;cases h;exact hc _ _ _ _ _ _ _ _ h1
  ·cases h
 induction c with
 |seq a b iha ihb=>
  intro e m σ r h;unfold yZ at h;split at h
  ·rename_i h1;exact asq (iha h1) (ihb h)
  ·cases h
  ·exact iha h
 |region id ops draw=>
  intro e m σ r h;unfold yZ at h;split at h
  ·split at h
   ·rename_i h1;cases h;exact su h1
   ·cases h
  ·exact other h
 |_=>intro e m σ r h;unfold yZ at h;exact other h
theorem DJ(hc:bX S)(hk:bF S):bF (lB P S) where
 call:=by
  intro ro f args σ v ao h;simp only[lB,NX]at h;split at h
  ·rename_i h1;split at h
   ·cases h;exact Lw hc hk h1
   ·cases h
  ·cases h
 bY:=by
  intro ro f args σ v ao h;simp only[lB,U8]at h;split at h
  ·rename_i h1;cases h;exact Lw hc hk h1
  ·cases h
 wx:=by
  intro ro f args m σ m' ao h;simp only[lB,Bu]at h;split at h
  ·split at h
   ·cases h
   ·split at h
    ·split at h
     ·cases h
     ·split at h
      ·rename_i h1;split at h
       ·cases h;exact G4 hc h1
       ·cases h
      ·rename_i h1;split at h
       ·cases h;exact G4 hc h1
       ·cases h
      ·cases h
    ·cases h
  ·cases h
end Go.Ev
