/- Lemmas over the model, without conditions of their own: operations of the ideal machine are sound (2). -/
import Derived.Test.YtggffkaadeagbaaGreatEvB
open Option renaming map_some->atl,getD_some->atH,getD_none->at2,bind_some->asU,map_eq_some_iff->asS
open Option.some renaming injEq->asP
open Go.Instr renaming sliceBound->av_,sliceBounds->aw9,sliceAt->auW,slice->ax3,findNow->atZ,findAsking->atM,findKey->auj,lookup->av4,keyThatStays->avp,mapUpdate->awn,mapEntry->axA,range->awU,next->au1,typeAssert->avC
open Go.Sem renaming run->auH,run_bind->asT,run_pure->as5
open Go.Result renaming andThen_ok->asQ
open ByteArray renaming ext->aym,data_extract->ayx
open Array renaming ext'->auZ,getElem?_eq_some_iff->atI,getElem?_eq_getElem->atj,eq_empty_of_size_eq_zero->avd,toList_map->awg,getD_eq_getD_getElem?->at3
open Nat renaming le_refl->asR,add_mul->atq,mul_le_mul_right->atk,zero_le->atE,min->avF,min_zero->ayd,le_of_not_lt->auT,le_of_eq->aye,blt->atQ,blt_eq->awL,le_trans->atd
open Bool renaming false_eq_true->atn
open Classical renaming byContradiction->atA
open List renaming length_nil->auc,eq_nil_of_length_eq_zero->atr,getElem?_cons_succ->ava,isEmpty_iff->atY
open Go.Builtin renaming len_->axy,cap_->axz,clear_->axg,zeroCells->auu,copy_->awx,delete_->awa
open Go renaming Obj->ax4,undef->atC
open Go.Utf8 renaming decode->auE
open Go.Question renaming forced->auP
open Go.Deferred renaming ofValue->avY
open Go.Made renaming depth->aw_
open Go.Value renaming iface->awV
open Go.Region renaming wanted->axB
open Go.stepG renaming exec->ayf
open Go.Frame renaming atR->ayo
open Option renaming some->aa,none->ah
open Bool renaming true->ab,false->af
set_option linter.all false
namespace Go.Ev
variable{P:Program}{N ro:Nat}{ι:Io}{w:World}{σ:St}{ρ:Operand->IV}{r:Operand->Value}{o:Oper}{out:eN}
def Bd:Option Nat->Option Value->Prop
 |none,v=>v=ah
 |some n,v=>∃k i,v=aa (.int k i)/\0<=i/\i.toNat=n
theorem Kw{x:Option Operand}{q:Option Nat}(h:gz (x.map ρ)=aa q)(hr:∀y,x=aa y->Rv ι (ρ y) (r y)):Bd q (x.map r):=by
 cases x with
 |none=>simp[gz]at h;subst h;rfl
 |some y=>
  have hy:=hr y rfl;simp only[atl,gz]at h;split at h
  ·rename_i he;cases he
  ·rename_i k i he;simp only[asP]at he;split at h
   ·rename_i h0;cases h;exact⟨k,i,by simp[fj he hy],h0,rfl⟩
   ·cases h
  ·cases h
theorem zj{v:Value}{n y:Nat}{code:BoundsCode}(h:∃k i,v=.int k i/\0<=i/\i.toNat=n)(hle:n<=y)(w:World):(av_ v y code).run P w=.ok n w:=by
 obtain⟨k,i,rfl,h0,h1⟩:=h;have:i<=(y:Int):=by omega
 simp[av_,asIntOf,h0,this,h1]
theorem BL{isSlice:Bool}{len cap:Nat}{lo hi mx:Option Value}{ql qh qm:Option Nat}(hl:Bd ql lo)(hh:Bd qh hi)(hm:Bd qm mx)(AN:¬(qm.isSome=ab/\qh.isSome=af))
 (h1:qm.getD cap<=cap)(h2:∀h,qh=aa h->h<=qm.getD cap)(h3:ql.getD 0<=qh.getD len)(w:World):
 (aw9 isSlice len cap lo hi mx).run P w=.ok (ql.getD 0,qh.getD len,qm.getD cap) w:=by
 have fin:∀(h m:Nat) (code:BoundsCode),ql.getD 0<=h->auH P (match lo with
  |some v=>do
   let l<-av_ v h code
   pure (l,h,m)
  |none=>do
   let l<-pure 0
   pure (l,h,m)) w=.ok (ql.getD 0,h,m) w:=by
  intro h m code hle;cases ql with
  |none=>cases hl;rfl
  |some l=>
   obtain⟨k,i,rfl,h0,h1⟩:=hl;simp only[asT,zj (P:=P) (v:=.int k i) (n:=l) (y:=h) (code:=code) ⟨k,i,rfl,h0,h1⟩ hle w,asQ,as5,atH]
 unfold aw9;cases qm with
 |none=>
  cases hm;cases qh with
  |none=>
   cases hh;simp only[asT,as5,asQ,at2];exact fin len cap _ h3
  |some h=>
   obtain⟨k,i,rfl,h0,h4⟩:=hh;have hb:=zj (P:=P) (v:=.int k i) (n:=h) (y:=cap) (code:=if isSlice then .sliceAcap else .sliceAlen) ⟨k,i,rfl,h0,h4⟩ (h2 h rfl) w;simp only[asT,as5,asQ,hb,at2,atH];exact fin h cap _ h3
 |some m=>
  obtain⟨km,im,rfl,Dl,GO⟩:=hm;have qS:=zj (P:=P) (v:=.int km im) (n:=m) (y:=cap) (code:=if isSlice then .slice3Acap else .slice3Alen) ⟨km,im,rfl,Dl,GO⟩ h1 w;cases qh with
  |none=>exact absurd ⟨rfl,rfl⟩ AN
  |some h=>
   obtain⟨k,i,rfl,h0,h4⟩:=hh;have hb:=zj (P:=P) (v:=.int k i) (n:=h) (y:=m) (code:=.slice3B) ⟨k,i,rfl,h0,h4⟩ (h2 h rfl) w;simp only[asT,asQ,qS,hb,atH];exact fin h m _ h3
theorem nH{t elem:TypeId}{sz len cap:Nat}{a:Option Addr}{lo hi mx:Option Value}{ql qh qm:Option Nat}(hu:P.underlying t=aa (.slice elem))(hs:aN P elem=aa sz)
 (hl:Bd ql lo)(hh:Bd qh hi)(hm:Bd qm mx)(AN:¬(qm.isSome=ab/\qh.isSome=af))(h1:qm.getD cap<=cap)(h2:∀h,qh=aa h->h<=qm.getD cap)(h3:ql.getD 0<=qh.getD len)(w:World):
 (auW t (.slice a len cap) lo hi mx).run P w=
  .ok (.slice (if qm.getD cap=ql.getD 0 then a else a.map (·.add (ql.getD 0*sz))) (qh.getD len- ql.getD 0) (qm.getD cap- ql.getD 0)) w:=by
 have hb:=BL (P:=P) (isSlice:=ab) hl hh hm AN h1 h2 h3 w;simp only[auW,asT,aV hu,asQ,ax3,hb,eP hs,as5]
theorem extract_eq(s:ByteArray)(l h:Nat):(⟨((s.data.toList.drop l).take (h- l)).toArray⟩:ByteArray)=s.extract l h:=by
 apply aym;apply auZ;simp[ayx,List.extract_eq_take_drop]
theorem abl{t:TypeId}{x:Operand}{lo hi mx:Option Operand}(da:Inv N ι σ w)(hr:Rv ι (ρ x) (r x))(zk:∀y,lo=aa y->Rv ι (ρ y) (r y))(Yc:∀y,hi=aa y->Rv ι (ρ y) (r y))
 (tB:∀y,mx=aa y->Rv ι (ρ y) (r y))(ho:o.op=.slice t x lo hi mx)(h:av P ro ρ o σ=aa out):bu P ro N ι w σ r o out:=by
 unfold av at h;rw[ho]at h;simp only at h;split at h
 ·rename_i v hv;obtain rfl:=aJ h
  suffices hs:∃u,(auW t (r x) (lo.map r) (hi.map r) (mx.map r)).run P w=.ok u w/\Rv ι v u by
   obtain⟨u,h1,h2⟩:=hs;exact bu.same da (u:=u) (by simp[execOp,ho,h1]) h2
  generalize hq:r x=q at hr;generalize hiq:ρ x=iq at hr hv;unfold fG at hv;split at hv
  ·rename_i _ _ _ ql qh qm e1 e2 e3;have bl:=Kw e1 zk;have bh:=Kw e2 Yc;have bm:=Kw e3 tB;clear e1 e2 e3;split at hv
   ·cases hv
   ·rename_i AN;split at hv
    ·rename_i hu;split at hv
     ·rename_i s;split at hv
      ·rename_i hc;obtain⟨rfl,h1,h2⟩:=hc;cases hv;cases hr;refine⟨.string (s.extract (ql.getD 0) (qh.getD s.size)),?_,by rw[extract_eq];exact .raw _⟩;have hb:=BL (P:=P) (isSlice:=af) (len:=s.size) (cap:=s.size) (mx:=ah) bl bh (qm:=ah) rfl (by simp) (asR _) (λh hh=>by subst hh;simpa using h2) h1 w;have nD:mx.map r=ah:=bm;simp only[auW,asT,aV hu,asQ,ax3,nD,Option.isSome_none,atn,if_false,as5,hb]
      ·cases hv
     ·cases hv
    ·rename_i elem hu;split at hv
     ·cases hv
     ·rename_i sz aU;split at hv
      ·split at hv
       ·rename_i hc;obtain⟨h1,h2,h3⟩:=hc;cases hv;cases hr;have hb:=nH (P:=P) (a:=ah) (len:=0) (cap:=0) hu aU bl bh bm AN (by omega) (λh hh=>by subst hh;simp at h2;omega) (by omega) w;rw[h1,h2,h3]at hb;exact⟨_,by simpa using hb,.raw _⟩
       ·cases hv
      ·split at hv
       ·rename_i hc;obtain⟨h1,h2,h3⟩:=hc;cases hv;cases hr with
        |emp a=>
         have hb:=nH (P:=P) (a:=aa a) (len:=0) (cap:=0) hu aU bl bh bm AN (by omega) (λh hh=>by subst hh;simp at h2;omega) (by omega) w;rw[h1,h2,h3]at hb;exact⟨_,by simpa using hb,.emp a⟩
       ·cases hv
      ·rename_i id off len cap ep s;split at hv
       ·cases hv
       ·rename_i iO;have iO:sz=s:=atA iO;subst iO;cases hr with
        |sl _ _ _ _ _ _ l c a hl hn ib bE hle fO ha=>
         have known:∀m:Nat,qm.getD c=m->m<=c->(off+m*sz<=l.n)->ql.getD 0<=qh.getD len->qh.getD len<=m->
          aa v=aa (if m=ql.getD 0 then .emp else .sl id (off+ql.getD 0*sz) (qh.getD len- ql.getD 0) (aa (m- ql.getD 0)) ep sz)->
          ∃u,(auW t (.slice (aa a) len c) (lo.map r) (hi.map r) (mx.map r)).run P w=.ok u w/\Rv ι v u:=by
          intro m e1 e2 e3 e4 e5 e6;have hb:=nH (P:=P) (a:=aa a) (len:=len) (cap:=c) hu aU bl bh bm AN (by omega) (λh hh=>by subst hh;simp only[atH]at e5;omega) e4 w;rw[e1]at hb;refine⟨_,hb,?_⟩;by_cases D0:m=ql.getD 0
          ·rw[if_pos D0]at e6;cases e6;rw[if_pos D0,show qh.getD len- ql.getD 0=0 by omega,show m- ql.getD 0=0 by omega];exact .emp a
          ·rw[if_neg D0]at e6;cases e6;rw[if_neg D0];have yc:=ha (by omega);subst yc;simp only[atl,ig];have GO:ql.getD 0*sz+(m- ql.getD 0)*sz=m*sz:=by rw[<-atq];congr 1;omega
           have hm2:ql.getD 0*sz+(qh.getD len- ql.getD 0)*sz=qh.getD len*sz:=by rw[<-atq];congr 1;omega
           have hm3:qh.getD len*sz<=m*sz:=atk sz e5;have hm4:m*sz<=c*sz:=atk sz e2;exact .sl _ _ _ _ _ _ l _ _ hl (by omega) (by omega) bE (by omega) (λk hk=>by cases hk;exact⟨rfl,by omega⟩) (λ_=>rfl)
         split at hv
         ·rename_i _ m;split at hv
          ·rename_i hc;obtain⟨h1,h2,h3⟩:=hc
           have nD:m<=c/\off+m*sz<=l.n:=by
            cases cap with
            |none=>
             simp only[at2]at h3;have:m*sz<=len*sz:=atk sz h3;exact⟨by omega,by omega⟩
            |some k=>
             simp only[atH]at h3;obtain⟨hk,AO⟩:=fO k rfl;subst hk;have:m*sz<=c*sz:=atk sz h3;exact⟨h3,by omega⟩
           refine known m rfl nD.1 nD.2 h1 h2 ?_;rw[<-hv];split<;>rfl
          ·cases hv
         ·rename_i m;split at hv
          ·rename_i hc;obtain⟨h1,h2⟩:=hc;obtain⟨hk,AO⟩:=fO m rfl;subst hk;refine known c rfl (asR _) AO h1 h2 ?_;rw[<-hv];split<;>rfl
          ·cases hv
         ·split at hv
          ·rename_i hc;obtain⟨h1,h2⟩:=hc;cases hv;have hb:=nH (P:=P) (a:=aa a) (len:=len) (cap:=c) hu aU bl bh bm AN (asR _) (λh hh=>by subst hh;simp only[atH,at2]at h2⊢;omega) h1 w;simp only[at2]at hb;have GO:ql.getD 0*sz+(c- ql.getD 0)*sz=c*sz:=by rw[<-atq];congr 1;omega
           have hm2:ql.getD 0*sz+(qh.getD len- ql.getD 0)*sz=qh.getD len*sz:=by rw[<-atq];congr 1;omega
           have hm3:qh.getD len*sz<=len*sz:=atk sz h2;by_cases ek:c=ql.getD 0
           ·rw[if_pos ek]at hb;exact⟨_,hb,.sl _ _ _ _ _ _ l _ _ hl (by omega) (by omega) bE (by omega) (λk hk=>by cases hk) (λh0=>by omega)⟩
           ·rw[if_neg ek]at hb;have yc:=ha (by omega);subst yc;simp only[atl,ig]at hb;exact⟨_,hb,.sl _ _ _ _ _ _ l _ _ hl (by omega) (by omega) bE (by omega) (λk hk=>by cases hk) (λ_=>rfl)⟩
          ·cases hv
      ·rename_i s es;split at hv
       ·cases hv
       ·rename_i iO;have iO:sz=s:=atA iO;subst iO;cases hr with
        |tree _ _ b off c us bE rB bH zf hh=>
         split at hv
         ·split at hv
          ·rename_i hc;obtain⟨h1,h2⟩:=hc;cases hv;have hb:=nH (P:=P) (a:=aa ⟨b,off,ah⟩) (len:=es.length) (cap:=c) hu aU bl bh bm AN (asR _) (λh hh=>by subst hh;simp only[atH,at2]at h2⊢;omega) h1 w;simp only[at2]at hb;have hlen:((es.take (qh.getD es.length)).drop (ql.getD 0)).length=qh.getD es.length- ql.getD 0:=by simp;omega
           have agk:∀bb oo,(c≠ql.getD 0->bb=b/\oo=off+ql.getD 0*sz)->Rv ι (.tree sz ((es.take (qh.getD es.length)).drop (ql.getD 0))) (.slice (aa ⟨bb,oo,ah⟩) (qh.getD es.length- ql.getD 0) (c- ql.getD 0)):=by
            intro bb oo hbo;rw[<-hlen];refine .tree _ _ _ _ _ (λk=>us (ql.getD 0*sz+k)) bE (by omega) (λe he=>bH e (List.mem_of_mem_take (List.mem_of_mem_drop he))) (λk hk=>?_) (λi e j x he hx=>?_)
            ·rw[hlen]at hk;have GO:ql.getD 0*sz+(qh.getD es.length- ql.getD 0)*sz=qh.getD es.length*sz:=by rw[<-atq];congr 1;omega
             have hm2:qh.getD es.length*sz<=es.length*sz:=atk sz h2
             have aW:c≠ql.getD 0:=by
              intro ek;have:qh.getD es.length- ql.getD 0=0:=by omega
              rw[this]at hk;omega
             obtain⟨rfl,rfl⟩:=hbo aW;rw[show off+ql.getD 0*sz+k=off+(ql.getD 0*sz+k) by omega];exact zf _ (by omega)
            ·rw[List.getElem?_drop,List.getElem?_take]at he;split at he
             ·have:=hh _ _ _ _ he hx;rwa[atq,Nat.add_assoc]at this
             ·cases he
           by_cases ek:c=ql.getD 0
           ·rw[if_pos ek]at hb;exact⟨_,hb,agk b off (λh=>absurd ek h)⟩
           ·rw[if_neg ek]at hb;simp only[atl,ig]at hb;exact⟨_,hb,agk b _ (λ_=>⟨rfl,rfl⟩)⟩
          ·cases hv
         ·rename_i m;split at hv
          ·rename_i hc;obtain⟨rfl,h1,h2⟩:=hc;cases hv;have hb:=nH (P:=P) (a:=aa ⟨b,off,ah⟩) (len:=es.length) (cap:=c) hu aU bl bh bm AN (atE _) (λh hh=>by subst hh;simp only[atH]at h2⊢;omega) (by omega) w;rw[h1,h2]at hb;exact⟨_,by simpa using hb,.dY _ _ _ bE (by simp)⟩
          ·cases hv
        |dY _ a c bE hn=>
         split at hv
         ·split at hv
          ·rename_i hc;obtain⟨h1,h2⟩:=hc;cases hv;simp only[auc]at h1 h2;have jC:ql.getD 0=0:=by omega
           have IG:qh.getD 0=0:=by omega
           have hb:=nH (P:=P) (a:=a) (len:=0) (cap:=c) hu aU bl bh bm AN (asR _) (λh hh=>by subst hh;simp only[atH,at2]at IG⊢;omega) (by omega) w;simp only[at2,jC,IG]at hb;refine⟨_,hb,?_⟩;simp only[List.take_nil,List.drop_nil]
           exact .dY _ _ _ bE (λhx=>by
            cases a with
            |none=>have:=hn rfl;omega
            |some a=>split at hx<;>simp at hx)
          ·cases hv
         ·rename_i m;split at hv
          ·rename_i hc;obtain⟨rfl,h1,h2⟩:=hc;cases hv;have hb:=nH (P:=P) (a:=a) (len:=0) (cap:=c) hu aU bl bh bm AN (atE _) (λh hh=>by subst hh;simp only[atH]at h2⊢;omega) (by omega) w;simp only[auc]at h2;rw[h1,h2]at hb;exact⟨_,by simpa using hb,.dY _ _ _ bE (by simp)⟩
          ·cases hv
      ·cases hv
    ·rename_i n elem hu;split at hv
     ·rename_i id off ep ext s hs;split at hv
      ·rename_i hc;obtain⟨bE,aW,rfl,h1,h2⟩:=hc;cases hr with
       |ptr _ _ _ _ l hl hx=>
        have hb:=BL (P:=P) (isSlice:=af) (len:=n) (cap:=n) bl bh bm AN (asR _) (λh hh=>by subst hh;simpa using h2) h1 w;simp only[at2]at hb
        have fU:(auW t (.pointer (aa ⟨l.b,off,ah⟩)) (lo.map r) (hi.map r) (mx.map r)).run P w=
         .ok (.slice (aa (if n=ql.getD 0 then⟨l.b,off,ah⟩else(⟨l.b,off,ah⟩:Addr).add (ql.getD 0*s))) (qh.getD n- ql.getD 0) (n- ql.getD 0)) w:=by
         simp only[auW,asT,aV hu,asQ,Instr.sureAddr,as5,hb,eP hs]
        refine⟨_,fU,?_⟩;split at hv
        ·rename_i IH;cases hv;rw[if_pos IH,show qh.getD n- ql.getD 0=0 by omega,show n- ql.getD 0=0 by omega];exact .emp _
        ·rename_i IH;cases hv;rw[if_neg IH,ig];have GO:ql.getD 0*s+(n- ql.getD 0)*s=n*s:=by rw[<-atq];congr 1;omega
         have hm2:ql.getD 0*s+(qh.getD n- ql.getD 0)*s=qh.getD n*s:=by rw[<-atq];congr 1;omega
         have hm3:qh.getD n*s<=n*s:=atk s h2;exact .sl _ _ _ _ _ _ l _ _ hl (by omega) (by omega) (by omega) (by omega) (λk hk=>by cases hk;exact⟨rfl,by omega⟩) (λ_=>rfl)
      ·cases hv
     ·cases hv
    ·cases hv
  ·cases hv
 ·cases h
end Go.Ev
namespace Go.Ev
variable{P:Program}{N ro:Nat}{ι:Io}{w:World}{σ:St}{ρ:Operand->IV}{r:Operand->Value}{o:Oper}{out:eN}
theorem OO{c:Call}{b:Builtin}(ho:o.op=.call c)(hb:c.callee=.builtin b):
 execOp r o=builtin b c.argTypes o.type (c.args.map λ|.const _=>ab|_=>af) (c.args.map r):=by
 simp only[execOp,ho,resolve,hb];rfl
def ye(P:Program)(ro:Nat)(N:Nat)(ι:Io)(w:World)(σ:St)(s:Sem Next)(out:eN):Prop:=
 ∃v ao,out=.val v ao/\(ao.n<=N->IB ro N ι w σ (s.run P w) v ao)
theorem ye.Yd{s:Sem Value}{v:IV}{ao:St}(h:ao.n<=N->rC P ro N ι w σ s v ao):ye P ro N ι w σ (do pure (.value (<-s))) (.val v ao):=by
 refine⟨v,ao,rfl,λhN=>?_⟩;obtain⟨u,w',aG,h1,h2,h3,h4⟩:=h hN;exact⟨u,w',aG,.inl (by simp only[asT,h1,asQ,as5]),h2,h3,h4⟩
theorem ye.same{s:Sem Value}{v:IV}{u:Value}(hi:Inv N ι σ w)(h:s.run P w=.ok u w)(hr:Rv ι v u):ye P ro N ι w σ (do pure (.value (<-s))) (.val v σ):=
 ye.Yd λ_=>⟨u,w,ι,h,hr,hi,Le.refl _ _ _ _⟩
theorem uZ{x:IV}{vs:List Value}(h:aB ι [x] vs):∃v,vs=[v]/\Rv ι x v:=by
 obtain⟨v,wQ,rfl,h1,h2⟩:=h.ti;exact⟨v,by rw[h2.of_nil],h1⟩
theorem Ky{x y:IV}{vs:List Value}(h:aB ι [x,y] vs):∃v u,vs=[v,u]/\Rv ι x v/\Rv ι y u:=by
 obtain⟨v,wQ,rfl,h1,h2⟩:=h.ti;obtain⟨u,rfl,h3⟩:=uZ h2;exact⟨v,u,rfl,h1,h3⟩
theorem aeS{argTypes:Array TypeId}{ty:TypeId}{x v:IV}{u:Value}(hi:Inv N ι σ w)(hr:Rv ι x u)(h:pd P argTypes x σ=aa v):∃z,(axy argTypes ty #[u]).run P w=.ok z w/\Rv ι v z:=by
 unfold pd at h;cases sL:argTypes[0]? with
 |none=>simp[sL]at h
 |some t=>
  rw[sL,asU]at h;have e1:(#[u]:Array Value)[0]?=aa u:=rfl;unfold axy;rw[sL,e1];split at h
  ·rename_i hu;cases h;cases hr;exact⟨_,by simp only[asT,aV hu,asQ,as5,goInt],.raw _⟩
  ·rename_i hu;cases h;cases hr;exact⟨_,by simp only[asT,aV hu,asQ,as5,goInt];rfl,.raw _⟩
  ·rename_i hu;cases h;cases hr<;>
   exact⟨_,by simp only[asT,aV hu,asQ,as5,goInt]<;>rfl,.raw _⟩
  ·rename_i hu;cases h;cases hr;exact⟨_,by simp only[asT,aV hu,asQ,as5,goInt],.raw _⟩
  ·rename_i hu;cases h;cases hr;exact⟨_,by simp only[asT,aV hu,asQ,as5,goInt],.raw _⟩
  ·rename_i hu;cases h;cases hr;exact⟨_,by simp only[asT,aV hu,asQ,as5,goInt],.raw _⟩
  ·rename_i id hu;split at h
   ·rename_i es clock aE;cases h;cases hr with
    |map _ l hl=>
     obtain⟨l',res,cu,hh,he⟩:=hi.obj id _ aE;rw[hl]at cu;cases cu;have:(getObj l.b).run P w=.ok (.map res clock) w:=by simp[getObj,auH,hh]
     refine⟨.int .i64 res.size,?_,?_⟩
     ·simp only[asT,aV hu,asQ,this,as5,goInt]
     ·rw[<-he.1];exact .raw _
   ·cases h
  ·rename_i n e hu;cases h;exact⟨.int .i64 n,by simp only[asT,aV hu,asQ];rfl,.raw _⟩
  ·cases h
theorem aeT{argTypes:Array TypeId}{ty:TypeId}{x v:IV}{u:Value}(hr:Rv ι x u)(h:VB P argTypes x=aa v):∃z,(axz argTypes ty #[u]).run P w=.ok z w/\Rv ι v z:=by
 unfold VB at h;cases sL:argTypes[0]? with
 |none=>simp[sL]at h
 |some t=>
  rw[sL,asU]at h;have e1:(#[u]:Array Value)[0]?=aa u:=rfl;unfold axz;rw[sL,e1];split at h
  ·rename_i c _ _ hu;cases h;cases hr with
   |sl _ _ _ _ _ _ l c' a hl hn ib bE hle fO ha=>
    obtain⟨rfl,_⟩:=fO _ rfl;exact⟨_,by simp only[asT,aV hu,asQ,as5,goInt],.raw _⟩
  ·rename_i hu;cases h;cases hr;exact⟨_,by simp only[asT,aV hu,asQ,as5,goInt];rfl,.raw _⟩
  ·rename_i hu;cases h;cases hr;exact⟨_,by simp only[asT,aV hu,asQ,as5,goInt],.raw _⟩
  ·rename_i n e hu;cases h;exact⟨.int .i64 n,by simp only[asT,aV hu,asQ];rfl,.raw _⟩
  ·cases h
theorem bW{b:Nat}{ob:ax4}(h:w.heap[b]?=aa ob)(hc:∀c e f,ob≠.cells c e f):(getObj b).run P w=.ok ob w:=by
 simp only[getObj,auH,h]
theorem eR{b:Nat}{ob eT:ax4}(h:w.heap[b]?=aa ob)(hc:∀c e f,ob≠.cells c e f):(setObj b eT).run P w=.ok () {w with heap:=w.heap.setIfInBounds b eT}:=by
 simp only[setObj,auH,h]
theorem Inv.kX(hi:Inv N ι σ w){id:Nat}{ob eT:Ob}{l:Loc}{go:ax4}(aE:σ.at id=aa ob)(cF:ro<=id)(hl:ι id 0=aa l)(dH:kZ ι {w with heap:=w.heap.setIfInBounds l.b go} id eT):
 Inv N ι (σ.put id eT) {w with heap:=w.heap.setIfInBounds l.b go}/\Le ro ι w σ ι {w with heap:=w.heap.setIfInBounds l.b go} (σ.put id eT):=by
 refine hi.put aE cF ⟨_,_,hl⟩ (Ext.refl _) (λ_ _ _=>rfl) (λb hb=>.inl hb) (by simp) (λb _ bC=>?_) rfl rfl rfl dH;have:l.b≠b:=λe=>bC ⟨0,l,hl,e⟩;simp[this]
theorem Ye{argTypes:Array TypeId}{ty:TypeId}{x:IV}{u:Value}(hi:Inv N ι σ w)(hr:Rv ι x u)(h:th P ro argTypes x σ=aa out):
 ∃v ao,out=.val v ao/\(ao.n<=N->rC P ro N ι w σ (axg argTypes ty #[u]) v ao):=by
 unfold th at h;cases sL:argTypes[0]? with
 |none=>simp[sL]at h
 |some t=>
  rw[sL,asU]at h;have e1:(#[u]:Array Value)[0]?=aa u:=rfl
  have idle:∀{d:TypeDesc},P.underlying t=aa d->(∃l c,u=.slice ah l c)\/u=.map ah\/(∃a c,u=.slice a 0 c)->
   rC P ro N ι w σ (axg argTypes ty #[u]) .undef σ:=by
   intro d hu hc;unfold axg;rw[sL,e1];refine⟨.tuple #[],w,ι,?_,.raw _,hi,Le.refl _ _ _ _⟩;rcases hc with⟨l,c,rfl⟩|rfl|⟨a,c,rfl⟩
   ·simp only[asT,aV hu,asQ];cases d<;>rfl
   ·simp only[asT,aV hu,asQ];cases d<;>rfl
   ·cases a<;>(simp only[asT,aV hu,asQ];cases d<;>rfl)
  split at h
  ·rename_i hu;obtain rfl:=aJ h;cases hr;exact⟨_,_,rfl,λ_=>idle hu (.inl ⟨_,_,rfl⟩)⟩
  ·rename_i hu;obtain rfl:=aJ h;cases hr;exact⟨_,_,rfl,λ_=>idle hu (.inr (.inl rfl))⟩
  ·rename_i hu;obtain rfl:=aJ h;cases hr;exact⟨_,_,rfl,λ_=>idle hu (.inr (.inr ⟨_,_,rfl⟩))⟩
  ·rename_i id hu;split at h
   ·rename_i es clock aE;split at h
    ·rename_i cF;obtain rfl:=aJ h;refine⟨_,_,rfl,λhN=>?_⟩;unfold axg;rw[sL,e1];cases hr with
     |map _ l hl=>
      obtain⟨l',res,cu,hh,he⟩:=hi.obj id _ aE;rw[hl]at cu;cases cu;have ai:l.b<w.heap.size:=hi.jc id _ ⟨_,_,hl,rfl⟩;obtain⟨h1,h2⟩:=hi.kX (ro:=ro) (eT:=.map [] clock) (go:=.map #[] clock) aE cF hl ⟨l, #[],hl,by simp[ai],by simp,λi e r h=>by simp at h⟩;refine⟨.tuple #[],_,ι,?_,.raw _,h1,h2⟩;simp only[asT,aV hu,asQ,bW (P:=P) hh (by simp),eR (P:=P) hh (by simp),as5]
    ·cases h
   ·cases h
  ·rename_i elem id off len cap ep s hu;split at h
   ·rename_i h0;obtain rfl:=aJ h;subst h0;cases hr with
    |sl _ _ _ _ _ _ l c' a hl hn ib bE hle fO ha=>exact⟨_,_,rfl,λ_=>idle hu (.inr (.inr ⟨_,_,rfl⟩))⟩
   ·rename_i h0;split at h
    ·rename_i cs ay mn aE;split at h
     ·rename_i z hz;split at h
      ·rename_i hc;obtain⟨hs,sK,bz,cF,rfl,DW⟩:=hc;obtain rfl:=aJ h;refine⟨_,_,rfl,λhN=>?_⟩;unfold axg;rw[sL,e1];cases hr with
       |sl _ _ _ _ _ _ l c' a hl hn ib bE hle fO ha=>
        have GL:=zg (ι:=ι) z s len sK hs;have l5:=DX z s len sK;obtain⟨l2,cc,el,fa,wg,ai,r1,r2⟩:=hi.write (ro:=ro) (off:=off) aE cF (by rw[GL.1,l5];exact DW) GL;rw[hl]at fa;cases fa;have yc:=ha (by omega);subst yc;refine⟨.tuple #[],_,ι,?_,.raw _,r1,r2⟩
        have GP:auu z.cells len=((List.replicate len z.cells.toList).flatten).toArray:=by
         unfold auu;have:=ya z.cells s len sK hs;rwa[<-sK]at this
        simp only[asT,aV hu,asQ];simp only[ji hz,asQ,GP,lZ (P:=P) wg ai (tq GL bz),as5]
      ·cases h
     ·cases h
    ·cases h
  ·cases h
theorem abm{argTypes:Array TypeId}{ty:TypeId}{d s:IV}{vd vs:Value}(hi:Inv N ι σ w)(hd:Rv ι d vd)(hs:Rv ι s vs)(h:FF P ro argTypes d s σ=aa out):
 ∃v ao,out=.val v ao/\(ao.n<=N->rC P ro N ι w σ (awx argTypes ty #[vd,vs]) v ao):=by
 unfold FF at h;cases sL:argTypes[0]? with
 |none=>simp[sL]at h
 |some t=>
  rw[sL,asU]at h;split at h
  ·rename_i elem hu;split at h
   ·rename_i size dl sl aU D1 nG;split at h
    ·rename_i new fg;split at h
     ·cases h
     ·rename_i hc;have hlen:new.length=avF sl dl*size:=atA λe=>hc (.inl e);have bz:new.all aj=ab:=by cases hb:new.all aj with|true=>rfl|false=>exact absurd (.inr hb) hc
      obtain⟨cn,IF,hrv⟩:=zh (P:=P) hi fg hs;have f_:=Tn (P:=P) nG hs w;have e0:(#[vd,vs]:Array Value)[0]?=aa vd:=rfl;have e1:(#[vd,vs]:Array Value)[1]?=aa vs:=rfl
      have run:∀{base:Option Addr} {cap:Nat},vd=.slice base dl cap->(awx argTypes ty #[vd,vs]).run P w=
       ((match base with|some a=>(storeCells a cn).run P w|none=>.ok () w).andThen λ_ w'=>.ok (.int .i64 (avF sl dl)) w'):=by
       intro base cap hv;unfold awx;rw[sL,e0,e1];subst hv;simp only[asT,aV hu,asQ,f_,eP aU,IF w rfl];cases base<;>simp[goInt]
      split at h
      ·obtain rfl:=aJ h;refine⟨_,_,rfl,λ_=>?_⟩;have h0:dl=0:=by simp[kY]at D1;exact D1.symm
       subst h0;cases hd;exact⟨_,w,ι,run rfl,.raw _,hi,Le.refl _ _ _ _⟩
      ·obtain rfl:=aJ h;refine⟨_,_,rfl,λ_=>?_⟩;have h0:dl=0:=by simp[kY]at D1;exact D1.symm
       subst h0;cases hd with
       |emp a=>
        have hv0:cn=[]:=atr (by have:=hrv.1;have:avF sl 0=0:=ayd sl;rw[this]at hlen;omega);subst hv0;exact⟨_,w,ι,(run rfl).trans (by simp[storeCells]),.raw _,hi,Le.refl _ _ _ _⟩
      ·rename_i id off len cap ep st;have h0:len=dl:=by simp[kY]at D1;exact D1
       subst h0;cases hd with
       |sl _ _ _ _ _ _ l c' a hl hn ib bE hle fO ha=>
        split at h
        ·rename_i hz;obtain rfl:=aJ h;refine⟨_,_,rfl,λ_=>?_⟩;have hv0:cn=[]:=atr (by have:=hrv.1;rw[hz]at hlen;omega);subst hv0;refine⟨.int .i64 (avF sl len),w,ι,(run rfl).trans (by simp[storeCells]),?_,hi,Le.refl _ _ _ _⟩;rw[hz];exact .raw _
        ·rename_i hz;split at h
         ·rename_i cs ay mn aE;split at h
          ·rename_i mO;obtain⟨rfl,cF,rfl,DW⟩:=mO;obtain rfl:=aJ h;refine⟨_,_,rfl,λ_=>?_⟩;obtain⟨l2,cc,el,fa,wg,ai,r1,r2⟩:=hi.write (ro:=ro) (off:=off) aE cF (by rw[hlen];exact DW) hrv;rw[hl]at fa;cases fa
           have tx:0<len:=by
            rcases Nat.eq_zero_or_pos len with h|h
            ·subst h;exact absurd (ayd sl) hz
            ·exact h
           have yc:=ha (by omega);subst yc;refine⟨_,_,ι,(run rfl).trans ?_,.raw _,r1,r2⟩;simp only[lZ (P:=P) wg ai (tq hrv bz),asQ]
          ·cases h
         ·cases h
      ·cases h
    ·cases h
   ·cases h
  ·cases h
end Go.Ev
namespace Go.Ev
variable{P:Program}{N ro:Nat}{ι:Io}{w:World}{σ:St}{ρ:Operand->IV}{r:Operand->Value}{o:Oper}{out:eN}
theorem bx{α β:Type}(x:Sem α)(f:α->Sem β):aT P (x>>=f)=(aT P x).bind λa=>aT P (f a):=by
 show aT P (x.bind f)=_;induction x with
 |pure a=>rfl
 |program k ih=>simp only[Sem.bind,aT];exact ih P
 |mark m k ih=>simp only[Sem.bind,aT];exact ih
 |_=>rfl
theorem mS{α β:Type}{x:Sem α}{f:α->Sem β}{b:β}(h:aT P (x>>=f)=aa b):∃a,aT P x=aa a/\aT P (f a)=aa b:=by
 rw[bx]at h;exact Option.bind_eq_some_iff.1 h
def SameKeys(es aF:List MapEntry):Prop:=es.length=aF.length/\∀(i:Nat) (e e':MapEntry),es[i]?=aa e->aF[i]?=aa e'->e.key=e'.key
theorem SameKeys.tail{e e':MapEntry}{es aF:List MapEntry}(h:SameKeys (e::es) (e'::aF)):e.key=e'.key/\SameKeys es aF:=
 ⟨h.2 0 e e' rfl rfl,by simpa using h.1,λi a b h1 h2=>h.2 (i+1) a b h1 h2⟩
theorem D2{kind:TypeDesc}{k:Value}:∀{es aF:List MapEntry} (i:Nat) {q:Option (Nat×Value)},SameKeys es aF->atZ kind k es i=aa q->
 (q=ah/\atZ kind k aF i=aa ah)\/(∃j v e',q=aa (j,v)/\i<=j/\aF[j- i]?=aa e'/\atZ kind k aF i=aa (aa (j,e'.val)))
 |[],aF,i,q,hk,h=>by
  cases aF with
  |nil=>simp only[atZ,asP]at h;subst h;exact .inl ⟨rfl,rfl⟩
  |cons a b=>have:=hk.1;simp at this
 |e::es,aF,i,q,hk,h=>by
  cases aF with
  |nil=>have:=hk.1;simp at this
  |cons e' aF=>
   obtain⟨h1,h2⟩:=hk.tail;simp only[atZ]at h⊢;rw[h1]at h;split at h
   ·rename_i hs;cases h;exact .inr ⟨i,_,e',rfl,asR _,by simp,rfl⟩
   ·rename_i hs;rcases D2 (i+1) h2 h with⟨h3,h4⟩|⟨j,v,e2,h3,h4,h5,h6⟩
    ·exact .inl ⟨h3,h4⟩
    ·refine .inr ⟨j,v,e2,h3,by omega,?_,h6⟩;rw[show j- i=(j-(i+1))+1 by omega,ava];exact h5
   ·cases h
theorem D3{kind:TypeDesc}{k:Value}:∀{es aF:List MapEntry} (i:Nat),SameKeys es aF->atZ kind k es i=ah->atZ kind k aF i=ah
 |[],aF,i,hk,h=>by simp[atZ]at h
 |e::es,aF,i,hk,h=>by
  cases aF with
  |nil=>have:=hk.1;simp at this
  |cons e' aF=>
   obtain⟨h1,h2⟩:=hk.tail;simp only[atZ]at h⊢;rw[h1]at h;split at h
   ·cases h
   ·exact D3 (i+1) h2 h
   ·rfl
theorem zl{kt:TypeId}{k:Value}:∀{es aF:List MapEntry} (i:Nat) {q:Option (Nat×Value)},SameKeys es aF->aT P (atM kt k es i)=aa q->
 (q=ah/\∀w,(atM kt k aF i).run P w=.ok ah w)\/(∃j v e',q=aa (j,v)/\i<=j/\aF[j- i]?=aa e'/\∀w,(atM kt k aF i).run P w=.ok (aa (j,e'.val)) w)
 |[],aF,i,q,hk,h=>by
  cases aF with
  |nil=>simp only[atM]at h;cases h;exact .inl ⟨rfl,λw=>rfl⟩
  |cons a b=>have:=hk.1;simp at this
 |e::es,aF,i,q,hk,h=>by
  cases aF with
  |nil=>have:=hk.1;simp at this
  |cons e' aF=>
   obtain⟨h1,h2⟩:=hk.tail;simp only[atM]at h⊢;rw[h1]at h;obtain⟨b,hb,h⟩:=mS h;cases b with
   |true=>
    simp only[if_true]at h;cases h;refine .inr ⟨i,_,e',rfl,asR _,by simp,λw=>?_⟩;simp only[asT,e_ w _ hb,asQ,if_true,as5]
   |false=>
    simp only[atn,if_false]at h;rcases zl (i+1) h2 h with⟨h3,h4⟩|⟨j,v,e2,h3,h4,h5,h6⟩
    ·refine .inl ⟨h3,λw=>?_⟩;simp only[asT,e_ w _ hb,asQ,atn,if_false,h4]
    ·refine .inr ⟨j,v,e2,h3,by omega,?_,λw=>?_⟩
     ·rw[show j- i=(j-(i+1))+1 by omega,ava];exact h5
     ·simp only[asT,e_ w _ hb,asQ,atn,if_false,h6]
theorem pS{empty:Bool}{kt:TypeId}{k:Value}{es:List (Value×IV×Nat)}{res:Array MapEntry}{q:Option Nat}(he:gE ι es res)(h:ia P empty kt k es=aa q)(w:World):
 (Instr.checkKey empty 10000 kt k).run P w=.ok () w/\
 ((q=ah/\(auj kt k res.toList).run P w=.ok ah w)\/(∃i e rr,q=aa i/\es[i]?=aa e/\res[i]?=aa rr/\(auj kt k res.toList).run P w=.ok (aa (i,rr.val)) w)):=by
 have hk:SameKeys (es.map λe=>{key:=e.1,val:=atC,born:=e.2.2}) res.toList:=by
  refine⟨by simp[he.1],λi a b h1 h2=>?_⟩;simp only[List.getElem?_map,asS]at h1;obtain⟨e,h1,rfl⟩:=h1;exact(he.2 i e b h1 (by simpa using h2)).1.symm
 have fin:∀{q':Option (Nat×Value)},aT P (auj kt k (es.map λe=>{key:=e.1,val:=atC,born:=e.2.2}))=aa q'->
  (q'=ah/\(auj kt k res.toList).run P w=.ok ah w)\/(∃i v rr,q'=aa (i,v)/\res[i]?=aa rr/\(auj kt k res.toList).run P w=.ok (aa (i,rr.val)) w):=by
  intro q' h;unfold auj at h⊢;obtain⟨d,hd,h⟩:=mS h;have II:=e_ w _ hd;simp only[asT,II,asQ];split at h
  ·rename_i q2 OP;cases h;rcases D2 0 hk OP with⟨h3,h4⟩|⟨j,v,e2,h3,h4,h5,h6⟩
   ·exact .inl ⟨h3,by rw[h4];rfl⟩
   ·exact .inr ⟨j,v,e2,h3,by simpa using h5,by rw[h6];rfl⟩
  ·rename_i OP;rw[D3 0 hk OP];rcases zl 0 hk h with⟨h3,h4⟩|⟨j,v,e2,h3,h4,h5,h6⟩
   ·exact .inl ⟨h3,h4 w⟩
   ·exact .inr ⟨j,v,e2,h3,by simpa using h5,h6 w⟩
 unfold ia at h;split at h
 ·rename_i i v hp;cases h;obtain⟨_,h1,h2⟩:=mS hp;refine⟨e_ w _ h1,.inr ?_⟩;rcases fin h2 with⟨h3,_⟩|⟨j,v',rr,h3,h4,h5⟩
  ·cases h3
  ·cases h3;have ai:i<es.length:=by have:=(atI.1 h4).1;have:=he.1;omega
   exact⟨i,es[i],rr,rfl,List.getElem?_eq_getElem ai,h4,h5⟩
 ·rename_i hp;cases h;obtain⟨_,h1,h2⟩:=mS hp;refine⟨e_ w _ h1,.inl ⟨rfl,?_⟩⟩;rcases fin h2 with⟨_,h4⟩|⟨j,v',rr,h3,h4,h5⟩
  ·exact h4
  ·cases h3
 ·cases h
theorem gE.nil:gE ι [] #[]:=⟨rfl,λi e r h=>by simp at h⟩
theorem gE.isEmpty{es:List (Value×IV×Nat)}{res:Array MapEntry}(h:gE ι es res):es.isEmpty=res.isEmpty:=by
 have:=h.1;rw[Bool.eq_iff_iff,atY,Array.isEmpty_iff];rw[<-List.length_eq_zero_iff,<-Array.size_eq_zero_iff,this]
theorem Yf{t:TypeId}{x ix:Operand}{ok:Bool}(hi:Inv N ι σ w)(hr:Rv ι (ρ x) (r x))(pn:Rv ι (ρ ix) (r ix))(ho:o.op=.lookup t x ix ok)(h:av P ro ρ o σ=aa out):bu P ro N ι w σ r o out:=by
 unfold av at h;rw[ho]at h;simp only at h;split at h
 ·rename_i kt elem es key hu gF m_;have hk:=uX m_ pn
  have abn:∃res,gE ι es res/\((r x=.map ah/\res= #[])\/∃b clock,r x=.map (aa b)/\w.heap[b]?=aa (.map res clock)):=by
   generalize hq:r x=q at hr;unfold entriesOf at gF;split at gF
   ·rename_i hx;rw[hx]at hr;cases gF;cases hr;exact⟨#[],gE.nil,.inl ⟨rfl,rfl⟩⟩
   ·rename_i id hx;rw[hx]at hr;split at gF
    ·rename_i aF clock aE;cases gF;cases hr with
     |map _ l hl=>
      obtain⟨l',res,cu,hh,he⟩:=hi.obj id _ aE;rw[hl]at cu;cases cu;exact⟨res,he,.inr ⟨l.b,clock,rfl,hh⟩⟩
    ·cases gF
   ·cases gF
  obtain⟨res,he,eE⟩:=abn;split at h
  ·rename_i i z yf hz;split at h
   ·rename_i e tC;obtain rfl:=aJ h;obtain⟨hc,hf⟩:=pS he yf w;rcases hf with⟨hn,_⟩|⟨j,e',rr,hj,h1,h2,h3⟩
    ·cases hn
    ·cases hj;rw[tC]at h1;cases h1;obtain⟨_,hv,_⟩:=he.2 i e rr tC h2;refine bu.same hi (u:=if ok then .tuple #[rr.val,.bool ab]else rr.val) ?_ ?_
     ·rw[he.isEmpty]at hc;rcases eE with⟨hx,rfl⟩|⟨b,clock,hx,hh⟩
      ·simp only[execOp,ho,av4,asT,aV hu,asQ,hx,hk,hc,h3,as5]
      ·simp only[execOp,ho,av4,asT,aV hu,asQ,hx,bW (P:=P) hh (by simp),hk,hc,h3,as5]
     ·cases ok
      ·exact hv
      ·have:=aB.cons hv (aB.cons (Rv.raw (ι:=ι) (.bool ab)) aB.nil);exact .az _ _ this.1 this.2
   ·cases h
  ·rename_i z yf hz;obtain rfl:=aJ h;obtain⟨hc,hf⟩:=pS he yf w;rcases hf with⟨_,h3⟩|⟨j,e',rr,hj,h1,h2,h3⟩
   ·refine bu.same hi (u:=if ok then .tuple #[z,.bool af]else z) ?_ ?_
    ·rw[he.isEmpty]at hc;rcases eE with⟨hx,rfl⟩|⟨b,clock,hx,hh⟩
     ·simp only[execOp,ho,av4,asT,aV hu,asQ,hx,hk,hc,h3,ji hz,as5]
     ·simp only[execOp,ho,av4,asT,aV hu,asQ,hx,bW (P:=P) hh (by simp),hk,hc,h3,ji hz,as5]
    ·cases ok
     ·exact Rv.lift z
     ·have:=aB.cons (Rv.lift (ι:=ι) z) (aB.cons (Rv.raw (ι:=ι) (.bool af)) aB.nil);exact .az _ _ this.1 this.2
   ·cases hj
  ·cases h
 ·cases h
theorem gE.set{es:List (Value×IV×Nat)}{res:Array MapEntry}{i:Nat}{e:Value×IV×Nat}{key:Value}{v:IV}{u:Value}{f:MapEntry->MapEntry}(h:gE ι es res)(he:es[i]?=aa e)(hv:Rv ι v u)
 (hf:∀rr,res[i]?=aa rr->f rr={key:=key,val:=u,born:=rr.born}):gE ι (es.set i (key,v,e.2.2)) (res.modify i f):=by
 refine⟨by simp[h.1],λj a b h1 h2=>?_⟩;rw[List.getElem?_set]at h1;rw[Array.getElem?_modify]at h2;by_cases nI:i=j
 ·subst nI;rw[if_pos rfl]at h1 h2;split at h1
  ·cases h1;cases OQ:res[i]? with
   |none=>simp[OQ]at h2
   |some rr=>
    obtain⟨_,_,hb⟩:=h.2 i e rr he OQ;simp only[OQ,atl,asP]at h2;rw[hf rr OQ]at h2;subst h2;exact⟨rfl,hv,hb⟩
  ·cases h1
 ·rw[if_neg nI]at h1 h2;exact h.2 j a b h1 h2
theorem gE.push{es:List (Value×IV×Nat)}{res:Array MapEntry}{key:Value}{v:IV}{u:Value}{n:Nat}(h:gE ι es res)(hv:Rv ι v u):gE ι (es++[(key,v,n)]) (res.push {key:=key,val:=u,born:=n}):=by
 refine⟨by simp[h.1],λj a b h1 h2=>?_⟩;rw[Array.getElem?_push]at h2;by_cases hj:j<es.length
 ·rw[List.getElem?_append_left hj]at h1;rw[if_neg (by have:=h.1;omega)]at h2;exact h.2 j a b h1 h2
 ·rw[List.getElem?_append_right (by omega)]at h1;by_cases zm:j=es.length
  ·subst zm;rw[if_pos h.1]at h2;simp at h1 h2;subst h1 h2;exact⟨rfl,hv,rfl⟩
  ·have:1<=j- es.length:=by omega
   rw[List.getElem?_eq_none (by simp;omega)]at h1;cases h1
theorem AP(hi:Inv N ι σ w){id clock:Nat}{es:List (Value×IV×Nat)}{u:Value}(hr:Rv ι (.map id) u)(aE:σ.at id=aa (.map es clock)):
 ∃l res,u=.map (aa l.b)/\ι id 0=aa l/\w.heap[l.b]?=aa (.map res clock)/\l.b<w.heap.size/\gE ι es res:=by
 cases hr with
 |map _ l hl=>
  obtain⟨l',res,cu,hh,he⟩:=hi.obj id _ aE;rw[hl]at cu;cases cu;exact⟨l,res,rfl,hl,hh,hi.jc id _ ⟨_,_,hl,rfl⟩,he⟩
theorem nT{l:Loc}{id clock:Nat}{es:List (Value×IV×Nat)}{res:Array MapEntry}(hl:ι id 0=aa l)(ai:l.b<w.heap.size)(he:gE ι es res):
 kZ ι {w with heap:=w.heap.setIfInBounds l.b (.map res clock)} id (.map es clock):=⟨l,res,hl,by simp[ai],he⟩
theorem L9{cL new:Value}(h:Instr.sameBits 10000 cL new=ab)(w:World):(avp cL new).run P w=.ok new w:=by
 unfold avp;rw[if_pos h];rfl
theorem Yg{t kt elem:TypeId}{m k v:IV}{um uk uv:Value}{ao:St}(hi:Inv N ι σ w)(hu:P.underlying t=aa (.map kt elem))(hm:Rv ι m um)(hk:Rv ι k uk)(hv:Rv ι v uv)
 (h:pO P ro kt m k v σ=aa ao):∃w',(awn t um uk uv).run P w=.ok () w'/\Inv N ι ao w'/\Le ro ι w σ ι w' ao:=by
 unfold pO at h;split at h
 ·rename_i id key m_;have uQ:=uX m_ hk;subst uQ;split at h
  ·rename_i es clock aE;obtain⟨l,res,rfl,hl,hh,ai,he⟩:=AP hi hm aE;split at h
   ·cases h
   ·rename_i cF;have cF:ro<=id:=auT λh=>cF (by omega);split at h
    ·rename_i i yf;split at h
     ·rename_i e tC;split at h
      ·rename_i Yh;cases h;obtain⟨hc,hf⟩:=pS he yf w;rcases hf with⟨hn,_⟩|⟨j,e',rr,hj,h1,h2,h3⟩
       ·cases hn
       ·cases hj;rw[tC]at h1;cases h1;have IJ:=(he.2 i e rr tC h2).1;obtain⟨r1,r2⟩:=hi.kX (ro:=ro) aE cF hl (nT (clock:=clock) hl ai (he.set tC hv (key:=uk) (f:=λe=>{e with key:=uk,val:=uv}) (λrr _=>rfl)));refine⟨_,?_,r1,r2⟩
        have cw:(avp (((res[i]?).map (·.key)).getD uk) uk).run P w=.ok uk w:=by
         rw[h2];simp only[atl,atH];exact L9 (by rw[IJ];exact Yh) w
        simp only[awn,asT,aV hu,asQ,bW (P:=P) hh (by simp),hc,h3,cw,eR (P:=P) hh (by simp)]
      ·cases h
     ·cases h
    ·rename_i yf;cases h;obtain⟨hc,hf⟩:=pS he yf w;rcases hf with⟨_,h3⟩|⟨j,e',rr,hj,h1,h2,h3⟩
     ·obtain⟨r1,r2⟩:=hi.kX (ro:=ro) aE cF hl (nT (clock:=clock+1) hl ai (he.push hv (key:=uk) (n:=clock)));refine⟨_,?_,r1,r2⟩;simp only[awn,asT,aV hu,asQ,bW (P:=P) hh (by simp),hc,h3,eR (P:=P) hh (by simp)]
     ·cases hj
    ·cases h
  ·cases h
 ·cases h
theorem D4{t:TypeId}{m k x:Operand}(hi:Inv N ι σ w)(hm:Rv ι (ρ m) (r m))(hk:Rv ι (ρ k) (r k))(hx:Rv ι (ρ x) (r x))(ho:o.op=.mapUpdate t m k x\/o.op=.insert t m k x)
 (h:av P ro ρ o σ=aa out):bu P ro N ι w σ r o out:=by
 have h':(match P.underlying t with
  |some (.map kt _)=>match pO P ro kt (ρ m) (ρ k) (ρ x) σ with
   |some ao=>ret .undef ao
   |none=>ah
  |_=>ah)=aa out:=by
  unfold av at h;rcases ho with ho|ho<;>rw[ho]at h<;>exact h
 clear h;split at h'
 ·rename_i kt elem hu;split at h'
  ·rename_i ao hs;obtain rfl:=aJ h';intro hN;obtain⟨w',h1,h2,h3⟩:=Yg (N:=N) hi hu hm hk hx hs;refine⟨atC,w',ι,.inr ⟨?_,rfl⟩,.raw _,h2,h3⟩;rcases ho with ho|ho<;>simp only[execOp,ho,asT,h1,asQ,as5]
  ·cases h'
 ·cases h'
theorem SX{t:TypeId}{m k:Operand}(hi:Inv N ι σ w)(hm:Rv ι (ρ m) (r m))(hk:Rv ι (ρ k) (r k))(ho:o.op=.mapEntry t m k)(h:av P ro ρ o σ=aa out):bu P ro N ι w σ r o out:=by
 unfold av at h;rw[ho]at h;simp only at h;split at h
 ·rename_i kt elem hu;split at h
  ·rename_i z id key hz lP m_;have uQ:=uX m_ hk;rw[lP]at hm;split at h
   ·rename_i es clock aE;obtain⟨l,res,L_,hl,hh,ai,he⟩:=AP hi hm aE;split at h
    ·cases h
    ·rename_i cF;have cF:ro<=id:=auT λh=>cF (by omega);split at h
     ·rename_i i yf;split at h
      ·rename_i e tC;split at h
       ·rename_i Yh;obtain rfl:=aJ h;intro hN;obtain⟨hc,hf⟩:=pS he yf w;rcases hf with⟨hn,_⟩|⟨j,e',rr,hj,h1,h2,h3⟩
        ·cases hn
        ·cases hj;rw[tC]at h1;cases h1;obtain⟨IJ,hvr,hbr⟩:=he.2 i e rr tC h2;obtain⟨r1,r2⟩:=hi.kX (ro:=ro) aE cF hl (nT (clock:=clock) hl ai (he.set tC hvr (key:=key) (f:=λe=>{e with key:=key}) (λrr' OS=>by rw[h2]at OS;cases OS;rfl)));refine⟨.tuple #[rr.val,.int .i64 e.2.2],_,ι,.inl ?_,?_,r1,r2⟩
         ·have cw:(avp rr.key key).run P w=.ok key w:=L9 (by rw[IJ];exact Yh) w;simp only[execOp,ho,axA,L_,uQ,asT,aV hu,asQ,bW (P:=P) hh (by simp),hc,h3,cw,eR (P:=P) hh (by simp),as5,h2,atl,atH,hbr,goInt]
         ·have:=aB.cons hvr (aB.cons (Rv.raw (ι:=ι) (.int .i64 e.2.2)) aB.nil);exact .az _ _ this.1 this.2
       ·cases h
      ·cases h
     ·rename_i yf;obtain rfl:=aJ h;intro hN;obtain⟨hc,hf⟩:=pS he yf w;rcases hf with⟨_,h3⟩|⟨j,e',rr,hj,h1,h2,h3⟩
      ·obtain⟨r1,r2⟩:=hi.kX (ro:=ro) aE cF hl (nT (clock:=clock+1) hl ai (he.push (Rv.lift (ι:=ι) z) (key:=key) (n:=clock)));refine⟨.tuple #[z,.int .i64 clock],_,ι,.inl ?_,?_,r1,r2⟩
       ·simp only[execOp,ho,axA,L_,uQ,asT,aV hu,asQ,bW (P:=P) hh (by simp),hc,h3,ji hz,eR (P:=P) hh (by simp),as5,goInt]
       ·have:=aB.cons (Rv.lift (ι:=ι) z) (aB.cons (Rv.raw (ι:=ι) (.int .i64 clock)) aB.nil);exact .az _ _ this.1 this.2
      ·cases hj
     ·cases h
   ·cases h
  ·cases h
 ·cases h
end Go.Ev
namespace Go.Ev
variable{P:Program}{N ro:Nat}{ι:Io}{w:World}{σ:St}{ρ:Operand->IV}{r:Operand->Value}{o:Oper}{out:eN}
theorem N0{t:TypeId}{m st x:Operand}(hi:Inv N ι σ w)(hm:Rv ι (ρ m) (r m))(hs:Rv ι (ρ st) (r st))(hx:Rv ι (ρ x) (r x))(ho:o.op=.entryStore t m st x)
 (h:av P ro ρ o σ=aa out):bu P ro N ι w σ r o out:=by
 unfold av at h;rw[ho]at h;simp only at h;split at h
 ·rename_i id k born lP cw;have est:=fj cw hs;rw[lP]at hm;split at h
  ·rename_i es clock aE;obtain⟨l,res,L_,hl,hh,ai,he⟩:=AP hi hm aE;split at h
   ·cases h
   ·rename_i cF;have cF:ro<=id:=auT λh=>cF (by omega);split at h
    ·rename_i i hfi;split at h
     ·rename_i e tC;obtain rfl:=aJ h;intro hN;have dZ:i<res.size:=by have:=(List.getElem?_eq_some_iff.1 tC).1;have:=he.1;omega
      have h2:res[i]?=aa res[i]:=atj dZ;obtain⟨IJ,_,_⟩:=he.2 i e _ tC h2
      obtain⟨r1,r2⟩:=hi.kX (ro:=ro) aE cF hl (nT (clock:=clock) hl ai (he.set tC hx (key:=e.1) (f:=λe=>{e with val:=r x}) (λrr' OS=>by
       rw[h2]at OS;cases OS;rw[<-IJ])))
      have uP:res.findIdx? (λe=>(e.born:Int)==born)=aa i:=by
       rw[show res=res.toList.toArray by simp,List.findIdx?_toArray]
       have:∀(es:List (Value×IV×Nat)) (rs:List MapEntry) (i:Nat),es.length=rs.length->(∀(j:Nat) (e:Value×IV×Nat) (rr:MapEntry),es[j]?=aa e->rs[j]?=aa rr->rr.born=e.2.2)->
        es.findIdx? (λe=>(e.2.2:Int)==born)=aa i->rs.findIdx? (λe=>(e.born:Int)==born)=aa i:=by
        intro es;induction es with
        |nil=>intro rs i hl _ hf;simp at hf
        |cons e es ih=>
         intro rs i hl hb hf;cases rs with
         |nil=>simp at hl
         |cons rr rs=>
          have h0:=hb 0 e rr rfl rfl;rw[List.findIdx?_cons]at hf⊢;rw[h0];split at hf
          ·rename_i hc;rw[if_pos hc];exact hf
          ·rename_i hc;rw[if_neg hc];simp only[asS]at hf⊢;obtain⟨j,hj,rfl⟩:=hf;exact⟨j,ih rs j (by simpa using hl) (λk a b h1 h2=>hb (k+1) a b h1 h2) hj,rfl⟩
       exact this es res.toList i (by simpa using he.1) (λj e rr h1 h2=>(he.2 j e rr h1 (by simpa using h2)).2.2) hfi
      refine⟨atC,_,ι,.inr ⟨?_,rfl⟩,.raw _,r1,r2⟩;simp only[execOp,ho,Instr.entryStore,L_,est,asInt,asIntOf,asT,as5,asQ,bW (P:=P) hh (by simp),uP,eR (P:=P) hh (by simp)]
     ·cases h
    ·cases h
  ·cases h
 ·cases h
theorem VP{argTypes:Array TypeId}{ty:TypeId}{m k:IV}{um uk:Value}(hi:Inv N ι σ w)(hm:Rv ι m um)(hk:Rv ι k uk)(h:xJ P ro argTypes m k σ=aa out):
 ∃v ao,out=.val v ao/\(ao.n<=N->rC P ro N ι w σ (awa argTypes ty #[um,uk]) v ao):=by
 unfold xJ at h;cases sL:argTypes[0]? with
 |none=>simp[sL]at h
 |some t=>
  rw[sL,asU]at h;have e0:(#[um,uk]:Array Value)[0]?=aa um:=rfl;have e1:(#[um,uk]:Array Value)[1]?=aa uk:=rfl;split at h
  ·rename_i kt elem id key hu m_;have uQ:=uX m_ hk;split at h
   ·rename_i es clock aE;obtain⟨l,res,rfl,hl,hh,ai,he⟩:=AP hi hm aE;split at h
    ·cases h
    ·rename_i cF;have cF:ro<=id:=auT λh=>cF (by omega);split at h
     ·rename_i i yf;obtain rfl:=aJ h;refine⟨_,_,rfl,λ_=>?_⟩;obtain⟨hc,hf⟩:=pS he yf w;rcases hf with⟨hn,_⟩|⟨j,e',rr,hj,h1,h2,h3⟩
      ·cases hn
      ·cases hj;have l7:i<res.size:=(atI.1 h2).1
       have ic:gE ι (es.eraseIdx i) (res.eraseIdxIfInBounds i):=by
        have e2:res.eraseIdxIfInBounds i=(res.toList.eraseIdx i).toArray:=by
         rw[Array.eraseIdxIfInBounds,dif_pos l7];apply auZ;simp
        rw[e2];have hle:=he.1;refine⟨by simp only[List.length_eraseIdx,List.size_toArray,Array.length_toList,hle],λj a b ha hb=>?_⟩;simp only[List.getElem?_toArray]at hb;rw[List.getElem?_eraseIdx]at ha hb;split at ha
        ·rename_i hc;rw[if_pos hc]at hb;exact he.2 j a b ha (by simpa using hb)
        ·rename_i hc;rw[if_neg hc]at hb;exact he.2 (j+1) a b ha (by simpa using hb)
       obtain⟨r1,r2⟩:=hi.kX (ro:=ro) aE cF hl (nT (clock:=clock) hl ai ic);refine⟨.tuple #[],_,ι,?_,.raw _,r1,r2⟩;unfold awa;rw[sL,e0,e1];rw[he.isEmpty]at hc;simp only[asT,aV hu,asQ,bW (P:=P) hh (by simp),uQ,hc,h3,eR (P:=P) hh (by simp),as5]
     ·rename_i yf;obtain rfl:=aJ h;refine⟨_,_,rfl,λ_=>?_⟩;obtain⟨hc,hf⟩:=pS he yf w;rcases hf with⟨_,h3⟩|⟨j,e',rr,hj,h1,h2,h3⟩
      ·obtain⟨r1,r2⟩:=hi.kX (ro:=ro) aE cF hl (nT (clock:=clock) hl ai he);refine⟨.tuple #[],_,ι,?_,.raw _,r1,r2⟩;unfold awa;rw[sL,e0,e1];rw[he.isEmpty]at hc;simp only[asT,aV hu,asQ,bW (P:=P) hh (by simp),uQ,hc,h3,eR (P:=P) hh (by simp),as5]
      ·cases hj
     ·cases h
   ·cases h
  ·cases h
theorem Inv.D5(hi:Inv N ι σ w)(hN:σ.n<N){go:ax4}{ob:Ob}(dH:kZ (dS ι σ.n 0 ⟨w.heap.size,1,1⟩) {w with heap:=w.heap.push go} σ.n ob):
 Inv N (dS ι σ.n 0 ⟨w.heap.size,1,1⟩) (σ.add ob) {w with heap:=w.heap.push go}/\Le ro ι w σ (dS ι σ.n 0 ⟨w.heap.size,1,1⟩) {w with heap:=w.heap.push go} (σ.add ob):=
 hi.add hN rfl rfl rfl rfl rfl dH
theorem abo{t:TypeId}{x:Operand}(hi:Inv N ι σ w)(hr:Rv ι (ρ x) (r x))(ho:o.op=.range t x)(h:av P ro ρ o σ=aa out):bu P ro N ι w σ r o out:=by
 unfold av at h;rw[ho]at h;simp only at h;have rv:∀(aG:Io) (n b:Nat),Rv (dS aG n 0 ⟨b,1,1⟩) (.ptr n 0 0 1) (.pointer (aa ⟨b,0,ah⟩)):=λaG n b=>.ptr _ _ _ _ _ (cj _ _ _ _) (by simp);split at h
 ·rename_i s hu hx;have e:=fj hx hr;obtain rfl:=aJ h;intro hN;obtain⟨h1,h2⟩:=hi.D5 (ro:=ro) (go:=.stringIter s 0) (ob:=.qq s 0) (by simp at hN;omega) ⟨_,cj _ _ _ _,by simp⟩;exact⟨_,_,_,.inl (by simp only[execOp,ho,awU,asT,aV hu,asQ,e,as5,run_newObj]),rv _ _ _,h1,h2⟩
 ·rename_i k e' hu hx;have e:=fj hx hr;obtain rfl:=aJ h;intro hN;obtain⟨h1,h2⟩:=hi.D5 (ro:=ro) (go:=.mapIter ah 0 #[] 0) (ob:=.jO ah 0 [] 0) (by simp at hN;omega) ⟨_,ah,cj _ _ _ _,by simp,rfl⟩;exact⟨_,_,_,.inl (by simp only[execOp,ho,awU,asT,aV hu,asQ,e,as5,run_newObj]),rv _ _ _,h1,h2⟩
 ·rename_i k e' m hu hx;rw[hx]at hr;split at h
  ·rename_i es clock aE;obtain⟨l,res,L_,hl,hh,ai,he⟩:=AP hi hr aE;obtain rfl:=aJ h;intro hN;have aW:ι σ.n 0=ah:=hi.fresh _ (asR _) (by simp at hN;omega) 0
   obtain⟨h1,h2⟩:=hi.D5 (ro:=ro) (go:=.mapIter (aa l.b) clock #[] clock) (ob:=.jO (aa m) clock [] clock) (by simp at hN;omega)
    ⟨_,aa l.b,cj _ _ _ _,by simp,l,k_ aW _ _ _ hl,rfl⟩
   exact⟨_,_,_,.inl (by simp only[execOp,ho,awU,asT,aV hu,asQ,L_,bW (P:=P) hh (by simp),as5,run_newObj]),rv _ _ _,h1,h2⟩
  ·cases h
 ·cases h
theorem qu{vs:List IV}{us:List Value}(h:aB ι vs us):Rv ι (.az vs) (.tuple us.toArray):=.az _ _ h.1 h.2
theorem aeU{it:Operand}{str:Bool}(hi:Inv N ι σ w)(hr:Rv ι (ρ it) (r it))(ho:o.op=.next it str)(h:av P ro ρ o σ=aa out):bu P ro N ι w σ r o out:=by
 unfold av at h;rw[ho]at h;simp only at h;split at h
 ·rename_i id hx;rw[hx]at hr;split at h
  ·cases h
  ·rename_i cF;have cF:ro<=id:=auT λh=>cF (by omega);generalize hq:r it=q at hr;cases hr with
   |ptr _ _ _ _ l hl hle=>
    have ai:l.b<w.heap.size:=hi.jc id _ ⟨_,_,hl,rfl⟩;split at h
    ·rename_i s pos aE;obtain⟨l',cu,hh⟩:=hi.obj id _ aE;rw[hl]at cu;cases cu;split at h
     ·rename_i tx;obtain rfl:=aJ h;intro hN;obtain⟨r1,r2⟩:=hi.kX (ro:=ro) (eT:=.qq s (pos+(auE s pos).2)) (go:=.stringIter s (pos+(auE s pos).2)) aE cF hl ⟨l,hl,by simp[ai]⟩;refine⟨.tuple #[.bool ab,.int .i64 pos,.int .i32 (auE s pos).1],_,ι,.inl ?_,?_,r1,r2⟩
      ·simp only[execOp,ho,au1,hq,asT,bW (P:=P) hh (by simp),asQ,tx,if_true,eR (P:=P) hh (by simp),as5,goInt]
      ·exact qu (aB.cons (.raw _) (aB.cons (.raw _) (aB.cons (.raw _) aB.nil)))
     ·rename_i tx;obtain rfl:=aJ h;refine bu.same hi (u:=.tuple #[.bool af]) ?_ (qu (aB.cons (.raw _) aB.nil));simp only[execOp,ho,au1,hq,asT,bW (P:=P) hh (by simp),asQ,tx,if_false,as5]
    ·rename_i a b c aE;obtain⟨l',mr,cu,hh,hm⟩:=hi.obj id _ aE;rw[hl]at cu;cases cu;simp only at hm;subst hm;obtain rfl:=aJ h;refine bu.same hi (u:=.tuple #[.bool af]) ?_ (qu (aB.cons (.raw _) aB.nil));simp only[execOp,ho,au1,hq,asT,bW (P:=P) hh (by simp),asQ,as5]
    ·rename_i m since seen last aE;obtain⟨l',mr,cu,hh,hm⟩:=hi.obj id _ aE;rw[hl]at cu;cases cu;obtain⟨lm,AQ,rfl⟩:=hm;split at h
     ·rename_i es clock OT;obtain⟨lm',res,pe,GQ,he⟩:=hi.obj m _ OT;rw[AQ]at pe;cases pe
      have over:∀{abp:Array (Option MapEntry)},abp= #[ah]->(choose (.mapNext abp.size)).run P w=.ok 0 w:=by
       intro abp hc;subst hc;simp[choose,auH,auP]
      split at h
      ·have hre:res= #[]:=avd (by have:=he.1;simpa using this.symm);subst hre;obtain rfl:=aJ h;refine bu.same hi (u:=.tuple #[.bool af]) ?_ (qu (aB.cons (.raw _) aB.nil));simp[execOp,ho,au1,hq,bW (P:=P) hh (by simp),bW (P:=P) GQ (by simp),choose,auH,auP]
      ·rename_i e;have aU:res.size=1:=by have:=he.1;simpa using this.symm
       obtain⟨rr,rfl⟩:∃rr,res= #[rr]:=by
        refine⟨res[0],?_⟩;apply Array.ext (by simp[aU]);intro i h1 h2;have:i=0:=by omega
        subst this;rfl
       obtain⟨hk,hv,hb⟩:=he.2 0 e rr rfl rfl;split at h
       ·rename_i yg;split at h
        ·rename_i jQ;obtain rfl:=aJ h;refine bu.same hi (u:=.tuple #[.bool af]) ?_ (qu (aB.cons (.raw _) aB.nil));have agl:rr.born∈seen:=by rw[hb];exact yg
         have OU:¬last<=rr.born:=by rw[hb];omega
         have abq:Array.filter (λe=> !seen.toArray.contains e.born) #[rr]= #[]:=by simp[agl]
         simp[execOp,ho,au1,hq,bW (P:=P) hh (by simp),bW (P:=P) GQ (by simp),choose,auH,auP,agl,OU]
        ·cases h
       ·rename_i yg;split at h
        ·rename_i hc;obtain⟨bN,rfl⟩:=hc;obtain rfl:=aJ h;intro hN;have cN:rr.born<since:=by rw[hb];exact bN
         obtain⟨r1,r2⟩:=hi.kX (ro:=ro) (eT:=.jO (aa m) since [e.2.2] clock) (go:=.mapIter (aa lm.b) since #[rr.born] clock) aE cF hl ⟨l,aa lm.b,hl,by simp[ai,hb],lm,AQ,rfl⟩;refine⟨.tuple #[.bool ab,rr.key,rr.val],_,ι,.inl ?_,?_,r1,r2⟩
         ·have fk:¬since<=rr.born:=by omega
          simp[execOp,ho,au1,hq,bW (P:=P) hh (by simp),bW (P:=P) GQ (by simp),choose,auH,auP,cN,fk,eR (P:=P) hh (by simp)]
         ·rw[<-hk];exact qu (aB.cons (.raw _) (aB.cons (Rv.lift _) (aB.cons hv aB.nil)))
        ·cases h
      ·cases h
     ·cases h
    ·cases h
 ·cases h
theorem abr{it:Operand}(hi:Inv N ι σ w)(hr:Rv ι (ρ it) (r it))(ho:o.op=.entry it)(h:av P ro ρ o σ=aa out):bu P ro N ι w σ r o out:=by
 unfold av at h;rw[ho]at h;simp only at h;split at h
 ·rename_i id hx;rw[hx]at hr;generalize hq:r it=q at hr;cases hr with
  |ptr _ _ _ _ l hl hle=>
   split at h
   ·rename_i m since seen xI aE;obtain⟨l',mr,cu,hh,hm⟩:=hi.obj id _ aE;rw[hl]at cu;cases cu;obtain⟨lm,AQ,rfl⟩:=hm;split at h
    ·rename_i es clock FG OT jQ;obtain⟨lm',res,pe,GQ,he⟩:=hi.obj m _ OT;rw[AQ]at pe;cases pe;split at h
     ·rename_i bH;split at h
      ·rename_i e OV;obtain rfl:=aJ h
       have key:∀(es:List (Value×IV×Nat)) (rs:List MapEntry),es.length=rs.length->(∀(j:Nat) (e:Value×IV×Nat) (rr:MapEntry),es[j]?=aa e->rs[j]?=aa rr->rr.key=e.1/\Rv ι e.2.1 rr.val/\rr.born=e.2.2)->
        es.find? (λe=>e.2.2==FG)=aa e->∃rr,rs.find? (λe=>e.born==FG)=aa rr/\rr.key=e.1/\Rv ι e.2.1 rr.val:=by
        intro es;induction es with
        |nil=>intro rs _ _ hf;simp at hf
        |cons a es ih=>
         intro rs hl hb hf;cases rs with
         |nil=>simp at hl
         |cons rr rs=>
          obtain⟨h1,h2,h3⟩:=hb 0 a rr rfl rfl;rw[List.find?_cons]at hf⊢;rw[h3];split at hf
          ·rename_i hc;cases hf;exact⟨rr,rfl,h1,h2⟩
          ·rename_i hc;exact ih rs (by simpa using hl) (λk x y h1 h2=>hb (k+1) x y h1 h2) hf
       obtain⟨rr,hf,hk,hv⟩:=key es res.toList (by simpa using he.1) (λj e rr h1 h2=>he.2 j e rr h1 (by simpa using h2)) OV;have hf':res.find? (λe=>e.born==FG)=aa rr:=by rw[<-hf,<-Array.find?_toList]
       have OU:seen.toArray.back?=aa FG:=by rw[<-jQ];simp
       refine bu.same hi (u:=.tuple #[rr.key,rr.val]) ?_ (by rw[<-hk];exact qu (aB.cons (Rv.lift _) (aB.cons hv aB.nil)));subst bH;simp[execOp,ho,Instr.entry,hq,bW (P:=P) hh (by simp),bW (P:=P) GQ (by simp),OU,hf']
      ·cases h
     ·cases h
    ·cases h
   ·cases h
 ·cases h
end Go.Ev
namespace Go.Ev
variable{P:Program}{N ro:Nat}{ι:Io}{w:World}{σ:St}{ρ:Operand->IV}{r:Operand->Value}{o:Oper}{out:eN}
theorem agm{argTypes:Array TypeId}{ty:TypeId}{args:List IV}{us:List Value}{v:IV}(hr:aB ι args us)(h:Ox P args=aa v):∃z,(Builtin.min_ argTypes ty us.toArray).run P w=.ok z w/\Rv ι v z:=by
 unfold Ox at h;split at h
 ·rename_i vs hv;rw[<-vp hv hr]at h;rw[asS]at h;obtain⟨z,hz,rfl⟩:=h;exact⟨z,e_ w _ hz,Rv.lift z⟩
 ·cases h
theorem ago{argTypes:Array TypeId}{ty:TypeId}{args:List IV}{us:List Value}{v:IV}(hr:aB ι args us)(h:Kp P args=aa v):∃z,(Builtin.max_ argTypes ty us.toArray).run P w=.ok z w/\Rv ι v z:=by
 unfold Kp at h;split at h
 ·rename_i vs hv;rw[<-vp hv hr]at h;rw[asS]at h;obtain⟨z,hz,rfl⟩:=h;exact⟨z,e_ w _ hz,Rv.lift z⟩
 ·cases h
theorem GR{argTypes:Array TypeId}{s x:IV}(h:kW P ro argTypes s x σ=aa out):∃v ao,out=.val v ao:=by
 have hn:∀{size aY n:Nat} {new:List IV} {s:IV},fF size aY n new s σ=aa out->∃v ao,out=.val v ao:=by
  intro size aY n new s h;unfold fF at h;split at h
  ·split at h
   ·exact⟨_,_,aJ h⟩
   ·cases h
  ·cases h
 unfold kW at h;split at h
 ·split at h
  ·split at h
   ·split at h
    ·cases h
    ·split at h
     ·split at h
      ·unfold eO at h
       repeat' split at h
       all_goals first|exact⟨_,_,aJ h⟩|exact hn h|cases h
      ·cases h
     ·cases h
   ·cases h
  ·cases h
 ·cases h
theorem bu.ofB{c:Call}{b:Builtin}{us:List Value}(ho:o.op=.call c)(hb:c.callee=.builtin b)(yh:c.args.map r=us.toArray)(h:ye P ro N ι w σ (builtin b c.argTypes o.type (c.args.map λ|.const _=>ab|_=>af) us.toArray) out):
 bu P ro N ι w σ r o out:=by
 obtain⟨v,ao,rfl,h⟩:=h;intro hN;rw[OO ho hb,yh];exact h hN
theorem VQ{b:Builtin}{argTypes:Array TypeId}{ty:TypeId}{cs:Array Bool}{args:List IV}{us:List Value}(hi:Inv N ι σ w)(hr:aB ι args us)(h:dJ P ro b argTypes args σ=aa out):
 ye P ro N ι w σ (builtin b argTypes ty cs us.toArray) out:=by
 unfold dJ at h;split at h
 ·split at h
  ·obtain⟨v,u,rfl,h1,h2⟩:=Ky hr;obtain⟨v',ao,rfl⟩:=GR h;exact ye.Yd λhN=>Ya hi h1 h2 h hN
  ·cases h
 ·split at h
  ·obtain⟨v,rfl,h1⟩:=uZ hr;rw[asS]at h;obtain⟨z,hz,rfl⟩:=h;obtain⟨u,hu,jt⟩:=aeS (ty:=ty) hi h1 hz;exact ye.same hi hu jt
  ·cases h
 ·split at h
  ·obtain⟨v,rfl,h1⟩:=uZ hr;rw[asS]at h;obtain⟨z,hz,rfl⟩:=h;obtain⟨u,hu,jt⟩:=aeT (ty:=ty) (w:=w) h1 hz;exact ye.same hi hu jt
  ·cases h
 ·rw[asS]at h;obtain⟨z,hz,rfl⟩:=h;obtain⟨u,hu,jt⟩:=agm (argTypes:=argTypes) (ty:=ty) (w:=w) hr hz;exact ye.same hi hu jt
 ·rw[asS]at h;obtain⟨z,hz,rfl⟩:=h;obtain⟨u,hu,jt⟩:=ago (argTypes:=argTypes) (ty:=ty) (w:=w) hr hz;exact ye.same hi hu jt
 ·split at h
  ·obtain⟨v,u,rfl,h1,h2⟩:=Ky hr;obtain⟨v',ao,rfl,h3⟩:=VP (ty:=ty) hi h1 h2 h;exact ye.Yd h3
  ·cases h
 ·split at h
  ·obtain⟨v,rfl,h1⟩:=uZ hr;obtain⟨v',ao,rfl,h3⟩:=Ye (ty:=ty) hi h1 h;exact ye.Yd h3
  ·cases h
 ·split at h
  ·obtain⟨v,u,rfl,h1,h2⟩:=Ky hr;obtain⟨v',ao,rfl,h3⟩:=abm (ty:=ty) hi h1 h2 h;exact ye.Yd h3
  ·cases h
 ·cases h
theorem AR{l:Array Operand}(h:∀x,Rv ι (ρ x) (r x)):aB ι (l.toList.map ρ) (l.toList.map r):=aB.of_map λx _=>h x
theorem vt{f:FuncId}{fn:Func}{us:Array Value}(h:P.funcs[f]?=aa fn)(hb:(fn.body.isSome&&fn.name != "runtime.NumGoroutine")=ab):(callFunc f us).run P w=.ok (.enter f us) w:=by
 simp only[Bool.and_eq_true,bne_iff_ne,ne_eq]at hb;have h2:fn.body≠ah:=by cases hh:fn.body<;>simp_all
 simp[callFunc,h,h2,hb.2]
theorem D6{x:IV}{v:Value}{args:List IV}{us:List Value}(hx:Rv ι x v)(hr:aB ι args us)(h:gD P x args=aa out):
 ∃d,(avY v us.toArray).run P w=.ok d w/\((∃f as vs,out=.enter f as/\(invoke d.target d.args).run P w=.ok (.enter f vs.toArray) w/\aB ι as vs/\BJ ι (.call f as) d)\/
  (∃id l,out=.round id args/\ι id 0=aa l/\d.target=.fn (.yield l.b) #[]/\d.args=us.toArray)):=by
 unfold gD at h;split at h
 ·rename_i f first cap
  cases hx with
  |fn _ _ _ cs ds hl h1 fa h2=>
   split at h
   ·rename_i fn bV;split at h
    ·rename_i hb;cases h;have ij:aB ι (first++args++cap) (cs++us++ds):=(aB.append ⟨hl,h1⟩ hr).append ⟨fa,h2⟩;refine⟨{target:=.fn (.func f) ds.toArray,args:=cs.toArray++us.toArray},rfl,.inl ⟨f,_,_,rfl,?_,ij,ds,cs++us,_,by simp,ij,rfl⟩⟩;simp only[invoke];rw[vt bV hb];simp
    ·cases h
   ·cases h
 ·rename_i f a b;cases hx;split at h
  ·rename_i he;obtain⟨rfl,rfl⟩:a= #[]/\b= #[]:=⟨avd he.1,avd he.2⟩;split at h
   ·rename_i fn bV;split at h
    ·rename_i hb;cases h;refine⟨{target:=.fn (.func f) #[],args:=us.toArray},by simp[avY],.inl ⟨f,_,us,rfl,?_,hr,[],us,us,by simp,hr,by simp⟩⟩;simp only[invoke];rw[vt bV hb];simp
    ·cases h
   ·cases h
  ·cases h
 ·rename_i id;cases hx with
  |AG _ l hl=>
   cases h;exact⟨{target:=.fn (.yield l.b) #[],args:=us.toArray},by simp[avY],.inr ⟨id,l,rfl,hl,rfl,rfl⟩⟩
 ·cases h
theorem Yi{x:IV}{u:Value}{name:String}{args:List IV}{us:List Value}(hx:Rv ι x u)(hr:aB ι args us)(h:uV P x name args=aa out):
 ∃f as vs,out=.enter f as/\(invoke (.fn (.method name) #[]) (#[u]++us.toArray)).run P w=.ok (.enter f vs.toArray) w/\aB ι as vs:=by
 unfold uV at h;split at h
 ·rename_i t v;cases hx with
  |du _ _ uv hv=>
   split at h
   ·rename_i i el hi hd;split at h
    ·rename_i m hm;split at h
     ·rename_i f pr hf;split at h
      ·rename_i hc;obtain⟨VS,rfl⟩:=hc;have VS:m.path.toList=[]:=atY.1 VS;split at h
       ·rename_i fn bV;split at h
        ·rename_i hb;cases h;refine⟨f,v::args,uv::us,rfl,?_,aB.cons hv hr⟩
         have ajU:∀n,(method (n+1) t uv name).run P w=.ok (f,uv) w:=by
          intro n;simp[method,typeInfo,hi,hm,VS,follow,hf,receiverAt,aV hd,Place.get]
         have ajV:∃n,P.types.size+aw_=n+1:=⟨P.types.size+(aw_- 1),by unfold aw_;omega⟩;obtain⟨n,hn⟩:=ajV;have e0:(#[awV t uv]++us.toArray)[0]?=aa (.iface t uv):=by simp
         have e1:(#[awV t uv]++us.toArray).extract 1 (#[awV t uv]++us.toArray).size=us.toArray:=by
          apply auZ;simp
         have e2:(#[uv]++us.toArray)=(uv::us).toArray:=by apply auZ;simp
         have e3:(callMethod (.iface t uv) name us.toArray).run P w=.ok (.enter f (uv::us).toArray) w:=by
          have hp:(program:Sem Program).run P w=.ok P w:=rfl;simp only[callMethod,asT,hp,asQ,hn,ajU,e2];exact vt bV hb
         simp only[invoke,e0,e1];exact e3
        ·cases h
       ·cases h
      ·cases h
     ·cases h
    ·cases h
   ·cases h
 ·cases h
theorem aeV{c:Call}(hi:Inv N ι σ w)(hr:∀x,Rv ι (ρ x) (r x))(ho:o.op=.call c)(h:av P ro ρ o σ=aa out):bu P ro N ι w σ r o out:=by
 unfold av at h;rw[ho]at h;(try dsimp only at h);have yh:c.args.map r=(c.args.toList.map r).toArray:=by apply auZ;rw[awg]
 split at h
 ·rename_i b hb;exact bu.ofB ho hb yh (VQ hi (AR hr) h)
 ·rename_i f hf;obtain⟨d,hd,h⟩:=D6 (w:=w) (hr f) (AR hr) h
  have e:(execOp r o).run P w=(invoke d.target d.args).run P w:=by
   simp only[execOp,ho,resolve,hf,yh,asT,hd,asQ]
  rcases h with⟨f',as,vs,rfl,h1,h2,_⟩|⟨id,l,rfl,h1,h2,h3⟩
  ·exact⟨vs,by rw[e,h1],h2⟩
  ·exact⟨l,_,h1,by rw[e,h2,h3];rfl,AR hr⟩
 ·rename_i x name hx;obtain⟨f,as,vs,rfl,h1,h2⟩:=Yi (w:=w) (hr x) (AR hr) h;exact⟨vs,by simp only[execOp,ho,resolve,hx,yh,asT,as5,asQ,h1],h2⟩
theorem abt{c:Call}(hr:∀x,Rv ι (ρ x) (r x))(ho:o.op=.defer c)(h:av P ro ρ o σ=aa out):bu P ro N ι w σ r o out:=by
 unfold av at h;rw[ho]at h;(try dsimp only at h);have yh:c.args.map r=(c.args.toList.map r).toArray:=by apply auZ;rw[awg]
 split at h
 ·rename_i f hf;split at h
  ·rename_i f' args hc;cases h;obtain⟨d,hd,h⟩:=D6 (w:=w) (hr f) (AR hr) hc;rcases h with⟨f',as,vs,he,_,_,h3⟩|⟨id,l,he,_⟩
   ·cases he;exact⟨d,by simp only[execOp,ho,resolve,hf,yh,asT,hd,asQ,as5],h3,c,ho⟩
   ·cases he
  ·cases h
 ·cases h
theorem abu{x:Operand}(hr:Rv ι (ρ x) (r x))(ho:o.op=.panic x)(h:av P ro ρ o σ=aa out):bu P ro N ι w σ r o out:=by
 unfold av at h;rw[ho]at h;simp only at h;split at h
 ·rename_i t v hx;cases h;rw[hx]at hr;generalize hq:r x=q at hr;have po:=hr;cases hr with
  |du _ _ u hu=>
   refine⟨_,?_,po⟩;simp only[execOp,ho,Instr.panic,hq,goPanic,asT];rfl
 ·cases h
theorem N1{x:Operand}{xt asserted:TypeId}{ok:Bool}(hi:Inv N ι σ w)(hr:Rv ι (ρ x) (r x))(ho:o.op=.typeAssert x xt asserted ok)(h:av P ro ρ o σ=aa out):bu P ro N ι w σ r o out:=by
 unfold av at h;rw[ho]at h;simp only at h;split at h
 ·cases h
 ·rename_i d z Ma hu hz
  have hd:∀{α:Type} (k1:Array (String×TypeId)->α) (k2:α),(match d with|.interface want=>k1 want|_=>k2)=k2:=by
   intro α k1 k2;cases d<;>first|rfl|exact absurd rfl (Ma _)
  split at h
  ·rename_i t v hx;rw[hx]at hr;generalize hq:r x=q at hr;cases hr with
   |du _ _ u jt=>
    split at h
    ·rename_i hte;have VT:t=asserted:=by simpa using hte
     obtain rfl:=aJ h;cases ok with
     |true=>
      refine bu.same hi (u:=.tuple #[u,.bool ab]) ?_ ?_
      ·cases d<;>first
        |exact absurd rfl (Ma _)
        |simp[execOp,ho,avC,hq,aV hu,VT]
      ·have:=aB.cons jt (aB.cons (Rv.raw (ι:=ι) (.bool ab)) aB.nil);exact qu this
     |false=>
      refine bu.same hi (u:=u) ?_ jt
      cases d<;>first
       |exact absurd rfl (Ma _)
       |simp[execOp,ho,avC,hq,aV hu,VT]
    ·rename_i hte;have VT:¬t=asserted:=by simpa using hte
     split at h
     ·rename_i bz;subst bz;obtain rfl:=aJ h;refine bu.same hi (u:=.tuple #[z,.bool af]) ?_ ?_
      ·cases d<;>first
        |exact absurd rfl (Ma _)
        |simp[execOp,ho,avC,hq,aV hu,VT,ji hz]
      ·have:=aB.cons (Rv.lift (ι:=ι) z) (aB.cons (Rv.raw (ι:=ι) (.bool af)) aB.nil);exact qu this
     ·cases h
  ·rename_i hx;have e:=fj hx hr;split at h
   ·rename_i bz;subst bz;obtain rfl:=aJ h;refine bu.same hi (u:=.tuple #[z,.bool af]) ?_ ?_
    ·cases d<;>first
      |exact absurd rfl (Ma _)
      |simp[execOp,ho,avC,e,aV hu,ji hz]
    ·have:=aB.cons (Rv.lift (ι:=ι) z) (aB.cons (Rv.raw (ι:=ι) (.bool af)) aB.nil);exact qu this
   ·cases h
  ·cases h
 ·cases h
theorem pq(hi:Inv N ι σ w)(hr:∀x,Rv ι (ρ x) (r x))(h:av P ro ρ o σ=aa out):bu P ro N ι w σ r o out:=by
 cases ho:o.op with
 |move x=>unfold av at h;rw[ho]at h;simp only at h;obtain rfl:=aJ h;exact Tk hi (hr _) (.inl ho)
 |assign x=>unfold av at h;rw[ho]at h;simp only at h;obtain rfl:=aJ h;exact Tk hi (hr _) (.inr ho)
 |pick c a b=>exact aeP hi (hr _) (hr _) (hr _) ho h
 |alloc t=>exact abf hi ho h
 |box t x=>exact agc hi (hr _) ho h
 |build t parts=>exact abk hi (λx _=>hr x) ho h
 |buildSlice t len parts=>exact NZ hi (λx _=>hr x) ho h
 |load t a=>exact aeQ hi (hr _) ho h
 |store t a x=>exact abg hi (hr _) (hr _) ho h
 |nilCheck x=>exact SN hi (hr _) ho h
 |binOp op t x y yT=>exact agd hi (hr _) (hr _) ho h
 |unOp op t x=>exact ajS hi (hr _) ho h
 |convert s t x=>exact VI hi (hr _) ho h
 |makeInterface t x=>exact Hq hi (hr _) ho h
 |makeFunc f a b=>exact SO hi (λx _=>hr x) ho h
 |makeMap t x=>exact VK hi (λx _=>hr x) ho h
 |makeSlice t l c=>exact OH hi (hr _) (hr _) ho h
 |slice t x lo da mx=>exact abl hi (hr _) (λx _=>hr x) (λx _=>hr x) (λx _=>hr x) ho h
 |fieldAddr s x f=>exact OF hi (hr _) ho h
 |field t x f=>exact abi hi (hr _) ho h
 |indexAddr t x ix=>exact OG hi (hr _) (hr _) ho h
 |index t x ix=>exact abj hi (hr _) (hr _) ho h
 |lookup t x ix ok=>exact Yf hi (hr _) (hr _) ho h
 |mapUpdate t m k x=>exact D4 hi (hr _) (hr _) (hr _) (.inl ho) h
 |insert t m k x=>exact D4 hi (hr _) (hr _) (hr _) (.inr ho) h
 |mapEntry t m k=>exact SX hi (hr _) (hr _) ho h
 |entryStore t m st x=>exact N0 hi (hr _) (hr _) (hr _) ho h
 |range t x=>exact abo hi (hr _) ho h
 |next it s=>exact aeU hi (hr _) ho h
 |entry it=>exact abr hi (hr _) ho h
 |extract t i=>exact VJ hi (hr _) ho h
 |call c=>exact aeV hi hr ho h
 |defer c=>exact abt hr ho h
 |panic x=>exact abu (hr _) ho h
 |typeAssert x xt t ok=>exact N1 hi (hr _) ho h
 |_=>unfold av at h;rw[ho]at h;cases h
end Go.Ev
namespace Go.Ev
variable{P:Program}{ro:Nat}{σ:St}{ρ:Operand->IV}{o:Oper}{out:eN}
def Grown(σ:St):eN->Prop
 |.val _ ao=>σ.n<=ao.n
 |_=>True
theorem sM{v:IV}{ao:St}(hle:σ.n<=ao.n)(h:ret v ao=aa out):Grown σ out:=by rw[aJ h];exact hle
theorem w8{v:IV}(h:ret v σ=aa out):Grown σ out:=sM (asR σ.n) h
theorem wh{v:IV}{id:Nat}{ob:Ob}(h:ret v (σ.put id ob)=aa out):Grown σ out:=sM (ao:=σ.put id ob) (asR σ.n) h
theorem Mb{v:IV}{ob:Ob}(h:ret v (σ.add ob)=aa out):Grown σ out:=sM (Nat.le_succ _) h
theorem OW{kt:TypeId}{m k v:IV}{ao:St}(h:pO P ro kt m k v σ=aa ao):ao.n=σ.n:=by
 unfold pO at h
 repeat' split at h
 all_goals first|(cases h;done)|(cases h;rfl)
theorem OX{f:IV}{args:List IV}(h:gD P f args=aa out):Grown σ out:=by
 unfold gD at h
 repeat' split at h
 all_goals first|(cases h;done)|(cases h;exact trivial)
theorem OY{x:IV}{name:String}{args:List IV}(h:uV P x name args=aa out):Grown σ out:=by
 unfold uV at h
 repeat' split at h
 all_goals first|(cases h;done)|(cases h;exact trivial)
theorem OZ{argTypes:Array TypeId}{s x:IV}(h:kW P ro argTypes s x σ=aa out):Grown σ out:=by
 have hn:∀{size aY n:Nat} {new:List IV} {s:IV},fF size aY n new s σ=aa out->Grown σ out:=by
  intro size aY n new s h;unfold fF at h;split at h
  ·split at h
   ·exact Mb h
   ·cases h
  ·cases h
 unfold kW at h;split at h
 ·split at h
  ·split at h
   ·split at h
    ·cases h
    ·split at h
     ·split at h
      ·unfold eO at h
       repeat' split at h
       all_goals first|exact w8 h|exact wh h|exact sM (by exact asR σ.n) h|exact hn h|cases h
      ·cases h
     ·cases h
   ·cases h
  ·cases h
 ·cases h
theorem N2{b:Builtin}{argTypes:Array TypeId}{args:List IV}(h:dJ P ro b argTypes args σ=aa out):Grown σ out:=by
 unfold dJ at h;split at h
 ·split at h
  ·exact OZ h
  ·cases h
 ·split at h
  ·rw[asS]at h;obtain⟨z,hz,rfl⟩:=h;exact asR _
  ·cases h
 ·split at h
  ·rw[asS]at h;obtain⟨z,hz,rfl⟩:=h;exact asR _
  ·cases h
 ·rw[asS]at h;obtain⟨z,hz,rfl⟩:=h;exact asR _
 ·rw[asS]at h;obtain⟨z,hz,rfl⟩:=h;exact asR _
 ·split at h
  ·unfold xJ at h
   repeat' split at h
   all_goals first|exact wh h|cases h
  ·cases h
 ·split at h
  ·unfold th at h
   repeat' split at h
   all_goals first|exact w8 h|exact wh h|cases h
  ·cases h
 ·split at h
  ·unfold FF at h
   repeat' split at h
   all_goals first|exact w8 h|exact wh h|cases h
  ·cases h
 ·cases h
theorem my(h:av P ro ρ o σ=aa out):Grown σ out:=by
 unfold av at h;cases ho:o.op<;>rw[ho]at h<;>(try dsimp only at h)
 case call c=>
  split at h
  ·exact N2 h
  ·exact OX h
  ·exact OY h
 case defer c=>
  split at h
  ·split at h
   ·cases h;exact trivial
   ·cases h
  ·cases h
 case mapUpdate=>
  split at h
  ·split at h
   ·rename_i ao hs;exact sM (aye (OW hs).symm) h
   ·cases h
  ·cases h
 case insert=>
  split at h
  ·split at h
   ·rename_i ao hs;exact sM (aye (OW hs).symm) h
   ·cases h
  ·cases h
 all_goals (repeat' split at h)
 all_goals first|exact w8 h|exact wh h|exact Mb h|(cases h;done)|(cases h;exact trivial)
end Go.Ev
namespace Go.Ev
variable{P:Program}{N ro:Nat}{ι:Io}{w:World}{σ:St}{e:Env}{a:Act}
def di(ι:Io)(e:Env)(ts:Array Value):Prop:=e.n=ts.size/\∀t,Rv ι (e.at t) (ts.getD t atC)
def ki(ι:Io):List Df->List Deferred->Prop
 |[],[]=>True
 |d::ds,x::xs=>BJ ι d x/\ki ι ds xs
 |_,_=>False
theorem di.mono{aG:Io}(gY:Ext ι aG){ts:Array Value}(h:di ι e ts):di aG e ts:=⟨h.1,λt=>(h.2 t).mono gY⟩
theorem BJ.mono{aG:Io}(gY:Ext ι aG){d:Df}{x:Deferred}(h:BJ ι d x):BJ aG d x:=by
 cases d with
 |DQ id=>obtain⟨l,h1,h2⟩:=h;exact⟨l,gY _ _ _ h1,h2⟩
 |call f as=>obtain⟨cap,us,vs,h1,h2,h3⟩:=h;exact⟨cap,us,vs,h1,h2.mono gY,h3⟩
theorem ki.mono{aG:Io}(gY:Ext ι aG):∀{ds:List Df} {xs:List Deferred},ki ι ds xs->ki aG ds xs
 |[],[],_=>trivial
 |_::_,_::_,h=>⟨BJ.mono gY h.1,ki.mono gY h.2⟩
 |[],_::_,h=>h.elim
 |_::_,[],h=>h.elim
theorem ki.nil{xs:List Deferred}(h:ki ι [] xs):xs=[]:=by cases xs with|nil=>rfl|cons=>exact h.elim
theorem sj:Rv ι .undef atC:=.raw _
theorem Env.c_(e:Env)(d:Nat)(v:IV)(t:Nat):(e.put (aa d) v).at t=if d<e.n/\d=t then v else e.at t:=by
 unfold Env.put;simp only;by_cases h:d<e.n
 ·have hb:atQ d e.n=ab:=by simpa[awL]using h
  rw[hb];simp only[if_true,Env.at,T.gj];by_cases hd:d=t
  ·simp[hd];intro h2;omega
  ·simp[hd]
 ·have hb:atQ d e.n=af:=by
   cases hc:atQ d e.n with
   |false=>rfl
   |true=>exact absurd (by simpa using hc) h
  rw[hb];simp[h]
theorem Env.nS(e:Env)(d:Option Nat)(v:IV):(e.put d v).n=e.n:=by
 cases d with
 |none=>rfl
 |some d=>simp only[Env.put];split<;>rfl
theorem di.set{ts:Array Value}{v:IV}{u:Value}(h:di ι e ts)(hv:Rv ι v u)(d:Nat):di ι (e.put (aa d) v) (ts.setIfInBounds d u):=by
 refine⟨by rw[Env.nS,h.1];simp,λt=>?_⟩;rw[Env.c_]
 have hs:(ts.setIfInBounds d u).getD t atC=if d<ts.size/\d=t then u else ts.getD t atC:=by
  simp only[at3,Array.getElem?_setIfInBounds];by_cases hd:d=t
  ·subst hd;by_cases hl:d<ts.size
   ·simp[hl]
   ·simp[hl]
  ·simp[hd]
 rw[hs,<-h.1];split
 ·exact hv
 ·exact h.2 t
theorem di.put{v:IV}{u:Value}(h:di ι e a.tmps)(hv:Rv ι v u)(dst:Option Tmp):di ι (e.put dst v) (a.put dst u).tmps:=by
 cases dst with
 |none=>exact h
 |some d=>exact h.set hv d
theorem di.eval(h:di ι e a.tmps)(x:Operand):Rv ι (ax e x) (a.eval x):=by
 cases x with
 |tmp t=>exact h.2 t
 |const v=>exact Rv.lift v
 |global g=>exact .raw _
 |func f=>exact .raw _
theorem aeW{x:IV}{b:Bool}(h:Rv ι x (.bool b)):x=.raw (.bool b):=by
 generalize hu:Value.bool b=u at h;cases h<;>first|(cases hu;done)|(cases hu;rfl)
theorem sN{o:Oper}{ops:Array Oper}(h:di ι e a.tmps):axB o (yielded ops a.tmps)=aQ o ops e:=by
 unfold axB aQ;cases hg:o.guard with
 |none=>rfl
 |some g=>
  obtain⟨j,want⟩:=g;simp only[yielded];cases hd:(ops[j]?).bind (·.dst)with
  |none=>rfl
  |some d=>
   simp only[asU];by_cases hl:d<e.n
   ·have hb:atQ d e.n=ab:=by simpa[awL]using hl
    rw[hb];have cu:d<a.tmps.size:=by rw[<-h.1];exact hl
    have hr:=h.2 d;rw[at3,atj cu,atH]at hr;rw[atj cu];simp only[if_true];generalize a.tmps[d]=u at hr;cases u with
    |bool b=>rw[aeW hr];simp
    |_=>
     generalize e.at d=x at hr;cases hr<;>rfl
   ·have hb:atQ d e.n=af:=by
     cases hc:atQ d e.n with
     |false=>rfl
     |true=>exact absurd (by simpa using hc) hl
    rw[hb];have cu:¬d<a.tmps.size:=by rw[<-h.1];exact hl
    rw[Array.getElem?_eq_none (auT cu)];rfl
def noGoto(Q:Exit->Act->World->Prop):Exit->Act->World->Prop
 |.goto _,_,_=>False
 |e,a,w=>Q e a w
section scope
variable{F:Fence}{n:Nat}{b:Frame}{k:List Item}{cs:List Frame}{Q:Exit->Act->World->Prop}
theorem oV{c:Code}:step P (lone (b.atR a (.code (.scope c)::k)) cs w)=.next (lone (b.atR a (.code c::.inScope c::k)) cs w):=
 step_lone_go (by simp[stepG,ayf,ayo])
theorem N3{c:Code}:step P (lone (b.atR a (.inScope c::k)) cs w)=.next (lone (b.atR a k) cs w):=
 step_lone_go (by simp[stepG,ayf,ayo])
theorem IK{c:Code}(h:c.wpIn F n P (noGoto Q) a w):(Code.scope c).wpIn F n P Q a w:=by
 intro b k cs cF hb hr;have h0:(lone (b.atR a (.code (.scope c)::k)) cs w).fenced P F:=fenced_calm hb hr rfl;obtain⟨e,a₁,w₁,hq,KA⟩:=h b (.inScope c::k) cs cF hb hr;cases e with
 |normal=>exact⟨.normal,a₁,w₁,hq,.head h0 oV (StepsIn.trans KA (.one (fenced_calm hb hr rfl) N3))⟩
 |exit id=>
  have hx:exitTo id (.inScope c::k)=exitTo id k:=by simp[exitTo]
  exact⟨.exit id,a₁,w₁,hq,λk' hk=>.head h0 oV (KA.1 k' (by rw[hx];exact hk)),
   λpo hk=>let⟨k₁,h1,h2⟩:=KA.2 po (by rw[hx];exact hk);⟨k₁,h1,.head h0 oV h2⟩⟩
 |goto l=>exact hq.elim
 |ret=>exact⟨_,a₁,w₁,hq,.of_steps (.one h0 oV) KA⟩
 |panic ch=>exact⟨_,a₁,w₁,hq,.of_steps (.one h0 oV) KA⟩
 |outgrown=>exact⟨_,a₁,w₁,hq,.of_steps (.one h0 oV) KA⟩
end scope
def bZ(S:Self):Prop:=∀ro rd fn c e df σ cr,S.code ro rd fn c e df σ=aa cr->σ.n<=cr.σ.n
structure bF(S:Self):Prop where
 call:∀ro f args σ v ao,S.call ro f args σ=aa (v,ao)->σ.n<=ao.n
 b_:∀ro f args σ v ao,S.b_ ro f args σ=aa (v,ao)->σ.n<=ao.n
 wP:∀ro f args m σ m' ao,S.wP ro f args m σ=aa (m',ao)->σ.n<=ao.n
variable{S:Self}
theorem VU(hc:bZ S){l:Nat}{args:List IV}{v:IV}{ao:St}(h:AI S ro l args σ=aa (v,ao)):σ.n<=ao.n:=by
 unfold AI at h;split at h
 ·split at h
  ·cases h
  ·simp only at h;split at h
   ·rename_i e1 aq h1;split at h
    ·split at h
     ·rename_i ex e2 dw h2;split at h
      ·cases h
      split at h
      ·cases h;have:=hc _ _ _ _ _ _ _ _ h1;have:=hc _ _ _ _ _ _ _ _ h2;simp only[St.nS]at*
       omega
      ·cases h
     ·cases h
    ·cases h
   ·cases h
 ·cases h
theorem Hs(hc:bZ S)(hk:bF S){o:Oper}{v:IV}{ao:St}(h:jP P S ro e o σ=aa (v,ao)):σ.n<=ao.n:=by
 unfold jP at h;split at h
 ·rename_i v1 aq h1;cases h;exact my h1
 ·exact hk.call _ _ _ _ _ _ h
 ·exact VU hc h
 ·cases h
theorem yj(hc:bZ S)(hk:bF S){rd:Option Nat}{ops:Array Oper}:∀{l:List Oper} {e:Env} {df:List Df} {σ:St} {cr:CR},y9 P S ro rd ops l e df σ=aa cr->σ.n<=cr.σ.n
 |[],e,df,σ,cr,h=>by cases h;exact asR _
 |o::rest,e,df,σ,cr,h=>by
  unfold y9 at h;split at h
  ·split at h
   ·rename_i v aq h1;exact atd (Hs hc hk h1) (yj hc hk h)
   ·split at h
    ·split at h
     ·exact yj hc hk h
     ·cases h
    ·split at h
     ·rename_i h2;cases h;exact hk.b_ _ _ _ _ _ _ h2
     ·cases h
    ·cases h;exact asR _
    ·cases h
  ·exact yj hc hk h
section draw
variable[Sm]
theorem Dm(hc:bZ S)(hk:bF S){pl:dX}{ops:Array Oper}{o:Oper}{j:Nat}{d d':DS}(h:bR P S pl ro ops o j d=aa d'):d.n<=d'.n:=by
 unfold bR at h;simp only at h;split at h
 ·cases h
 ·split at h
  ·split at h
   ·split at h
    ·split at h
     ·cases h;exact asR _
     ·cases h
    ·cases h
   ·split at h
    ·rename_i h1;cases h;exact my h1
    ·cases h
   ·split at h
    ·split at h
     ·cases h;exact asR _
     ·cases h
    ·cases h
   ·split at h
    ·rename_i h1;cases h;exact Hs (P:=P) hc hk h1
    ·cases h
   ·split at h
    ·rename_i h1;split at h
     ·cases h;exact Hs (P:=P) hc hk h1
     ·cases h
    ·cases h
  ·split at h
   ·split at h
    ·cases h;exact asR _
    ·cases h
   ·cases h;exact asR _
theorem D7{SF:Nat->Self}(hc:∀j,bZ (SF j))(hk:∀j,bF (SF j)){pl:dX}{ops:Array Oper}:∀{l:List (Oper×Nat)} {d d':DS},jh P SF pl ro ops l d=aa d'->d.n<=d'.n
 |[],d,d',h=>by cases h;exact asR _
 |(o,j)::rest,d,d',h=>by
  unfold jh at h;split at h
  ·rename_i d1 h1;exact atd (Dm (hc j) (hk j) h1) (D7 hc hk h)
  ·cases h
theorem BM{SF:Nat->Self}(hc:∀j,bZ (SF j))(hk:∀j,bF (SF j)){ops:Array Oper}{df:List Df}{cr:CR}(h:qt P SF ro ops e df σ=aa cr):σ.n<=cr.σ.n:=by
 unfold qt at h;simp only at h;split at h
 ·split at h
  ·rename_i h1;cases h;exact D7 hc hk h1
  ·cases h
 ·cases h
end draw
theorem Yj(hc:bZ S)(hk:bF S){ops:Array Oper}{df:List Df}{cr:CR}(h:OB P S ro ops e df σ=aa cr):σ.n<=cr.σ.n:= @BM _ _ _ _ OA _ (λ_=>hc) (λ_=>hk) _ _ _ h
theorem Mc(hc:bZ S)(hk:bF S):bZ (lY P S):=by
 intro ro rd fn c e df σ cr h;change wa P S ro rd fn c e df σ=aa cr at h;cases c<;>unfold wa at h<;>dsimp only at h
 case skip=>cases h;exact asR _
 case label=>cases h;exact asR _
 case exit=>cases h;exact asR _
 case goto=>cases h;exact asR _
 case ret=>cases h;exact asR _
 case refuse=>cases h
 case region=>
  split at h
  ·exact Yj hc hk h
  ·exact yj hc hk h
 case seq=>
  split at h
  ·rename_i h1;exact atd (hc _ _ _ _ _ _ _ _ h1) (hc _ _ _ _ _ _ _ _ h)
  ·exact hc _ _ _ _ _ _ _ _ h
 case cond=>
  split at h
  ·exact hc _ _ _ _ _ _ _ _ h
  ·cases h
 case block=>
  split at h
  ·rename_i h1;split at h
   ·cases h;have:=hc _ _ _ _ _ _ _ _ h1;exact this
   ·cases h;have:=hc _ _ _ _ _ _ _ _ h1;exact this
  ·exact hc _ _ _ _ _ _ _ _ h
 case loop=>
  split at h
  ·rename_i h1;exact atd (hc _ _ _ _ _ _ _ _ h1) (hc _ _ _ _ _ _ _ _ h)
  ·exact hc _ _ _ _ _ _ _ _ h
 case scope=>
  split at h
  ·cases h
  ·exact hc _ _ _ _ _ _ _ _ h
 case rangeFunc=>
  split at h
  ·rename_i mM aq mark pw
   have h1:σ.n<=aq.n:=by
    split at pw
    ·cases pw;simp
    ·split at pw
     ·cases pw;exact asR _
     ·cases pw
   split at h
   ·split at h
    ·rename_i h2;have h3:=hk.call _ _ _ _ _ _ h2;simp only[St.lC]at h3;split at h
     ·split at h
      ·cases h
      ·split at h
       ·cases h;simp only[St.nS];omega
       ·have h4:=hc _ _ _ _ _ _ _ _ h;simp only[St.nS]at h4;omega
     ·cases h
    ·cases h
   ·cases h
  ·cases h
theorem kB(hk:bF S):∀{df:List Df} {m m':Option IV} {σ ao:St},gi S ro df m σ=aa (m',ao)->σ.n<=ao.n
 |[],m,m',σ,ao,h=>by cases h;exact asR _
 |.DQ id::ds,m,m',σ,ao,h=>by
  unfold gi at h;split at h
  ·split at h
   ·exact kB hk (σ:=σ.put id (.GK ab)) h
   ·cases h
  ·cases h
 |.call f args::ds,m,m',σ,ao,h=>by
  unfold gi at h;split at h
  ·rename_i h1;exact atd (hk.wP _ _ _ _ _ _ _ h1) (kB hk h)
  ·cases h
theorem Md(hc:bZ S)(hk:bF S){f:FuncId}{args:List IV}{r:Func×Env×Option IV×St}(h:AK P S ro f args σ=aa r):σ.n<=r.2.2.2.n:=by
 unfold AK at h;split at h
 ·split at h
  ·split at h
   ·cases h
   ·simp only at h;split at h
    ·rename_i h1;split at h
     ·rename_i h2;cases h;exact atd (hc _ _ _ _ _ _ _ _ h1) (kB hk h2)
     ·cases h
    ·rename_i h1;split at h
     ·rename_i h2;cases h;exact atd (hc _ _ _ _ _ _ _ _ h1) (kB hk h2)
     ·cases h
    ·rename_i h1;split at h
     ·rename_i h2;cases h;exact atd (hc _ _ _ _ _ _ _ _ h1) (kB hk h2)
     ·cases h
    ·cases h
  ·cases h
 ·cases h
theorem sO{ops:Array Oper}:∀{l:List Oper} {e:Env} {m:Option IV} {σ:St} {r:Env×Option IV×St},oB P ro ops l e m σ=aa r->σ.n<=r.2.2.n
 |[],e,m,σ,r,h=>by cases h;exact asR _
 |o::rest,e,m,σ,r,h=>by
  unfold oB at h;split at h
  ·split at h
   ·split at h
    ·exact sO h
    ·exact sO h
   ·split at h
    ·rename_i h1;exact atd (my h1) (sO h)
    ·cases h
  ·exact sO h
theorem Ht(hc:bZ S){fn:FuncId}:∀{c:Code} {e:Env} {m:Option IV} {σ:St} {r:CR×Option IV},y_ P S ro fn c e m σ=aa r->σ.n<=r.1.σ.n:=by
 intro c
 have other:∀{c:Code} {e:Env} {m:Option IV} {σ:St} {r:CR×Option IV},(match S.code ro ah fn c e [] σ with|some r=>aa (r,m)|none=>ah)=aa r->σ.n<=r.1.σ.n:=by
  intro c e m σ r h;split at h
  ·rename_i h1;cases h;exact hc _ _ _ _ _ _ _ _ h1
  ·cases h
 induction c with
 |seq a b iha ihb=>
  intro e m σ r h;unfold y_ at h;split at h
  ·rename_i h1;exact atd (iha h1) (ihb h)
  ·cases h
  ·exact iha h
 |region id ops draw=>
  intro e m σ r h;unfold y_ at h;split at h
  ·split at h
   ·rename_i h1;cases h;exact sO h1
   ·cases h
  ·exact other h
 |_=>intro e m σ r h;unfold y_ at h;exact other h
theorem D8(hc:bZ S)(hk:bF S):bF (lY P S) where
 call:=by
  intro ro f args σ v ao h;simp only[lY,OC]at h;split at h
  ·rename_i h1;split at h
   ·cases h;exact Md hc hk h1
   ·cases h
  ·cases h
 b_:=by
  intro ro f args σ v ao h;simp only[lY,VC]at h;split at h
  ·rename_i h1;cases h;exact Md hc hk h1
  ·cases h
 wP:=by
  intro ro f args m σ m' ao h;simp only[lY,BF]at h;split at h
  ·split at h
   ·cases h
   ·split at h
    ·split at h
     ·cases h
     ·split at h
      ·rename_i h1;split at h
       ·cases h;exact Ht hc h1
       ·cases h
      ·rename_i h1;split at h
       ·cases h;exact Ht hc h1
       ·cases h
      ·cases h
    ·cases h
  ·cases h
end Go.Ev
