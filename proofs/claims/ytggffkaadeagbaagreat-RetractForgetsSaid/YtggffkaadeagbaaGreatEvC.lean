/- Lemmas over the model, without conditions of their own: operations of the ideal machine are sound (2). -/
import Derived.Test.YtggffkaadeagbaaGreatEvB
open Option renaming map_some->asC,getD_some->asU,getD_none->atj,bind_some->asc,map_eq_some_iff->ar_
open Option.some renaming injEq->ar7
open Go.Instr renaming sliceBound->avt,sliceBounds->awo,sliceAt->auf,slice->axi,findNow->ath,findAsking->as0,findKey->atB,lookup->avn,keyThatStays->auJ,mapUpdate->avE,mapEntry->awO,range->awc,next->aul,typeAssert->auV
open Go.Sem renaming run->atX,run_bind->asa,run_pure->asj
open Go.Result renaming andThen_ok->ar8
open ByteArray renaming ext->axG,data_extract->axT
open Array renaming ext'->auj,getElem?_eq_some_iff->asW,getElem?_eq_getElem->asy,eq_empty_of_size_eq_zero->auy,toList_map->avy,getD_eq_getD_getElem?->atl
open Nat renaming le_refl->ar9,add_mul->asG,mul_le_mul_right->asB,zero_le->asT,min->auX,min_zero->axw,le_of_not_lt->aua,le_of_eq->axx,blt->as_,blt_eq->av5,le_trans->asr
open Bool renaming false_eq_true->asD
open Classical renaming byContradiction->asM
open List renaming length_nil->att,eq_nil_of_length_eq_zero->asH,getElem?_cons_succ->auu,isEmpty_iff->atg
open Go.Builtin renaming len_->awM,cap_->awN,clear_->aww,zeroCells->atL,copy_->avR,delete_->avu
open Go renaming Obj->axj,undef->asQ
open Go.Utf8 renaming decode->atG
open Go.Question renaming forced->at4
open Go.Deferred renaming ofValue->avg
open Go.Made renaming depth->awp
open Go.Value renaming iface->awd
open Go.Region renaming wanted->awP
open Go.stepG renaming exec->axy
open Go.Frame renaming atR->axH
set_option linter.all false
namespace Go.Ev
variable{P:Program}{N ro:Nat}{ι:Io}{w:World}{σ:St}{ρ:Operand→IV}{r:Operand→Value}{o:Oper}{out:ez}
def Bd:Option Nat→Option Value→Prop
 |none,v=>v=none
 |some n,v=>∃k i,v=some (.int k i)∧0≤i∧i.toNat=n
theorem Jd{x:Option Operand}{q:Option Nat}(h:ga (x.map ρ)=some q)(hr:∀y,x=some y→Rv ι (ρ y) (r y)):Bd q (x.map r):=by
 cases x with
 |none=>simp[ga]at h;subst h;rfl
 |some y=>
  have hy:=hr y rfl;simp only[asC,ga]at h;split at h
  ·rename_i he;cases he
  ·rename_i k i he;simp only[ar7]at he;split at h
   ·rename_i h0;cases h;exact⟨k,i,by simp[eU he hy],h0,rfl⟩
   ·cases h
  ·cases h
theorem yG{v:Value}{n y:Nat}{code:BoundsCode}(h:∃k i,v=.int k i∧0≤i∧i.toNat=n)(hle:n≤y)(w:World):(avt v y code).run P w=.ok n w:=by
 obtain⟨k,i,rfl,h0,h1⟩:=h;have:i≤(y:Int):=by omega
 simp[avt,asIntOf,h0,this,h1]
theorem Bb{isSlice:Bool}{len cap:Nat}{lo hi mx:Option Value}{ql qh qm:Option Nat}(hl:Bd ql lo)(hh:Bd qh hi)(hm:Bd qm mx)(Ag:¬(qm.isSome=true∧qh.isSome=false))
 (h1:qm.getD cap≤cap)(h2:∀h,qh=some h→h≤qm.getD cap)(h3:ql.getD 0≤qh.getD len)(w:World):
 (awo isSlice len cap lo hi mx).run P w=.ok (ql.getD 0,qh.getD len,qm.getD cap) w:=by
 have fin:∀(h m:Nat) (code:BoundsCode),ql.getD 0≤h→atX P (match lo with
  |some v=>do
   let l←avt v h code
   pure (l,h,m)
  |none=>do
   let l←pure 0
   pure (l,h,m)) w=.ok (ql.getD 0,h,m) w:=by
  intro h m code hle;cases ql with
  |none=>cases hl;rfl
  |some l=>
   obtain⟨k,i,rfl,h0,h1⟩:=hl;simp only[asa,yG (P:=P) (v:=.int k i) (n:=l) (y:=h) (code:=code) ⟨k,i,rfl,h0,h1⟩ hle w,ar8,asj,asU]
 unfold awo;cases qm with
 |none=>
  cases hm;cases qh with
  |none=>
   cases hh;simp only[asa,asj,ar8,atj];exact fin len cap _ h3
  |some h=>
   obtain⟨k,i,rfl,h0,h4⟩:=hh;have hb:=yG (P:=P) (v:=.int k i) (n:=h) (y:=cap) (code:=if isSlice then .sliceAcap else .sliceAlen) ⟨k,i,rfl,h0,h4⟩ (h2 h rfl) w;simp only[asa,asj,ar8,hb,atj,asU];exact fin h cap _ h3
 |some m=>
  obtain⟨km,im,rfl,Ct,FA⟩:=hm;have p7:=yG (P:=P) (v:=.int km im) (n:=m) (y:=cap) (code:=if isSlice then .slice3Acap else .slice3Alen) ⟨km,im,rfl,Ct,FA⟩ h1 w;cases qh with
  |none=>exact absurd ⟨rfl,rfl⟩ Ag
  |some h=>
   obtain⟨k,i,rfl,h0,h4⟩:=hh;have hb:=yG (P:=P) (v:=.int k i) (n:=h) (y:=m) (code:=.slice3B) ⟨k,i,rfl,h0,h4⟩ (h2 h rfl) w;simp only[asa,ar8,p7,hb,asU];exact fin h m _ h3
theorem mM{t elem:TypeId}{sz len cap:Nat}{a:Option Addr}{lo hi mx:Option Value}{ql qh qm:Option Nat}(hu:P.underlying t=some (.slice elem))(hs:aI P elem=some sz)
 (hl:Bd ql lo)(hh:Bd qh hi)(hm:Bd qm mx)(Ag:¬(qm.isSome=true∧qh.isSome=false))(h1:qm.getD cap≤cap)(h2:∀h,qh=some h→h≤qm.getD cap)(h3:ql.getD 0≤qh.getD len)(w:World):
 (auf t (.slice a len cap) lo hi mx).run P w=
  .ok (.slice (if qm.getD cap=ql.getD 0 then a else a.map (·.add (ql.getD 0*sz))) (qh.getD len- ql.getD 0) (qm.getD cap- ql.getD 0)) w:=by
 have hb:=Bb (P:=P) (isSlice:=true) hl hh hm Ag h1 h2 h3 w;simp only[auf,asa,aN hu,ar8,axi,hb,eB hs,asj]
theorem extract_eq(s:ByteArray)(l h:Nat):(⟨((s.data.toList.drop l).take (h- l)).toArray⟩:ByteArray)=s.extract l h:=by
 apply axG;apply auj;simp[axT,List.extract_eq_take_drop]
theorem ZO{t:TypeId}{x:Operand}{lo hi mx:Option Operand}(cU:Inv N ι σ w)(hr:Rv ι (ρ x) (r x))(yH:∀y,lo=some y→Rv ι (ρ y) (r y))(Wn:∀y,hi=some y→Rv ι (ρ y) (r y))
 (sx:∀y,mx=some y→Rv ι (ρ y) (r y))(ho:o.op=.slice t x lo hi mx)(h:ak P ro ρ o σ=some out):a_ P ro N ι w σ r o out:=by
 unfold ak at h;rw[ho]at h;simp only at h;split at h
 ·rename_i v hv;obtain rfl:=aE h
  suffices hs:∃u,(auf t (r x) (lo.map r) (hi.map r) (mx.map r)).run P w=.ok u w∧Rv ι v u by
   obtain⟨u,h1,h2⟩:=hs;exact a_.same cU (u:=u) (by simp[execOp,ho,h1]) h2
  generalize hq:r x=q at hr;generalize hiq:ρ x=iq at hr hv;unfold fg at hv;split at hv
  ·rename_i _ _ _ ql qh qm e1 e2 e3;have bl:=Jd e1 yH;have bh:=Jd e2 Wn;have bm:=Jd e3 sx;clear e1 e2 e3;split at hv
   ·cases hv
   ·rename_i Ag;split at hv
    ·rename_i hu;split at hv
     ·rename_i s;split at hv
      ·rename_i hc;obtain⟨rfl,h1,h2⟩:=hc;cases hv;cases hr;refine⟨.string (s.extract (ql.getD 0) (qh.getD s.size)),?_,by rw[extract_eq];exact .raw _⟩;have hb:=Bb (P:=P) (isSlice:=false) (len:=s.size) (cap:=s.size) (mx:=none) bl bh (qm:=none) rfl (by simp) (ar9 _) (fun h hh=>by subst hh;simpa using h2) h1 w;have tM:mx.map r=none:=bm;simp only[auf,asa,aN hu,ar8,axi,tM,Option.isSome_none,asD,if_false,asj,hb]
      ·cases hv
     ·cases hv
    ·rename_i elem hu;split at hv
     ·cases hv
     ·rename_i sz aK;split at hv
      ·split at hv
       ·rename_i hc;obtain⟨h1,h2,h3⟩:=hc;cases hv;cases hr;have hb:=mM (P:=P) (a:=none) (len:=0) (cap:=0) hu aK bl bh bm Ag (by omega) (fun h hh=>by subst hh;simp at h2;omega) (by omega) w;rw[h1,h2,h3]at hb;exact⟨_,by simpa using hb,.raw _⟩
       ·cases hv
      ·split at hv
       ·rename_i hc;obtain⟨h1,h2,h3⟩:=hc;cases hv;cases hr with
        |emp a=>
         have hb:=mM (P:=P) (a:=some a) (len:=0) (cap:=0) hu aK bl bh bm Ag (by omega) (fun h hh=>by subst hh;simp at h2;omega) (by omega) w;rw[h1,h2,h3]at hb;exact⟨_,by simpa using hb,.emp a⟩
       ·cases hv
      ·rename_i id off len cap ep s;split at hv
       ·cases hv
       ·rename_i gW;have gW:sz=s:=asM gW;subst gW;cases hr with
        |sl _ _ _ _ _ _ l c a hl hn gH bu hle fv ha=>
         have known:∀m:Nat,qm.getD c=m→m≤c→(off+m*sz≤l.n)→ql.getD 0≤qh.getD len→qh.getD len≤m→
          some v=some (if m=ql.getD 0 then .emp else .sl id (off+ql.getD 0*sz) (qh.getD len- ql.getD 0) (some (m- ql.getD 0)) ep sz)→
          ∃u,(auf t (.slice (some a) len c) (lo.map r) (hi.map r) (mx.map r)).run P w=.ok u w∧Rv ι v u:=by
          intro m e1 e2 e3 e4 e5 e6;have hb:=mM (P:=P) (a:=some a) (len:=len) (cap:=c) hu aK bl bh bm Ag (by omega) (fun h hh=>by subst hh;simp only[asU]at e5;omega) e4 w;rw[e1]at hb;refine⟨_,hb,?_⟩;by_cases C5:m=ql.getD 0
          ·rw[if_pos C5]at e6;cases e6;rw[if_pos C5,show qh.getD len- ql.getD 0=0 by omega,show m- ql.getD 0=0 by omega];exact .emp a
          ·rw[if_neg C5]at e6;cases e6;rw[if_neg C5];have xz:=ha (by omega);subst xz;simp only[asC,gJ];have FA:ql.getD 0*sz+(m- ql.getD 0)*sz=m*sz:=by rw[←asG];congr 1;omega
           have Wo:ql.getD 0*sz+(qh.getD len- ql.getD 0)*sz=qh.getD len*sz:=by rw[←asG];congr 1;omega
           have Wp:qh.getD len*sz≤m*sz:=asB sz e5;have hm4:m*sz≤c*sz:=asB sz e2;exact .sl _ _ _ _ _ _ l _ _ hl (by omega) (by omega) bu (by omega) (fun k hk=>by cases hk;exact⟨rfl,by omega⟩) (fun _=>rfl)
         split at hv
         ·rename_i _ m;split at hv
          ·rename_i hc;obtain⟨h1,h2,h3⟩:=hc
           have tM:m≤c∧off+m*sz≤l.n:=by
            cases cap with
            |none=>
             simp only[atj]at h3;have:m*sz≤len*sz:=asB sz h3;exact⟨by omega,by omega⟩
            |some k=>
             simp only[asU]at h3;obtain⟨hk,Ah⟩:=fv k rfl;subst hk;have:m*sz≤c*sz:=asB sz h3;exact⟨h3,by omega⟩
           refine known m rfl tM.1 tM.2 h1 h2 ?_;rw[←hv];split<;>rfl
          ·cases hv
         ·rename_i m;split at hv
          ·rename_i hc;obtain⟨h1,h2⟩:=hc;obtain⟨hk,Ah⟩:=fv m rfl;subst hk;refine known c rfl (ar9 _) Ah h1 h2 ?_;rw[←hv];split<;>rfl
          ·cases hv
         ·split at hv
          ·rename_i hc;obtain⟨h1,h2⟩:=hc;cases hv;have hb:=mM (P:=P) (a:=some a) (len:=len) (cap:=c) hu aK bl bh bm Ag (ar9 _) (fun h hh=>by subst hh;simp only[asU,atj]at h2⊢;omega) h1 w;simp only[atj]at hb;have FA:ql.getD 0*sz+(c- ql.getD 0)*sz=c*sz:=by rw[←asG];congr 1;omega
           have Wo:ql.getD 0*sz+(qh.getD len- ql.getD 0)*sz=qh.getD len*sz:=by rw[←asG];congr 1;omega
           have Wp:qh.getD len*sz≤len*sz:=asB sz h2;by_cases eu:c=ql.getD 0
           ·rw[if_pos eu]at hb;exact⟨_,hb,.sl _ _ _ _ _ _ l _ _ hl (by omega) (by omega) bu (by omega) (fun k hk=>by cases hk) (fun h0=>by omega)⟩
           ·rw[if_neg eu]at hb;have xz:=ha (by omega);subst xz;simp only[asC,gJ]at hb;exact⟨_,hb,.sl _ _ _ _ _ _ l _ _ hl (by omega) (by omega) bu (by omega) (fun k hk=>by cases hk) (fun _=>rfl)⟩
          ·cases hv
      ·rename_i s es;split at hv
       ·cases hv
       ·rename_i gW;have gW:sz=s:=asM gW;subst gW;cases hr with
        |tree _ _ b off c us bu qB bD yD hh=>
         split at hv
         ·split at hv
          ·rename_i hc;obtain⟨h1,h2⟩:=hc;cases hv;have hb:=mM (P:=P) (a:=some ⟨b,off,none⟩) (len:=es.length) (cap:=c) hu aK bl bh bm Ag (ar9 _) (fun h hh=>by subst hh;simp only[asU,atj]at h2⊢;omega) h1 w;simp only[atj]at hb;have hlen:((es.take (qh.getD es.length)).drop (ql.getD 0)).length=qh.getD es.length- ql.getD 0:=by simp;omega
           have aeS:∀bb oo,(c≠ql.getD 0→bb=b∧oo=off+ql.getD 0*sz)→Rv ι (.tree sz ((es.take (qh.getD es.length)).drop (ql.getD 0))) (.slice (some ⟨bb,oo,none⟩) (qh.getD es.length- ql.getD 0) (c- ql.getD 0)):=by
            intro bb oo hbo;rw[←hlen];refine .tree _ _ _ _ _ (fun k=>us (ql.getD 0*sz+k)) bu (by omega) (fun e he=>bD e (List.mem_of_mem_take (List.mem_of_mem_drop he))) (fun k hk=>?_) (fun i e j x he hx=>?_)
            ·rw[hlen]at hk;have FA:ql.getD 0*sz+(qh.getD es.length- ql.getD 0)*sz=qh.getD es.length*sz:=by rw[←asG];congr 1;omega
             have Wo:qh.getD es.length*sz≤es.length*sz:=asB sz h2
             have bc:c≠ql.getD 0:=by
              intro eu;have:qh.getD es.length- ql.getD 0=0:=by omega
              rw[this]at hk;omega
             obtain⟨rfl,rfl⟩:=hbo bc;rw[show off+ql.getD 0*sz+k=off+(ql.getD 0*sz+k) by omega];exact yD _ (by omega)
            ·rw[List.getElem?_drop,List.getElem?_take]at he;split at he
             ·have:=hh _ _ _ _ he hx;rwa[asG,Nat.add_assoc]at this
             ·cases he
           by_cases eu:c=ql.getD 0
           ·rw[if_pos eu]at hb;exact⟨_,hb,aeS b off (fun h=>absurd eu h)⟩
           ·rw[if_neg eu]at hb;simp only[asC,gJ]at hb;exact⟨_,hb,aeS b _ (fun _=>⟨rfl,rfl⟩)⟩
          ·cases hv
         ·rename_i m;split at hv
          ·rename_i hc;obtain⟨rfl,h1,h2⟩:=hc;cases hv;have hb:=mM (P:=P) (a:=some ⟨b,off,none⟩) (len:=es.length) (cap:=c) hu aK bl bh bm Ag (asT _) (fun h hh=>by subst hh;simp only[asU]at h2⊢;omega) (by omega) w;rw[h1,h2]at hb;exact⟨_,by simpa using hb,.dW _ _ _ bu (by simp)⟩
          ·cases hv
        |dW _ a c bu hn=>
         split at hv
         ·split at hv
          ·rename_i hc;obtain⟨h1,h2⟩:=hc;cases hv;simp only[att]at h1 h2;have jB:ql.getD 0=0:=by omega
           have Ht:qh.getD 0=0:=by omega
           have hb:=mM (P:=P) (a:=a) (len:=0) (cap:=c) hu aK bl bh bm Ag (ar9 _) (fun h hh=>by subst hh;simp only[asU,atj]at Ht⊢;omega) (by omega) w;simp only[atj,jB,Ht]at hb;refine⟨_,hb,?_⟩;simp only[List.take_nil,List.drop_nil]
           exact .dW _ _ _ bu (fun hx=>by
            cases a with
            |none=>have:=hn rfl;omega
            |some a=>split at hx<;>simp at hx)
          ·cases hv
         ·rename_i m;split at hv
          ·rename_i hc;obtain⟨rfl,h1,h2⟩:=hc;cases hv;have hb:=mM (P:=P) (a:=a) (len:=0) (cap:=c) hu aK bl bh bm Ag (asT _) (fun h hh=>by subst hh;simp only[asU]at h2⊢;omega) (by omega) w;simp only[att]at h2;rw[h1,h2]at hb;exact⟨_,by simpa using hb,.dW _ _ _ bu (by simp)⟩
          ·cases hv
      ·cases hv
    ·rename_i n elem hu;split at hv
     ·rename_i id off ep ext s hs;split at hv
      ·rename_i hc;obtain⟨bu,bc,rfl,h1,h2⟩:=hc;cases hr with
       |ptr _ _ _ _ l hl hx=>
        have hb:=Bb (P:=P) (isSlice:=false) (len:=n) (cap:=n) bl bh bm Ag (ar9 _) (fun h hh=>by subst hh;simpa using h2) h1 w;simp only[atj]at hb
        have fG:(auf t (.pointer (some ⟨l.b,off,none⟩)) (lo.map r) (hi.map r) (mx.map r)).run P w=
         .ok (.slice (some (if n=ql.getD 0 then⟨l.b,off,none⟩else(⟨l.b,off,none⟩:Addr).add (ql.getD 0*s))) (qh.getD n- ql.getD 0) (n- ql.getD 0)) w:=by
         simp only[auf,asa,aN hu,ar8,Instr.sureAddr,asj,hb,eB hs]
        refine⟨_,fG,?_⟩;split at hv
        ·rename_i Hu;cases hv;rw[if_pos Hu,show qh.getD n- ql.getD 0=0 by omega,show n- ql.getD 0=0 by omega];exact .emp _
        ·rename_i Hu;cases hv;rw[if_neg Hu,gJ];have FA:ql.getD 0*s+(n- ql.getD 0)*s=n*s:=by rw[←asG];congr 1;omega
         have Wo:ql.getD 0*s+(qh.getD n- ql.getD 0)*s=qh.getD n*s:=by rw[←asG];congr 1;omega
         have Wp:qh.getD n*s≤n*s:=asB s h2;exact .sl _ _ _ _ _ _ l _ _ hl (by omega) (by omega) (by omega) (by omega) (fun k hk=>by cases hk;exact⟨rfl,by omega⟩) (fun _=>rfl)
      ·cases hv
     ·cases hv
    ·cases hv
  ·cases hv
 ·cases h
end Go.Ev
namespace Go.Ev
variable{P:Program}{N ro:Nat}{ι:Io}{w:World}{σ:St}{ρ:Operand→IV}{r:Operand→Value}{o:Oper}{out:ez}
theorem M6{c:Call}{b:Builtin}(ho:o.op=.call c)(hb:c.callee=.builtin b):
 execOp r o=builtin b c.argTypes o.type (c.args.map fun|.const _=>true|_=>false) (c.args.map r):=by
 simp only[execOp,ho,resolve,hb];rfl
def xB(P:Program)(ro:Nat)(N:Nat)(ι:Io)(w:World)(σ:St)(s:Sem Next)(out:ez):Prop:=
 ∃v ah,out=.val v ah∧(ah.n≤N→Ho ro N ι w σ (s.run P w) v ah)
theorem xB.Wq{s:Sem Value}{v:IV}{ah:St}(h:ah.n≤N→qC P ro N ι w σ s v ah):xB P ro N ι w σ (do pure (.value (←s))) (.val v ah):=by
 refine⟨v,ah,rfl,fun hN=>?_⟩;obtain⟨u,w',ay,h1,h2,h3,h4⟩:=h hN;exact⟨u,w',ay,.inl (by simp only[asa,h1,ar8,asj]),h2,h3,h4⟩
theorem xB.same{s:Sem Value}{v:IV}{u:Value}(hi:Inv N ι σ w)(h:s.run P w=.ok u w)(hr:Rv ι v u):xB P ro N ι w σ (do pure (.value (←s))) (.val v σ):=
 xB.Wq fun _=>⟨u,w,ι,h,hr,hi,Le.refl _ _ _ _⟩
theorem uc{x:IV}{vs:List Value}(h:ax ι [x] vs):∃v,vs=[v]∧Rv ι x v:=by
 obtain⟨v,vZ,rfl,h1,h2⟩:=h.sj;exact⟨v,by rw[h2.of_nil],h1⟩
theorem Je{x y:IV}{vs:List Value}(h:ax ι [x,y] vs):∃v u,vs=[v,u]∧Rv ι x v∧Rv ι y u:=by
 obtain⟨v,vZ,rfl,h1,h2⟩:=h.sj;obtain⟨u,rfl,h3⟩:=uc h2;exact⟨v,u,rfl,h1,h3⟩
theorem adp{argTypes:Array TypeId}{ty:TypeId}{x v:IV}{u:Value}(hi:Inv N ι σ w)(hr:Rv ι x u)(h:oj P argTypes x σ=some v):∃z,(awM argTypes ty #[u]).run P w=.ok z w∧Rv ι v z:=by
 unfold oj at h;cases rQ:argTypes[0]? with
 |none=>simp[rQ]at h
 |some t=>
  rw[rQ,asc]at h;have e1:(#[u]:Array Value)[0]?=some u:=rfl;unfold awM;rw[rQ,e1];split at h
  ·rename_i hu;cases h;cases hr;exact⟨_,by simp only[asa,aN hu,ar8,asj,goInt],.raw _⟩
  ·rename_i hu;cases h;cases hr;exact⟨_,by simp only[asa,aN hu,ar8,asj,goInt];rfl,.raw _⟩
  ·rename_i hu;cases h;cases hr<;>
   exact⟨_,by simp only[asa,aN hu,ar8,asj,goInt]<;>rfl,.raw _⟩
  ·rename_i hu;cases h;cases hr;exact⟨_,by simp only[asa,aN hu,ar8,asj,goInt],.raw _⟩
  ·rename_i hu;cases h;cases hr;exact⟨_,by simp only[asa,aN hu,ar8,asj,goInt],.raw _⟩
  ·rename_i hu;cases h;cases hr;exact⟨_,by simp only[asa,aN hu,ar8,asj,goInt],.raw _⟩
  ·rename_i id hu;split at h
   ·rename_i es clock az;cases h;cases hr with
    |map _ l hl=>
     obtain⟨l',res,cd,hh,he⟩:=hi.obj id _ az;rw[hl]at cd;cases cd;have:(getObj l.b).run P w=.ok (.map res clock) w:=by simp[getObj,atX,hh]
     refine⟨.int .i64 res.size,?_,?_⟩
     ·simp only[asa,aN hu,ar8,this,asj,goInt]
     ·rw[←he.1];exact .raw _
   ·cases h
  ·rename_i n e hu;cases h;exact⟨.int .i64 n,by simp only[asa,aN hu,ar8];rfl,.raw _⟩
  ·cases h
theorem adq{argTypes:Array TypeId}{ty:TypeId}{x v:IV}{u:Value}(hr:Rv ι x u)(h:TR P argTypes x=some v):∃z,(awN argTypes ty #[u]).run P w=.ok z w∧Rv ι v z:=by
 unfold TR at h;cases rQ:argTypes[0]? with
 |none=>simp[rQ]at h
 |some t=>
  rw[rQ,asc]at h;have e1:(#[u]:Array Value)[0]?=some u:=rfl;unfold awN;rw[rQ,e1];split at h
  ·rename_i c _ _ hu;cases h;cases hr with
   |sl _ _ _ _ _ _ l c' a hl hn gH bu hle fv ha=>
    obtain⟨rfl,_⟩:=fv _ rfl;exact⟨_,by simp only[asa,aN hu,ar8,asj,goInt],.raw _⟩
  ·rename_i hu;cases h;cases hr;exact⟨_,by simp only[asa,aN hu,ar8,asj,goInt];rfl,.raw _⟩
  ·rename_i hu;cases h;cases hr;exact⟨_,by simp only[asa,aN hu,ar8,asj,goInt],.raw _⟩
  ·rename_i n e hu;cases h;exact⟨.int .i64 n,by simp only[asa,aN hu,ar8];rfl,.raw _⟩
  ·cases h
theorem bO{b:Nat}{ob:axj}(h:w.heap[b]?=some ob)(hc:∀c e f,ob≠.cells c e f):(getObj b).run P w=.ok ob w:=by
 simp only[getObj,atX,h]
theorem eD{b:Nat}{ob eF:axj}(h:w.heap[b]?=some ob)(hc:∀c e f,ob≠.cells c e f):(setObj b eF).run P w=.ok () {w with heap:=w.heap.setIfInBounds b eF}:=by
 simp only[setObj,atX,h]
theorem Inv.j2(hi:Inv N ι σ w){id:Nat}{ob eF:Ob}{l:Loc}{go:axj}(az:σ.at id=some ob)(cy:ro≤id)(hl:ι id 0=some l)(dr:j9 ι {w with heap:=w.heap.setIfInBounds l.b go} id eF):
 Inv N ι (σ.put id eF) {w with heap:=w.heap.setIfInBounds l.b go}∧Le ro ι w σ ι {w with heap:=w.heap.setIfInBounds l.b go} (σ.put id eF):=by
 refine hi.put az cy ⟨_,_,hl⟩ (Ext.refl _) (fun _ _ _=>rfl) (fun b hb=>.inl hb) (by simp) (fun b _ gE=>?_) rfl rfl rfl dr;have:l.b≠b:=fun e=>gE ⟨0,l,hl,e⟩;simp[this]
theorem Wr{argTypes:Array TypeId}{ty:TypeId}{x:IV}{u:Value}(hi:Inv N ι σ w)(hr:Rv ι x u)(h:si P ro argTypes x σ=some out):
 ∃v ah,out=.val v ah∧(ah.n≤N→qC P ro N ι w σ (aww argTypes ty #[u]) v ah):=by
 unfold si at h;cases rQ:argTypes[0]? with
 |none=>simp[rQ]at h
 |some t=>
  rw[rQ,asc]at h;have e1:(#[u]:Array Value)[0]?=some u:=rfl
  have idle:∀{d:TypeDesc},P.underlying t=some d→(∃l c,u=.slice none l c)∨u=.map none∨(∃a c,u=.slice a 0 c)→
   qC P ro N ι w σ (aww argTypes ty #[u]) .undef σ:=by
   intro d hu hc;unfold aww;rw[rQ,e1];refine⟨.tuple #[],w,ι,?_,.raw _,hi,Le.refl _ _ _ _⟩;rcases hc with⟨l,c,rfl⟩|rfl|⟨a,c,rfl⟩
   ·simp only[asa,aN hu,ar8];cases d<;>rfl
   ·simp only[asa,aN hu,ar8];cases d<;>rfl
   ·cases a<;>(simp only[asa,aN hu,ar8];cases d<;>rfl)
  split at h
  ·rename_i hu;obtain rfl:=aE h;cases hr;exact⟨_,_,rfl,fun _=>idle hu (.inl ⟨_,_,rfl⟩)⟩
  ·rename_i hu;obtain rfl:=aE h;cases hr;exact⟨_,_,rfl,fun _=>idle hu (.inr (.inl rfl))⟩
  ·rename_i hu;obtain rfl:=aE h;cases hr;exact⟨_,_,rfl,fun _=>idle hu (.inr (.inr ⟨_,_,rfl⟩))⟩
  ·rename_i id hu;split at h
   ·rename_i es clock az;split at h
    ·rename_i cy;obtain rfl:=aE h;refine⟨_,_,rfl,fun hN=>?_⟩;unfold aww;rw[rQ,e1];cases hr with
     |map _ l hl=>
      obtain⟨l',res,cd,hh,he⟩:=hi.obj id _ az;rw[hl]at cd;cases cd;have aa:l.b<w.heap.size:=hi.jA id _ ⟨_,_,hl,rfl⟩;obtain⟨h1,h2⟩:=hi.j2 (ro:=ro) (eF:=.map [] clock) (go:=.map #[] clock) az cy hl ⟨l, #[],hl,by simp[aa],by simp,fun i e r h=>by simp at h⟩;refine⟨.tuple #[],_,ι,?_,.raw _,h1,h2⟩;simp only[asa,aN hu,ar8,bO (P:=P) hh (by simp),eD (P:=P) hh (by simp),asj]
    ·cases h
   ·cases h
  ·rename_i elem id off len cap ep s hu;split at h
   ·rename_i h0;obtain rfl:=aE h;subst h0;cases hr with
    |sl _ _ _ _ _ _ l c' a hl hn gH bu hle fv ha=>exact⟨_,_,rfl,fun _=>idle hu (.inr (.inr ⟨_,_,rfl⟩))⟩
   ·rename_i h0;split at h
    ·rename_i cs ar mn az;split at h
     ·rename_i z hz;split at h
      ·rename_i hc;obtain⟨hs,rP,bf,cy,rfl,C1⟩:=hc;obtain rfl:=aE h;refine⟨_,_,rfl,fun hN=>?_⟩;unfold aww;rw[rQ,e1];cases hr with
       |sl _ _ _ _ _ _ l c' a hl hn gH bu hle fv ha=>
        have Fx:=yE (ι:=ι) z s len rP hs;have mv:=C2 z s len rP;obtain⟨l2,cc,el,fi,vm,aa,r1,r2⟩:=hi.write (ro:=ro) (off:=off) az cy (by rw[Fx.1,mv];exact C1) Fx;rw[hl]at fi;cases fi;have xz:=ha (by omega);subst xz;refine⟨.tuple #[],_,ι,?_,.raw _,r1,r2⟩
        have FB:atL z.cells len=((List.replicate len z.cells.toList).flatten).toArray:=by
         unfold atL;have:=xx z.cells s len rP hs;rwa[←rP]at this
        simp only[asa,aN hu,ar8];simp only[iu hz,ar8,FB,ll (P:=P) vm aa (so Fx bf),asj]
      ·cases h
     ·cases h
    ·cases h
  ·cases h
theorem ZP{argTypes:Array TypeId}{ty:TypeId}{d s:IV}{vd vs:Value}(hi:Inv N ι σ w)(hd:Rv ι d vd)(hs:Rv ι s vs)(h:Er P ro argTypes d s σ=some out):
 ∃v ah,out=.val v ah∧(ah.n≤N→qC P ro N ι w σ (avR argTypes ty #[vd,vs]) v ah):=by
 unfold Er at h;cases rQ:argTypes[0]? with
 |none=>simp[rQ]at h
 |some t=>
  rw[rQ,asc]at h;split at h
  ·rename_i elem hu;split at h
   ·rename_i size dl sl aK Rz oE;split at h
    ·rename_i new dG;split at h
     ·cases h
     ·rename_i hc;have hlen:new.length=auX sl dl*size:=asM fun e=>hc (.inl e);have bf:new.all ab=true:=by cases hb:new.all ab with|true=>rfl|false=>exact absurd (.inr hb) hc
      obtain⟨b_,Hs,hrv⟩:=yF (P:=P) hi dG hs;have fN:=Rt (P:=P) oE hs w;have e0:(#[vd,vs]:Array Value)[0]?=some vd:=rfl;have e1:(#[vd,vs]:Array Value)[1]?=some vs:=rfl
      have run:∀{base:Option Addr} {cap:Nat},vd=.slice base dl cap→(avR argTypes ty #[vd,vs]).run P w=
       ((match base with|some a=>(storeCells a b_).run P w|none=>.ok () w).andThen fun _ w'=>.ok (.int .i64 (auX sl dl)) w'):=by
       intro base cap hv;unfold avR;rw[rQ,e0,e1];subst hv;simp only[asa,aN hu,ar8,fN,eB aK,Hs w rfl];cases base<;>simp[goInt]
      split at h
      ·obtain rfl:=aE h;refine⟨_,_,rfl,fun _=>?_⟩;have h0:dl=0:=by simp[j8]at Rz;exact Rz.symm
       subst h0;cases hd;exact⟨_,w,ι,run rfl,.raw _,hi,Le.refl _ _ _ _⟩
      ·obtain rfl:=aE h;refine⟨_,_,rfl,fun _=>?_⟩;have h0:dl=0:=by simp[j8]at Rz;exact Rz.symm
       subst h0;cases hd with
       |emp a=>
        have hv0:b_=[]:=asH (by have:=hrv.1;have:auX sl 0=0:=axw sl;rw[this]at hlen;omega);subst hv0;exact⟨_,w,ι,(run rfl).trans (by simp[storeCells]),.raw _,hi,Le.refl _ _ _ _⟩
      ·rename_i id off len cap ep st;have h0:len=dl:=by simp[j8]at Rz;exact Rz
       subst h0;cases hd with
       |sl _ _ _ _ _ _ l c' a hl hn gH bu hle fv ha=>
        split at h
        ·rename_i hz;obtain rfl:=aE h;refine⟨_,_,rfl,fun _=>?_⟩;have hv0:b_=[]:=asH (by have:=hrv.1;rw[hz]at hlen;omega);subst hv0;refine⟨.int .i64 (auX sl len),w,ι,(run rfl).trans (by simp[storeCells]),?_,hi,Le.refl _ _ _ _⟩;rw[hz];exact .raw _
        ·rename_i hz;split at h
         ·rename_i cs ar mn az;split at h
          ·rename_i nH;obtain⟨rfl,cy,rfl,C1⟩:=nH;obtain rfl:=aE h;refine⟨_,_,rfl,fun _=>?_⟩;obtain⟨l2,cc,el,fi,vm,aa,r1,r2⟩:=hi.write (ro:=ro) (off:=off) az cy (by rw[hlen];exact C1) hrv;rw[hl]at fi;cases fi
           have om:0<len:=by
            rcases Nat.eq_zero_or_pos len with h|h
            ·subst h;exact absurd (axw sl) hz
            ·exact h
           have xz:=ha (by omega);subst xz;refine⟨_,_,ι,(run rfl).trans ?_,.raw _,r1,r2⟩;simp only[ll (P:=P) vm aa (so hrv bf),ar8]
          ·cases h
         ·cases h
      ·cases h
    ·cases h
   ·cases h
  ·cases h
end Go.Ev
namespace Go.Ev
variable{P:Program}{N ro:Nat}{ι:Io}{w:World}{σ:St}{ρ:Operand→IV}{r:Operand→Value}{o:Oper}{out:ez}
theorem bj{α β:Type}(x:Sem α)(f:α→Sem β):aJ P (x>>=f)=(aJ P x).bind fun a=>aJ P (f a):=by
 show aJ P (x.bind f)=_;induction x with
 |pure a=>rfl
 |program k ih=>simp only[Sem.bind,aJ];exact ih P
 |mark m k ih=>simp only[Sem.bind,aJ];exact ih
 |_=>rfl
theorem l9{α β:Type}{x:Sem α}{f:α→Sem β}{b:β}(h:aJ P (x>>=f)=some b):∃a,aJ P x=some a∧aJ P (f a)=some b:=by
 rw[bj]at h;exact Option.bind_eq_some_iff.1 h
def SameKeys(es aB:List MapEntry):Prop:=es.length=aB.length∧∀(i:Nat) (e e':MapEntry),es[i]?=some e→aB[i]?=some e'→e.key=e'.key
theorem SameKeys.tail{e e':MapEntry}{es aB:List MapEntry}(h:SameKeys (e::es) (e'::aB)):e.key=e'.key∧SameKeys es aB:=
 ⟨h.2 0 e e' rfl rfl,by simpa using h.1,fun i a b h1 h2=>h.2 (i+1) a b h1 h2⟩
theorem C6{kind:TypeDesc}{k:Value}:∀{es aB:List MapEntry} (i:Nat) {q:Option (Nat×Value)},SameKeys es aB→ath kind k es i=some q→
 (q=none∧ath kind k aB i=some none)∨(∃j v e',q=some (j,v)∧i≤j∧aB[j- i]?=some e'∧ath kind k aB i=some (some (j,e'.val)))
 |[],aB,i,q,hk,h=>by
  cases aB with
  |nil=>simp only[ath,ar7]at h;subst h;exact .inl ⟨rfl,rfl⟩
  |cons a b=>have:=hk.1;simp at this
 |e::es,aB,i,q,hk,h=>by
  cases aB with
  |nil=>have:=hk.1;simp at this
  |cons e' aB=>
   obtain⟨h1,h2⟩:=hk.tail;simp only[ath]at h⊢;rw[h1]at h;split at h
   ·rename_i hs;cases h;exact .inr ⟨i,_,e',rfl,ar9 _,by simp,rfl⟩
   ·rename_i hs;rcases C6 (i+1) h2 h with⟨h3,h4⟩|⟨j,v,e2,h3,h4,h5,h6⟩
    ·exact .inl ⟨h3,h4⟩
    ·refine .inr ⟨j,v,e2,h3,by omega,?_,h6⟩;rw[show j- i=(j-(i+1))+1 by omega,auu];exact h5
   ·cases h
theorem C7{kind:TypeDesc}{k:Value}:∀{es aB:List MapEntry} (i:Nat),SameKeys es aB→ath kind k es i=none→ath kind k aB i=none
 |[],aB,i,hk,h=>by simp[ath]at h
 |e::es,aB,i,hk,h=>by
  cases aB with
  |nil=>have:=hk.1;simp at this
  |cons e' aB=>
   obtain⟨h1,h2⟩:=hk.tail;simp only[ath]at h⊢;rw[h1]at h;split at h
   ·cases h
   ·exact C7 (i+1) h2 h
   ·rfl
theorem yI{kt:TypeId}{k:Value}:∀{es aB:List MapEntry} (i:Nat) {q:Option (Nat×Value)},SameKeys es aB→aJ P (as0 kt k es i)=some q→
 (q=none∧∀w,(as0 kt k aB i).run P w=.ok none w)∨(∃j v e',q=some (j,v)∧i≤j∧aB[j- i]?=some e'∧∀w,(as0 kt k aB i).run P w=.ok (some (j,e'.val)) w)
 |[],aB,i,q,hk,h=>by
  cases aB with
  |nil=>simp only[as0]at h;cases h;exact .inl ⟨rfl,fun w=>rfl⟩
  |cons a b=>have:=hk.1;simp at this
 |e::es,aB,i,q,hk,h=>by
  cases aB with
  |nil=>have:=hk.1;simp at this
  |cons e' aB=>
   obtain⟨h1,h2⟩:=hk.tail;simp only[as0]at h⊢;rw[h1]at h;obtain⟨b,hb,h⟩:=l9 h;cases b with
   |true=>
    simp only[if_true]at h;cases h;refine .inr ⟨i,_,e',rfl,ar9 _,by simp,fun w=>?_⟩;simp only[asa,eN w _ hb,ar8,if_true,asj]
   |false=>
    simp only[asD,if_false]at h;rcases yI (i+1) h2 h with⟨h3,h4⟩|⟨j,v,e2,h3,h4,h5,h6⟩
    ·refine .inl ⟨h3,fun w=>?_⟩;simp only[asa,eN w _ hb,ar8,asD,if_false,h4]
    ·refine .inr ⟨j,v,e2,h3,by omega,?_,fun w=>?_⟩
     ·rw[show j- i=(j-(i+1))+1 by omega,auu];exact h5
     ·simp only[asa,eN w _ hb,ar8,asD,if_false,h6]
theorem oV{empty:Bool}{kt:TypeId}{k:Value}{es:List (Value×IV×Nat)}{res:Array MapEntry}{q:Option Nat}(he:gg ι es res)(h:gG P empty kt k es=some q)(w:World):
 (Instr.checkKey empty 10000 kt k).run P w=.ok () w∧
 ((q=none∧(atB kt k res.toList).run P w=.ok none w)∨(∃i e rr,q=some i∧es[i]?=some e∧res[i]?=some rr∧(atB kt k res.toList).run P w=.ok (some (i,rr.val)) w)):=by
 have hk:SameKeys (es.map fun e=>{key:=e.1,val:=asQ,born:=e.2.2}) res.toList:=by
  refine⟨by simp[he.1],fun i a b h1 h2=>?_⟩;simp only[List.getElem?_map,ar_]at h1;obtain⟨e,h1,rfl⟩:=h1;exact(he.2 i e b h1 (by simpa using h2)).1.symm
 have fin:∀{q':Option (Nat×Value)},aJ P (atB kt k (es.map fun e=>{key:=e.1,val:=asQ,born:=e.2.2}))=some q'→
  (q'=none∧(atB kt k res.toList).run P w=.ok none w)∨(∃i v rr,q'=some (i,v)∧res[i]?=some rr∧(atB kt k res.toList).run P w=.ok (some (i,rr.val)) w):=by
  intro q' h;unfold atB at h⊢;obtain⟨d,hd,h⟩:=l9 h;have Hv:=eN w _ hd;simp only[asa,Hv,ar8];split at h
  ·rename_i q2 M7;cases h;rcases C6 0 hk M7 with⟨h3,h4⟩|⟨j,v,e2,h3,h4,h5,h6⟩
   ·exact .inl ⟨h3,by rw[h4];rfl⟩
   ·exact .inr ⟨j,v,e2,h3,by simpa using h5,by rw[h6];rfl⟩
  ·rename_i M7;rw[C7 0 hk M7];rcases yI 0 hk h with⟨h3,h4⟩|⟨j,v,e2,h3,h4,h5,h6⟩
   ·exact .inl ⟨h3,h4 w⟩
   ·exact .inr ⟨j,v,e2,h3,by simpa using h5,h6 w⟩
 unfold gG at h;split at h
 ·rename_i i v hp;cases h;obtain⟨_,h1,h2⟩:=l9 hp;refine⟨eN w _ h1,.inr ?_⟩;rcases fin h2 with⟨h3,_⟩|⟨j,v',rr,h3,h4,h5⟩
  ·cases h3
  ·cases h3;have aa:i<es.length:=by have:=(asW.1 h4).1;have:=he.1;omega
   exact⟨i,es[i],rr,rfl,List.getElem?_eq_getElem aa,h4,h5⟩
 ·rename_i hp;cases h;obtain⟨_,h1,h2⟩:=l9 hp;refine⟨eN w _ h1,.inl ⟨rfl,?_⟩⟩;rcases fin h2 with⟨_,h4⟩|⟨j,v',rr,h3,h4,h5⟩
  ·exact h4
  ·cases h3
 ·cases h
theorem gg.nil:gg ι [] #[]:=⟨rfl,fun i e r h=>by simp at h⟩
theorem gg.isEmpty{es:List (Value×IV×Nat)}{res:Array MapEntry}(h:gg ι es res):es.isEmpty=res.isEmpty:=by
 have:=h.1;rw[Bool.eq_iff_iff,atg,Array.isEmpty_iff];rw[←List.length_eq_zero_iff,←Array.size_eq_zero_iff,this]
theorem Ws{t:TypeId}{x ix:Operand}{ok:Bool}(hi:Inv N ι σ w)(hr:Rv ι (ρ x) (r x))(oD:Rv ι (ρ ix) (r ix))(ho:o.op=.lookup t x ix ok)(h:ak P ro ρ o σ=some out):a_ P ro N ι w σ r o out:=by
 unfold ak at h;rw[ho]at h;simp only at h;split at h
 ·rename_i kt elem es key hu gh mw;have hk:=ua mw oD
  have ZQ:∃res,gg ι es res∧((r x=.map none∧res= #[])∨∃b clock,r x=.map (some b)∧w.heap[b]?=some (.map res clock)):=by
   generalize hq:r x=q at hr;unfold entriesOf at gh;split at gh
   ·rename_i hx;rw[hx]at hr;cases gh;cases hr;exact⟨#[],gg.nil,.inl ⟨rfl,rfl⟩⟩
   ·rename_i id hx;rw[hx]at hr;split at gh
    ·rename_i aB clock az;cases gh;cases hr with
     |map _ l hl=>
      obtain⟨l',res,cd,hh,he⟩:=hi.obj id _ az;rw[hl]at cd;cases cd;exact⟨res,he,.inr ⟨l.b,clock,rfl,hh⟩⟩
    ·cases gh
   ·cases gh
  obtain⟨res,he,eo⟩:=ZQ;split at h
  ·rename_i i z xC hz;split at h
   ·rename_i e sy;obtain rfl:=aE h;obtain⟨hc,hf⟩:=oV he xC w;rcases hf with⟨hn,_⟩|⟨j,e',rr,hj,h1,h2,h3⟩
    ·cases hn
    ·cases hj;rw[sy]at h1;cases h1;obtain⟨_,hv,_⟩:=he.2 i e rr sy h2;refine a_.same hi (u:=if ok then .tuple #[rr.val,.bool true]else rr.val) ?_ ?_
     ·rw[he.isEmpty]at hc;rcases eo with⟨hx,rfl⟩|⟨b,clock,hx,hh⟩
      ·simp only[execOp,ho,avn,asa,aN hu,ar8,hx,hk,hc,h3,asj]
      ·simp only[execOp,ho,avn,asa,aN hu,ar8,hx,bO (P:=P) hh (by simp),hk,hc,h3,asj]
     ·cases ok
      ·exact hv
      ·have:=ax.cons hv (ax.cons (Rv.raw (ι:=ι) (.bool true)) ax.nil);exact .av _ _ this.1 this.2
   ·cases h
  ·rename_i z xC hz;obtain rfl:=aE h;obtain⟨hc,hf⟩:=oV he xC w;rcases hf with⟨_,h3⟩|⟨j,e',rr,hj,h1,h2,h3⟩
   ·refine a_.same hi (u:=if ok then .tuple #[z,.bool false]else z) ?_ ?_
    ·rw[he.isEmpty]at hc;rcases eo with⟨hx,rfl⟩|⟨b,clock,hx,hh⟩
     ·simp only[execOp,ho,avn,asa,aN hu,ar8,hx,hk,hc,h3,iu hz,asj]
     ·simp only[execOp,ho,avn,asa,aN hu,ar8,hx,bO (P:=P) hh (by simp),hk,hc,h3,iu hz,asj]
    ·cases ok
     ·exact Rv.lift z
     ·have:=ax.cons (Rv.lift (ι:=ι) z) (ax.cons (Rv.raw (ι:=ι) (.bool false)) ax.nil);exact .av _ _ this.1 this.2
   ·cases hj
  ·cases h
 ·cases h
theorem gg.set{es:List (Value×IV×Nat)}{res:Array MapEntry}{i:Nat}{e:Value×IV×Nat}{key:Value}{v:IV}{u:Value}{f:MapEntry→MapEntry}(h:gg ι es res)(he:es[i]?=some e)(hv:Rv ι v u)
 (hf:∀rr,res[i]?=some rr→f rr={key:=key,val:=u,born:=rr.born}):gg ι (es.set i (key,v,e.2.2)) (res.modify i f):=by
 refine⟨by simp[h.1],fun j a b h1 h2=>?_⟩;rw[List.getElem?_set]at h1;rw[Array.getElem?_modify]at h2;by_cases qD:i=j
 ·subst qD;rw[if_pos rfl]at h1 h2;split at h1
  ·cases h1;cases hrr:res[i]? with
   |none=>simp[hrr]at h2
   |some rr=>
    obtain⟨_,_,hb⟩:=h.2 i e rr he hrr;simp only[hrr,asC,ar7]at h2;rw[hf rr hrr]at h2;subst h2;exact⟨rfl,hv,hb⟩
  ·cases h1
 ·rw[if_neg qD]at h1 h2;exact h.2 j a b h1 h2
theorem gg.push{es:List (Value×IV×Nat)}{res:Array MapEntry}{key:Value}{v:IV}{u:Value}{n:Nat}(h:gg ι es res)(hv:Rv ι v u):gg ι (es++[(key,v,n)]) (res.push {key:=key,val:=u,born:=n}):=by
 refine⟨by simp[h.1],fun j a b h1 h2=>?_⟩;rw[Array.getElem?_push]at h2;by_cases hj:j<es.length
 ·rw[List.getElem?_append_left hj]at h1;rw[if_neg (by have:=h.1;omega)]at h2;exact h.2 j a b h1 h2
 ·rw[List.getElem?_append_right (by omega)]at h1;by_cases yJ:j=es.length
  ·subst yJ;rw[if_pos h.1]at h2;simp at h1 h2;subst h1 h2;exact⟨rfl,hv,rfl⟩
  ·have:1≤j- es.length:=by omega
   rw[List.getElem?_eq_none (by simp;omega)]at h1;cases h1
theorem Ai(hi:Inv N ι σ w){id clock:Nat}{es:List (Value×IV×Nat)}{u:Value}(hr:Rv ι (.map id) u)(az:σ.at id=some (.map es clock)):
 ∃l res,u=.map (some l.b)∧ι id 0=some l∧w.heap[l.b]?=some (.map res clock)∧l.b<w.heap.size∧gg ι es res:=by
 cases hr with
 |map _ l hl=>
  obtain⟨l',res,cd,hh,he⟩:=hi.obj id _ az;rw[hl]at cd;cases cd;exact⟨l,res,rfl,hl,hh,hi.jA id _ ⟨_,_,hl,rfl⟩,he⟩
theorem mV{l:Loc}{id clock:Nat}{es:List (Value×IV×Nat)}{res:Array MapEntry}(hl:ι id 0=some l)(aa:l.b<w.heap.size)(he:gg ι es res):
 j9 ι {w with heap:=w.heap.setIfInBounds l.b (.map res clock)} id (.map es clock):=⟨l,res,hl,by simp[aa],he⟩
theorem Kq{cu new:Value}(h:Instr.sameBits 10000 cu new=true)(w:World):(auJ cu new).run P w=.ok new w:=by
 unfold auJ;rw[if_pos h];rfl
theorem Wt{t kt elem:TypeId}{m k v:IV}{um uk uv:Value}{ah:St}(hi:Inv N ι σ w)(hu:P.underlying t=some (.map kt elem))(hm:Rv ι m um)(hk:Rv ι k uk)(hv:Rv ι v uv)
 (h:oS P ro kt m k v σ=some ah):∃w',(avE t um uk uv).run P w=.ok () w'∧Inv N ι ah w'∧Le ro ι w σ ι w' ah:=by
 unfold oS at h;split at h
 ·rename_i id key mw;have wb:=ua mw hk;subst wb;split at h
  ·rename_i es clock az;obtain⟨l,res,rfl,hl,hh,aa,he⟩:=Ai hi hm az;split at h
   ·cases h
   ·rename_i cy;have cy:ro≤id:=aua fun h=>cy (by omega);split at h
    ·rename_i i xC;split at h
     ·rename_i e sy;split at h
      ·rename_i Wu;cases h;obtain⟨hc,hf⟩:=oV he xC w;rcases hf with⟨hn,_⟩|⟨j,e',rr,hj,h1,h2,h3⟩
       ·cases hn
       ·cases hj;rw[sy]at h1;cases h1;have Hw:=(he.2 i e rr sy h2).1;obtain⟨r1,r2⟩:=hi.j2 (ro:=ro) az cy hl (mV (clock:=clock) hl aa (he.set sy hv (key:=uk) (f:=fun e=>{e with key:=uk,val:=uv}) (fun rr _=>rfl)));refine⟨_,?_,r1,r2⟩
        have dK:(auJ (((res[i]?).map (·.key)).getD uk) uk).run P w=.ok uk w:=by
         rw[h2];simp only[asC,asU];exact Kq (by rw[Hw];exact Wu) w
        simp only[avE,asa,aN hu,ar8,bO (P:=P) hh (by simp),hc,h3,dK,eD (P:=P) hh (by simp)]
      ·cases h
     ·cases h
    ·rename_i xC;cases h;obtain⟨hc,hf⟩:=oV he xC w;rcases hf with⟨_,h3⟩|⟨j,e',rr,hj,h1,h2,h3⟩
     ·obtain⟨r1,r2⟩:=hi.j2 (ro:=ro) az cy hl (mV (clock:=clock+1) hl aa (he.push hv (key:=uk) (n:=clock)));refine⟨_,?_,r1,r2⟩;simp only[avE,asa,aN hu,ar8,bO (P:=P) hh (by simp),hc,h3,eD (P:=P) hh (by simp)]
     ·cases hj
    ·cases h
  ·cases h
 ·cases h
theorem C8{t:TypeId}{m k x:Operand}(hi:Inv N ι σ w)(hm:Rv ι (ρ m) (r m))(hk:Rv ι (ρ k) (r k))(hx:Rv ι (ρ x) (r x))(ho:o.op=.mapUpdate t m k x∨o.op=.insert t m k x)
 (h:ak P ro ρ o σ=some out):a_ P ro N ι w σ r o out:=by
 have h':(match P.underlying t with
  |some (.map kt _)=>match oS P ro kt (ρ m) (ρ k) (ρ x) σ with
   |some ah=>ret .undef ah
   |none=>none
  |_=>none)=some out:=by
  unfold ak at h;rcases ho with ho|ho<;>rw[ho]at h<;>exact h
 clear h;split at h'
 ·rename_i kt elem hu;split at h'
  ·rename_i ah hs;obtain rfl:=aE h';intro hN;obtain⟨w',h1,h2,h3⟩:=Wt (N:=N) hi hu hm hk hx hs;refine⟨asQ,w',ι,.inr ⟨?_,rfl⟩,.raw _,h2,h3⟩;rcases ho with ho|ho<;>simp only[execOp,ho,asa,h1,ar8,asj]
  ·cases h'
 ·cases h'
theorem Q3{t:TypeId}{m k:Operand}(hi:Inv N ι σ w)(hm:Rv ι (ρ m) (r m))(hk:Rv ι (ρ k) (r k))(ho:o.op=.mapEntry t m k)(h:ak P ro ρ o σ=some out):a_ P ro N ι w σ r o out:=by
 unfold ak at h;rw[ho]at h;simp only at h;split at h
 ·rename_i kt elem hu;split at h
  ·rename_i z id key hz kQ mw;have wb:=ua mw hk;rw[kQ]at hm;split at h
   ·rename_i es clock az;obtain⟨l,res,Kr,hl,hh,aa,he⟩:=Ai hi hm az;split at h
    ·cases h
    ·rename_i cy;have cy:ro≤id:=aua fun h=>cy (by omega);split at h
     ·rename_i i xC;split at h
      ·rename_i e sy;split at h
       ·rename_i Wu;obtain rfl:=aE h;intro hN;obtain⟨hc,hf⟩:=oV he xC w;rcases hf with⟨hn,_⟩|⟨j,e',rr,hj,h1,h2,h3⟩
        ·cases hn
        ·cases hj;rw[sy]at h1;cases h1;obtain⟨Hw,hvr,hbr⟩:=he.2 i e rr sy h2;obtain⟨r1,r2⟩:=hi.j2 (ro:=ro) az cy hl (mV (clock:=clock) hl aa (he.set sy hvr (key:=key) (f:=fun e=>{e with key:=key}) (fun rr' M8=>by rw[h2]at M8;cases M8;rfl)));refine⟨.tuple #[rr.val,.int .i64 e.2.2],_,ι,.inl ?_,?_,r1,r2⟩
         ·have dK:(auJ rr.key key).run P w=.ok key w:=Kq (by rw[Hw];exact Wu) w;simp only[execOp,ho,awO,Kr,wb,asa,aN hu,ar8,bO (P:=P) hh (by simp),hc,h3,dK,eD (P:=P) hh (by simp),asj,h2,asC,asU,hbr,goInt]
         ·have:=ax.cons hvr (ax.cons (Rv.raw (ι:=ι) (.int .i64 e.2.2)) ax.nil);exact .av _ _ this.1 this.2
       ·cases h
      ·cases h
     ·rename_i xC;obtain rfl:=aE h;intro hN;obtain⟨hc,hf⟩:=oV he xC w;rcases hf with⟨_,h3⟩|⟨j,e',rr,hj,h1,h2,h3⟩
      ·obtain⟨r1,r2⟩:=hi.j2 (ro:=ro) az cy hl (mV (clock:=clock+1) hl aa (he.push (Rv.lift (ι:=ι) z) (key:=key) (n:=clock)));refine⟨.tuple #[z,.int .i64 clock],_,ι,.inl ?_,?_,r1,r2⟩
       ·simp only[execOp,ho,awO,Kr,wb,asa,aN hu,ar8,bO (P:=P) hh (by simp),hc,h3,iu hz,eD (P:=P) hh (by simp),asj,goInt]
       ·have:=ax.cons (Rv.lift (ι:=ι) z) (ax.cons (Rv.raw (ι:=ι) (.int .i64 clock)) ax.nil);exact .av _ _ this.1 this.2
      ·cases hj
     ·cases h
   ·cases h
  ·cases h
 ·cases h
end Go.Ev
namespace Go.Ev
variable{P:Program}{N ro:Nat}{ι:Io}{w:World}{σ:St}{ρ:Operand→IV}{r:Operand→Value}{o:Oper}{out:ez}
theorem Mc{t:TypeId}{m st x:Operand}(hi:Inv N ι σ w)(hm:Rv ι (ρ m) (r m))(hs:Rv ι (ρ st) (r st))(hx:Rv ι (ρ x) (r x))(ho:o.op=.entryStore t m st x)
 (h:ak P ro ρ o σ=some out):a_ P ro N ι w σ r o out:=by
 unfold ak at h;rw[ho]at h;simp only at h;split at h
 ·rename_i id k born kQ dK;have est:=eU dK hs;rw[kQ]at hm;split at h
  ·rename_i es clock az;obtain⟨l,res,Kr,hl,hh,aa,he⟩:=Ai hi hm az;split at h
   ·cases h
   ·rename_i cy;have cy:ro≤id:=aua fun h=>cy (by omega);split at h
    ·rename_i i hfi;split at h
     ·rename_i e sy;obtain rfl:=aE h;intro hN;have dT:i<res.size:=by have:=(List.getElem?_eq_some_iff.1 sy).1;have:=he.1;omega
      have h2:res[i]?=some res[i]:=asy dT;obtain⟨Hw,_,_⟩:=he.2 i e _ sy h2
      obtain⟨r1,r2⟩:=hi.j2 (ro:=ro) az cy hl (mV (clock:=clock) hl aa (he.set sy hx (key:=e.1) (f:=fun e=>{e with val:=r x}) (fun rr' M8=>by
       rw[h2]at M8;cases M8;rw[←Hw])))
      have tK:res.findIdx? (fun e=>(e.born:Int)==born)=some i:=by
       rw[show res=res.toList.toArray by simp,List.findIdx?_toArray]
       have:∀(es:List (Value×IV×Nat)) (rs:List MapEntry) (i:Nat),es.length=rs.length→(∀(j:Nat) (e:Value×IV×Nat) (rr:MapEntry),es[j]?=some e→rs[j]?=some rr→rr.born=e.2.2)→
        es.findIdx? (fun e=>(e.2.2:Int)==born)=some i→rs.findIdx? (fun e=>(e.born:Int)==born)=some i:=by
        intro es;induction es with
        |nil=>intro rs i hl _ hf;simp at hf
        |cons e es ih=>
         intro rs i hl hb hf;cases rs with
         |nil=>simp at hl
         |cons rr rs=>
          have h0:=hb 0 e rr rfl rfl;rw[List.findIdx?_cons]at hf⊢;rw[h0];split at hf
          ·rename_i hc;rw[if_pos hc];exact hf
          ·rename_i hc;rw[if_neg hc];simp only[ar_]at hf⊢;obtain⟨j,hj,rfl⟩:=hf;exact⟨j,ih rs j (by simpa using hl) (fun k a b h1 h2=>hb (k+1) a b h1 h2) hj,rfl⟩
       exact this es res.toList i (by simpa using he.1) (fun j e rr h1 h2=>(he.2 j e rr h1 (by simpa using h2)).2.2) hfi
      refine⟨asQ,_,ι,.inr ⟨?_,rfl⟩,.raw _,r1,r2⟩;simp only[execOp,ho,Instr.entryStore,Kr,est,asInt,asIntOf,asa,asj,ar8,bO (P:=P) hh (by simp),tK,eD (P:=P) hh (by simp)]
     ·cases h
    ·cases h
  ·cases h
 ·cases h
theorem T7{argTypes:Array TypeId}{ty:TypeId}{m k:IV}{um uk:Value}(hi:Inv N ι σ w)(hm:Rv ι m um)(hk:Rv ι k uk)(h:w9 P ro argTypes m k σ=some out):
 ∃v ah,out=.val v ah∧(ah.n≤N→qC P ro N ι w σ (avu argTypes ty #[um,uk]) v ah):=by
 unfold w9 at h;cases rQ:argTypes[0]? with
 |none=>simp[rQ]at h
 |some t=>
  rw[rQ,asc]at h;have e0:(#[um,uk]:Array Value)[0]?=some um:=rfl;have e1:(#[um,uk]:Array Value)[1]?=some uk:=rfl;split at h
  ·rename_i kt elem id key hu mw;have wb:=ua mw hk;split at h
   ·rename_i es clock az;obtain⟨l,res,rfl,hl,hh,aa,he⟩:=Ai hi hm az;split at h
    ·cases h
    ·rename_i cy;have cy:ro≤id:=aua fun h=>cy (by omega);split at h
     ·rename_i i xC;obtain rfl:=aE h;refine⟨_,_,rfl,fun _=>?_⟩;obtain⟨hc,hf⟩:=oV he xC w;rcases hf with⟨hn,_⟩|⟨j,e',rr,hj,h1,h2,h3⟩
      ·cases hn
      ·cases hj;have lq:i<res.size:=(asW.1 h2).1
       have j_:gg ι (es.eraseIdx i) (res.eraseIdxIfInBounds i):=by
        have e2:res.eraseIdxIfInBounds i=(res.toList.eraseIdx i).toArray:=by
         rw[Array.eraseIdxIfInBounds,dif_pos lq];apply auj;simp
        rw[e2];have hle:=he.1;refine⟨by simp only[List.length_eraseIdx,List.size_toArray,Array.length_toList,hle],fun j a b ha hb=>?_⟩;simp only[List.getElem?_toArray]at hb;rw[List.getElem?_eraseIdx]at ha hb;split at ha
        ·rename_i hc;rw[if_pos hc]at hb;exact he.2 j a b ha (by simpa using hb)
        ·rename_i hc;rw[if_neg hc]at hb;exact he.2 (j+1) a b ha (by simpa using hb)
       obtain⟨r1,r2⟩:=hi.j2 (ro:=ro) az cy hl (mV (clock:=clock) hl aa j_);refine⟨.tuple #[],_,ι,?_,.raw _,r1,r2⟩;unfold avu;rw[rQ,e0,e1];rw[he.isEmpty]at hc;simp only[asa,aN hu,ar8,bO (P:=P) hh (by simp),wb,hc,h3,eD (P:=P) hh (by simp),asj]
     ·rename_i xC;obtain rfl:=aE h;refine⟨_,_,rfl,fun _=>?_⟩;obtain⟨hc,hf⟩:=oV he xC w;rcases hf with⟨_,h3⟩|⟨j,e',rr,hj,h1,h2,h3⟩
      ·obtain⟨r1,r2⟩:=hi.j2 (ro:=ro) az cy hl (mV (clock:=clock) hl aa he);refine⟨.tuple #[],_,ι,?_,.raw _,r1,r2⟩;unfold avu;rw[rQ,e0,e1];rw[he.isEmpty]at hc;simp only[asa,aN hu,ar8,bO (P:=P) hh (by simp),wb,hc,h3,eD (P:=P) hh (by simp),asj]
      ·cases hj
     ·cases h
   ·cases h
  ·cases h
theorem Inv.C9(hi:Inv N ι σ w)(hN:σ.n<N){go:axj}{ob:Ob}(dr:j9 (dF ι σ.n 0 ⟨w.heap.size,1,1⟩) {w with heap:=w.heap.push go} σ.n ob):
 Inv N (dF ι σ.n 0 ⟨w.heap.size,1,1⟩) (σ.add ob) {w with heap:=w.heap.push go}∧Le ro ι w σ (dF ι σ.n 0 ⟨w.heap.size,1,1⟩) {w with heap:=w.heap.push go} (σ.add ob):=
 hi.add hN rfl rfl rfl rfl rfl dr
theorem ZR{t:TypeId}{x:Operand}(hi:Inv N ι σ w)(hr:Rv ι (ρ x) (r x))(ho:o.op=.range t x)(h:ak P ro ρ o σ=some out):a_ P ro N ι w σ r o out:=by
 unfold ak at h;rw[ho]at h;simp only at h;have rv:∀(ay:Io) (n b:Nat),Rv (dF ay n 0 ⟨b,1,1⟩) (.ptr n 0 0 1) (.pointer (some ⟨b,0,none⟩)):=fun ay n b=>.ptr _ _ _ _ _ (bX _ _ _ _) (by simp);split at h
 ·rename_i s hu hx;have e:=eU hx hr;obtain rfl:=aE h;intro hN;obtain⟨h1,h2⟩:=hi.C9 (ro:=ro) (go:=.stringIter s 0) (ob:=.pG s 0) (by simp at hN;omega) ⟨_,bX _ _ _ _,by simp⟩;exact⟨_,_,_,.inl (by simp only[execOp,ho,awc,asa,aN hu,ar8,e,asj,run_newObj]),rv _ _ _,h1,h2⟩
 ·rename_i k e' hu hx;have e:=eU hx hr;obtain rfl:=aE h;intro hN;obtain⟨h1,h2⟩:=hi.C9 (ro:=ro) (go:=.mapIter none 0 #[] 0) (ob:=.jg none 0 [] 0) (by simp at hN;omega) ⟨_,none,bX _ _ _ _,by simp,rfl⟩;exact⟨_,_,_,.inl (by simp only[execOp,ho,awc,asa,aN hu,ar8,e,asj,run_newObj]),rv _ _ _,h1,h2⟩
 ·rename_i k e' m hu hx;rw[hx]at hr;split at h
  ·rename_i es clock az;obtain⟨l,res,Kr,hl,hh,aa,he⟩:=Ai hi hr az;obtain rfl:=aE h;intro hN;have bc:ι σ.n 0=none:=hi.fresh _ (ar9 _) (by simp at hN;omega) 0
   obtain⟨h1,h2⟩:=hi.C9 (ro:=ro) (go:=.mapIter (some l.b) clock #[] clock) (ob:=.jg (some m) clock [] clock) (by simp at hN;omega)
    ⟨_,some l.b,bX _ _ _ _,by simp,l,kc bc _ _ _ hl,rfl⟩
   exact⟨_,_,_,.inl (by simp only[execOp,ho,awc,asa,aN hu,ar8,Kr,bO (P:=P) hh (by simp),asj,run_newObj]),rv _ _ _,h1,h2⟩
  ·cases h
 ·cases h
theorem pJ{vs:List IV}{us:List Value}(h:ax ι vs us):Rv ι (.av vs) (.tuple us.toArray):=.av _ _ h.1 h.2
theorem adr{it:Operand}{str:Bool}(hi:Inv N ι σ w)(hr:Rv ι (ρ it) (r it))(ho:o.op=.next it str)(h:ak P ro ρ o σ=some out):a_ P ro N ι w σ r o out:=by
 unfold ak at h;rw[ho]at h;simp only at h;split at h
 ·rename_i id hx;rw[hx]at hr;split at h
  ·cases h
  ·rename_i cy;have cy:ro≤id:=aua fun h=>cy (by omega);generalize hq:r it=q at hr;cases hr with
   |ptr _ _ _ _ l hl hle=>
    have aa:l.b<w.heap.size:=hi.jA id _ ⟨_,_,hl,rfl⟩;split at h
    ·rename_i s pos az;obtain⟨l',cd,hh⟩:=hi.obj id _ az;rw[hl]at cd;cases cd;split at h
     ·rename_i om;obtain rfl:=aE h;intro hN;obtain⟨r1,r2⟩:=hi.j2 (ro:=ro) (eF:=.pG s (pos+(atG s pos).2)) (go:=.stringIter s (pos+(atG s pos).2)) az cy hl ⟨l,hl,by simp[aa]⟩;refine⟨.tuple #[.bool true,.int .i64 pos,.int .i32 (atG s pos).1],_,ι,.inl ?_,?_,r1,r2⟩
      ·simp only[execOp,ho,aul,hq,asa,bO (P:=P) hh (by simp),ar8,om,if_true,eD (P:=P) hh (by simp),asj,goInt]
      ·exact pJ (ax.cons (.raw _) (ax.cons (.raw _) (ax.cons (.raw _) ax.nil)))
     ·rename_i om;obtain rfl:=aE h;refine a_.same hi (u:=.tuple #[.bool false]) ?_ (pJ (ax.cons (.raw _) ax.nil));simp only[execOp,ho,aul,hq,asa,bO (P:=P) hh (by simp),ar8,om,if_false,asj]
    ·rename_i a b c az;obtain⟨l',mr,cd,hh,hm⟩:=hi.obj id _ az;rw[hl]at cd;cases cd;simp only at hm;subst hm;obtain rfl:=aE h;refine a_.same hi (u:=.tuple #[.bool false]) ?_ (pJ (ax.cons (.raw _) ax.nil));simp only[execOp,ho,aul,hq,asa,bO (P:=P) hh (by simp),ar8,asj]
    ·rename_i m since seen last az;obtain⟨l',mr,cd,hh,hm⟩:=hi.obj id _ az;rw[hl]at cd;cases cd;obtain⟨lm,we,rfl⟩:=hm;split at h
     ·rename_i es clock M9;obtain⟨lm',res,oq,FC,he⟩:=hi.obj m _ M9;rw[we]at oq;cases oq
      have over:∀{ZS:Array (Option MapEntry)},ZS= #[none]→(choose (.mapNext ZS.size)).run P w=.ok 0 w:=by
       intro ZS hc;subst hc;simp[choose,atX,at4]
      split at h
      ·have hre:res= #[]:=auy (by have:=he.1;simpa using this.symm);subst hre;obtain rfl:=aE h;refine a_.same hi (u:=.tuple #[.bool false]) ?_ (pJ (ax.cons (.raw _) ax.nil));simp[execOp,ho,aul,hq,bO (P:=P) hh (by simp),bO (P:=P) FC (by simp),choose,atX,at4]
      ·rename_i e;have aK:res.size=1:=by have:=he.1;simpa using this.symm
       obtain⟨rr,rfl⟩:∃rr,res= #[rr]:=by
        refine⟨res[0],?_⟩;apply Array.ext (by simp[aK]);intro i h1 h2;have:i=0:=by omega
        subst this;rfl
       obtain⟨hk,hv,hb⟩:=he.2 0 e rr rfl rfl;split at h
       ·rename_i xD;split at h
        ·rename_i jj;obtain rfl:=aE h;refine a_.same hi (u:=.tuple #[.bool false]) ?_ (pJ (ax.cons (.raw _) ax.nil));have aeT:rr.born∈seen:=by rw[hb];exact xD
         have M_:¬last≤rr.born:=by rw[hb];omega
         have ZT:Array.filter (fun e=> !seen.toArray.contains e.born) #[rr]= #[]:=by simp[aeT]
         simp[execOp,ho,aul,hq,bO (P:=P) hh (by simp),bO (P:=P) FC (by simp),choose,atX,at4,aeT,M_]
        ·cases h
       ·rename_i xD;split at h
        ·rename_i hc;obtain⟨bw,rfl⟩:=hc;obtain rfl:=aE h;intro hN;have cK:rr.born<since:=by rw[hb];exact bw
         obtain⟨r1,r2⟩:=hi.j2 (ro:=ro) (eF:=.jg (some m) since [e.2.2] clock) (go:=.mapIter (some lm.b) since #[rr.born] clock) az cy hl ⟨l,some lm.b,hl,by simp[aa,hb],lm,we,rfl⟩;refine⟨.tuple #[.bool true,rr.key,rr.val],_,ι,.inl ?_,?_,r1,r2⟩
         ·have fB:¬since≤rr.born:=by omega
          simp[execOp,ho,aul,hq,bO (P:=P) hh (by simp),bO (P:=P) FC (by simp),choose,atX,at4,cK,fB,eD (P:=P) hh (by simp)]
         ·rw[←hk];exact pJ (ax.cons (.raw _) (ax.cons (Rv.lift _) (ax.cons hv ax.nil)))
        ·cases h
      ·cases h
     ·cases h
    ·cases h
 ·cases h
theorem ZU{it:Operand}(hi:Inv N ι σ w)(hr:Rv ι (ρ it) (r it))(ho:o.op=.entry it)(h:ak P ro ρ o σ=some out):a_ P ro N ι w σ r o out:=by
 unfold ak at h;rw[ho]at h;simp only at h;split at h
 ·rename_i id hx;rw[hx]at hr;generalize hq:r it=q at hr;cases hr with
  |ptr _ _ _ _ l hl hle=>
   split at h
   ·rename_i m since seen w8 az;obtain⟨l',mr,cd,hh,hm⟩:=hi.obj id _ az;rw[hl]at cd;cases cd;obtain⟨lm,we,rfl⟩:=hm;split at h
    ·rename_i es clock Es M9 jj;obtain⟨lm',res,oq,FC,he⟩:=hi.obj m _ M9;rw[we]at oq;cases oq;split at h
     ·rename_i bD;split at h
      ·rename_i e hfe;obtain rfl:=aE h
       have key:∀(es:List (Value×IV×Nat)) (rs:List MapEntry),es.length=rs.length→(∀(j:Nat) (e:Value×IV×Nat) (rr:MapEntry),es[j]?=some e→rs[j]?=some rr→rr.key=e.1∧Rv ι e.2.1 rr.val∧rr.born=e.2.2)→
        es.find? (fun e=>e.2.2==Es)=some e→∃rr,rs.find? (fun e=>e.born==Es)=some rr∧rr.key=e.1∧Rv ι e.2.1 rr.val:=by
        intro es;induction es with
        |nil=>intro rs _ _ hf;simp at hf
        |cons a es ih=>
         intro rs hl hb hf;cases rs with
         |nil=>simp at hl
         |cons rr rs=>
          obtain⟨h1,h2,h3⟩:=hb 0 a rr rfl rfl;rw[List.find?_cons]at hf⊢;rw[h3];split at hf
          ·rename_i hc;cases hf;exact⟨rr,rfl,h1,h2⟩
          ·rename_i hc;exact ih rs (by simpa using hl) (fun k x y h1 h2=>hb (k+1) x y h1 h2) hf
       obtain⟨rr,hf,hk,hv⟩:=key es res.toList (by simpa using he.1) (fun j e rr h1 h2=>he.2 j e rr h1 (by simpa using h2)) hfe;have C_:res.find? (fun e=>e.born==Es)=some rr:=by rw[←hf,←Array.find?_toList]
       have M_:seen.toArray.back?=some Es:=by rw[←jj];simp
       refine a_.same hi (u:=.tuple #[rr.key,rr.val]) ?_ (by rw[←hk];exact pJ (ax.cons (Rv.lift _) (ax.cons hv ax.nil)));subst bD;simp[execOp,ho,Instr.entry,hq,bO (P:=P) hh (by simp),bO (P:=P) FC (by simp),M_,C_]
      ·cases h
     ·cases h
    ·cases h
   ·cases h
 ·cases h
end Go.Ev
namespace Go.Ev
variable{P:Program}{N ro:Nat}{ι:Io}{w:World}{σ:St}{ρ:Operand→IV}{r:Operand→Value}{o:Oper}{out:ez}
theorem aeU{argTypes:Array TypeId}{ty:TypeId}{args:List IV}{us:List Value}{v:IV}(hr:ax ι args us)(h:MN P args=some v):∃z,(Builtin.min_ argTypes ty us.toArray).run P w=.ok z w∧Rv ι v z:=by
 unfold MN at h;split at h
 ·rename_i vs hv;rw[←uL hv hr]at h;rw[ar_]at h;obtain⟨z,hz,rfl⟩:=h;exact⟨z,eN w _ hz,Rv.lift z⟩
 ·cases h
theorem aeV{argTypes:Array TypeId}{ty:TypeId}{args:List IV}{us:List Value}{v:IV}(hr:ax ι args us)(h:I7 P args=some v):∃z,(Builtin.max_ argTypes ty us.toArray).run P w=.ok z w∧Rv ι v z:=by
 unfold I7 at h;split at h
 ·rename_i vs hv;rw[←uL hv hr]at h;rw[ar_]at h;obtain⟨z,hz,rfl⟩:=h;exact⟨z,eN w _ hz,Rv.lift z⟩
 ·cases h
theorem FD{argTypes:Array TypeId}{s x:IV}(h:jZ P ro argTypes s x σ=some out):∃v ah,out=.val v ah:=by
 have hn:∀{size aO n:Nat} {new:List IV} {s:IV},ff size aO n new s σ=some out→∃v ah,out=.val v ah:=by
  intro size aO n new s h;unfold ff at h;split at h
  ·split at h
   ·exact⟨_,_,aE h⟩
   ·cases h
  ·cases h
 unfold jZ at h;split at h
 ·split at h
  ·split at h
   ·split at h
    ·cases h
    ·split at h
     ·split at h
      ·unfold eA at h
       repeat' split at h
       all_goals first|exact⟨_,_,aE h⟩|exact hn h|cases h
      ·cases h
     ·cases h
   ·cases h
  ·cases h
 ·cases h
theorem a_.ofB{c:Call}{b:Builtin}{us:List Value}(ho:o.op=.call c)(hb:c.callee=.builtin b)(xE:c.args.map r=us.toArray)(h:xB P ro N ι w σ (builtin b c.argTypes o.type (c.args.map fun|.const _=>true|_=>false) us.toArray) out):
 a_ P ro N ι w σ r o out:=by
 obtain⟨v,ah,rfl,h⟩:=h;intro hN;rw[M6 ho hb,xE];exact h hN
theorem T8{b:Builtin}{argTypes:Array TypeId}{ty:TypeId}{cs:Array Bool}{args:List IV}{us:List Value}(hi:Inv N ι σ w)(hr:ax ι args us)(h:du P ro b argTypes args σ=some out):
 xB P ro N ι w σ (builtin b argTypes ty cs us.toArray) out:=by
 unfold du at h;split at h
 ·split at h
  ·obtain⟨v,u,rfl,h1,h2⟩:=Je hr;obtain⟨v',ah,rfl⟩:=FD h;exact xB.Wq fun hN=>Wl hi h1 h2 h hN
  ·cases h
 ·split at h
  ·obtain⟨v,rfl,h1⟩:=uc hr;rw[ar_]at h;obtain⟨z,hz,rfl⟩:=h;obtain⟨u,hu,iK⟩:=adp (ty:=ty) hi h1 hz;exact xB.same hi hu iK
  ·cases h
 ·split at h
  ·obtain⟨v,rfl,h1⟩:=uc hr;rw[ar_]at h;obtain⟨z,hz,rfl⟩:=h;obtain⟨u,hu,iK⟩:=adq (ty:=ty) (w:=w) h1 hz;exact xB.same hi hu iK
  ·cases h
 ·rw[ar_]at h;obtain⟨z,hz,rfl⟩:=h;obtain⟨u,hu,iK⟩:=aeU (argTypes:=argTypes) (ty:=ty) (w:=w) hr hz;exact xB.same hi hu iK
 ·rw[ar_]at h;obtain⟨z,hz,rfl⟩:=h;obtain⟨u,hu,iK⟩:=aeV (argTypes:=argTypes) (ty:=ty) (w:=w) hr hz;exact xB.same hi hu iK
 ·split at h
  ·obtain⟨v,u,rfl,h1,h2⟩:=Je hr;obtain⟨v',ah,rfl,h3⟩:=T7 (ty:=ty) hi h1 h2 h;exact xB.Wq h3
  ·cases h
 ·split at h
  ·obtain⟨v,rfl,h1⟩:=uc hr;obtain⟨v',ah,rfl,h3⟩:=Wr (ty:=ty) hi h1 h;exact xB.Wq h3
  ·cases h
 ·split at h
  ·obtain⟨v,u,rfl,h1,h2⟩:=Je hr;obtain⟨v',ah,rfl,h3⟩:=ZP (ty:=ty) hi h1 h2 h;exact xB.Wq h3
  ·cases h
 ·cases h
theorem Aj{l:Array Operand}(h:∀x,Rv ι (ρ x) (r x)):ax ι (l.toList.map ρ) (l.toList.map r):=ax.of_map fun x _=>h x
theorem uN{f:FuncId}{fn:Func}{us:Array Value}(h:P.funcs[f]?=some fn)(hb:(fn.body.isSome&&fn.name != "runtime.NumGoroutine")=true):(callFunc f us).run P w=.ok (.enter f us) w:=by
 simp only[Bool.and_eq_true,bne_iff_ne,ne_eq]at hb;have h2:fn.body≠none:=by cases hh:fn.body<;>simp_all
 simp[callFunc,h,h2,hb.2]
theorem Da{x:IV}{v:Value}{args:List IV}{us:List Value}(hx:Rv ι x v)(hr:ax ι args us)(h:gd P x args=some out):
 ∃d,(avg v us.toArray).run P w=.ok d w∧((∃f as vs,out=.enter f as∧(invoke d.target d.args).run P w=.ok (.enter f vs.toArray) w∧ax ι as vs∧A_ ι (.call f as) d)∨
  (∃id l,out=.round id args∧ι id 0=some l∧d.target=.fn (.yield l.b) #[]∧d.args=us.toArray)):=by
 unfold gd at h;split at h
 ·rename_i f first cap
  cases hx with
  |fn _ _ _ cs ds hl h1 fi h2=>
   split at h
   ·rename_i fn bA;split at h
    ·rename_i hb;cases h;have gK:ax ι (first++args++cap) (cs++us++ds):=(ax.append ⟨hl,h1⟩ hr).append ⟨fi,h2⟩;refine⟨{target:=.fn (.func f) ds.toArray,args:=cs.toArray++us.toArray},rfl,.inl ⟨f,_,_,rfl,?_,gK,ds,cs++us,_,by simp,gK,rfl⟩⟩;simp only[invoke];rw[uN bA hb];simp
    ·cases h
   ·cases h
 ·rename_i f a b;cases hx;split at h
  ·rename_i he;obtain⟨rfl,rfl⟩:a= #[]∧b= #[]:=⟨auy he.1,auy he.2⟩;split at h
   ·rename_i fn bA;split at h
    ·rename_i hb;cases h;refine⟨{target:=.fn (.func f) #[],args:=us.toArray},by simp[avg],.inl ⟨f,_,us,rfl,?_,hr,[],us,us,by simp,hr,by simp⟩⟩;simp only[invoke];rw[uN bA hb];simp
    ·cases h
   ·cases h
  ·cases h
 ·rename_i id;cases hx with
  |z_ _ l hl=>
   cases h;exact⟨{target:=.fn (.yield l.b) #[],args:=us.toArray},by simp[avg],.inr ⟨id,l,rfl,hl,rfl,rfl⟩⟩
 ·cases h
theorem Wv{x:IV}{u:Value}{name:String}{args:List IV}{us:List Value}(hx:Rv ι x u)(hr:ax ι args us)(h:tZ P x name args=some out):
 ∃f as vs,out=.enter f as∧(invoke (.fn (.method name) #[]) (#[u]++us.toArray)).run P w=.ok (.enter f vs.toArray) w∧ax ι as vs:=by
 unfold tZ at h;split at h
 ·rename_i t v;cases hx with
  |cY _ _ uv hv=>
   split at h
   ·rename_i i el hi hd;split at h
    ·rename_i m hm;split at h
     ·rename_i f pr hf;split at h
      ·rename_i hc;obtain⟨T9,rfl⟩:=hc;have T9:m.path.toList=[]:=atg.1 T9;split at h
       ·rename_i fn bA;split at h
        ·rename_i hb;cases h;refine⟨f,v::args,uv::us,rfl,?_,ax.cons hv hr⟩
         have aiR:∀n,(method (n+1) t uv name).run P w=.ok (f,uv) w:=by
          intro n;simp[method,typeInfo,hi,hm,T9,follow,hf,receiverAt,aN hd,Place.get]
         have aiS:∃n,P.types.size+awp=n+1:=⟨P.types.size+(awp- 1),by unfold awp;omega⟩;obtain⟨n,hn⟩:=aiS;have e0:(#[awd t uv]++us.toArray)[0]?=some (.iface t uv):=by simp
         have e1:(#[awd t uv]++us.toArray).extract 1 (#[awd t uv]++us.toArray).size=us.toArray:=by
          apply auj;simp
         have e2:(#[uv]++us.toArray)=(uv::us).toArray:=by apply auj;simp
         have e3:(callMethod (.iface t uv) name us.toArray).run P w=.ok (.enter f (uv::us).toArray) w:=by
          have hp:(program:Sem Program).run P w=.ok P w:=rfl;simp only[callMethod,asa,hp,ar8,hn,aiR,e2];exact uN bA hb
         simp only[invoke,e0,e1];exact e3
        ·cases h
       ·cases h
      ·cases h
     ·cases h
    ·cases h
   ·cases h
 ·cases h
theorem ads{c:Call}(hi:Inv N ι σ w)(hr:∀x,Rv ι (ρ x) (r x))(ho:o.op=.call c)(h:ak P ro ρ o σ=some out):a_ P ro N ι w σ r o out:=by
 unfold ak at h;rw[ho]at h;(try dsimp only at h);have xE:c.args.map r=(c.args.toList.map r).toArray:=by apply auj;rw[avy]
 split at h
 ·rename_i b hb;exact a_.ofB ho hb xE (T8 hi (Aj hr) h)
 ·rename_i f hf;obtain⟨d,hd,h⟩:=Da (w:=w) (hr f) (Aj hr) h
  have e:(execOp r o).run P w=(invoke d.target d.args).run P w:=by
   simp only[execOp,ho,resolve,hf,xE,asa,hd,ar8]
  rcases h with⟨f',as,vs,rfl,h1,h2,_⟩|⟨id,l,rfl,h1,h2,h3⟩
  ·exact⟨vs,by rw[e,h1],h2⟩
  ·exact⟨l,_,h1,by rw[e,h2,h3];rfl,Aj hr⟩
 ·rename_i x name hx;obtain⟨f,as,vs,rfl,h1,h2⟩:=Wv (w:=w) (hr x) (Aj hr) h;exact⟨vs,by simp only[execOp,ho,resolve,hx,xE,asa,asj,ar8,h1],h2⟩
theorem ZV{c:Call}(hr:∀x,Rv ι (ρ x) (r x))(ho:o.op=.defer c)(h:ak P ro ρ o σ=some out):a_ P ro N ι w σ r o out:=by
 unfold ak at h;rw[ho]at h;(try dsimp only at h);have xE:c.args.map r=(c.args.toList.map r).toArray:=by apply auj;rw[avy]
 split at h
 ·rename_i f hf;split at h
  ·rename_i f' args hc;cases h;obtain⟨d,hd,h⟩:=Da (w:=w) (hr f) (Aj hr) hc;rcases h with⟨f',as,vs,he,_,_,h3⟩|⟨id,l,he,_⟩
   ·cases he;exact⟨d,by simp only[execOp,ho,resolve,hf,xE,asa,hd,ar8,asj],h3,c,ho⟩
   ·cases he
  ·cases h
 ·cases h
theorem ZW{x:Operand}(hr:Rv ι (ρ x) (r x))(ho:o.op=.panic x)(h:ak P ro ρ o σ=some out):a_ P ro N ι w σ r o out:=by
 unfold ak at h;rw[ho]at h;simp only at h;split at h
 ·rename_i t v hx;cases h;rw[hx]at hr;generalize hq:r x=q at hr;have tO:=hr;cases hr with
  |cY _ _ u hu=>
   refine⟨_,?_,tO⟩;simp only[execOp,ho,Instr.panic,hq,goPanic,asa];rfl
 ·cases h
theorem Md{x:Operand}{xt asserted:TypeId}{ok:Bool}(hi:Inv N ι σ w)(hr:Rv ι (ρ x) (r x))(ho:o.op=.typeAssert x xt asserted ok)(h:ak P ro ρ o σ=some out):a_ P ro N ι w σ r o out:=by
 unfold ak at h;rw[ho]at h;simp only at h;split at h
 ·cases h
 ·rename_i d z Ww hu hz
  have hd:∀{α:Type} (k1:Array (String×TypeId)→α) (k2:α),(match d with|.interface want=>k1 want|_=>k2)=k2:=by
   intro α k1 k2;cases d<;>first|rfl|exact absurd rfl (Ww _)
  split at h
  ·rename_i t v hx;rw[hx]at hr;generalize hq:r x=q at hr;cases hr with
   |cY _ _ u iK=>
    split at h
    ·rename_i hte;have T_:t=asserted:=by simpa using hte
     obtain rfl:=aE h;cases ok with
     |true=>
      refine a_.same hi (u:=.tuple #[u,.bool true]) ?_ ?_
      ·cases d<;>first
        |exact absurd rfl (Ww _)
        |simp[execOp,ho,auV,hq,aN hu,T_]
      ·have:=ax.cons iK (ax.cons (Rv.raw (ι:=ι) (.bool true)) ax.nil);exact pJ this
     |false=>
      refine a_.same hi (u:=u) ?_ iK
      cases d<;>first
       |exact absurd rfl (Ww _)
       |simp[execOp,ho,auV,hq,aN hu,T_]
    ·rename_i hte;have T_:¬t=asserted:=by simpa using hte
     split at h
     ·rename_i bf;subst bf;obtain rfl:=aE h;refine a_.same hi (u:=.tuple #[z,.bool false]) ?_ ?_
      ·cases d<;>first
        |exact absurd rfl (Ww _)
        |simp[execOp,ho,auV,hq,aN hu,T_,iu hz]
      ·have:=ax.cons (Rv.lift (ι:=ι) z) (ax.cons (Rv.raw (ι:=ι) (.bool false)) ax.nil);exact pJ this
     ·cases h
  ·rename_i hx;have e:=eU hx hr;split at h
   ·rename_i bf;subst bf;obtain rfl:=aE h;refine a_.same hi (u:=.tuple #[z,.bool false]) ?_ ?_
    ·cases d<;>first
      |exact absurd rfl (Ww _)
      |simp[execOp,ho,auV,e,aN hu,iu hz]
    ·have:=ax.cons (Rv.lift (ι:=ι) z) (ax.cons (Rv.raw (ι:=ι) (.bool false)) ax.nil);exact pJ this
   ·cases h
  ·cases h
 ·cases h
theorem lr(hi:Inv N ι σ w)(hr:∀x,Rv ι (ρ x) (r x))(h:ak P ro ρ o σ=some out):a_ P ro N ι w σ r o out:=by
 cases ho:o.op with
 |move x=>unfold ak at h;rw[ho]at h;simp only at h;obtain rfl:=aE h;exact Rq hi (hr _) (.inl ho)
 |assign x=>unfold ak at h;rw[ho]at h;simp only at h;obtain rfl:=aE h;exact Rq hi (hr _) (.inr ho)
 |pick c a b=>exact adm hi (hr _) (hr _) (hr _) ho h
 |alloc t=>exact ZI hi ho h
 |box t x=>exact aeL hi (hr _) ho h
 |build t parts=>exact ZN hi (fun x _=>hr x) ho h
 |buildSlice t len parts=>exact Mb hi (fun x _=>hr x) ho h
 |load t a=>exact adn hi (hr _) ho h
 |store t a x=>exact ZJ hi (hr _) (hr _) ho h
 |nilCheck x=>exact QW hi (hr _) ho h
 |binOp op t x y yT=>exact aeM hi (hr _) (hr _) ho h
 |unOp op t x=>exact aiP hi (hr _) ho h
 |convert s t x=>exact TZ hi (hr _) ho h
 |makeInterface t x=>exact Ga hi (hr _) ho h
 |makeFunc f a b=>exact QX hi (fun x _=>hr x) ho h
 |makeMap t x=>exact T1 hi (fun x _=>hr x) ho h
 |makeSlice t l c=>exact MX hi (hr _) (hr _) ho h
 |slice t x lo cU mx=>exact ZO hi (hr _) (fun x _=>hr x) (fun x _=>hr x) (fun x _=>hr x) ho h
 |fieldAddr s x f=>exact MV hi (hr _) ho h
 |field t x f=>exact ZL hi (hr _) ho h
 |indexAddr t x ix=>exact MW hi (hr _) (hr _) ho h
 |index t x ix=>exact ZM hi (hr _) (hr _) ho h
 |lookup t x ix ok=>exact Ws hi (hr _) (hr _) ho h
 |mapUpdate t m k x=>exact C8 hi (hr _) (hr _) (hr _) (.inl ho) h
 |insert t m k x=>exact C8 hi (hr _) (hr _) (hr _) (.inr ho) h
 |mapEntry t m k=>exact Q3 hi (hr _) (hr _) ho h
 |entryStore t m st x=>exact Mc hi (hr _) (hr _) (hr _) ho h
 |range t x=>exact ZR hi (hr _) ho h
 |next it s=>exact adr hi (hr _) ho h
 |entry it=>exact ZU hi (hr _) ho h
 |extract t i=>exact T0 hi (hr _) ho h
 |call c=>exact ads hi hr ho h
 |defer c=>exact ZV hr ho h
 |panic x=>exact ZW (hr _) ho h
 |typeAssert x xt t ok=>exact Md hi (hr _) ho h
 |_=>unfold ak at h;rw[ho]at h;cases h
end Go.Ev
namespace Go.Ev
variable{P:Program}{ro:Nat}{σ:St}{ρ:Operand→IV}{o:Oper}{out:ez}
def Grown(σ:St):ez→Prop
 |.val _ ah=>σ.n≤ah.n
 |_=>True
theorem rR{v:IV}{ah:St}(hle:σ.n≤ah.n)(h:ret v ah=some out):Grown σ out:=by rw[aE h];exact hle
theorem wu{v:IV}(h:ret v σ=some out):Grown σ out:=rR (ar9 σ.n) h
theorem vn{v:IV}{id:Nat}{ob:Ob}(h:ret v (σ.put id ob)=some out):Grown σ out:=rR (ah:=σ.put id ob) (ar9 σ.n) h
theorem Ks{v:IV}{ob:Ob}(h:ret v (σ.add ob)=some out):Grown σ out:=rR (Nat.le_succ _) h
theorem Na{kt:TypeId}{m k v:IV}{ah:St}(h:oS P ro kt m k v σ=some ah):ah.n=σ.n:=by
 unfold oS at h
 repeat' split at h
 all_goals first|(cases h;done)|(cases h;rfl)
theorem Nb{f:IV}{args:List IV}(h:gd P f args=some out):Grown σ out:=by
 unfold gd at h
 repeat' split at h
 all_goals first|(cases h;done)|(cases h;exact trivial)
theorem Nc{x:IV}{name:String}{args:List IV}(h:tZ P x name args=some out):Grown σ out:=by
 unfold tZ at h
 repeat' split at h
 all_goals first|(cases h;done)|(cases h;exact trivial)
theorem Nd{argTypes:Array TypeId}{s x:IV}(h:jZ P ro argTypes s x σ=some out):Grown σ out:=by
 have hn:∀{size aO n:Nat} {new:List IV} {s:IV},ff size aO n new s σ=some out→Grown σ out:=by
  intro size aO n new s h;unfold ff at h;split at h
  ·split at h
   ·exact Ks h
   ·cases h
  ·cases h
 unfold jZ at h;split at h
 ·split at h
  ·split at h
   ·split at h
    ·cases h
    ·split at h
     ·split at h
      ·unfold eA at h
       repeat' split at h
       all_goals first|exact wu h|exact vn h|exact rR (by exact ar9 σ.n) h|exact hn h|cases h
      ·cases h
     ·cases h
   ·cases h
  ·cases h
 ·cases h
theorem Mf{b:Builtin}{argTypes:Array TypeId}{args:List IV}(h:du P ro b argTypes args σ=some out):Grown σ out:=by
 unfold du at h;split at h
 ·split at h
  ·exact Nd h
  ·cases h
 ·split at h
  ·rw[ar_]at h;obtain⟨z,hz,rfl⟩:=h;exact ar9 _
  ·cases h
 ·split at h
  ·rw[ar_]at h;obtain⟨z,hz,rfl⟩:=h;exact ar9 _
  ·cases h
 ·rw[ar_]at h;obtain⟨z,hz,rfl⟩:=h;exact ar9 _
 ·rw[ar_]at h;obtain⟨z,hz,rfl⟩:=h;exact ar9 _
 ·split at h
  ·unfold w9 at h
   repeat' split at h
   all_goals first|exact vn h|cases h
  ·cases h
 ·split at h
  ·unfold si at h
   repeat' split at h
   all_goals first|exact wu h|exact vn h|cases h
  ·cases h
 ·split at h
  ·unfold Er at h
   repeat' split at h
   all_goals first|exact wu h|exact vn h|cases h
  ·cases h
 ·cases h
theorem lL(h:ak P ro ρ o σ=some out):Grown σ out:=by
 unfold ak at h;cases ho:o.op<;>rw[ho]at h<;>(try dsimp only at h)
 case call c=>
  split at h
  ·exact Mf h
  ·exact Nb h
  ·exact Nc h
 case defer c=>
  split at h
  ·split at h
   ·cases h;exact trivial
   ·cases h
  ·cases h
 case mapUpdate=>
  split at h
  ·split at h
   ·rename_i ah hs;exact rR (axx (Na hs).symm) h
   ·cases h
  ·cases h
 case insert=>
  split at h
  ·split at h
   ·rename_i ah hs;exact rR (axx (Na hs).symm) h
   ·cases h
  ·cases h
 all_goals (repeat' split at h)
 all_goals first|exact wu h|exact vn h|exact Ks h|(cases h;done)|(cases h;exact trivial)
end Go.Ev
namespace Go.Ev
variable{P:Program}{N ro:Nat}{ι:Io}{w:World}{σ:St}{e:Env}{a:Act}
def cM(ι:Io)(e:Env)(ts:Array Value):Prop:=e.n=ts.size∧∀t,Rv ι (e.at t) (ts.getD t asQ)
def jC(ι:Io):List Df→List Deferred→Prop
 |[],[]=>True
 |d::ds,x::xs=>A_ ι d x∧jC ι ds xs
 |_,_=>False
theorem cM.mono{ay:Io}(gD:Ext ι ay){ts:Array Value}(h:cM ι e ts):cM ay e ts:=⟨h.1,fun t=>(h.2 t).mono gD⟩
theorem A_.mono{ay:Io}(gD:Ext ι ay){d:Df}{x:Deferred}(h:A_ ι d x):A_ ay d x:=by
 cases d with
 |CY id=>obtain⟨l,h1,h2⟩:=h;exact⟨l,gD _ _ _ h1,h2⟩
 |call f as=>obtain⟨cap,us,vs,h1,h2,h3⟩:=h;exact⟨cap,us,vs,h1,h2.mono gD,h3⟩
theorem jC.mono{ay:Io}(gD:Ext ι ay):∀{ds:List Df} {xs:List Deferred},jC ι ds xs→jC ay ds xs
 |[],[],_=>trivial
 |_::_,_::_,h=>⟨A_.mono gD h.1,jC.mono gD h.2⟩
 |[],_::_,h=>h.elim
 |_::_,[],h=>h.elim
theorem jC.nil{xs:List Deferred}(h:jC ι [] xs):xs=[]:=by cases xs with|nil=>rfl|cons=>exact h.elim
theorem oW:Rv ι .undef asQ:=.raw _
theorem Env.cJ(e:Env)(d:Nat)(v:IV)(t:Nat):(e.put (some d) v).at t=if d<e.n∧d=t then v else e.at t:=by
 unfold Env.put;simp only;by_cases h:d<e.n
 ·have hb:as_ d e.n=true:=by simpa[av5]using h
  rw[hb];simp only[if_true,Env.at,T.fQ];by_cases hd:d=t
  ·simp[hd];intro h2;omega
  ·simp[hd]
 ·have hb:as_ d e.n=false:=by
   cases hc:as_ d e.n with
   |false=>rfl
   |true=>exact absurd (by simpa using hc) h
  rw[hb];simp[h]
theorem Env.mU(e:Env)(d:Option Nat)(v:IV):(e.put d v).n=e.n:=by
 cases d with
 |none=>rfl
 |some d=>simp only[Env.put];split<;>rfl
theorem cM.set{ts:Array Value}{v:IV}{u:Value}(h:cM ι e ts)(hv:Rv ι v u)(d:Nat):cM ι (e.put (some d) v) (ts.setIfInBounds d u):=by
 refine⟨by rw[Env.mU,h.1];simp,fun t=>?_⟩;rw[Env.cJ]
 have hs:(ts.setIfInBounds d u).getD t asQ=if d<ts.size∧d=t then u else ts.getD t asQ:=by
  simp only[atl,Array.getElem?_setIfInBounds];by_cases hd:d=t
  ·subst hd;by_cases hl:d<ts.size
   ·simp[hl]
   ·simp[hl]
  ·simp[hd]
 rw[hs,←h.1];split
 ·exact hv
 ·exact h.2 t
theorem cM.put{v:IV}{u:Value}(h:cM ι e a.tmps)(hv:Rv ι v u)(dst:Option Tmp):cM ι (e.put dst v) (a.put dst u).tmps:=by
 cases dst with
 |none=>exact h
 |some d=>exact h.set hv d
theorem cM.eval(h:cM ι e a.tmps)(x:Operand):Rv ι (aq e x) (a.eval x):=by
 cases x with
 |tmp t=>exact h.2 t
 |const v=>exact Rv.lift v
 |global g=>exact .raw _
 |func f=>exact .raw _
theorem adt{x:IV}{b:Bool}(h:Rv ι x (.bool b)):x=.raw (.bool b):=by
 generalize hu:Value.bool b=u at h;cases h<;>first|(cases hu;done)|(cases hu;rfl)
theorem oX{o:Oper}{ops:Array Oper}(h:cM ι e a.tmps):awP o (yielded ops a.tmps)=aF o ops e:=by
 unfold awP aF;cases hg:o.guard with
 |none=>rfl
 |some g=>
  obtain⟨j,want⟩:=g;simp only[yielded];cases hd:(ops[j]?).bind (·.dst)with
  |none=>rfl
  |some d=>
   simp only[asc];by_cases hl:d<e.n
   ·have hb:as_ d e.n=true:=by simpa[av5]using hl
    rw[hb];have cd:d<a.tmps.size:=by rw[←h.1];exact hl
    have hr:=h.2 d;rw[atl,asy cd,asU]at hr;rw[asy cd];simp only[if_true];generalize a.tmps[d]=u at hr;cases u with
    |bool b=>rw[adt hr];simp
    |_=>
     generalize e.at d=x at hr;cases hr<;>rfl
   ·have hb:as_ d e.n=false:=by
     cases hc:as_ d e.n with
     |false=>rfl
     |true=>exact absurd (by simpa using hc) hl
    rw[hb];have cd:¬d<a.tmps.size:=by rw[←h.1];exact hl
    rw[Array.getElem?_eq_none (aua cd)];rfl
def noGoto(Q:Exit→Act→World→Prop):Exit→Act→World→Prop
 |.goto _,_,_=>False
 |e,a,w=>Q e a w
section scope
variable{F:Fence}{n:Nat}{b:Frame}{k:List Item}{cs:List Frame}{Q:Exit→Act→World→Prop}
theorem n_{c:Code}:step P (lone (b.atR a (.code (.scope c)::k)) cs w)=.next (lone (b.atR a (.code c::.inScope c::k)) cs w):=
 step_lone_go (by simp[stepG,axy,axH])
theorem Mg{c:Code}:step P (lone (b.atR a (.inScope c::k)) cs w)=.next (lone (b.atR a k) cs w):=
 step_lone_go (by simp[stepG,axy,axH])
theorem Bc{c:Code}(h:c.wpIn F n P (noGoto Q) a w):(Code.scope c).wpIn F n P Q a w:=by
 intro b k cs cy hb hr;have h0:(lone (b.atR a (.code (.scope c)::k)) cs w).fenced P F:=fenced_calm hb hr rfl;obtain⟨e,a₁,w₁,hq,Jf⟩:=h b (.inScope c::k) cs cy hb hr;cases e with
 |normal=>exact⟨.normal,a₁,w₁,hq,.head h0 n_ (StepsIn.trans Jf (.one (fenced_calm hb hr rfl) Mg))⟩
 |exit id=>
  have hx:exitTo id (.inScope c::k)=exitTo id k:=by simp[exitTo]
  exact⟨.exit id,a₁,w₁,hq,fun k' hk=>.head h0 n_ (Jf.1 k' (by rw[hx];exact hk)),
   fun tO hk=>let⟨k₁,h1,h2⟩:=Jf.2 tO (by rw[hx];exact hk);⟨k₁,h1,.head h0 n_ h2⟩⟩
 |goto l=>exact hq.elim
 |ret=>exact⟨_,a₁,w₁,hq,.of_steps (.one h0 n_) Jf⟩
 |panic ch=>exact⟨_,a₁,w₁,hq,.of_steps (.one h0 n_) Jf⟩
 |outgrown=>exact⟨_,a₁,w₁,hq,.of_steps (.one h0 n_) Jf⟩
end scope
def bQ(S:Self):Prop:=∀ro rd fn c e df σ cr,S.code ro rd fn c e df σ=some cr→σ.n≤cr.σ.n
structure br(S:Self):Prop where
 call:∀ro f args σ v ah,S.call ro f args σ=some (v,ah)→σ.n≤ah.n
 bC:∀ro f args σ v ah,S.bC ro f args σ=some (v,ah)→σ.n≤ah.n
 vY:∀ro f args m σ m' ah,S.vY ro f args m σ=some (m',ah)→σ.n≤ah.n
variable{S:Self}
theorem Ua(hc:bQ S){l:Nat}{args:List IV}{v:IV}{ah:St}(h:Ab S ro l args σ=some (v,ah)):σ.n≤ah.n:=by
 unfold Ab at h;split at h
 ·split at h
  ·cases h
  ·simp only at h;split at h
   ·rename_i e1 ai h1;split at h
    ·split at h
     ·rename_i ex e2 c7 h2;split at h
      ·cases h
      split at h
      ·cases h;have:=hc _ _ _ _ _ _ _ _ h1;have:=hc _ _ _ _ _ _ _ _ h2;simp only[St.mU]at*
       omega
      ·cases h
     ·cases h
    ·cases h
   ·cases h
 ·cases h
theorem Gc(hc:bQ S)(hk:br S){o:Oper}{v:IV}{ah:St}(h:jh P S ro e o σ=some (v,ah)):σ.n≤ah.n:=by
 unfold jh at h;split at h
 ·rename_i v1 ai h1;cases h;exact lL h1
 ·exact hk.call _ _ _ _ _ _ h
 ·exact Ua hc h
 ·cases h
theorem xF(hc:bQ S)(hk:br S){rd:Option Nat}{ops:Array Oper}:∀{l:List Oper} {e:Env} {df:List Df} {σ:St} {cr:CR},yz P S ro rd ops l e df σ=some cr→σ.n≤cr.σ.n
 |[],e,df,σ,cr,h=>by cases h;exact ar9 _
 |o::rest,e,df,σ,cr,h=>by
  unfold yz at h;split at h
  ·split at h
   ·rename_i v ai h1;exact asr (Gc hc hk h1) (xF hc hk h)
   ·split at h
    ·split at h
     ·exact xF hc hk h
     ·cases h
    ·split at h
     ·rename_i h2;cases h;exact hk.bC _ _ _ _ _ _ h2
     ·cases h
    ·cases h;exact ar9 _
    ·cases h
  ·exact xF hc hk h
section draw
variable[Sm]
theorem Cu(hc:bQ S)(hk:br S){pl:dx}{ops:Array Oper}{o:Oper}{j:Nat}{d d':DS}(h:bL P S pl ro ops o j d=some d'):d.n≤d'.n:=by
 unfold bL at h;simp only at h;split at h
 ·cases h
 ·split at h
  ·split at h
   ·split at h
    ·split at h
     ·cases h;exact ar9 _
     ·cases h
    ·cases h
   ·split at h
    ·rename_i h1;cases h;exact lL h1
    ·cases h
   ·split at h
    ·split at h
     ·cases h;exact ar9 _
     ·cases h
    ·cases h
   ·split at h
    ·rename_i h1;cases h;exact Gc (P:=P) hc hk h1
    ·cases h
   ·split at h
    ·rename_i h1;split at h
     ·cases h;exact Gc (P:=P) hc hk h1
     ·cases h
    ·cases h
  ·split at h
   ·split at h
    ·cases h;exact ar9 _
    ·cases h
   ·cases h;exact ar9 _
theorem Db{SF:Nat→Self}(hc:∀j,bQ (SF j))(hk:∀j,br (SF j)){pl:dx}{ops:Array Oper}:∀{l:List (Oper×Nat)} {d d':DS},ir P SF pl ro ops l d=some d'→d.n≤d'.n
 |[],d,d',h=>by cases h;exact ar9 _
 |(o,j)::rest,d,d',h=>by
  unfold ir at h;split at h
  ·rename_i d1 h1;exact asr (Cu (hc j) (hk j) h1) (Db hc hk h)
  ·cases h
theorem Be{SF:Nat→Self}(hc:∀j,bQ (SF j))(hk:∀j,br (SF j)){ops:Array Oper}{df:List Df}{cr:CR}(h:pI P SF ro ops e df σ=some cr):σ.n≤cr.σ.n:=by
 unfold pI at h;simp only at h;split at h
 ·split at h
  ·rename_i h1;cases h;exact Db hc hk h1
  ·cases h
 ·cases h
end draw
theorem Wx(hc:bQ S)(hk:br S){ops:Array Oper}{df:List Df}{cr:CR}(h:MR P S ro ops e df σ=some cr):σ.n≤cr.σ.n:= @Be _ _ _ _ MQ _ (fun _=>hc) (fun _=>hk) _ _ _ h
theorem Kt(hc:bQ S)(hk:br S):bQ (lk P S):=by
 intro ro rd fn c e df σ cr h;change vi P S ro rd fn c e df σ=some cr at h;cases c<;>unfold vi at h<;>dsimp only at h
 case skip=>cases h;exact ar9 _
 case label=>cases h;exact ar9 _
 case exit=>cases h;exact ar9 _
 case goto=>cases h;exact ar9 _
 case ret=>cases h;exact ar9 _
 case refuse=>cases h
 case region=>
  split at h
  ·exact Wx hc hk h
  ·exact xF hc hk h
 case seq=>
  split at h
  ·rename_i h1;exact asr (hc _ _ _ _ _ _ _ _ h1) (hc _ _ _ _ _ _ _ _ h)
  ·exact hc _ _ _ _ _ _ _ _ h
 case cond=>
  split at h
  ·exact hc _ _ _ _ _ _ _ _ h
  ·cases h
 case block=>
  split at h
  ·rename_i h1;split at h
   ·cases h;have:=hc _ _ _ _ _ _ _ _ h1;exact this
   ·cases h;have:=hc _ _ _ _ _ _ _ _ h1;exact this
  ·exact hc _ _ _ _ _ _ _ _ h
 case loop=>
  split at h
  ·rename_i h1;exact asr (hc _ _ _ _ _ _ _ _ h1) (hc _ _ _ _ _ _ _ _ h)
  ·exact hc _ _ _ _ _ _ _ _ h
 case scope=>
  split at h
  ·cases h
  ·exact hc _ _ _ _ _ _ _ _ h
 case rangeFunc=>
  split at h
  ·rename_i lX ai mark oF
   have h1:σ.n≤ai.n:=by
    split at oF
    ·cases oF;simp
    ·split at oF
     ·cases oF;exact ar9 _
     ·cases oF
   split at h
   ·split at h
    ·rename_i h2;have h3:=hk.call _ _ _ _ _ _ h2;simp only[St.kz]at h3;split at h
     ·split at h
      ·cases h
      ·split at h
       ·cases h;simp only[St.mU];omega
       ·have h4:=hc _ _ _ _ _ _ _ _ h;simp only[St.mU]at h4;omega
     ·cases h
    ·cases h
   ·cases h
  ·cases h
theorem fY(hk:br S):∀{df:List Df} {m m':Option IV} {σ ah:St},eM S ro df m σ=some (m',ah)→σ.n≤ah.n
 |[],m,m',σ,ah,h=>by cases h;exact ar9 _
 |.CY id::ds,m,m',σ,ah,h=>by
  unfold eM at h;split at h
  ·split at h
   ·exact fY hk (σ:=σ.put id (.Fw true)) h
   ·cases h
  ·cases h
 |.call f args::ds,m,m',σ,ah,h=>by
  unfold eM at h;split at h
  ·rename_i h1;exact asr (hk.vY _ _ _ _ _ _ _ h1) (fY hk h)
  ·cases h
theorem Ku(hc:bQ S)(hk:br S){f:FuncId}{args:List IV}{r:Func×Env×Option IV×St}(h:Ad P S ro f args σ=some r):σ.n≤r.2.2.2.n:=by
 unfold Ad at h;split at h
 ·split at h
  ·split at h
   ·cases h
   ·simp only at h;split at h
    ·rename_i h1;split at h
     ·rename_i h2;cases h;exact asr (hc _ _ _ _ _ _ _ _ h1) (fY hk h2)
     ·cases h
    ·rename_i h1;split at h
     ·rename_i h2;cases h;exact asr (hc _ _ _ _ _ _ _ _ h1) (fY hk h2)
     ·cases h
    ·rename_i h1;split at h
     ·rename_i h2;cases h;exact asr (hc _ _ _ _ _ _ _ _ h1) (fY hk h2)
     ·cases h
    ·cases h
  ·cases h
 ·cases h
theorem rS{ops:Array Oper}:∀{l:List Oper} {e:Env} {m:Option IV} {σ:St} {r:Env×Option IV×St},nE P ro ops l e m σ=some r→σ.n≤r.2.2.n
 |[],e,m,σ,r,h=>by cases h;exact ar9 _
 |o::rest,e,m,σ,r,h=>by
  unfold nE at h;split at h
  ·split at h
   ·split at h
    ·exact rS h
    ·exact rS h
   ·split at h
    ·rename_i h1;exact asr (lL h1) (rS h)
    ·cases h
  ·exact rS h
theorem Ge(hc:bQ S){fn:FuncId}:∀{c:Code} {e:Env} {m:Option IV} {σ:St} {r:CR×Option IV},yA P S ro fn c e m σ=some r→σ.n≤r.1.σ.n:=by
 intro c
 have other:∀{c:Code} {e:Env} {m:Option IV} {σ:St} {r:CR×Option IV},(match S.code ro none fn c e [] σ with|some r=>some (r,m)|none=>none)=some r→σ.n≤r.1.σ.n:=by
  intro c e m σ r h;split at h
  ·rename_i h1;cases h;exact hc _ _ _ _ _ _ _ _ h1
  ·cases h
 induction c with
 |seq a b RA ihb=>
  intro e m σ r h;unfold yA at h;split at h
  ·rename_i h1;exact asr (RA h1) (ihb h)
  ·cases h
  ·exact RA h
 |region id ops draw=>
  intro e m σ r h;unfold yA at h;split at h
  ·split at h
   ·rename_i h1;cases h;exact rS h1
   ·cases h
  ·exact other h
 |_=>intro e m σ r h;unfold yA at h;exact other h
theorem Dc(hc:bQ S)(hk:br S):br (lk P S) where
 call:=by
  intro ro f args σ v ah h;simp only[lk,MS]at h;split at h
  ·rename_i h1;split at h
   ·cases h;exact Ku hc hk h1
   ·cases h
  ·cases h
 bC:=by
  intro ro f args σ v ah h;simp only[lk,TS]at h;split at h
  ·rename_i h1;cases h;exact Ku hc hk h1
  ·cases h
 vY:=by
  intro ro f args m σ m' ah h;simp only[lk,A6]at h;split at h
  ·split at h
   ·cases h
   ·split at h
    ·split at h
     ·cases h
     ·split at h
      ·rename_i h1;split at h
       ·cases h;exact Ge hc h1
       ·cases h
      ·rename_i h1;split at h
       ·cases h;exact Ge hc h1
       ·cases h
      ·cases h
    ·cases h
  ·cases h
end Go.Ev
