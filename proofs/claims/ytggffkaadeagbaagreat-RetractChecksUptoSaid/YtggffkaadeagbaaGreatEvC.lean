/- Lemmas over the model, without conditions of their own: operations of the ideal machine are sound (2). -/
import Derived.Test.YtggffkaadeagbaaGreatEvB
open Option renaming map_some->aq9,getD_some->arz,getD_none->arT,bind_some->aqN,map_eq_some_iff->aqL
open Option.some renaming injEq->aqH
open Go.Instr renaming sliceBound->at2,sliceBounds->au3,sliceAt->asK,slice->avY,findNow->arQ,findAsking->arD,findKey->ar7,lookup->atW,keyThatStays->ath,mapUpdate->auh,mapEntry->avv,range->auO,next->asP,typeAssert->atv
open Go.Sem renaming run->asv,run_bind->aqM,run_pure->aqV
open Go.Result renaming andThen_ok->aqJ
open ByteArray renaming ext->awh,data_extract->awt
open Array renaming ext'->asN,getElem?_eq_some_iff->arA,getElem?_eq_getElem->aq7,eq_empty_of_size_eq_zero->as5,toList_map->aua,getD_eq_getD_getElem?->arU
open Nat renaming le_refl->aqK,add_mul->are,mul_le_mul_right->aq8,zero_le->arw,min->aty,min_zero->av9,le_of_not_lt->asH,le_of_eq->av_,blt->arH,blt_eq->auG,le_trans->aq2
open Bool renaming false_eq_true->ara
open Classical renaming byContradiction->arq
open List renaming length_nil->ar0,eq_nil_of_length_eq_zero->arf,getElem?_cons_succ->asZ,isEmpty_iff->arP
open Go.Builtin renaming len_->avt,cap_->avu,clear_->ava,zeroCells->ash,copy_->aur,delete_->at3
open Go renaming Obj->avZ,undef->art
open Go.Utf8 renaming decode->ass
open Go.Question renaming forced->asD
open Go.Deferred renaming ofValue->atP
open Go.Made renaming depth->au4
open Go.Value renaming iface->auP
open Go.Region renaming wanted->avw
open Go.stepG renaming exec->awa
open Go.Frame renaming atR->awj
set_option linter.all false
namespace Go.Ev
variable{P:Program}{N ro:Nat}{ι:Io}{w:World}{σ:St}{ρ:Operand→IV}{r:Operand→Value}{o:Oper}{out:ey}
def Bd:Option Nat→Option Value→Prop
 |none,v=>v=none
 |some n,v=>∃k i,v=some (.int k i)∧0≤i∧i.toNat=n
theorem Jt{x:Option Operand}{q:Option Nat}(h:gh (x.map ρ)=some q)(hr:∀y,x=some y→Rv ι (ρ y) (r y)):Bd q (x.map r):=by
 cases x with
 |none=>simp[gh]at h;subst h;rfl
 |some y=>
  have hy:=hr y rfl;simp only[aq9,gh]at h;split at h
  ·rename_i he;cases he
  ·rename_i k i he;simp only[aqH]at he;split at h
   ·rename_i h0;cases h;exact⟨k,i,by simp[eU he hy],h0,rfl⟩
   ·cases h
  ·cases h
theorem yd{v:Value}{n y:Nat}{code:BoundsCode}(h:∃k i,v=.int k i∧0≤i∧i.toNat=n)(hle:n≤y)(w:World):(at2 v y code).run P w=.ok n w:=by
 obtain⟨k,i,rfl,h0,h1⟩:=h;have:i≤(y:Int):=by omega
 simp[at2,asIntOf,h0,this,h1]
theorem AF{isSlice:Bool}{len cap:Nat}{lo hi mx:Option Value}{ql qh qm:Option Nat}(hl:Bd ql lo)(hh:Bd qh hi)(hm:Bd qm mx)(zG:¬(qm.isSome=true∧qh.isSome=false))
 (h1:qm.getD cap≤cap)(h2:∀h,qh=some h→h≤qm.getD cap)(h3:ql.getD 0≤qh.getD len)(w:World):
 (au3 isSlice len cap lo hi mx).run P w=.ok (ql.getD 0,qh.getD len,qm.getD cap) w:=by
 have fin:∀(h m:Nat) (code:BoundsCode),ql.getD 0≤h→asv P (match lo with
  |some v=>do
   let l←at2 v h code
   pure (l,h,m)
  |none=>do
   let l←pure 0
   pure (l,h,m)) w=.ok (ql.getD 0,h,m) w:=by
  intro h m code hle;cases ql with
  |none=>cases hl;rfl
  |some l=>
   obtain⟨k,i,rfl,h0,h1⟩:=hl;simp only[aqM,yd (P:=P) (v:=.int k i) (n:=l) (y:=h) (code:=code) ⟨k,i,rfl,h0,h1⟩ hle w,aqJ,aqV,arz]
 unfold au3;cases qm with
 |none=>
  cases hm;cases qh with
  |none=>
   cases hh;simp only[aqM,aqV,aqJ,arT];exact fin len cap _ h3
  |some h=>
   obtain⟨k,i,rfl,h0,h4⟩:=hh;have hb:=yd (P:=P) (v:=.int k i) (n:=h) (y:=cap) (code:=if isSlice then .sliceAcap else .sliceAlen) ⟨k,i,rfl,h0,h4⟩ (h2 h rfl) w;simp only[aqM,aqV,aqJ,hb,arT,arz];exact fin h cap _ h3
 |some m=>
  obtain⟨km,im,rfl,Cc,FI⟩:=hm;have p4:=yd (P:=P) (v:=.int km im) (n:=m) (y:=cap) (code:=if isSlice then .slice3Acap else .slice3Alen) ⟨km,im,rfl,Cc,FI⟩ h1 w;cases qh with
  |none=>exact absurd ⟨rfl,rfl⟩ zG
  |some h=>
   obtain⟨k,i,rfl,h0,h4⟩:=hh;have hb:=yd (P:=P) (v:=.int k i) (n:=h) (y:=m) (code:=.slice3B) ⟨k,i,rfl,h0,h4⟩ (h2 h rfl) w;simp only[aqM,aqJ,p4,hb,arz];exact fin h m _ h3
theorem mH{t elem:TypeId}{sz len cap:Nat}{a:Option Addr}{lo hi mx:Option Value}{ql qh qm:Option Nat}(hu:P.underlying t=some (.slice elem))(hs:aH P elem=some sz)
 (hl:Bd ql lo)(hh:Bd qh hi)(hm:Bd qm mx)(zG:¬(qm.isSome=true∧qh.isSome=false))(h1:qm.getD cap≤cap)(h2:∀h,qh=some h→h≤qm.getD cap)(h3:ql.getD 0≤qh.getD len)(w:World):
 (asK t (.slice a len cap) lo hi mx).run P w=
  .ok (.slice (if qm.getD cap=ql.getD 0 then a else a.map (·.add (ql.getD 0*sz))) (qh.getD len- ql.getD 0) (qm.getD cap- ql.getD 0)) w:=by
 have hb:=AF (P:=P) (isSlice:=true) hl hh hm zG h1 h2 h3 w;simp only[asK,aqM,aO hu,aqJ,avY,hb,eB hs,aqV]
theorem extract_eq(s:ByteArray)(l h:Nat):(⟨((s.data.toList.drop l).take (h- l)).toArray⟩:ByteArray)=s.extract l h:=by
 apply awh;apply asN;simp[awt,List.extract_eq_take_drop]
theorem ZK{t:TypeId}{x:Operand}{lo hi mx:Option Operand}(cT:Inv N ι σ w)(hr:Rv ι (ρ x) (r x))(ye:∀y,lo=some y→Rv ι (ρ y) (r y))(Wy:∀y,hi=some y→Rv ι (ρ y) (r y))
 (sq:∀y,mx=some y→Rv ι (ρ y) (r y))(ho:o.op=.slice t x lo hi mx)(h:ak P ro ρ o σ=some out):bg P ro N ι w σ r o out:=by
 unfold ak at h;rw[ho]at h;simp only at h;split at h
 ·rename_i v hv;obtain rfl:=aE h
  suffices hs:∃u,(asK t (r x) (lo.map r) (hi.map r) (mx.map r)).run P w=.ok u w∧Rv ι v u by
   obtain⟨u,h1,h2⟩:=hs;exact bg.same cT (u:=u) (by simp[execOp,ho,h1]) h2
  generalize hq:r x=q at hr;generalize hiq:ρ x=iq at hr hv;unfold fg at hv;split at hv
  ·rename_i _ _ _ ql qh qm e1 e2 e3;have bl:=Jt e1 ye;have bh:=Jt e2 Wy;have bm:=Jt e3 sq;clear e1 e2 e3;split at hv
   ·cases hv
   ·rename_i zG;split at hv
    ·rename_i hu;split at hv
     ·rename_i s;split at hv
      ·rename_i hc;obtain⟨rfl,h1,h2⟩:=hc;cases hv;cases hr;refine⟨.string (s.extract (ql.getD 0) (qh.getD s.size)),?_,by rw[extract_eq];exact .raw _⟩;have hb:=AF (P:=P) (isSlice:=false) (len:=s.size) (cap:=s.size) (mx:=none) bl bh (qm:=none) rfl (by simp) (aqK _) (fun h hh=>by subst hh;simpa using h2) h1 w;have pX:mx.map r=none:=bm;simp only[asK,aqM,aO hu,aqJ,avY,pX,Option.isSome_none,ara,if_false,aqV,hb]
      ·cases hv
     ·cases hv
    ·rename_i elem hu;split at hv
     ·cases hv
     ·rename_i sz aL;split at hv
      ·split at hv
       ·rename_i hc;obtain⟨h1,h2,h3⟩:=hc;cases hv;cases hr;have hb:=mH (P:=P) (a:=none) (len:=0) (cap:=0) hu aL bl bh bm zG (by omega) (fun h hh=>by subst hh;simp at h2;omega) (by omega) w;rw[h1,h2,h3]at hb;exact⟨_,by simpa using hb,.raw _⟩
       ·cases hv
      ·split at hv
       ·rename_i hc;obtain⟨h1,h2,h3⟩:=hc;cases hv;cases hr with
        |emp a=>
         have hb:=mH (P:=P) (a:=some a) (len:=0) (cap:=0) hu aL bl bh bm zG (by omega) (fun h hh=>by subst hh;simp at h2;omega) (by omega) w;rw[h1,h2,h3]at hb;exact⟨_,by simpa using hb,.emp a⟩
       ·cases hv
      ·rename_i id off len cap ep s;split at hv
       ·cases hv
       ·rename_i ic;have ic:sz=s:=arq ic;subst ic;cases hr with
        |sl _ _ _ _ _ _ l c a hl hn gN bA hle fw ha=>
         have known:∀m:Nat,qm.getD c=m→m≤c→(off+m*sz≤l.n)→ql.getD 0≤qh.getD len→qh.getD len≤m→
          some v=some (if m=ql.getD 0 then .emp else .sl id (off+ql.getD 0*sz) (qh.getD len- ql.getD 0) (some (m- ql.getD 0)) ep sz)→
          ∃u,(asK t (.slice (some a) len c) (lo.map r) (hi.map r) (mx.map r)).run P w=.ok u w∧Rv ι v u:=by
          intro m e1 e2 e3 e4 e5 e6;have hb:=mH (P:=P) (a:=some a) (len:=len) (cap:=c) hu aL bl bh bm zG (by omega) (fun h hh=>by subst hh;simp only[arz]at e5;omega) e4 w;rw[e1]at hb;refine⟨_,hb,?_⟩;by_cases CP:m=ql.getD 0
          ·rw[if_pos CP]at e6;cases e6;rw[if_pos CP,show qh.getD len- ql.getD 0=0 by omega,show m- ql.getD 0=0 by omega];exact .emp a
          ·rw[if_neg CP]at e6;cases e6;rw[if_neg CP];have wX:=ha (by omega);subst wX;simp only[aq9,gQ];have FI:ql.getD 0*sz+(m- ql.getD 0)*sz=m*sz:=by rw[←are];congr 1;omega
           have hm2:ql.getD 0*sz+(qh.getD len- ql.getD 0)*sz=qh.getD len*sz:=by rw[←are];congr 1;omega
           have hm3:qh.getD len*sz≤m*sz:=aq8 sz e5;have hm4:m*sz≤c*sz:=aq8 sz e2;exact .sl _ _ _ _ _ _ l _ _ hl (by omega) (by omega) bA (by omega) (fun k hk=>by cases hk;exact⟨rfl,by omega⟩) (fun _=>rfl)
         split at hv
         ·rename_i _ m;split at hv
          ·rename_i hc;obtain⟨h1,h2,h3⟩:=hc
           have pX:m≤c∧off+m*sz≤l.n:=by
            cases cap with
            |none=>
             simp only[arT]at h3;have:m*sz≤len*sz:=aq8 sz h3;exact⟨by omega,by omega⟩
            |some k=>
             simp only[arz]at h3;obtain⟨hk,zH⟩:=fw k rfl;subst hk;have:m*sz≤c*sz:=aq8 sz h3;exact⟨h3,by omega⟩
           refine known m rfl pX.1 pX.2 h1 h2 ?_;rw[←hv];split<;>rfl
          ·cases hv
         ·rename_i m;split at hv
          ·rename_i hc;obtain⟨h1,h2⟩:=hc;obtain⟨hk,zH⟩:=fw m rfl;subst hk;refine known c rfl (aqK _) zH h1 h2 ?_;rw[←hv];split<;>rfl
          ·cases hv
         ·split at hv
          ·rename_i hc;obtain⟨h1,h2⟩:=hc;cases hv;have hb:=mH (P:=P) (a:=some a) (len:=len) (cap:=c) hu aL bl bh bm zG (aqK _) (fun h hh=>by subst hh;simp only[arz,arT]at h2⊢;omega) h1 w;simp only[arT]at hb;have FI:ql.getD 0*sz+(c- ql.getD 0)*sz=c*sz:=by rw[←are];congr 1;omega
           have hm2:ql.getD 0*sz+(qh.getD len- ql.getD 0)*sz=qh.getD len*sz:=by rw[←are];congr 1;omega
           have hm3:qh.getD len*sz≤len*sz:=aq8 sz h2;by_cases dU:c=ql.getD 0
           ·rw[if_pos dU]at hb;exact⟨_,hb,.sl _ _ _ _ _ _ l _ _ hl (by omega) (by omega) bA (by omega) (fun k hk=>by cases hk) (fun h0=>by omega)⟩
           ·rw[if_neg dU]at hb;have wX:=ha (by omega);subst wX;simp only[aq9,gQ]at hb;exact⟨_,hb,.sl _ _ _ _ _ _ l _ _ hl (by omega) (by omega) bA (by omega) (fun k hk=>by cases hk) (fun _=>rfl)⟩
          ·cases hv
      ·rename_i s es;split at hv
       ·cases hv
       ·rename_i ic;have ic:sz=s:=arq ic;subst ic;cases hr with
        |tree _ _ b off c us bA qx bC x_ hh=>
         split at hv
         ·split at hv
          ·rename_i hc;obtain⟨h1,h2⟩:=hc;cases hv;have hb:=mH (P:=P) (a:=some ⟨b,off,none⟩) (len:=es.length) (cap:=c) hu aL bl bh bm zG (aqK _) (fun h hh=>by subst hh;simp only[arz,arT]at h2⊢;omega) h1 w;simp only[arT]at hb;have hlen:((es.take (qh.getD es.length)).drop (ql.getD 0)).length=qh.getD es.length- ql.getD 0:=by simp;omega
           have aeE:∀bb oo,(c≠ql.getD 0→bb=b∧oo=off+ql.getD 0*sz)→Rv ι (.tree sz ((es.take (qh.getD es.length)).drop (ql.getD 0))) (.slice (some ⟨bb,oo,none⟩) (qh.getD es.length- ql.getD 0) (c- ql.getD 0)):=by
            intro bb oo hbo;rw[←hlen];refine .tree _ _ _ _ _ (fun k=>us (ql.getD 0*sz+k)) bA (by omega) (fun e he=>bC e (List.mem_of_mem_take (List.mem_of_mem_drop he))) (fun k hk=>?_) (fun i e j x he hx=>?_)
            ·rw[hlen]at hk;have FI:ql.getD 0*sz+(qh.getD es.length- ql.getD 0)*sz=qh.getD es.length*sz:=by rw[←are];congr 1;omega
             have hm2:qh.getD es.length*sz≤es.length*sz:=aq8 sz h2
             have aT:c≠ql.getD 0:=by
              intro dU;have:qh.getD es.length- ql.getD 0=0:=by omega
              rw[this]at hk;omega
             obtain⟨rfl,rfl⟩:=hbo aT;rw[show off+ql.getD 0*sz+k=off+(ql.getD 0*sz+k) by omega];exact x_ _ (by omega)
            ·rw[List.getElem?_drop,List.getElem?_take]at he;split at he
             ·have:=hh _ _ _ _ he hx;rwa[are,Nat.add_assoc]at this
             ·cases he
           by_cases dU:c=ql.getD 0
           ·rw[if_pos dU]at hb;exact⟨_,hb,aeE b off (fun h=>absurd dU h)⟩
           ·rw[if_neg dU]at hb;simp only[aq9,gQ]at hb;exact⟨_,hb,aeE b _ (fun _=>⟨rfl,rfl⟩)⟩
          ·cases hv
         ·rename_i m;split at hv
          ·rename_i hc;obtain⟨rfl,h1,h2⟩:=hc;cases hv;have hb:=mH (P:=P) (a:=some ⟨b,off,none⟩) (len:=es.length) (cap:=c) hu aL bl bh bm zG (arw _) (fun h hh=>by subst hh;simp only[arz]at h2⊢;omega) (by omega) w;rw[h1,h2]at hb;exact⟨_,by simpa using hb,.dN _ _ _ bA (by simp)⟩
          ·cases hv
        |dN _ a c bA hn=>
         split at hv
         ·split at hv
          ·rename_i hc;obtain⟨h1,h2⟩:=hc;cases hv;simp only[ar0]at h1 h2;have ja:ql.getD 0=0:=by omega
           have Hz:qh.getD 0=0:=by omega
           have hb:=mH (P:=P) (a:=a) (len:=0) (cap:=c) hu aL bl bh bm zG (aqK _) (fun h hh=>by subst hh;simp only[arz,arT]at Hz⊢;omega) (by omega) w;simp only[arT,ja,Hz]at hb;refine⟨_,hb,?_⟩;simp only[List.take_nil,List.drop_nil]
           exact .dN _ _ _ bA (fun hx=>by
            cases a with
            |none=>have:=hn rfl;omega
            |some a=>split at hx<;>simp at hx)
          ·cases hv
         ·rename_i m;split at hv
          ·rename_i hc;obtain⟨rfl,h1,h2⟩:=hc;cases hv;have hb:=mH (P:=P) (a:=a) (len:=0) (cap:=c) hu aL bl bh bm zG (arw _) (fun h hh=>by subst hh;simp only[arz]at h2⊢;omega) (by omega) w;simp only[ar0]at h2;rw[h1,h2]at hb;exact⟨_,by simpa using hb,.dN _ _ _ bA (by simp)⟩
          ·cases hv
      ·cases hv
    ·rename_i n elem hu;split at hv
     ·rename_i id off ep ext s hs;split at hv
      ·rename_i hc;obtain⟨bA,aT,rfl,h1,h2⟩:=hc;cases hr with
       |ptr _ _ _ _ l hl hx=>
        have hb:=AF (P:=P) (isSlice:=false) (len:=n) (cap:=n) bl bh bm zG (aqK _) (fun h hh=>by subst hh;simpa using h2) h1 w;simp only[arT]at hb
        have fF:(asK t (.pointer (some ⟨l.b,off,none⟩)) (lo.map r) (hi.map r) (mx.map r)).run P w=
         .ok (.slice (some (if n=ql.getD 0 then⟨l.b,off,none⟩else(⟨l.b,off,none⟩:Addr).add (ql.getD 0*s))) (qh.getD n- ql.getD 0) (n- ql.getD 0)) w:=by
         simp only[asK,aqM,aO hu,aqJ,Instr.sureAddr,aqV,hb,eB hs]
        refine⟨_,fF,?_⟩;split at hv
        ·rename_i HA;cases hv;rw[if_pos HA,show qh.getD n- ql.getD 0=0 by omega,show n- ql.getD 0=0 by omega];exact .emp _
        ·rename_i HA;cases hv;rw[if_neg HA,gQ];have FI:ql.getD 0*s+(n- ql.getD 0)*s=n*s:=by rw[←are];congr 1;omega
         have hm2:ql.getD 0*s+(qh.getD n- ql.getD 0)*s=qh.getD n*s:=by rw[←are];congr 1;omega
         have hm3:qh.getD n*s≤n*s:=aq8 s h2;exact .sl _ _ _ _ _ _ l _ _ hl (by omega) (by omega) (by omega) (by omega) (fun k hk=>by cases hk;exact⟨rfl,by omega⟩) (fun _=>rfl)
      ·cases hv
     ·cases hv
    ·cases hv
  ·cases hv
 ·cases h
end Go.Ev
namespace Go.Ev
variable{P:Program}{N ro:Nat}{ι:Io}{w:World}{σ:St}{ρ:Operand→IV}{r:Operand→Value}{o:Oper}{out:ey}
theorem Ny{c:Call}{b:Builtin}(ho:o.op=.call c)(hb:c.callee=.builtin b):
 execOp r o=builtin b c.argTypes o.type (c.args.map fun|.const _=>true|_=>false) (c.args.map r):=by
 simp only[execOp,ho,resolve,hb];rfl
def wZ(P:Program)(ro:Nat)(N:Nat)(ι:Io)(w:World)(σ:St)(s:Sem Next)(out:ey):Prop:=
 ∃v ah,out=.val v ah∧(ah.n≤N→Hu ro N ι w σ (s.run P w) v ah)
theorem wZ.Wz{s:Sem Value}{v:IV}{ah:St}(h:ah.n≤N→qy P ro N ι w σ s v ah):wZ P ro N ι w σ (do pure (.value (←s))) (.val v ah):=by
 refine⟨v,ah,rfl,fun hN=>?_⟩;obtain⟨u,w',aC,h1,h2,h3,h4⟩:=h hN;exact⟨u,w',aC,.inl (by simp only[aqM,h1,aqJ,aqV]),h2,h3,h4⟩
theorem wZ.same{s:Sem Value}{v:IV}{u:Value}(hi:Inv N ι σ w)(h:s.run P w=.ok u w)(hr:Rv ι v u):wZ P ro N ι w σ (do pure (.value (←s))) (.val v σ):=
 wZ.Wz fun _=>⟨u,w,ι,h,hr,hi,Le.refl _ _ _ _⟩
theorem tS{x:IV}{vs:List Value}(h:ax ι [x] vs):∃v,vs=[v]∧Rv ι x v:=by
 obtain⟨v,vG,rfl,h1,h2⟩:=h.sb;exact⟨v,by rw[h2.of_nil],h1⟩
theorem Ju{x y:IV}{vs:List Value}(h:ax ι [x,y] vs):∃v u,vs=[v,u]∧Rv ι x v∧Rv ι y u:=by
 obtain⟨v,vG,rfl,h1,h2⟩:=h.sb;obtain⟨u,rfl,h3⟩:=tS h2;exact⟨v,u,rfl,h1,h3⟩
theorem ade{argTypes:Array TypeId}{ty:TypeId}{x v:IV}{u:Value}(hi:Inv N ι σ w)(hr:Rv ι x u)(h:n9 P argTypes x σ=some v):∃z,(avt argTypes ty #[u]).run P w=.ok z w∧Rv ι v z:=by
 unfold n9 at h;cases rH:argTypes[0]? with
 |none=>simp[rH]at h
 |some t=>
  rw[rH,aqN]at h;have e1:(#[u]:Array Value)[0]?=some u:=rfl;unfold avt;rw[rH,e1];split at h
  ·rename_i hu;cases h;cases hr;exact⟨_,by simp only[aqM,aO hu,aqJ,aqV,goInt],.raw _⟩
  ·rename_i hu;cases h;cases hr;exact⟨_,by simp only[aqM,aO hu,aqJ,aqV,goInt];rfl,.raw _⟩
  ·rename_i hu;cases h;cases hr<;>
   exact⟨_,by simp only[aqM,aO hu,aqJ,aqV,goInt]<;>rfl,.raw _⟩
  ·rename_i hu;cases h;cases hr;exact⟨_,by simp only[aqM,aO hu,aqJ,aqV,goInt],.raw _⟩
  ·rename_i hu;cases h;cases hr;exact⟨_,by simp only[aqM,aO hu,aqJ,aqV,goInt],.raw _⟩
  ·rename_i hu;cases h;cases hr;exact⟨_,by simp only[aqM,aO hu,aqJ,aqV,goInt],.raw _⟩
  ·rename_i id hu;split at h
   ·rename_i es clock aA;cases h;cases hr with
    |map _ l hl=>
     obtain⟨l',res,cd,hh,he⟩:=hi.obj id _ aA;rw[hl]at cd;cases cd;have:(getObj l.b).run P w=.ok (.map res clock) w:=by simp[getObj,asv,hh]
     refine⟨.int .i64 res.size,?_,?_⟩
     ·simp only[aqM,aO hu,aqJ,this,aqV,goInt]
     ·rw[←he.1];exact .raw _
   ·cases h
  ·rename_i n e hu;cases h;exact⟨.int .i64 n,by simp only[aqM,aO hu,aqJ];rfl,.raw _⟩
  ·cases h
theorem adf{argTypes:Array TypeId}{ty:TypeId}{x v:IV}{u:Value}(hr:Rv ι x u)(h:Ue P argTypes x=some v):∃z,(avu argTypes ty #[u]).run P w=.ok z w∧Rv ι v z:=by
 unfold Ue at h;cases rH:argTypes[0]? with
 |none=>simp[rH]at h
 |some t=>
  rw[rH,aqN]at h;have e1:(#[u]:Array Value)[0]?=some u:=rfl;unfold avu;rw[rH,e1];split at h
  ·rename_i c _ _ hu;cases h;cases hr with
   |sl _ _ _ _ _ _ l c' a hl hn gN bA hle fw ha=>
    obtain⟨rfl,_⟩:=fw _ rfl;exact⟨_,by simp only[aqM,aO hu,aqJ,aqV,goInt],.raw _⟩
  ·rename_i hu;cases h;cases hr;exact⟨_,by simp only[aqM,aO hu,aqJ,aqV,goInt];rfl,.raw _⟩
  ·rename_i hu;cases h;cases hr;exact⟨_,by simp only[aqM,aO hu,aqJ,aqV,goInt],.raw _⟩
  ·rename_i n e hu;cases h;exact⟨.int .i64 n,by simp only[aqM,aO hu,aqJ];rfl,.raw _⟩
  ·cases h
theorem bP{b:Nat}{ob:avZ}(h:w.heap[b]?=some ob)(hc:∀c e f,ob≠.cells c e f):(getObj b).run P w=.ok ob w:=by
 simp only[getObj,asv,h]
theorem eD{b:Nat}{ob eE:avZ}(h:w.heap[b]?=some ob)(hc:∀c e f,ob≠.cells c e f):(setObj b eE).run P w=.ok () {w with heap:=w.heap.setIfInBounds b eE}:=by
 simp only[setObj,asv,h]
theorem Inv.kg(hi:Inv N ι σ w){id:Nat}{ob eE:Ob}{l:Loc}{go:avZ}(aA:σ.at id=some ob)(cx:ro≤id)(hl:ι id 0=some l)(dt:ki ι {w with heap:=w.heap.setIfInBounds l.b go} id eE):
 Inv N ι (σ.put id eE) {w with heap:=w.heap.setIfInBounds l.b go}∧Le ro ι w σ ι {w with heap:=w.heap.setIfInBounds l.b go} (σ.put id eE):=by
 refine hi.put aA cx ⟨_,_,hl⟩ (Ext.refl _) (fun _ _ _=>rfl) (fun b hb=>.inl hb) (by simp) (fun b _ bx=>?_) rfl rfl rfl dt;have:l.b≠b:=fun e=>bx ⟨0,l,hl,e⟩;simp[this]
theorem WA{argTypes:Array TypeId}{ty:TypeId}{x:IV}{u:Value}(hi:Inv N ι σ w)(hr:Rv ι x u)(h:sa P ro argTypes x σ=some out):
 ∃v ah,out=.val v ah∧(ah.n≤N→qy P ro N ι w σ (ava argTypes ty #[u]) v ah):=by
 unfold sa at h;cases rH:argTypes[0]? with
 |none=>simp[rH]at h
 |some t=>
  rw[rH,aqN]at h;have e1:(#[u]:Array Value)[0]?=some u:=rfl
  have idle:∀{d:TypeDesc},P.underlying t=some d→(∃l c,u=.slice none l c)∨u=.map none∨(∃a c,u=.slice a 0 c)→
   qy P ro N ι w σ (ava argTypes ty #[u]) .undef σ:=by
   intro d hu hc;unfold ava;rw[rH,e1];refine⟨.tuple #[],w,ι,?_,.raw _,hi,Le.refl _ _ _ _⟩;rcases hc with⟨l,c,rfl⟩|rfl|⟨a,c,rfl⟩
   ·simp only[aqM,aO hu,aqJ];cases d<;>rfl
   ·simp only[aqM,aO hu,aqJ];cases d<;>rfl
   ·cases a<;>(simp only[aqM,aO hu,aqJ];cases d<;>rfl)
  split at h
  ·rename_i hu;obtain rfl:=aE h;cases hr;exact⟨_,_,rfl,fun _=>idle hu (.inl ⟨_,_,rfl⟩)⟩
  ·rename_i hu;obtain rfl:=aE h;cases hr;exact⟨_,_,rfl,fun _=>idle hu (.inr (.inl rfl))⟩
  ·rename_i hu;obtain rfl:=aE h;cases hr;exact⟨_,_,rfl,fun _=>idle hu (.inr (.inr ⟨_,_,rfl⟩))⟩
  ·rename_i id hu;split at h
   ·rename_i es clock aA;split at h
    ·rename_i cx;obtain rfl:=aE h;refine⟨_,_,rfl,fun hN=>?_⟩;unfold ava;rw[rH,e1];cases hr with
     |map _ l hl=>
      obtain⟨l',res,cd,hh,he⟩:=hi.obj id _ aA;rw[hl]at cd;cases cd;have aa:l.b<w.heap.size:=hi.iw id _ ⟨_,_,hl,rfl⟩;obtain⟨h1,h2⟩:=hi.kg (ro:=ro) (eE:=.map [] clock) (go:=.map #[] clock) aA cx hl ⟨l, #[],hl,by simp[aa],by simp,fun i e r h=>by simp at h⟩;refine⟨.tuple #[],_,ι,?_,.raw _,h1,h2⟩;simp only[aqM,aO hu,aqJ,bP (P:=P) hh (by simp),eD (P:=P) hh (by simp),aqV]
    ·cases h
   ·cases h
  ·rename_i elem id off len cap ep s hu;split at h
   ·rename_i h0;obtain rfl:=aE h;subst h0;cases hr with
    |sl _ _ _ _ _ _ l c' a hl hn gN bA hle fw ha=>exact⟨_,_,rfl,fun _=>idle hu (.inr (.inr ⟨_,_,rfl⟩))⟩
   ·rename_i h0;split at h
    ·rename_i cs au mn aA;split at h
     ·rename_i z hz;split at h
      ·rename_i hc;obtain⟨hs,rG,bo,cx,rfl,CK⟩:=hc;obtain rfl:=aE h;refine⟨_,_,rfl,fun hN=>?_⟩;unfold ava;rw[rH,e1];cases hr with
       |sl _ _ _ _ _ _ l c' a hl hn gN bA hle fw ha=>
        have FF:=ya (ι:=ι) z s len rG hs;have ll:=CL z s len rG;obtain⟨l2,cc,el,eN,u5,aa,r1,r2⟩:=hi.write (ro:=ro) (off:=off) aA cx (by rw[FF.1,ll];exact CK) FF;rw[hl]at eN;cases eN;have wX:=ha (by omega);subst wX;refine⟨.tuple #[],_,ι,?_,.raw _,r1,r2⟩
        have FJ:ash z.cells len=((List.replicate len z.cells.toList).flatten).toArray:=by
         unfold ash;have:=wV z.cells s len rG hs;rwa[←rG]at this
        simp only[aqM,aO hu,aqJ];simp only[iG hz,aqJ,FJ,lk (P:=P) u5 aa (sh FF bo),aqV]
      ·cases h
     ·cases h
    ·cases h
  ·cases h
theorem ZL{argTypes:Array TypeId}{ty:TypeId}{d s:IV}{vd vs:Value}(hi:Inv N ι σ w)(hd:Rv ι d vd)(hs:Rv ι s vs)(h:Ey P ro argTypes d s σ=some out):
 ∃v ah,out=.val v ah∧(ah.n≤N→qy P ro N ι w σ (aur argTypes ty #[vd,vs]) v ah):=by
 unfold Ey at h;cases rH:argTypes[0]? with
 |none=>simp[rH]at h
 |some t=>
  rw[rH,aqN]at h;split at h
  ·rename_i elem hu;split at h
   ·rename_i size dl sl aL CQ oi;split at h
    ·rename_i new eR;split at h
     ·cases h
     ·rename_i hc;have hlen:new.length=aty sl dl*size:=arq fun e=>hc (.inl e);have bo:new.all af=true:=by cases hb:new.all af with|true=>rfl|false=>exact absurd (.inr hb) hc
      obtain⟨bZ,Hy,hrv⟩:=yb (P:=P) hi eR hs;have fK:=R_ (P:=P) oi hs w;have e0:(#[vd,vs]:Array Value)[0]?=some vd:=rfl;have e1:(#[vd,vs]:Array Value)[1]?=some vs:=rfl
      have run:∀{base:Option Addr} {cap:Nat},vd=.slice base dl cap→(aur argTypes ty #[vd,vs]).run P w=
       ((match base with|some a=>(storeCells a bZ).run P w|none=>.ok () w).andThen fun _ w'=>.ok (.int .i64 (aty sl dl)) w'):=by
       intro base cap hv;unfold aur;rw[rH,e0,e1];subst hv;simp only[aqM,aO hu,aqJ,fK,eB aL,Hy w rfl];cases base<;>simp[goInt]
      split at h
      ·obtain rfl:=aE h;refine⟨_,_,rfl,fun _=>?_⟩;have h0:dl=0:=by simp[kh]at CQ;exact CQ.symm
       subst h0;cases hd;exact⟨_,w,ι,run rfl,.raw _,hi,Le.refl _ _ _ _⟩
      ·obtain rfl:=aE h;refine⟨_,_,rfl,fun _=>?_⟩;have h0:dl=0:=by simp[kh]at CQ;exact CQ.symm
       subst h0;cases hd with
       |emp a=>
        have hv0:bZ=[]:=arf (by have:=hrv.1;have:aty sl 0=0:=av9 sl;rw[this]at hlen;omega);subst hv0;exact⟨_,w,ι,(run rfl).trans (by simp[storeCells]),.raw _,hi,Le.refl _ _ _ _⟩
      ·rename_i id off len cap ep st;have h0:len=dl:=by simp[kh]at CQ;exact CQ
       subst h0;cases hd with
       |sl _ _ _ _ _ _ l c' a hl hn gN bA hle fw ha=>
        split at h
        ·rename_i hz;obtain rfl:=aE h;refine⟨_,_,rfl,fun _=>?_⟩;have hv0:bZ=[]:=arf (by have:=hrv.1;rw[hz]at hlen;omega);subst hv0;refine⟨.int .i64 (aty sl len),w,ι,(run rfl).trans (by simp[storeCells]),?_,hi,Le.refl _ _ _ _⟩;rw[hz];exact .raw _
        ·rename_i hz;split at h
         ·rename_i cs au mn aA;split at h
          ·rename_i lZ;obtain⟨rfl,cx,rfl,CK⟩:=lZ;obtain rfl:=aE h;refine⟨_,_,rfl,fun _=>?_⟩;obtain⟨l2,cc,el,eN,u5,aa,r1,r2⟩:=hi.write (ro:=ro) (off:=off) aA cx (by rw[hlen];exact CK) hrv;rw[hl]at eN;cases eN
           have sj:0<len:=by
            rcases Nat.eq_zero_or_pos len with h|h
            ·subst h;exact absurd (av9 sl) hz
            ·exact h
           have wX:=ha (by omega);subst wX;refine⟨_,_,ι,(run rfl).trans ?_,.raw _,r1,r2⟩;simp only[lk (P:=P) u5 aa (sh hrv bo),aqJ]
          ·cases h
         ·cases h
      ·cases h
    ·cases h
   ·cases h
  ·cases h
end Go.Ev
namespace Go.Ev
variable{P:Program}{N ro:Nat}{ι:Io}{w:World}{σ:St}{ρ:Operand→IV}{r:Operand→Value}{o:Oper}{out:ey}
theorem bn{α β:Type}(x:Sem α)(f:α→Sem β):aK P (x>>=f)=(aK P x).bind fun a=>aK P (f a):=by
 show aK P (x.bind f)=_;induction x with
 |pure a=>rfl
 |program k ih=>simp only[Sem.bind,aK];exact ih P
 |mark m k ih=>simp only[Sem.bind,aK];exact ih
 |_=>rfl
theorem l7{α β:Type}{x:Sem α}{f:α→Sem β}{b:β}(h:aK P (x>>=f)=some b):∃a,aK P x=some a∧aK P (f a)=some b:=by
 rw[bn]at h;exact Option.bind_eq_some_iff.1 h
def SameKeys(es aB:List MapEntry):Prop:=es.length=aB.length∧∀(i:Nat) (e e':MapEntry),es[i]?=some e→aB[i]?=some e'→e.key=e'.key
theorem SameKeys.tail{e e':MapEntry}{es aB:List MapEntry}(h:SameKeys (e::es) (e'::aB)):e.key=e'.key∧SameKeys es aB:=
 ⟨h.2 0 e e' rfl rfl,by simpa using h.1,fun i a b h1 h2=>h.2 (i+1) a b h1 h2⟩
theorem CS{kind:TypeDesc}{k:Value}:∀{es aB:List MapEntry} (i:Nat) {q:Option (Nat×Value)},SameKeys es aB→arQ kind k es i=some q→
 (q=none∧arQ kind k aB i=some none)∨(∃j v e',q=some (j,v)∧i≤j∧aB[j- i]?=some e'∧arQ kind k aB i=some (some (j,e'.val)))
 |[],aB,i,q,hk,h=>by
  cases aB with
  |nil=>simp only[arQ,aqH]at h;subst h;exact .inl ⟨rfl,rfl⟩
  |cons a b=>have:=hk.1;simp at this
 |e::es,aB,i,q,hk,h=>by
  cases aB with
  |nil=>have:=hk.1;simp at this
  |cons e' aB=>
   obtain⟨h1,h2⟩:=hk.tail;simp only[arQ]at h⊢;rw[h1]at h;split at h
   ·rename_i hs;cases h;exact .inr ⟨i,_,e',rfl,aqK _,by simp,rfl⟩
   ·rename_i hs;rcases CS (i+1) h2 h with⟨h3,h4⟩|⟨j,v,e2,h3,h4,h5,h6⟩
    ·exact .inl ⟨h3,h4⟩
    ·refine .inr ⟨j,v,e2,h3,by omega,?_,h6⟩;rw[show j- i=(j-(i+1))+1 by omega,asZ];exact h5
   ·cases h
theorem CT{kind:TypeDesc}{k:Value}:∀{es aB:List MapEntry} (i:Nat),SameKeys es aB→arQ kind k es i=none→arQ kind k aB i=none
 |[],aB,i,hk,h=>by simp[arQ]at h
 |e::es,aB,i,hk,h=>by
  cases aB with
  |nil=>have:=hk.1;simp at this
  |cons e' aB=>
   obtain⟨h1,h2⟩:=hk.tail;simp only[arQ]at h⊢;rw[h1]at h;split at h
   ·cases h
   ·exact CT (i+1) h2 h
   ·rfl
theorem yf{kt:TypeId}{k:Value}:∀{es aB:List MapEntry} (i:Nat) {q:Option (Nat×Value)},SameKeys es aB→aK P (arD kt k es i)=some q→
 (q=none∧∀w,(arD kt k aB i).run P w=.ok none w)∨(∃j v e',q=some (j,v)∧i≤j∧aB[j- i]?=some e'∧∀w,(arD kt k aB i).run P w=.ok (some (j,e'.val)) w)
 |[],aB,i,q,hk,h=>by
  cases aB with
  |nil=>simp only[arD]at h;cases h;exact .inl ⟨rfl,fun w=>rfl⟩
  |cons a b=>have:=hk.1;simp at this
 |e::es,aB,i,q,hk,h=>by
  cases aB with
  |nil=>have:=hk.1;simp at this
  |cons e' aB=>
   obtain⟨h1,h2⟩:=hk.tail;simp only[arD]at h⊢;rw[h1]at h;obtain⟨b,hb,h⟩:=l7 h;cases b with
   |true=>
    simp only[if_true]at h;cases h;refine .inr ⟨i,_,e',rfl,aqK _,by simp,fun w=>?_⟩;simp only[aqM,eL w _ hb,aqJ,if_true,aqV]
   |false=>
    simp only[ara,if_false]at h;rcases yf (i+1) h2 h with⟨h3,h4⟩|⟨j,v,e2,h3,h4,h5,h6⟩
    ·refine .inl ⟨h3,fun w=>?_⟩;simp only[aqM,eL w _ hb,aqJ,ara,if_false,h4]
    ·refine .inr ⟨j,v,e2,h3,by omega,?_,fun w=>?_⟩
     ·rw[show j- i=(j-(i+1))+1 by omega,asZ];exact h5
     ·simp only[aqM,eL w _ hb,aqJ,ara,if_false,h6]
theorem oO{empty:Bool}{kt:TypeId}{k:Value}{es:List (Value×IV×Nat)}{res:Array MapEntry}{q:Option Nat}(he:gk ι es res)(h:gM P empty kt k es=some q)(w:World):
 (Instr.checkKey empty 10000 kt k).run P w=.ok () w∧
 ((q=none∧(ar7 kt k res.toList).run P w=.ok none w)∨(∃i e rr,q=some i∧es[i]?=some e∧res[i]?=some rr∧(ar7 kt k res.toList).run P w=.ok (some (i,rr.val)) w)):=by
 have hk:SameKeys (es.map fun e=>{key:=e.1,val:=art,born:=e.2.2}) res.toList:=by
  refine⟨by simp[he.1],fun i a b h1 h2=>?_⟩;simp only[List.getElem?_map,aqL]at h1;obtain⟨e,h1,rfl⟩:=h1;exact(he.2 i e b h1 (by simpa using h2)).1.symm
 have fin:∀{q':Option (Nat×Value)},aK P (ar7 kt k (es.map fun e=>{key:=e.1,val:=art,born:=e.2.2}))=some q'→
  (q'=none∧(ar7 kt k res.toList).run P w=.ok none w)∨(∃i v rr,q'=some (i,v)∧res[i]?=some rr∧(ar7 kt k res.toList).run P w=.ok (some (i,rr.val)) w):=by
  intro q' h;unfold ar7 at h⊢;obtain⟨d,hd,h⟩:=l7 h;have HB:=eL w _ hd;simp only[aqM,HB,aqJ];split at h
  ·rename_i q2 Nz;cases h;rcases CS 0 hk Nz with⟨h3,h4⟩|⟨j,v,e2,h3,h4,h5,h6⟩
   ·exact .inl ⟨h3,by rw[h4];rfl⟩
   ·exact .inr ⟨j,v,e2,h3,by simpa using h5,by rw[h6];rfl⟩
  ·rename_i Nz;rw[CT 0 hk Nz];rcases yf 0 hk h with⟨h3,h4⟩|⟨j,v,e2,h3,h4,h5,h6⟩
   ·exact .inl ⟨h3,h4 w⟩
   ·exact .inr ⟨j,v,e2,h3,by simpa using h5,h6 w⟩
 unfold gM at h;split at h
 ·rename_i i v hp;cases h;obtain⟨_,h1,h2⟩:=l7 hp;refine⟨eL w _ h1,.inr ?_⟩;rcases fin h2 with⟨h3,_⟩|⟨j,v',rr,h3,h4,h5⟩
  ·cases h3
  ·cases h3;have aa:i<es.length:=by have:=(arA.1 h4).1;have:=he.1;omega
   exact⟨i,es[i],rr,rfl,List.getElem?_eq_getElem aa,h4,h5⟩
 ·rename_i hp;cases h;obtain⟨_,h1,h2⟩:=l7 hp;refine⟨eL w _ h1,.inl ⟨rfl,?_⟩⟩;rcases fin h2 with⟨_,h4⟩|⟨j,v',rr,h3,h4,h5⟩
  ·exact h4
  ·cases h3
 ·cases h
theorem gk.nil:gk ι [] #[]:=⟨rfl,fun i e r h=>by simp at h⟩
theorem gk.isEmpty{es:List (Value×IV×Nat)}{res:Array MapEntry}(h:gk ι es res):es.isEmpty=res.isEmpty:=by
 have:=h.1;rw[Bool.eq_iff_iff,arP,Array.isEmpty_iff];rw[←List.length_eq_zero_iff,←Array.size_eq_zero_iff,this]
theorem WB{t:TypeId}{x ix:Operand}{ok:Bool}(hi:Inv N ι σ w)(hr:Rv ι (ρ x) (r x))(og:Rv ι (ρ ix) (r ix))(ho:o.op=.lookup t x ix ok)(h:ak P ro ρ o σ=some out):bg P ro N ι w σ r o out:=by
 unfold ak at h;rw[ho]at h;simp only at h;split at h
 ·rename_i kt elem es key hu gl ma;have hk:=tQ ma og
  have ZM:∃res,gk ι es res∧((r x=.map none∧res= #[])∨∃b clock,r x=.map (some b)∧w.heap[b]?=some (.map res clock)):=by
   generalize hq:r x=q at hr;unfold entriesOf at gl;split at gl
   ·rename_i hx;rw[hx]at hr;cases gl;cases hr;exact⟨#[],gk.nil,.inl ⟨rfl,rfl⟩⟩
   ·rename_i id hx;rw[hx]at hr;split at gl
    ·rename_i aB clock aA;cases gl;cases hr with
     |map _ l hl=>
      obtain⟨l',res,cd,hh,he⟩:=hi.obj id _ aA;rw[hl]at cd;cases cd;exact⟨res,he,.inr ⟨l.b,clock,rfl,hh⟩⟩
    ·cases gl
   ·cases gl
  obtain⟨res,he,ej⟩:=ZM;split at h
  ·rename_i i z w6 hz;split at h
   ·rename_i e su;obtain rfl:=aE h;obtain⟨hc,hf⟩:=oO he w6 w;rcases hf with⟨hn,_⟩|⟨j,e',rr,hj,h1,h2,h3⟩
    ·cases hn
    ·cases hj;rw[su]at h1;cases h1;obtain⟨_,hv,_⟩:=he.2 i e rr su h2;refine bg.same hi (u:=if ok then .tuple #[rr.val,.bool true]else rr.val) ?_ ?_
     ·rw[he.isEmpty]at hc;rcases ej with⟨hx,rfl⟩|⟨b,clock,hx,hh⟩
      ·simp only[execOp,ho,atW,aqM,aO hu,aqJ,hx,hk,hc,h3,aqV]
      ·simp only[execOp,ho,atW,aqM,aO hu,aqJ,hx,bP (P:=P) hh (by simp),hk,hc,h3,aqV]
     ·cases ok
      ·exact hv
      ·have:=ax.cons hv (ax.cons (Rv.raw (ι:=ι) (.bool true)) ax.nil);exact .av _ _ this.1 this.2
   ·cases h
  ·rename_i z w6 hz;obtain rfl:=aE h;obtain⟨hc,hf⟩:=oO he w6 w;rcases hf with⟨_,h3⟩|⟨j,e',rr,hj,h1,h2,h3⟩
   ·refine bg.same hi (u:=if ok then .tuple #[z,.bool false]else z) ?_ ?_
    ·rw[he.isEmpty]at hc;rcases ej with⟨hx,rfl⟩|⟨b,clock,hx,hh⟩
     ·simp only[execOp,ho,atW,aqM,aO hu,aqJ,hx,hk,hc,h3,iG hz,aqV]
     ·simp only[execOp,ho,atW,aqM,aO hu,aqJ,hx,bP (P:=P) hh (by simp),hk,hc,h3,iG hz,aqV]
    ·cases ok
     ·exact Rv.lift z
     ·have:=ax.cons (Rv.lift (ι:=ι) z) (ax.cons (Rv.raw (ι:=ι) (.bool false)) ax.nil);exact .av _ _ this.1 this.2
   ·cases hj
  ·cases h
 ·cases h
theorem gk.set{es:List (Value×IV×Nat)}{res:Array MapEntry}{i:Nat}{e:Value×IV×Nat}{key:Value}{v:IV}{u:Value}{f:MapEntry→MapEntry}(h:gk ι es res)(he:es[i]?=some e)(hv:Rv ι v u)
 (hf:∀rr,res[i]?=some rr→f rr={key:=key,val:=u,born:=rr.born}):gk ι (es.set i (key,v,e.2.2)) (res.modify i f):=by
 refine⟨by simp[h.1],fun j a b h1 h2=>?_⟩;rw[List.getElem?_set]at h1;rw[Array.getElem?_modify]at h2;by_cases mI:i=j
 ·subst mI;rw[if_pos rfl]at h1 h2;split at h1
  ·cases h1;cases NA:res[i]? with
   |none=>simp[NA]at h2
   |some rr=>
    obtain⟨_,_,hb⟩:=h.2 i e rr he NA;simp only[NA,aq9,aqH]at h2;rw[hf rr NA]at h2;subst h2;exact⟨rfl,hv,hb⟩
  ·cases h1
 ·rw[if_neg mI]at h1 h2;exact h.2 j a b h1 h2
theorem gk.push{es:List (Value×IV×Nat)}{res:Array MapEntry}{key:Value}{v:IV}{u:Value}{n:Nat}(h:gk ι es res)(hv:Rv ι v u):gk ι (es++[(key,v,n)]) (res.push {key:=key,val:=u,born:=n}):=by
 refine⟨by simp[h.1],fun j a b h1 h2=>?_⟩;rw[Array.getElem?_push]at h2;by_cases hj:j<es.length
 ·rw[List.getElem?_append_left hj]at h1;rw[if_neg (by have:=h.1;omega)]at h2;exact h.2 j a b h1 h2
 ·rw[List.getElem?_append_right (by omega)]at h1;by_cases yg:j=es.length
  ·subst yg;rw[if_pos h.1]at h2;simp at h1 h2;subst h1 h2;exact⟨rfl,hv,rfl⟩
  ·have:1≤j- es.length:=by omega
   rw[List.getElem?_eq_none (by simp;omega)]at h1;cases h1
theorem zI(hi:Inv N ι σ w){id clock:Nat}{es:List (Value×IV×Nat)}{u:Value}(hr:Rv ι (.map id) u)(aA:σ.at id=some (.map es clock)):
 ∃l res,u=.map (some l.b)∧ι id 0=some l∧w.heap[l.b]?=some (.map res clock)∧l.b<w.heap.size∧gk ι es res:=by
 cases hr with
 |map _ l hl=>
  obtain⟨l',res,cd,hh,he⟩:=hi.obj id _ aA;rw[hl]at cd;cases cd;exact⟨l,res,rfl,hl,hh,hi.iw id _ ⟨_,_,hl,rfl⟩,he⟩
theorem mV{l:Loc}{id clock:Nat}{es:List (Value×IV×Nat)}{res:Array MapEntry}(hl:ι id 0=some l)(aa:l.b<w.heap.size)(he:gk ι es res):
 ki ι {w with heap:=w.heap.setIfInBounds l.b (.map res clock)} id (.map es clock):=⟨l,res,hl,by simp[aa],he⟩
theorem KM{cC new:Value}(h:Instr.sameBits 10000 cC new=true)(w:World):(ath cC new).run P w=.ok new w:=by
 unfold ath;rw[if_pos h];rfl
theorem WC{t kt elem:TypeId}{m k v:IV}{um uk uv:Value}{ah:St}(hi:Inv N ι σ w)(hu:P.underlying t=some (.map kt elem))(hm:Rv ι m um)(hk:Rv ι k uk)(hv:Rv ι v uv)
 (h:oK P ro kt m k v σ=some ah):∃w',(auh t um uk uv).run P w=.ok () w'∧Inv N ι ah w'∧Le ro ι w σ ι w' ah:=by
 unfold oK at h;split at h
 ·rename_i id key ma;have tJ:=tQ ma hk;subst tJ;split at h
  ·rename_i es clock aA;obtain⟨l,res,rfl,hl,hh,aa,he⟩:=zI hi hm aA;split at h
   ·cases h
   ·rename_i cx;have cx:ro≤id:=asH fun h=>cx (by omega);split at h
    ·rename_i i w6;split at h
     ·rename_i e su;split at h
      ·rename_i WD;cases h;obtain⟨hc,hf⟩:=oO he w6 w;rcases hf with⟨hn,_⟩|⟨j,e',rr,hj,h1,h2,h3⟩
       ·cases hn
       ·cases hj;rw[su]at h1;cases h1;have HC:=(he.2 i e rr su h2).1;obtain⟨r1,r2⟩:=hi.kg (ro:=ro) aA cx hl (mV (clock:=clock) hl aa (he.set su hv (key:=uk) (f:=fun e=>{e with key:=uk,val:=uv}) (fun rr _=>rfl)));refine⟨_,?_,r1,r2⟩
        have cg:(ath (((res[i]?).map (·.key)).getD uk) uk).run P w=.ok uk w:=by
         rw[h2];simp only[aq9,arz];exact KM (by rw[HC];exact WD) w
        simp only[auh,aqM,aO hu,aqJ,bP (P:=P) hh (by simp),hc,h3,cg,eD (P:=P) hh (by simp)]
      ·cases h
     ·cases h
    ·rename_i w6;cases h;obtain⟨hc,hf⟩:=oO he w6 w;rcases hf with⟨_,h3⟩|⟨j,e',rr,hj,h1,h2,h3⟩
     ·obtain⟨r1,r2⟩:=hi.kg (ro:=ro) aA cx hl (mV (clock:=clock+1) hl aa (he.push hv (key:=uk) (n:=clock)));refine⟨_,?_,r1,r2⟩;simp only[auh,aqM,aO hu,aqJ,bP (P:=P) hh (by simp),hc,h3,eD (P:=P) hh (by simp)]
     ·cases hj
    ·cases h
  ·cases h
 ·cases h
theorem CU{t:TypeId}{m k x:Operand}(hi:Inv N ι σ w)(hm:Rv ι (ρ m) (r m))(hk:Rv ι (ρ k) (r k))(hx:Rv ι (ρ x) (r x))(ho:o.op=.mapUpdate t m k x∨o.op=.insert t m k x)
 (h:ak P ro ρ o σ=some out):bg P ro N ι w σ r o out:=by
 have h':(match P.underlying t with
  |some (.map kt _)=>match oK P ro kt (ρ m) (ρ k) (ρ x) σ with
   |some ah=>ret .undef ah
   |none=>none
  |_=>none)=some out:=by
  unfold ak at h;rcases ho with ho|ho<;>rw[ho]at h<;>exact h
 clear h;split at h'
 ·rename_i kt elem hu;split at h'
  ·rename_i ah hs;obtain rfl:=aE h';intro hN;obtain⟨w',h1,h2,h3⟩:=WC (N:=N) hi hu hm hk hx hs;refine⟨art,w',ι,.inr ⟨?_,rfl⟩,.raw _,h2,h3⟩;rcases ho with ho|ho<;>simp only[execOp,ho,aqM,h1,aqJ,aqV]
  ·cases h'
 ·cases h'
theorem RA{t:TypeId}{m k:Operand}(hi:Inv N ι σ w)(hm:Rv ι (ρ m) (r m))(hk:Rv ι (ρ k) (r k))(ho:o.op=.mapEntry t m k)(h:ak P ro ρ o σ=some out):bg P ro N ι w σ r o out:=by
 unfold ak at h;rw[ho]at h;simp only at h;split at h
 ·rename_i kt elem hu;split at h
  ·rename_i z id key hz kW ma;have tJ:=tQ ma hk;rw[kW]at hm;split at h
   ·rename_i es clock aA;obtain⟨l,res,KN,hl,hh,aa,he⟩:=zI hi hm aA;split at h
    ·cases h
    ·rename_i cx;have cx:ro≤id:=asH fun h=>cx (by omega);split at h
     ·rename_i i w6;split at h
      ·rename_i e su;split at h
       ·rename_i WD;obtain rfl:=aE h;intro hN;obtain⟨hc,hf⟩:=oO he w6 w;rcases hf with⟨hn,_⟩|⟨j,e',rr,hj,h1,h2,h3⟩
        ·cases hn
        ·cases hj;rw[su]at h1;cases h1;obtain⟨HC,hvr,hbr⟩:=he.2 i e rr su h2;obtain⟨r1,r2⟩:=hi.kg (ro:=ro) aA cx hl (mV (clock:=clock) hl aa (he.set su hvr (key:=key) (f:=fun e=>{e with key:=key}) (fun rr' NB=>by rw[h2]at NB;cases NB;rfl)));refine⟨.tuple #[rr.val,.int .i64 e.2.2],_,ι,.inl ?_,?_,r1,r2⟩
         ·have cg:(ath rr.key key).run P w=.ok key w:=KM (by rw[HC];exact WD) w;simp only[execOp,ho,avv,KN,tJ,aqM,aO hu,aqJ,bP (P:=P) hh (by simp),hc,h3,cg,eD (P:=P) hh (by simp),aqV,h2,aq9,arz,hbr,goInt]
         ·have:=ax.cons hvr (ax.cons (Rv.raw (ι:=ι) (.int .i64 e.2.2)) ax.nil);exact .av _ _ this.1 this.2
       ·cases h
      ·cases h
     ·rename_i w6;obtain rfl:=aE h;intro hN;obtain⟨hc,hf⟩:=oO he w6 w;rcases hf with⟨_,h3⟩|⟨j,e',rr,hj,h1,h2,h3⟩
      ·obtain⟨r1,r2⟩:=hi.kg (ro:=ro) aA cx hl (mV (clock:=clock+1) hl aa (he.push (Rv.lift (ι:=ι) z) (key:=key) (n:=clock)));refine⟨.tuple #[z,.int .i64 clock],_,ι,.inl ?_,?_,r1,r2⟩
       ·simp only[execOp,ho,avv,KN,tJ,aqM,aO hu,aqJ,bP (P:=P) hh (by simp),hc,h3,iG hz,eD (P:=P) hh (by simp),aqV,goInt]
       ·have:=ax.cons (Rv.lift (ι:=ι) z) (ax.cons (Rv.raw (ι:=ι) (.int .i64 clock)) ax.nil);exact .av _ _ this.1 this.2
      ·cases hj
     ·cases h
   ·cases h
  ·cases h
 ·cases h
end Go.Ev
namespace Go.Ev
variable{P:Program}{N ro:Nat}{ι:Io}{w:World}{σ:St}{ρ:Operand→IV}{r:Operand→Value}{o:Oper}{out:ey}
theorem MJ{t:TypeId}{m st x:Operand}(hi:Inv N ι σ w)(hm:Rv ι (ρ m) (r m))(hs:Rv ι (ρ st) (r st))(hx:Rv ι (ρ x) (r x))(ho:o.op=.entryStore t m st x)
 (h:ak P ro ρ o σ=some out):bg P ro N ι w σ r o out:=by
 unfold ak at h;rw[ho]at h;simp only at h;split at h
 ·rename_i id k born kW cg;have est:=eU cg hs;rw[kW]at hm;split at h
  ·rename_i es clock aA;obtain⟨l,res,KN,hl,hh,aa,he⟩:=zI hi hm aA;split at h
   ·cases h
   ·rename_i cx;have cx:ro≤id:=asH fun h=>cx (by omega);split at h
    ·rename_i i hfi;split at h
     ·rename_i e su;obtain rfl:=aE h;intro hN;have dX:i<res.size:=by have:=(List.getElem?_eq_some_iff.1 su).1;have:=he.1;omega
      have h2:res[i]?=some res[i]:=aq7 dX;obtain⟨HC,_,_⟩:=he.2 i e _ su h2
      obtain⟨r1,r2⟩:=hi.kg (ro:=ro) aA cx hl (mV (clock:=clock) hl aa (he.set su hx (key:=e.1) (f:=fun e=>{e with val:=r x}) (fun rr' NB=>by
       rw[h2]at NB;cases NB;rw[←HC])))
      have tI:res.findIdx? (fun e=>(e.born:Int)==born)=some i:=by
       rw[show res=res.toList.toArray by simp,List.findIdx?_toArray]
       have:∀(es:List (Value×IV×Nat)) (rs:List MapEntry) (i:Nat),es.length=rs.length→(∀(j:Nat) (e:Value×IV×Nat) (rr:MapEntry),es[j]?=some e→rs[j]?=some rr→rr.born=e.2.2)→
        es.findIdx? (fun e=>(e.2.2:Int)==born)=some i→rs.findIdx? (fun e=>(e.born:Int)==born)=some i:=by
        intro es;induction es with
        |nil=>intro rs i hl _ hf;simp at hf
        |cons e es ih=>
         intro rs i hl hb hf;cases rs with
         |nil=>simp at hl
         |cons rr rs=>
          have h0:=hb 0 e rr rfl rfl;rw[List.findIdx?_cons]at hf⊢;rw[h0];split at hf
          ·rename_i hc;rw[if_pos hc];exact hf
          ·rename_i hc;rw[if_neg hc];simp only[aqL]at hf⊢;obtain⟨j,hj,rfl⟩:=hf;exact⟨j,ih rs j (by simpa using hl) (fun k a b h1 h2=>hb (k+1) a b h1 h2) hj,rfl⟩
       exact this es res.toList i (by simpa using he.1) (fun j e rr h1 h2=>(he.2 j e rr h1 (by simpa using h2)).2.2) hfi
      refine⟨art,_,ι,.inr ⟨?_,rfl⟩,.raw _,r1,r2⟩;simp only[execOp,ho,Instr.entryStore,KN,est,asInt,asIntOf,aqM,aqV,aqJ,bP (P:=P) hh (by simp),tI,eD (P:=P) hh (by simp)]
     ·cases h
    ·cases h
  ·cases h
 ·cases h
theorem Us{argTypes:Array TypeId}{ty:TypeId}{m k:IV}{um uk:Value}(hi:Inv N ι σ w)(hm:Rv ι m um)(hk:Rv ι k uk)(h:wE P ro argTypes m k σ=some out):
 ∃v ah,out=.val v ah∧(ah.n≤N→qy P ro N ι w σ (at3 argTypes ty #[um,uk]) v ah):=by
 unfold wE at h;cases rH:argTypes[0]? with
 |none=>simp[rH]at h
 |some t=>
  rw[rH,aqN]at h;have e0:(#[um,uk]:Array Value)[0]?=some um:=rfl;have e1:(#[um,uk]:Array Value)[1]?=some uk:=rfl;split at h
  ·rename_i kt elem id key hu ma;have tJ:=tQ ma hk;split at h
   ·rename_i es clock aA;obtain⟨l,res,rfl,hl,hh,aa,he⟩:=zI hi hm aA;split at h
    ·cases h
    ·rename_i cx;have cx:ro≤id:=asH fun h=>cx (by omega);split at h
     ·rename_i i w6;obtain rfl:=aE h;refine⟨_,_,rfl,fun _=>?_⟩;obtain⟨hc,hf⟩:=oO he w6 w;rcases hf with⟨hn,_⟩|⟨j,e',rr,hj,h1,h2,h3⟩
      ·cases hn
      ·cases hj;have lq:i<res.size:=(arA.1 h2).1
       have gO:gk ι (es.eraseIdx i) (res.eraseIdxIfInBounds i):=by
        have e2:res.eraseIdxIfInBounds i=(res.toList.eraseIdx i).toArray:=by
         rw[Array.eraseIdxIfInBounds,dif_pos lq];apply asN;simp
        rw[e2];have hle:=he.1;refine⟨by simp only[List.length_eraseIdx,List.size_toArray,Array.length_toList,hle],fun j a b ha hb=>?_⟩;simp only[List.getElem?_toArray]at hb;rw[List.getElem?_eraseIdx]at ha hb;split at ha
        ·rename_i hc;rw[if_pos hc]at hb;exact he.2 j a b ha (by simpa using hb)
        ·rename_i hc;rw[if_neg hc]at hb;exact he.2 (j+1) a b ha (by simpa using hb)
       obtain⟨r1,r2⟩:=hi.kg (ro:=ro) aA cx hl (mV (clock:=clock) hl aa gO);refine⟨.tuple #[],_,ι,?_,.raw _,r1,r2⟩;unfold at3;rw[rH,e0,e1];rw[he.isEmpty]at hc;simp only[aqM,aO hu,aqJ,bP (P:=P) hh (by simp),tJ,hc,h3,eD (P:=P) hh (by simp),aqV]
     ·rename_i w6;obtain rfl:=aE h;refine⟨_,_,rfl,fun _=>?_⟩;obtain⟨hc,hf⟩:=oO he w6 w;rcases hf with⟨_,h3⟩|⟨j,e',rr,hj,h1,h2,h3⟩
      ·obtain⟨r1,r2⟩:=hi.kg (ro:=ro) aA cx hl (mV (clock:=clock) hl aa he);refine⟨.tuple #[],_,ι,?_,.raw _,r1,r2⟩;unfold at3;rw[rH,e0,e1];rw[he.isEmpty]at hc;simp only[aqM,aO hu,aqJ,bP (P:=P) hh (by simp),tJ,hc,h3,eD (P:=P) hh (by simp),aqV]
      ·cases hj
     ·cases h
   ·cases h
  ·cases h
theorem Inv.CV(hi:Inv N ι σ w)(hN:σ.n<N){go:avZ}{ob:Ob}(dt:ki (dG ι σ.n 0 ⟨w.heap.size,1,1⟩) {w with heap:=w.heap.push go} σ.n ob):
 Inv N (dG ι σ.n 0 ⟨w.heap.size,1,1⟩) (σ.add ob) {w with heap:=w.heap.push go}∧Le ro ι w σ (dG ι σ.n 0 ⟨w.heap.size,1,1⟩) {w with heap:=w.heap.push go} (σ.add ob):=
 hi.add hN rfl rfl rfl rfl rfl dt
theorem ZN{t:TypeId}{x:Operand}(hi:Inv N ι σ w)(hr:Rv ι (ρ x) (r x))(ho:o.op=.range t x)(h:ak P ro ρ o σ=some out):bg P ro N ι w σ r o out:=by
 unfold ak at h;rw[ho]at h;simp only at h;have rv:∀(aC:Io) (n b:Nat),Rv (dG aC n 0 ⟨b,1,1⟩) (.ptr n 0 0 1) (.pointer (some ⟨b,0,none⟩)):=fun aC n b=>.ptr _ _ _ _ _ (bX _ _ _ _) (by simp);split at h
 ·rename_i s hu hx;have e:=eU hx hr;obtain rfl:=aE h;intro hN;obtain⟨h1,h2⟩:=hi.CV (ro:=ro) (go:=.stringIter s 0) (ob:=.pD s 0) (by simp at hN;omega) ⟨_,bX _ _ _ _,by simp⟩;exact⟨_,_,_,.inl (by simp only[execOp,ho,auO,aqM,aO hu,aqJ,e,aqV,run_newObj]),rv _ _ _,h1,h2⟩
 ·rename_i k e' hu hx;have e:=eU hx hr;obtain rfl:=aE h;intro hN;obtain⟨h1,h2⟩:=hi.CV (ro:=ro) (go:=.mapIter none 0 #[] 0) (ob:=.jm none 0 [] 0) (by simp at hN;omega) ⟨_,none,bX _ _ _ _,by simp,rfl⟩;exact⟨_,_,_,.inl (by simp only[execOp,ho,auO,aqM,aO hu,aqJ,e,aqV,run_newObj]),rv _ _ _,h1,h2⟩
 ·rename_i k e' m hu hx;rw[hx]at hr;split at h
  ·rename_i es clock aA;obtain⟨l,res,KN,hl,hh,aa,he⟩:=zI hi hr aA;obtain rfl:=aE h;intro hN;have aT:ι σ.n 0=none:=hi.fresh _ (aqK _) (by simp at hN;omega) 0
   obtain⟨h1,h2⟩:=hi.CV (ro:=ro) (go:=.mapIter (some l.b) clock #[] clock) (ob:=.jm (some m) clock [] clock) (by simp at hN;omega)
    ⟨_,some l.b,bX _ _ _ _,by simp,l,kj aT _ _ _ hl,rfl⟩
   exact⟨_,_,_,.inl (by simp only[execOp,ho,auO,aqM,aO hu,aqJ,KN,bP (P:=P) hh (by simp),aqV,run_newObj]),rv _ _ _,h1,h2⟩
  ·cases h
 ·cases h
theorem pG{vs:List IV}{us:List Value}(h:ax ι vs us):Rv ι (.av vs) (.tuple us.toArray):=.av _ _ h.1 h.2
theorem adg{it:Operand}{str:Bool}(hi:Inv N ι σ w)(hr:Rv ι (ρ it) (r it))(ho:o.op=.next it str)(h:ak P ro ρ o σ=some out):bg P ro N ι w σ r o out:=by
 unfold ak at h;rw[ho]at h;simp only at h;split at h
 ·rename_i id hx;rw[hx]at hr;split at h
  ·cases h
  ·rename_i cx;have cx:ro≤id:=asH fun h=>cx (by omega);generalize hq:r it=q at hr;cases hr with
   |ptr _ _ _ _ l hl hle=>
    have aa:l.b<w.heap.size:=hi.iw id _ ⟨_,_,hl,rfl⟩;split at h
    ·rename_i s pos aA;obtain⟨l',cd,hh⟩:=hi.obj id _ aA;rw[hl]at cd;cases cd;split at h
     ·rename_i sj;obtain rfl:=aE h;intro hN;obtain⟨r1,r2⟩:=hi.kg (ro:=ro) (eE:=.pD s (pos+(ass s pos).2)) (go:=.stringIter s (pos+(ass s pos).2)) aA cx hl ⟨l,hl,by simp[aa]⟩;refine⟨.tuple #[.bool true,.int .i64 pos,.int .i32 (ass s pos).1],_,ι,.inl ?_,?_,r1,r2⟩
      ·simp only[execOp,ho,asP,hq,aqM,bP (P:=P) hh (by simp),aqJ,sj,if_true,eD (P:=P) hh (by simp),aqV,goInt]
      ·exact pG (ax.cons (.raw _) (ax.cons (.raw _) (ax.cons (.raw _) ax.nil)))
     ·rename_i sj;obtain rfl:=aE h;refine bg.same hi (u:=.tuple #[.bool false]) ?_ (pG (ax.cons (.raw _) ax.nil));simp only[execOp,ho,asP,hq,aqM,bP (P:=P) hh (by simp),aqJ,sj,if_false,aqV]
    ·rename_i a b c aA;obtain⟨l',mr,cd,hh,hm⟩:=hi.obj id _ aA;rw[hl]at cd;cases cd;simp only at hm;subst hm;obtain rfl:=aE h;refine bg.same hi (u:=.tuple #[.bool false]) ?_ (pG (ax.cons (.raw _) ax.nil));simp only[execOp,ho,asP,hq,aqM,bP (P:=P) hh (by simp),aqJ,aqV]
    ·rename_i m since seen last aA;obtain⟨l',mr,cd,hh,hm⟩:=hi.obj id _ aA;rw[hl]at cd;cases cd;obtain⟨lm,NC,rfl⟩:=hm;split at h
     ·rename_i es clock ND;obtain⟨lm',res,CY,FK,he⟩:=hi.obj m _ ND;rw[NC]at CY;cases CY
      have over:∀{ZO:Array (Option MapEntry)},ZO= #[none]→(choose (.mapNext ZO.size)).run P w=.ok 0 w:=by
       intro ZO hc;subst hc;simp[choose,asv,asD]
      split at h
      ·have hre:res= #[]:=as5 (by have:=he.1;simpa using this.symm);subst hre;obtain rfl:=aE h;refine bg.same hi (u:=.tuple #[.bool false]) ?_ (pG (ax.cons (.raw _) ax.nil));simp[execOp,ho,asP,hq,bP (P:=P) hh (by simp),bP (P:=P) FK (by simp),choose,asv,asD]
      ·rename_i e;have aL:res.size=1:=by have:=he.1;simpa using this.symm
       obtain⟨rr,rfl⟩:∃rr,res= #[rr]:=by
        refine⟨res[0],?_⟩;apply Array.ext (by simp[aL]);intro i h1 h2;have:i=0:=by omega
        subst this;rfl
       obtain⟨hk,hv,hb⟩:=he.2 0 e rr rfl rfl;split at h
       ·rename_i w7;split at h
        ·rename_i jo;obtain rfl:=aE h;refine bg.same hi (u:=.tuple #[.bool false]) ?_ (pG (ax.cons (.raw _) ax.nil));have aeF:rr.born∈seen:=by rw[hb];exact w7
         have NF:¬last≤rr.born:=by rw[hb];omega
         have ZP:Array.filter (fun e=> !seen.toArray.contains e.born) #[rr]= #[]:=by simp[aeF]
         simp[execOp,ho,asP,hq,bP (P:=P) hh (by simp),bP (P:=P) FK (by simp),choose,asv,asD,aeF,NF]
        ·cases h
       ·rename_i w7;split at h
        ·rename_i hc;obtain⟨bH,rfl⟩:=hc;obtain rfl:=aE h;intro hN;have cD:rr.born<since:=by rw[hb];exact bH
         obtain⟨r1,r2⟩:=hi.kg (ro:=ro) (eE:=.jm (some m) since [e.2.2] clock) (go:=.mapIter (some lm.b) since #[rr.born] clock) aA cx hl ⟨l,some lm.b,hl,by simp[aa,hb],lm,NC,rfl⟩;refine⟨.tuple #[.bool true,rr.key,rr.val],_,ι,.inl ?_,?_,r1,r2⟩
         ·have e_:¬since≤rr.born:=by omega
          simp[execOp,ho,asP,hq,bP (P:=P) hh (by simp),bP (P:=P) FK (by simp),choose,asv,asD,cD,e_,eD (P:=P) hh (by simp)]
         ·rw[←hk];exact pG (ax.cons (.raw _) (ax.cons (Rv.lift _) (ax.cons hv ax.nil)))
        ·cases h
      ·cases h
     ·cases h
    ·cases h
 ·cases h
theorem ZQ{it:Operand}(hi:Inv N ι σ w)(hr:Rv ι (ρ it) (r it))(ho:o.op=.entry it)(h:ak P ro ρ o σ=some out):bg P ro N ι w σ r o out:=by
 unfold ak at h;rw[ho]at h;simp only at h;split at h
 ·rename_i id hx;rw[hx]at hr;generalize hq:r it=q at hr;cases hr with
  |ptr _ _ _ _ l hl hle=>
   split at h
   ·rename_i m since seen wD aA;obtain⟨l',mr,cd,hh,hm⟩:=hi.obj id _ aA;rw[hl]at cd;cases cd;obtain⟨lm,NC,rfl⟩:=hm;split at h
    ·rename_i es clock Ez ND jo;obtain⟨lm',res,CY,FK,he⟩:=hi.obj m _ ND;rw[NC]at CY;cases CY;split at h
     ·rename_i bC;split at h
      ·rename_i e NG;obtain rfl:=aE h
       have key:∀(es:List (Value×IV×Nat)) (rs:List MapEntry),es.length=rs.length→(∀(j:Nat) (e:Value×IV×Nat) (rr:MapEntry),es[j]?=some e→rs[j]?=some rr→rr.key=e.1∧Rv ι e.2.1 rr.val∧rr.born=e.2.2)→
        es.find? (fun e=>e.2.2==Ez)=some e→∃rr,rs.find? (fun e=>e.born==Ez)=some rr∧rr.key=e.1∧Rv ι e.2.1 rr.val:=by
        intro es;induction es with
        |nil=>intro rs _ _ hf;simp at hf
        |cons a es ih=>
         intro rs hl hb hf;cases rs with
         |nil=>simp at hl
         |cons rr rs=>
          obtain⟨h1,h2,h3⟩:=hb 0 a rr rfl rfl;rw[List.find?_cons]at hf⊢;rw[h3];split at hf
          ·rename_i hc;cases hf;exact⟨rr,rfl,h1,h2⟩
          ·rename_i hc;exact ih rs (by simpa using hl) (fun k x y h1 h2=>hb (k+1) x y h1 h2) hf
       obtain⟨rr,hf,hk,hv⟩:=key es res.toList (by simpa using he.1) (fun j e rr h1 h2=>he.2 j e rr h1 (by simpa using h2)) NG;have hf':res.find? (fun e=>e.born==Ez)=some rr:=by rw[←hf,←Array.find?_toList]
       have NF:seen.toArray.back?=some Ez:=by rw[←jo];simp
       refine bg.same hi (u:=.tuple #[rr.key,rr.val]) ?_ (by rw[←hk];exact pG (ax.cons (Rv.lift _) (ax.cons hv ax.nil)));subst bC;simp[execOp,ho,Instr.entry,hq,bP (P:=P) hh (by simp),bP (P:=P) FK (by simp),NF,hf']
      ·cases h
     ·cases h
    ·cases h
   ·cases h
 ·cases h
end Go.Ev
namespace Go.Ev
variable{P:Program}{N ro:Nat}{ι:Io}{w:World}{σ:St}{ρ:Operand→IV}{r:Operand→Value}{o:Oper}{out:ey}
theorem aeG{argTypes:Array TypeId}{ty:TypeId}{args:List IV}{us:List Value}{v:IV}(hr:ax ι args us)(h:Ng P args=some v):∃z,(Builtin.min_ argTypes ty us.toArray).run P w=.ok z w∧Rv ι v z:=by
 unfold Ng at h;split at h
 ·rename_i vs hv;rw[←ur hv hr]at h;rw[aqL]at h;obtain⟨z,hz,rfl⟩:=h;exact⟨z,eL w _ hz,Rv.lift z⟩
 ·cases h
theorem aeH{argTypes:Array TypeId}{ty:TypeId}{args:List IV}{us:List Value}{v:IV}(hr:ax ι args us)(h:Jm P args=some v):∃z,(Builtin.max_ argTypes ty us.toArray).run P w=.ok z w∧Rv ι v z:=by
 unfold Jm at h;split at h
 ·rename_i vs hv;rw[←ur hv hr]at h;rw[aqL]at h;obtain⟨z,hz,rfl⟩:=h;exact⟨z,eL w _ hz,Rv.lift z⟩
 ·cases h
theorem FL{argTypes:Array TypeId}{s x:IV}(h:kf P ro argTypes s x σ=some out):∃v ah,out=.val v ah:=by
 have hn:∀{size aS n:Nat} {new:List IV} {s:IV},ff size aS n new s σ=some out→∃v ah,out=.val v ah:=by
  intro size aS n new s h;unfold ff at h;split at h
  ·split at h
   ·exact⟨_,_,aE h⟩
   ·cases h
  ·cases h
 unfold kf at h;split at h
 ·split at h
  ·split at h
   ·split at h
    ·cases h
    ·split at h
     ·split at h
      ·unfold eA at h
       repeat' split at h
       all_goals first|exact⟨_,_,aE h⟩|exact hn h|cases h
      ·cases h
     ·cases h
   ·cases h
  ·cases h
 ·cases h
theorem bg.ofB{c:Call}{b:Builtin}{us:List Value}(ho:o.op=.call c)(hb:c.callee=.builtin b)(w8:c.args.map r=us.toArray)(h:wZ P ro N ι w σ (builtin b c.argTypes o.type (c.args.map fun|.const _=>true|_=>false) us.toArray) out):
 bg P ro N ι w σ r o out:=by
 obtain⟨v,ah,rfl,h⟩:=h;intro hN;rw[Ny ho hb,w8];exact h hN
theorem Ut{b:Builtin}{argTypes:Array TypeId}{ty:TypeId}{cs:Array Bool}{args:List IV}{us:List Value}(hi:Inv N ι σ w)(hr:ax ι args us)(h:dv P ro b argTypes args σ=some out):
 wZ P ro N ι w σ (builtin b argTypes ty cs us.toArray) out:=by
 unfold dv at h;split at h
 ·split at h
  ·obtain⟨v,u,rfl,h1,h2⟩:=Ju hr;obtain⟨v',ah,rfl⟩:=FL h;exact wZ.Wz fun hN=>Ww hi h1 h2 h hN
  ·cases h
 ·split at h
  ·obtain⟨v,rfl,h1⟩:=tS hr;rw[aqL]at h;obtain⟨z,hz,rfl⟩:=h;obtain⟨u,hu,iR⟩:=ade (ty:=ty) hi h1 hz;exact wZ.same hi hu iR
  ·cases h
 ·split at h
  ·obtain⟨v,rfl,h1⟩:=tS hr;rw[aqL]at h;obtain⟨z,hz,rfl⟩:=h;obtain⟨u,hu,iR⟩:=adf (ty:=ty) (w:=w) h1 hz;exact wZ.same hi hu iR
  ·cases h
 ·rw[aqL]at h;obtain⟨z,hz,rfl⟩:=h;obtain⟨u,hu,iR⟩:=aeG (argTypes:=argTypes) (ty:=ty) (w:=w) hr hz;exact wZ.same hi hu iR
 ·rw[aqL]at h;obtain⟨z,hz,rfl⟩:=h;obtain⟨u,hu,iR⟩:=aeH (argTypes:=argTypes) (ty:=ty) (w:=w) hr hz;exact wZ.same hi hu iR
 ·split at h
  ·obtain⟨v,u,rfl,h1,h2⟩:=Ju hr;obtain⟨v',ah,rfl,h3⟩:=Us (ty:=ty) hi h1 h2 h;exact wZ.Wz h3
  ·cases h
 ·split at h
  ·obtain⟨v,rfl,h1⟩:=tS hr;obtain⟨v',ah,rfl,h3⟩:=WA (ty:=ty) hi h1 h;exact wZ.Wz h3
  ·cases h
 ·split at h
  ·obtain⟨v,u,rfl,h1,h2⟩:=Ju hr;obtain⟨v',ah,rfl,h3⟩:=ZL (ty:=ty) hi h1 h2 h;exact wZ.Wz h3
  ·cases h
 ·cases h
theorem zJ{l:Array Operand}(h:∀x,Rv ι (ρ x) (r x)):ax ι (l.toList.map ρ) (l.toList.map r):=ax.of_map fun x _=>h x
theorem uw{f:FuncId}{fn:Func}{us:Array Value}(h:P.funcs[f]?=some fn)(hb:(fn.body.isSome&&fn.name != "runtime.NumGoroutine")=true):(callFunc f us).run P w=.ok (.enter f us) w:=by
 simp only[Bool.and_eq_true,bne_iff_ne,ne_eq]at hb;have h2:fn.body≠none:=by cases hh:fn.body<;>simp_all
 simp[callFunc,h,h2,hb.2]
theorem CZ{x:IV}{v:Value}{args:List IV}{us:List Value}(hx:Rv ι x v)(hr:ax ι args us)(h:gj P x args=some out):
 ∃d,(atP v us.toArray).run P w=.ok d w∧((∃f as vs,out=.enter f as∧(invoke d.target d.args).run P w=.ok (.enter f vs.toArray) w∧ax ι as vs∧AD ι (.call f as) d)∨
  (∃id l,out=.round id args∧ι id 0=some l∧d.target=.fn (.yield l.b) #[]∧d.args=us.toArray)):=by
 unfold gj at h;split at h
 ·rename_i f first cap
  cases hx with
  |fn _ _ _ cs ds hl h1 eN h2=>
   split at h
   ·rename_i fn bO;split at h
    ·rename_i hb;cases h;have gR:ax ι (first++args++cap) (cs++us++ds):=(ax.append ⟨hl,h1⟩ hr).append ⟨eN,h2⟩;refine⟨{target:=.fn (.func f) ds.toArray,args:=cs.toArray++us.toArray},rfl,.inl ⟨f,_,_,rfl,?_,gR,ds,cs++us,_,by simp,gR,rfl⟩⟩;simp only[invoke];rw[uw bO hb];simp
    ·cases h
   ·cases h
 ·rename_i f a b;cases hx;split at h
  ·rename_i he;obtain⟨rfl,rfl⟩:a= #[]∧b= #[]:=⟨as5 he.1,as5 he.2⟩;split at h
   ·rename_i fn bO;split at h
    ·rename_i hb;cases h;refine⟨{target:=.fn (.func f) #[],args:=us.toArray},by simp[atP],.inl ⟨f,_,us,rfl,?_,hr,[],us,us,by simp,hr,by simp⟩⟩;simp only[invoke];rw[uw bO hb];simp
    ·cases h
   ·cases h
  ·cases h
 ·rename_i id;cases hx with
  |zy _ l hl=>
   cases h;exact⟨{target:=.fn (.yield l.b) #[],args:=us.toArray},by simp[atP],.inr ⟨id,l,rfl,hl,rfl,rfl⟩⟩
 ·cases h
theorem WE{x:IV}{u:Value}{name:String}{args:List IV}{us:List Value}(hx:Rv ι x u)(hr:ax ι args us)(h:tO P x name args=some out):
 ∃f as vs,out=.enter f as∧(invoke (.fn (.method name) #[]) (#[u]++us.toArray)).run P w=.ok (.enter f vs.toArray) w∧ax ι as vs:=by
 unfold tO at h;split at h
 ·rename_i t v;cases hx with
  |da _ _ uv hv=>
   split at h
   ·rename_i i el hi hd;split at h
    ·rename_i m hm;split at h
     ·rename_i f pr hf;split at h
      ·rename_i hc;obtain⟨Uu,rfl⟩:=hc;have Uu:m.path.toList=[]:=arP.1 Uu;split at h
       ·rename_i fn bO;split at h
        ·rename_i hb;cases h;refine⟨f,v::args,uv::us,rfl,?_,ax.cons hv hr⟩
         have aib:∀n,(method (n+1) t uv name).run P w=.ok (f,uv) w:=by
          intro n;simp[method,typeInfo,hi,hm,Uu,follow,hf,receiverAt,aO hd,Place.get]
         have aic:∃n,P.types.size+au4=n+1:=⟨P.types.size+(au4- 1),by unfold au4;omega⟩;obtain⟨n,hn⟩:=aic;have e0:(#[auP t uv]++us.toArray)[0]?=some (.iface t uv):=by simp
         have e1:(#[auP t uv]++us.toArray).extract 1 (#[auP t uv]++us.toArray).size=us.toArray:=by
          apply asN;simp
         have e2:(#[uv]++us.toArray)=(uv::us).toArray:=by apply asN;simp
         have e3:(callMethod (.iface t uv) name us.toArray).run P w=.ok (.enter f (uv::us).toArray) w:=by
          have hp:(program:Sem Program).run P w=.ok P w:=rfl;simp only[callMethod,aqM,hp,aqJ,hn,aib,e2];exact uw bO hb
         simp only[invoke,e0,e1];exact e3
        ·cases h
       ·cases h
      ·cases h
     ·cases h
    ·cases h
   ·cases h
 ·cases h
theorem adh{c:Call}(hi:Inv N ι σ w)(hr:∀x,Rv ι (ρ x) (r x))(ho:o.op=.call c)(h:ak P ro ρ o σ=some out):bg P ro N ι w σ r o out:=by
 unfold ak at h;rw[ho]at h;(try dsimp only at h);have w8:c.args.map r=(c.args.toList.map r).toArray:=by apply asN;rw[aua]
 split at h
 ·rename_i b hb;exact bg.ofB ho hb w8 (Ut hi (zJ hr) h)
 ·rename_i f hf;obtain⟨d,hd,h⟩:=CZ (w:=w) (hr f) (zJ hr) h
  have e:(execOp r o).run P w=(invoke d.target d.args).run P w:=by
   simp only[execOp,ho,resolve,hf,w8,aqM,hd,aqJ]
  rcases h with⟨f',as,vs,rfl,h1,h2,_⟩|⟨id,l,rfl,h1,h2,h3⟩
  ·exact⟨vs,by rw[e,h1],h2⟩
  ·exact⟨l,_,h1,by rw[e,h2,h3];rfl,zJ hr⟩
 ·rename_i x name hx;obtain⟨f,as,vs,rfl,h1,h2⟩:=WE (w:=w) (hr x) (zJ hr) h;exact⟨vs,by simp only[execOp,ho,resolve,hx,w8,aqM,aqV,aqJ,h1],h2⟩
theorem ZR{c:Call}(hr:∀x,Rv ι (ρ x) (r x))(ho:o.op=.defer c)(h:ak P ro ρ o σ=some out):bg P ro N ι w σ r o out:=by
 unfold ak at h;rw[ho]at h;(try dsimp only at h);have w8:c.args.map r=(c.args.toList.map r).toArray:=by apply asN;rw[aua]
 split at h
 ·rename_i f hf;split at h
  ·rename_i f' args hc;cases h;obtain⟨d,hd,h⟩:=CZ (w:=w) (hr f) (zJ hr) hc;rcases h with⟨f',as,vs,he,_,_,h3⟩|⟨id,l,he,_⟩
   ·cases he;exact⟨d,by simp only[execOp,ho,resolve,hf,w8,aqM,hd,aqJ,aqV],h3,c,ho⟩
   ·cases he
  ·cases h
 ·cases h
theorem ZS{x:Operand}(hr:Rv ι (ρ x) (r x))(ho:o.op=.panic x)(h:ak P ro ρ o σ=some out):bg P ro N ι w σ r o out:=by
 unfold ak at h;rw[ho]at h;simp only at h;split at h
 ·rename_i t v hx;cases h;rw[hx]at hr;generalize hq:r x=q at hr;have oh:=hr;cases hr with
  |da _ _ u hu=>
   refine⟨_,?_,oh⟩;simp only[execOp,ho,Instr.panic,hq,goPanic,aqM];rfl
 ·cases h
theorem MK{x:Operand}{xt asserted:TypeId}{ok:Bool}(hi:Inv N ι σ w)(hr:Rv ι (ρ x) (r x))(ho:o.op=.typeAssert x xt asserted ok)(h:ak P ro ρ o σ=some out):bg P ro N ι w σ r o out:=by
 unfold ak at h;rw[ho]at h;simp only at h;split at h
 ·cases h
 ·rename_i d z KO hu hz
  have hd:∀{α:Type} (k1:Array (String×TypeId)→α) (k2:α),(match d with|.interface want=>k1 want|_=>k2)=k2:=by
   intro α k1 k2;cases d<;>first|rfl|exact absurd rfl (KO _)
  split at h
  ·rename_i t v hx;rw[hx]at hr;generalize hq:r x=q at hr;cases hr with
   |da _ _ u iR=>
    split at h
    ·rename_i hte;have Uv:t=asserted:=by simpa using hte
     obtain rfl:=aE h;cases ok with
     |true=>
      refine bg.same hi (u:=.tuple #[u,.bool true]) ?_ ?_
      ·cases d<;>first
        |exact absurd rfl (KO _)
        |simp[execOp,ho,atv,hq,aO hu,Uv]
      ·have:=ax.cons iR (ax.cons (Rv.raw (ι:=ι) (.bool true)) ax.nil);exact pG this
     |false=>
      refine bg.same hi (u:=u) ?_ iR
      cases d<;>first
       |exact absurd rfl (KO _)
       |simp[execOp,ho,atv,hq,aO hu,Uv]
    ·rename_i hte;have Uv:¬t=asserted:=by simpa using hte
     split at h
     ·rename_i bo;subst bo;obtain rfl:=aE h;refine bg.same hi (u:=.tuple #[z,.bool false]) ?_ ?_
      ·cases d<;>first
        |exact absurd rfl (KO _)
        |simp[execOp,ho,atv,hq,aO hu,Uv,iG hz]
      ·have:=ax.cons (Rv.lift (ι:=ι) z) (ax.cons (Rv.raw (ι:=ι) (.bool false)) ax.nil);exact pG this
     ·cases h
  ·rename_i hx;have e:=eU hx hr;split at h
   ·rename_i bo;subst bo;obtain rfl:=aE h;refine bg.same hi (u:=.tuple #[z,.bool false]) ?_ ?_
    ·cases d<;>first
      |exact absurd rfl (KO _)
      |simp[execOp,ho,atv,e,aO hu,iG hz]
    ·have:=ax.cons (Rv.lift (ι:=ι) z) (ax.cons (Rv.raw (ι:=ι) (.bool false)) ax.nil);exact pG this
   ·cases h
  ·cases h
 ·cases h
theorem oj(hi:Inv N ι σ w)(hr:∀x,Rv ι (ρ x) (r x))(h:ak P ro ρ o σ=some out):bg P ro N ι w σ r o out:=by
 cases ho:o.op with
 |move x=>unfold ak at h;rw[ho]at h;simp only at h;obtain rfl:=aE h;exact R0 hi (hr _) (.inl ho)
 |assign x=>unfold ak at h;rw[ho]at h;simp only at h;obtain rfl:=aE h;exact R0 hi (hr _) (.inr ho)
 |pick c a b=>exact ac_ hi (hr _) (hr _) (hr _) ho h
 |alloc t=>exact ZD hi ho h
 |box t x=>exact aex hi (hr _) ho h
 |build t parts=>exact ZJ hi (fun x _=>hr x) ho h
 |buildSlice t len parts=>exact MI hi (fun x _=>hr x) ho h
 |load t a=>exact ada hi (hr _) ho h
 |store t a x=>exact ZE hi (hr _) (hr _) ho h
 |nilCheck x=>exact Rr hi (hr _) ho h
 |binOp op t x y yT=>exact aey hi (hr _) (hr _) ho h
 |unOp op t x=>exact ah_ hi (hr _) ho h
 |convert s t x=>exact Ul hi (hr _) ho h
 |makeInterface t x=>exact Gi hi (hr _) ho h
 |makeFunc f a b=>exact Rt hi (fun x _=>hr x) ho h
 |makeMap t x=>exact Un hi (fun x _=>hr x) ho h
 |makeSlice t l c=>exact Nr hi (hr _) (hr _) ho h
 |slice t x lo cT mx=>exact ZK hi (hr _) (fun x _=>hr x) (fun x _=>hr x) (fun x _=>hr x) ho h
 |fieldAddr s x f=>exact Np hi (hr _) ho h
 |field t x f=>exact ZH hi (hr _) ho h
 |indexAddr t x ix=>exact Nq hi (hr _) (hr _) ho h
 |index t x ix=>exact ZI hi (hr _) (hr _) ho h
 |lookup t x ix ok=>exact WB hi (hr _) (hr _) ho h
 |mapUpdate t m k x=>exact CU hi (hr _) (hr _) (hr _) (.inl ho) h
 |insert t m k x=>exact CU hi (hr _) (hr _) (hr _) (.inr ho) h
 |mapEntry t m k=>exact RA hi (hr _) (hr _) ho h
 |entryStore t m st x=>exact MJ hi (hr _) (hr _) (hr _) ho h
 |range t x=>exact ZN hi (hr _) ho h
 |next it s=>exact adg hi (hr _) ho h
 |entry it=>exact ZQ hi (hr _) ho h
 |extract t i=>exact Um hi (hr _) ho h
 |call c=>exact adh hi hr ho h
 |defer c=>exact ZR hr ho h
 |panic x=>exact ZS (hr _) ho h
 |typeAssert x xt t ok=>exact MK hi (hr _) ho h
 |_=>unfold ak at h;rw[ho]at h;cases h
end Go.Ev
namespace Go.Ev
variable{P:Program}{ro:Nat}{σ:St}{ρ:Operand→IV}{o:Oper}{out:ey}
def Grown(σ:St):ey→Prop
 |.val _ ah=>σ.n≤ah.n
 |_=>True
theorem rI{v:IV}{ah:St}(hle:σ.n≤ah.n)(h:ret v ah=some out):Grown σ out:=by rw[aE h];exact hle
theorem vQ{v:IV}(h:ret v σ=some out):Grown σ out:=rI (aqK σ.n) h
theorem u6{v:IV}{id:Nat}{ob:Ob}(h:ret v (σ.put id ob)=some out):Grown σ out:=rI (ah:=σ.put id ob) (aqK σ.n) h
theorem KQ{v:IV}{ob:Ob}(h:ret v (σ.add ob)=some out):Grown σ out:=rI (Nat.le_succ _) h
theorem NH{kt:TypeId}{m k v:IV}{ah:St}(h:oK P ro kt m k v σ=some ah):ah.n=σ.n:=by
 unfold oK at h
 repeat' split at h
 all_goals first|(cases h;done)|(cases h;rfl)
theorem NI{f:IV}{args:List IV}(h:gj P f args=some out):Grown σ out:=by
 unfold gj at h
 repeat' split at h
 all_goals first|(cases h;done)|(cases h;exact trivial)
theorem NJ{x:IV}{name:String}{args:List IV}(h:tO P x name args=some out):Grown σ out:=by
 unfold tO at h
 repeat' split at h
 all_goals first|(cases h;done)|(cases h;exact trivial)
theorem NK{argTypes:Array TypeId}{s x:IV}(h:kf P ro argTypes s x σ=some out):Grown σ out:=by
 have hn:∀{size aS n:Nat} {new:List IV} {s:IV},ff size aS n new s σ=some out→Grown σ out:=by
  intro size aS n new s h;unfold ff at h;split at h
  ·split at h
   ·exact KQ h
   ·cases h
  ·cases h
 unfold kf at h;split at h
 ·split at h
  ·split at h
   ·split at h
    ·cases h
    ·split at h
     ·split at h
      ·unfold eA at h
       repeat' split at h
       all_goals first|exact vQ h|exact u6 h|exact rI (by exact aqK σ.n) h|exact hn h|cases h
      ·cases h
     ·cases h
   ·cases h
  ·cases h
 ·cases h
theorem ML{b:Builtin}{argTypes:Array TypeId}{args:List IV}(h:dv P ro b argTypes args σ=some out):Grown σ out:=by
 unfold dv at h;split at h
 ·split at h
  ·exact NK h
  ·cases h
 ·split at h
  ·rw[aqL]at h;obtain⟨z,hz,rfl⟩:=h;exact aqK _
  ·cases h
 ·split at h
  ·rw[aqL]at h;obtain⟨z,hz,rfl⟩:=h;exact aqK _
  ·cases h
 ·rw[aqL]at h;obtain⟨z,hz,rfl⟩:=h;exact aqK _
 ·rw[aqL]at h;obtain⟨z,hz,rfl⟩:=h;exact aqK _
 ·split at h
  ·unfold wE at h
   repeat' split at h
   all_goals first|exact u6 h|cases h
  ·cases h
 ·split at h
  ·unfold sa at h
   repeat' split at h
   all_goals first|exact vQ h|exact u6 h|cases h
  ·cases h
 ·split at h
  ·unfold Ey at h
   repeat' split at h
   all_goals first|exact vQ h|exact u6 h|cases h
  ·cases h
 ·cases h
theorem lJ(h:ak P ro ρ o σ=some out):Grown σ out:=by
 unfold ak at h;cases ho:o.op<;>rw[ho]at h<;>(try dsimp only at h)
 case call c=>
  split at h
  ·exact ML h
  ·exact NI h
  ·exact NJ h
 case defer c=>
  split at h
  ·split at h
   ·cases h;exact trivial
   ·cases h
  ·cases h
 case mapUpdate=>
  split at h
  ·split at h
   ·rename_i ah hs;exact rI (av_ (NH hs).symm) h
   ·cases h
  ·cases h
 case insert=>
  split at h
  ·split at h
   ·rename_i ah hs;exact rI (av_ (NH hs).symm) h
   ·cases h
  ·cases h
 all_goals (repeat' split at h)
 all_goals first|exact vQ h|exact u6 h|exact KQ h|(cases h;done)|(cases h;exact trivial)
end Go.Ev
namespace Go.Ev
variable{P:Program}{N ro:Nat}{ι:Io}{w:World}{σ:St}{e:Env}{a:Act}
def cZ(ι:Io)(e:Env)(ts:Array Value):Prop:=e.n=ts.size∧∀t,Rv ι (e.at t) (ts.getD t art)
def jJ(ι:Io):List Df→List Deferred→Prop
 |[],[]=>True
 |d::ds,x::xs=>AD ι d x∧jJ ι ds xs
 |_,_=>False
theorem cZ.mono{aC:Io}(gJ:Ext ι aC){ts:Array Value}(h:cZ ι e ts):cZ aC e ts:=⟨h.1,fun t=>(h.2 t).mono gJ⟩
theorem AD.mono{aC:Io}(gJ:Ext ι aC){d:Df}{x:Deferred}(h:AD ι d x):AD aC d x:=by
 cases d with
 |CG id=>obtain⟨l,h1,h2⟩:=h;exact⟨l,gJ _ _ _ h1,h2⟩
 |call f as=>obtain⟨cap,us,vs,h1,h2,h3⟩:=h;exact⟨cap,us,vs,h1,h2.mono gJ,h3⟩
theorem jJ.mono{aC:Io}(gJ:Ext ι aC):∀{ds:List Df} {xs:List Deferred},jJ ι ds xs→jJ aC ds xs
 |[],[],_=>trivial
 |_::_,_::_,h=>⟨AD.mono gJ h.1,jJ.mono gJ h.2⟩
 |[],_::_,h=>h.elim
 |_::_,[],h=>h.elim
theorem jJ.nil{xs:List Deferred}(h:jJ ι [] xs):xs=[]:=by cases xs with|nil=>rfl|cons=>exact h.elim
theorem q_:Rv ι .undef art:=.raw _
theorem Env.cS(e:Env)(d:Nat)(v:IV)(t:Nat):(e.put (some d) v).at t=if d<e.n∧d=t then v else e.at t:=by
 unfold Env.put;simp only;by_cases h:d<e.n
 ·have hb:arH d e.n=true:=by simpa[auG]using h
  rw[hb];simp only[if_true,Env.at,T.fQ];by_cases hd:d=t
  ·simp[hd];intro h2;omega
  ·simp[hd]
 ·have hb:arH d e.n=false:=by
   cases hc:arH d e.n with
   |false=>rfl
   |true=>exact absurd (by simpa using hc) h
  rw[hb];simp[h]
theorem Env.mU(e:Env)(d:Option Nat)(v:IV):(e.put d v).n=e.n:=by
 cases d with
 |none=>rfl
 |some d=>simp only[Env.put];split<;>rfl
theorem cZ.set{ts:Array Value}{v:IV}{u:Value}(h:cZ ι e ts)(hv:Rv ι v u)(d:Nat):cZ ι (e.put (some d) v) (ts.setIfInBounds d u):=by
 refine⟨by rw[Env.mU,h.1];simp,fun t=>?_⟩;rw[Env.cS]
 have hs:(ts.setIfInBounds d u).getD t art=if d<ts.size∧d=t then u else ts.getD t art:=by
  simp only[arU,Array.getElem?_setIfInBounds];by_cases hd:d=t
  ·subst hd;by_cases hl:d<ts.size
   ·simp[hl]
   ·simp[hl]
  ·simp[hd]
 rw[hs,←h.1];split
 ·exact hv
 ·exact h.2 t
theorem cZ.put{v:IV}{u:Value}(h:cZ ι e a.tmps)(hv:Rv ι v u)(dst:Option Tmp):cZ ι (e.put dst v) (a.put dst u).tmps:=by
 cases dst with
 |none=>exact h
 |some d=>exact h.set hv d
theorem cZ.eval(h:cZ ι e a.tmps)(x:Operand):Rv ι (aq e x) (a.eval x):=by
 cases x with
 |tmp t=>exact h.2 t
 |const v=>exact Rv.lift v
 |global g=>exact .raw _
 |func f=>exact .raw _
theorem adi{x:IV}{b:Bool}(h:Rv ι x (.bool b)):x=.raw (.bool b):=by
 generalize hu:Value.bool b=u at h;cases h<;>first|(cases hu;done)|(cases hu;rfl)
theorem rJ{o:Oper}{ops:Array Oper}(h:cZ ι e a.tmps):avw o (yielded ops a.tmps)=aJ o ops e:=by
 unfold avw aJ;cases hg:o.guard with
 |none=>rfl
 |some g=>
  obtain⟨j,want⟩:=g;simp only[yielded];cases hd:(ops[j]?).bind (·.dst)with
  |none=>rfl
  |some d=>
   simp only[aqN];by_cases hl:d<e.n
   ·have hb:arH d e.n=true:=by simpa[auG]using hl
    rw[hb];have cd:d<a.tmps.size:=by rw[←h.1];exact hl
    have hr:=h.2 d;rw[arU,aq7 cd,arz]at hr;rw[aq7 cd];simp only[if_true];generalize a.tmps[d]=u at hr;cases u with
    |bool b=>rw[adi hr];simp
    |_=>
     generalize e.at d=x at hr;cases hr<;>rfl
   ·have hb:arH d e.n=false:=by
     cases hc:arH d e.n with
     |false=>rfl
     |true=>exact absurd (by simpa using hc) hl
    rw[hb];have cd:¬d<a.tmps.size:=by rw[←h.1];exact hl
    rw[Array.getElem?_eq_none (asH cd)];rfl
def noGoto(Q:Exit→Act→World→Prop):Exit→Act→World→Prop
 |.goto _,_,_=>False
 |e,a,w=>Q e a w
section scope
variable{F:Fence}{n:Nat}{b:Frame}{k:List Item}{cs:List Frame}{Q:Exit→Act→World→Prop}
theorem nS{c:Code}:step P (lone (b.atR a (.code (.scope c)::k)) cs w)=.next (lone (b.atR a (.code c::.inScope c::k)) cs w):=
 step_lone_go (by simp[stepG,awa,awj])
theorem MM{c:Code}:step P (lone (b.atR a (.inScope c::k)) cs w)=.next (lone (b.atR a k) cs w):=
 step_lone_go (by simp[stepG,awa,awj])
theorem HD{c:Code}(h:c.wpIn F n P (noGoto Q) a w):(Code.scope c).wpIn F n P Q a w:=by
 intro b k cs cx hb hr;have h0:(lone (b.atR a (.code (.scope c)::k)) cs w).fenced P F:=fenced_calm hb hr rfl;obtain⟨e,a₁,w₁,hq,Jv⟩:=h b (.inScope c::k) cs cx hb hr;cases e with
 |normal=>exact⟨.normal,a₁,w₁,hq,.head h0 nS (StepsIn.trans Jv (.one (fenced_calm hb hr rfl) MM))⟩
 |exit id=>
  have hx:exitTo id (.inScope c::k)=exitTo id k:=by simp[exitTo]
  exact⟨.exit id,a₁,w₁,hq,fun k' hk=>.head h0 nS (Jv.1 k' (by rw[hx];exact hk)),
   fun oh hk=>let⟨k₁,h1,h2⟩:=Jv.2 oh (by rw[hx];exact hk);⟨k₁,h1,.head h0 nS h2⟩⟩
 |goto l=>exact hq.elim
 |ret=>exact⟨_,a₁,w₁,hq,.of_steps (.one h0 nS) Jv⟩
 |panic ch=>exact⟨_,a₁,w₁,hq,.of_steps (.one h0 nS) Jv⟩
 |outgrown=>exact⟨_,a₁,w₁,hq,.of_steps (.one h0 nS) Jv⟩
end scope
def bS(S:Self):Prop:=∀ro rd fn c e df σ cr,S.code ro rd fn c e df σ=some cr→σ.n≤cr.σ.n
structure bB(S:Self):Prop where
 call:∀ro f args σ v ah,S.call ro f args σ=some (v,ah)→σ.n≤ah.n
 bU:∀ro f args σ v ah,S.bU ro f args σ=some (v,ah)→σ.n≤ah.n
 vF:∀ro f args m σ m' ah,S.vF ro f args m σ=some (m',ah)→σ.n≤ah.n
variable{S:Self}
theorem Uw(hc:bS S){l:Nat}{args:List IV}{v:IV}{ah:St}(h:zA S ro l args σ=some (v,ah)):σ.n≤ah.n:=by
 unfold zA at h;split at h
 ·split at h
  ·cases h
  ·simp only at h;split at h
   ·rename_i e1 ai h1;split at h
    ·split at h
     ·rename_i ex e2 dc h2;split at h
      ·cases h
      split at h
      ·cases h;have:=hc _ _ _ _ _ _ _ _ h1;have:=hc _ _ _ _ _ _ _ _ h2;simp only[St.mU]at*
       omega
      ·cases h
     ·cases h
    ·cases h
   ·cases h
 ·cases h
theorem Gk(hc:bS S)(hk:bB S){o:Oper}{v:IV}{ah:St}(h:jn P S ro e o σ=some (v,ah)):σ.n≤ah.n:=by
 unfold jn at h;split at h
 ·rename_i v1 ai h1;cases h;exact lJ h1
 ·exact hk.call _ _ _ _ _ _ h
 ·exact Uw hc h
 ·cases h
theorem w9(hc:bS S)(hk:bB S){rd:Option Nat}{ops:Array Oper}:∀{l:List Oper} {e:Env} {df:List Df} {σ:St} {cr:CR},xW P S ro rd ops l e df σ=some cr→σ.n≤cr.σ.n
 |[],e,df,σ,cr,h=>by cases h;exact aqK _
 |o::rest,e,df,σ,cr,h=>by
  unfold xW at h;split at h
  ·split at h
   ·rename_i v ai h1;exact aq2 (Gk hc hk h1) (w9 hc hk h)
   ·split at h
    ·split at h
     ·exact w9 hc hk h
     ·cases h
    ·split at h
     ·rename_i h2;cases h;exact hk.bU _ _ _ _ _ _ h2
     ·cases h
    ·cases h;exact aqK _
    ·cases h
  ·exact w9 hc hk h
section draw
variable[Sm]
theorem Cd(hc:bS S)(hk:bB S){pl:dM}{ops:Array Oper}{o:Oper}{j:Nat}{d d':DS}(h:bL P S pl ro ops o j d=some d'):d.n≤d'.n:=by
 unfold bL at h;simp only at h;split at h
 ·cases h
 ·split at h
  ·split at h
   ·split at h
    ·split at h
     ·cases h;exact aqK _
     ·cases h
    ·cases h
   ·split at h
    ·rename_i h1;cases h;exact lJ h1
    ·cases h
   ·split at h
    ·split at h
     ·cases h;exact aqK _
     ·cases h
    ·cases h
   ·split at h
    ·rename_i h1;cases h;exact Gk (P:=P) hc hk h1
    ·cases h
   ·split at h
    ·rename_i h1;split at h
     ·cases h;exact Gk (P:=P) hc hk h1
     ·cases h
    ·cases h
  ·split at h
   ·split at h
    ·cases h;exact aqK _
    ·cases h
   ·cases h;exact aqK _
theorem C0{SF:Nat→Self}(hc:∀j,bS (SF j))(hk:∀j,bB (SF j)){pl:dM}{ops:Array Oper}:∀{l:List (Oper×Nat)} {d d':DS},iF P SF pl ro ops l d=some d'→d.n≤d'.n
 |[],d,d',h=>by cases h;exact aqK _
 |(o,j)::rest,d,d',h=>by
  unfold iF at h;split at h
  ·rename_i d1 h1;exact aq2 (Cd (hc j) (hk j) h1) (C0 hc hk h)
  ·cases h
theorem AG{SF:Nat→Self}(hc:∀j,bS (SF j))(hk:∀j,bB (SF j)){ops:Array Oper}{df:List Df}{cr:CR}(h:pF P SF ro ops e df σ=some cr):σ.n≤cr.σ.n:=by
 unfold pF at h;simp only at h;split at h
 ·split at h
  ·rename_i h1;cases h;exact C0 hc hk h1
  ·cases h
 ·cases h
end draw
theorem WG(hc:bS S)(hk:bB S){ops:Array Oper}{df:List Df}{cr:CR}(h:Nk P S ro ops e df σ=some cr):σ.n≤cr.σ.n:= @AG _ _ _ _ Nj _ (fun _=>hc) (fun _=>hk) _ _ _ h
theorem KR(hc:bS S)(hk:bB S):bS (lj P S):=by
 intro ro rd fn c e df σ cr h;change uX P S ro rd fn c e df σ=some cr at h;cases c<;>unfold uX at h<;>dsimp only at h
 case skip=>cases h;exact aqK _
 case label=>cases h;exact aqK _
 case exit=>cases h;exact aqK _
 case goto=>cases h;exact aqK _
 case ret=>cases h;exact aqK _
 case refuse=>cases h
 case region=>
  split at h
  ·exact WG hc hk h
  ·exact w9 hc hk h
 case seq=>
  split at h
  ·rename_i h1;exact aq2 (hc _ _ _ _ _ _ _ _ h1) (hc _ _ _ _ _ _ _ _ h)
  ·exact hc _ _ _ _ _ _ _ _ h
 case cond=>
  split at h
  ·exact hc _ _ _ _ _ _ _ _ h
  ·cases h
 case block=>
  split at h
  ·rename_i h1;split at h
   ·cases h;have:=hc _ _ _ _ _ _ _ _ h1;exact this
   ·cases h;have:=hc _ _ _ _ _ _ _ _ h1;exact this
  ·exact hc _ _ _ _ _ _ _ _ h
 case loop=>
  split at h
  ·rename_i h1;exact aq2 (hc _ _ _ _ _ _ _ _ h1) (hc _ _ _ _ _ _ _ _ h)
  ·exact hc _ _ _ _ _ _ _ _ h
 case scope=>
  split at h
  ·cases h
  ·exact hc _ _ _ _ _ _ _ _ h
 case rangeFunc=>
  split at h
  ·rename_i lX ai mark om
   have h1:σ.n≤ai.n:=by
    split at om
    ·cases om;simp
    ·split at om
     ·cases om;exact aqK _
     ·cases om
   split at h
   ·split at h
    ·rename_i h2;have h3:=hk.call _ _ _ _ _ _ h2;simp only[St.kK]at h3;split at h
     ·split at h
      ·cases h
      ·split at h
       ·cases h;simp only[St.mU];omega
       ·have h4:=hc _ _ _ _ _ _ _ _ h;simp only[St.mU]at h4;omega
     ·cases h
    ·cases h
   ·cases h
  ·cases h
theorem jR(hk:bB S):∀{df:List Df} {m m':Option IV} {σ ah:St},fP S ro df m σ=some (m',ah)→σ.n≤ah.n
 |[],m,m',σ,ah,h=>by cases h;exact aqK _
 |.CG id::ds,m,m',σ,ah,h=>by
  unfold fP at h;split at h
  ·split at h
   ·exact jR hk (σ:=σ.put id (.FE true)) h
   ·cases h
  ·cases h
 |.call f args::ds,m,m',σ,ah,h=>by
  unfold fP at h;split at h
  ·rename_i h1;exact aq2 (hk.vF _ _ _ _ _ _ _ h1) (jR hk h)
  ·cases h
theorem KT(hc:bS S)(hk:bB S){f:FuncId}{args:List IV}{r:Func×Env×Option IV×St}(h:zC P S ro f args σ=some r):σ.n≤r.2.2.2.n:=by
 unfold zC at h;split at h
 ·split at h
  ·split at h
   ·cases h
   ·simp only at h;split at h
    ·rename_i h1;split at h
     ·rename_i h2;cases h;exact aq2 (hc _ _ _ _ _ _ _ _ h1) (jR hk h2)
     ·cases h
    ·rename_i h1;split at h
     ·rename_i h2;cases h;exact aq2 (hc _ _ _ _ _ _ _ _ h1) (jR hk h2)
     ·cases h
    ·rename_i h1;split at h
     ·rename_i h2;cases h;exact aq2 (hc _ _ _ _ _ _ _ _ h1) (jR hk h2)
     ·cases h
    ·cases h
  ·cases h
 ·cases h
theorem rK{ops:Array Oper}:∀{l:List Oper} {e:Env} {m:Option IV} {σ:St} {r:Env×Option IV×St},nA P ro ops l e m σ=some r→σ.n≤r.2.2.n
 |[],e,m,σ,r,h=>by cases h;exact aqK _
 |o::rest,e,m,σ,r,h=>by
  unfold nA at h;split at h
  ·split at h
   ·split at h
    ·exact rK h
    ·exact rK h
   ·split at h
    ·rename_i h1;exact aq2 (lJ h1) (rK h)
    ·cases h
  ·exact rK h
theorem Gp(hc:bS S){fn:FuncId}:∀{c:Code} {e:Env} {m:Option IV} {σ:St} {r:CR×Option IV},xX P S ro fn c e m σ=some r→σ.n≤r.1.σ.n:=by
 intro c
 have other:∀{c:Code} {e:Env} {m:Option IV} {σ:St} {r:CR×Option IV},(match S.code ro none fn c e [] σ with|some r=>some (r,m)|none=>none)=some r→σ.n≤r.1.σ.n:=by
  intro c e m σ r h;split at h
  ·rename_i h1;cases h;exact hc _ _ _ _ _ _ _ _ h1
  ·cases h
 induction c with
 |seq a b iha ihb=>
  intro e m σ r h;unfold xX at h;split at h
  ·rename_i h1;exact aq2 (iha h1) (ihb h)
  ·cases h
  ·exact iha h
 |region id ops draw=>
  intro e m σ r h;unfold xX at h;split at h
  ·split at h
   ·rename_i h1;cases h;exact rK h1
   ·cases h
  ·exact other h
 |_=>intro e m σ r h;unfold xX at h;exact other h
theorem C1(hc:bS S)(hk:bB S):bB (lj P S) where
 call:=by
  intro ro f args σ v ah h;simp only[lj,Nl]at h;split at h
  ·rename_i h1;split at h
   ·cases h;exact KT hc hk h1
   ·cases h
  ·cases h
 bU:=by
  intro ro f args σ v ah h;simp only[lj,Uf]at h;split at h
  ·rename_i h1;cases h;exact KT hc hk h1
  ·cases h
 vF:=by
  intro ro f args m σ m' ah h;simp only[lj,Ay]at h;split at h
  ·split at h
   ·cases h
   ·split at h
    ·split at h
     ·cases h
     ·split at h
      ·rename_i h1;split at h
       ·cases h;exact Gp hc h1
       ·cases h
      ·rename_i h1;split at h
       ·cases h;exact Gp hc h1
       ·cases h
      ·cases h
    ·cases h
  ·cases h
end Go.Ev
