/- Lemmas over the model, without conditions of their own: operations on expressions (3). -/
import Derived.Test.YtggffkaadeagbaaGreatEvL
import Derived.Test.YtggffkaadeagbaaGreatEvI
open Option.some renaming injEq->asP
open Option renaming map_eq_some_iff->asS,bind_some->asU,map_some->atl,bind_eq_some_iff->as_
open Bool renaming and_eq_true->asN,not_eq_true'->atD,false_eq_true->atn,or_eq_true->atw
open Nat renaming eq_of_beq_eq_true->asV,zero_le->atE,add_mul->atq,beq_eq->atv,le_refl->asR,lt_of_lt_of_le->avc
open List renaming eq_nil_of_length_eq_zero->atr,getElem?_eq_some_iff->asM,getElem?_map->as4,getElem?_range->avs,getElem?_eq_getElem->asL,all_eq_true->as6,getElem_mem->asO,append_assoc->atf,mem_of_mem_take->aul,mem_of_mem_drop->avk,getElem?_take->atp,replicate->ate,replicate_succ->au0,getElem?_append_left->asY,getElem?_append_right->atm,length_eq_one_iff->avN,eq_of_mem_replicate->at0,mem_flatten->avl,length_take->at5
open List.cons renaming injEq->atK
open Int renaming toNat_of_nonneg->avo
open Go.Value.int renaming injEq->av7
open Go.Utf8 renaming decode->auE
open Option renaming some->aa,none->ah
open Bool renaming true->ab,false->af
set_option linter.all false
namespace Go.Ev
variable{P:Program}{N:Nat}{σ ao:St}{R R':Rs}{φ aL:Ph}{E:Nat->Env}{ν:List IV}
variable{C:Cr}{Q:IV->Prop}{K:List (List IV->Prop)}{V:SS}{d:Nat}{o:Oper}{k:PV SE->SS->ak}{L:List (LO SE)}{Γ:Gm SE}
theorem HZ:∀{ds:List (Cl SE)} {es:List SE},FX ds=aa es->ds=es.map .v
 |[],es,h=>by simp only[FX,asP]at h;subst h;rfl
 |c::ds,es,h=>by
  cases c<;>simp only[FX]at h<;>first|(cases h;done)|skip
  split at h
  ·rename_i aF he;simp only[asP]at h;subst h;rw[HZ he];rfl
  ·cases h
theorem H0(hJ:J (au P ν) R φ V.g V.l E σ):∀{cs:List (Cl SE)} {es:List SE} {xs:List IV},wq cs=aa es->All2 (cI (au P ν) R φ V.l σ) xs cs->
 ∃ys:List IV,All2 (λ(z:SE) y=>z.den P ν=aa y) es ys/\All2 (bn ab R σ) xs ys
 |[],es,[],h,_=>by simp only[wq,asP]at h;subst h;exact⟨[],trivial,trivial⟩
 |[],es,_::_,_,hx=>hx.elim
 |c::cs,es,[],_,hx=>hx.elim
 |c::cs,es,x::xs,h,hx=>by
  have next:∀{e:SE} {y:IV},(wq cs).map (e::·)=aa es->e.den P ν=aa y->bn ab R σ x y->∃ys:List IV,All2 (λ(z:SE) y=>z.den P ν=aa y) es ys/\All2 (bn ab R σ) (x::xs) ys:=by
   intro e y h h1 h2;obtain⟨aF,h3,rfl⟩:=asS.1 h;obtain⟨ys,h4,h5⟩:=H0 hJ h3 hx.2;exact⟨y::ys,⟨h1,h4⟩,⟨h2,h5⟩⟩
  simp only[wq]at h;split at h
  ·obtain⟨y,h1,h2,_⟩:=hx.1;exact next h h1 (h2.mono hJ.Bc)
  ·obtain⟨y,h1,h2,_⟩:=hx.1;exact next h h1 h2.cL
  ·rename_i b s;obtain⟨h1,h2⟩:=hx.1;refine next (y:=.tree s []) h (by simp[SE.den,h1]) ?_
   subst h2;cases b
   ·exact .emp s h1
   ·exact .nil s h1
  ·cases h
theorem Bg(hJ:J (au P ν) R φ V.g V.l E σ){pv:PV SE}{ke:SE}{x:IV}(hx:VR (au P ν) R φ V.l σ x pv)(h:HL pv=aa ke):∃kv,ke.den P ν=aa kv/\bn ab R σ x kv:=by
 unfold HL at h;split at h<;>first|(cases h;done)|skip
 ·cases h;obtain⟨y,h1,h2,_⟩:=hx;exact⟨y,h1,h2.mono hJ.Bc⟩
 ·cases h;obtain⟨y,h1,h2,_⟩:=hx;exact⟨y,h1,h2.cL⟩
 ·rename_i cs;obtain⟨es,h1,rfl⟩:=asS.1 h;obtain⟨xs,rfl,jf⟩:=hx;obtain⟨ys,g1,g2⟩:=H0 hJ h1 jf;exact⟨.agg ys,eL g1,.agg xs ys g2.len λi c e h1 h2=>g2.get h1 h2⟩
theorem All2.ag9{α β:Type}{r:α->β->Prop}{a:α}{b:β}(hr:r a b):∀{as:List α} {bs:List β} {i:Nat},All2 r as bs->All2 r (as.set i a) (bs.set i b)
 |[],[],i,_=>by simp;trivial
 |_::_,_::_,0,h=>⟨hr,h.2⟩
 |_::_,_::_,i+1,h=>⟨h.1,All2.ag9 hr h.2⟩
 |[],_::_,_,h=>h.elim
 |_::_,[],_,h=>h.elim
theorem ae_(hJ:J (au P ν) R φ V.g V.l E σ)(hn:ν.length=V.n){j id:Nat}{kt:TypeId}{je:SE}(hj:V.l[j]?=aa (.mp kt je)){es aF:List (Value×IV×Nat)}{clock oK:Nat}{mQ:List IV}(eo:¬gI kt=ab)(ll:φ j=aa id)(hR:R id=ah)(aE:σ.at id=aa (.map es clock))
 (he:zx R σ aF mQ/\Canon aF oK):J (au P (ν++[.az mQ])) R φ V.g (V.l.set j (.mp kt (.var V.n))) E (σ.put id (.map aF oK)):=by
 have bD:=hJ.up (iv:=au P (ν++[.az mQ])) (λe y h=>SE.c9 P e h)
 exact(bD.tQ (R':=R) (bad:=λ_=>False) (kj:=.mp kt (.var V.n)) (eT:=.map aF oK) ll hj (λ_ _=>rfl)
  (λm hm=>by rw[hR]at hm;cases hm) (λm _ _ _ hm=>by rw[hR]at hm;cases hm) (λm _ _ _ hm=>by rw[hR]at hm;cases hm)
  (λ_ h=>by cases h) (λ_ _ _=>by rename_i h;cases h;exact⟨_,rfl⟩) (λ_ _ _ _ _ h=>by cases h) (λ_ _ pv _=>pv.aZ) (λ_ o _ _=>o.aZ)
  (λdK=>by rw[gR,if_neg eo];exact⟨id,aF,oK,mQ,by simp[au,SE.den,<-hn],ll,hR,by rw[St.c_,if_pos rfl],he.1.mono λ_ _ ⟨z,h1,h2⟩=>⟨z,h1,h2.mono dK.grow⟩,he.2⟩)).2
theorem Jp{t:TypeId}{m key x:Operand}(hJ:J (au P ν) R φ V.g V.l E σ)(hn:ν.length=V.n)(ho:o.op=.mapUpdate t m key x\/o.op=.insert t m key x)(hs:(gn P d o V k).sat P C Q K ν):dh P C Q K ν E V.ln k (bL P E d o σ):=by
 have dK:(match P.underlying t with
  |some (.map kt et)=>KU kt (bO P d V t m) (bO P d V kt key) (bO P d V et x) V k
  |_=>.fail 66).sat P C Q K ν:=by
  rcases ho with ho|ho<;>(unfold gn at hs;rw[ho]at hs;exact hs)
 split at dK<;>first|(exact dK.elim)|skip
 rename_i kt et hu;unfold KU at dK;split at dK<;>first|(exact dK.elim)|skip
 rename_i j ke xe hm hk hx;split at dK<;>first|(exact dK.elim)|skip
 rename_i ma je hj;split at dK<;>first|(exact dK.elim)|skip
 rename_i j_;rw[asN,atD]at j_;obtain⟨j_,eo⟩:=j_;have yL:=asV j_;subst yL;have eo:¬gI kt=ab:=by rw[eo];simp
 obtain⟨z,hz,aoQ⟩:=dK;have p_:=bo hJ d t m;have P_:=bo hJ d kt key;obtain⟨xv,w6,hxr⟩:=Bg hJ (bo hJ d et x) hx;rw[hm]at p_;obtain⟨id,mc,gZ,g1,g2,g3⟩:=p_;rw[hj]at g2;cases g2;rw[if_neg eo]at g3;obtain⟨kv,a1,a2⟩:=Bg hJ P_ hk;have dH:=hJ.obj j _ hj;rw[gR,if_neg eo]at dH;obtain⟨bB,es,clock,ds,c1,c2,c3,c4,c5⟩:=dH;rw[g1]at c2;cases c2;have kQ:je.den P ν=aa (.az ds):=c1;have wZ:ke.den P ν=aa kv:=a1;simp only[SE.den,kQ,wZ,w6,asU]at hz
 have fin:∀{aF:List (Value×IV×Nat)} {oK:Nat} {mQ:List IV},zx R σ aF mQ/\Canon aF oK->z=.az mQ->pO P 0 kt (ax (E d) m) (ax (E d) key) (ax (E d) x) σ=aa (σ.put id (.map aF oK))->dh P C Q K ν E V.ln k (bL P E d o σ):=by
  intro aF oK mQ he Jk sC;subst Jk;have ff:=ae_ (oK:=oK) hJ hn hj eo g1 c3 c4 he;refine⟨.undef,_,R,φ,.one .un,{V with n:=V.n+1,l:=V.l.set j (.mp kt (.var V.n))},[.az mQ],?_,ff,trivial,by simp[hn],rfl,aoQ⟩;rcases ho with ho|ho<;>simp[bL,av,ho,hu,sC,ret]
 split at hz
 ·rename_i q hq;obtain⟨kk,e1,e2,e3,e4,e5⟩:=wv c5.1 hq af;have G7:=ET e1 a2;obtain⟨e,h6,h7⟩:=e5 q rfl;refine fin (aF:=es.set q (kk,ax (E d) x,e.2.2)) (oK:=clock) (mQ:=ds.set q (.az [kv,xv])) ⟨All2.ag9 ⟨xv,by rw[e3],hxr⟩ c5.1,c5.2.set h6 _ _⟩ (by simpa using hz.symm) ?_;unfold pO;rw[g3,G7];simp only[e2,c4,e4,h6,h7,if_true,atE,not_true,if_false]
 ·rename_i hq;obtain⟨kk,e1,e2,e3,e4,e5⟩:=wv c5.1 hq af;have G7:=ET e1 a2;refine fin (aF:=es++[(kk,ax (E d) x,clock)]) (oK:=clock+1) (mQ:=ds++[.az [kv,xv]]) ⟨c5.1.app ⟨⟨xv,by rw[e3],hxr⟩,trivial⟩,c5.2.app _ _⟩ (by simpa using hz.symm) ?_;unfold pO;rw[g3,G7];simp only[e2,c4,e4,atE,not_true,if_false]
 ·cases hz
theorem ab6{t:TypeId}{e:SE}(h:FW P t=aa e):∃v,cy P t=aa v/\e.den P ν=aa (.raw v)/\lift v=.raw v:=by
 unfold FW at h;split at h<;>first|(cases h;exact⟨_,‹_›,rfl,rfl⟩)|cases h
theorem ag_{fr:Bool}{x:IV}(h:bn fr R σ x (.agg [])):x=.agg []:=by
 cases h with
 |agg cs _ hl _=>
  have h0:cs=[]:=atr (by simpa using hl);rw[h0]
 |pure=>rfl
theorem ab7{t:TypeId}(h:Of P t=ab):cy P t=aa (.agg #[]):=by
 unfold Of at h;split at h
 ·rename_i cs hc;rw[hc];have:cs.toList=[]:=by simpa using h
  rw[show cs= #[]from by cases cs;simp at this;rw[this]]
 ·cases h
theorem S4{t:TypeId}{m key:Operand}{kt et:TypeId}(hJ:J (au P ν) R φ V.g V.l E σ)(hn:ν.length=V.n)(ho:o.op=.lookup t m key ab)(hu:P.underlying t=aa (.map kt et))(hz:Of P et=ab)
 (hs:(KX kt (bO P d V t m) (bO P d V kt key) V k).sat P C Q K ν):dh P C Q K ν E V.ln k (bL P E d o σ):=by
 have nE:=ab7 hz;unfold KX at hs;split at hs<;>first|(exact hs.elim)|skip
 rename_i j ke hm hk;split at hs<;>first|(exact hs.elim)|skip
 rename_i ma je hj;split at hs<;>first|(exact hs.elim)|skip
 rename_i j_;rw[asN,atD]at j_;obtain⟨j_,eo⟩:=j_;have yL:=asV j_;subst yL;have eo:¬gI kt=ab:=by rw[eo];simp
 obtain⟨⟨u,yM⟩,h,hh,hs⟩:=hs;have p_:=bo hJ d t m;have P_:=bo hJ d kt key;rw[hm]at p_;obtain⟨id,mc,gZ,g1,g2,g3⟩:=p_;rw[hj]at g2;cases g2;rw[if_neg eo]at g3;obtain⟨kv,a1,a2⟩:=Bg hJ P_ hk;have dH:=hJ.obj j _ hj;rw[gR,if_neg eo]at dH;obtain⟨bB,es,clock,ds,c1,c2,c3,c4,c5⟩:=dH;rw[g1]at c2;cases c2;have kQ:je.den P ν=aa (.az ds):=c1;have wZ:ke.den P ν=aa kv:=a1
 have hg:∃q,fB P kt ds kv=aa q/\(q=ah\/∃i a,q=aa i/\ds[i]?=aa (.az [a,.agg []])):=by
  simp only[SE.den,kQ,wZ,asU]at yM;cases hq:fB P kt ds kv with
  |none=>rw[hq]at yM;simp at yM
  |some q=>
   refine⟨q,rfl,?_⟩;rw[hq]at yM;cases q with
   |none=>exact .inl rfl
   |some i=>
    refine .inr ?_;simp only at yM;split at yM
    ·rename_i a y hd;simp only[asU]at yM;split at yM
     ·rename_i cs;split at yM
      ·rename_i hc;have:cs=[]:=atr hc.1;subst this;exact⟨i,a,rfl,hd⟩
      ·cases yM
     ·cases yM
    ·simp at yM
 obtain⟨q,hq,rF⟩:=hg;obtain⟨kk,e1,e2,e3,e4,e5⟩:=wv c5.1 hq es.isEmpty;have G7:=ET e1 a2;simp only[SE.den,kQ,wZ,asU,hq,atl,asP]at hh;subst hh;have bD:=hJ.up (iv:=au P (ν++[.bool q.isSome])) (λe y h=>SE.c9 P e h);have D9:entriesOf σ (ax (E d) m)=aa es:=by rw[g3];simp[entriesOf,c4]
 have eE:av P 0 (ax (E d)) o σ=aa (.val (.az [.agg [],.raw (.bool q.isSome)]) σ):=by
  simp only[av,ho,hu,D9,G7,e2,e4,nE];rcases rF with rfl|⟨i,a,rfl,hd⟩
  ·simp[ret,lift]
  ·obtain⟨e,h6,_⟩:=e5 i rfl;obtain⟨z',h8,h9⟩:=All2.get c5.1 h6 hd;simp only[IV.az.injEq,atK,and_true]at h8;obtain⟨_,rfl⟩:=h8;simp[ret,h6,ag_ h9]
 refine⟨.az [.agg [],.raw (.bool q.isSome)],σ,R,φ,.tu [(ab,[]),(af,[.v (.var V.n)])],{V with n:=V.n+1},[.bool q.isSome],eE,bD,⟨_,rfl,⟨[],rfl,trivial⟩,⟨_,rfl,.raw (.bool q.isSome),?_,.raw _,rfl⟩,trivial⟩,by simp[hn],rfl,hs⟩;simp[au,SE.den,<-hn]
theorem S5{t:TypeId}{m key:Operand}{kt et:TypeId}{ok:Bool}(hJ:J (au P ν) R φ V.g V.l E σ)(hn:ν.length=V.n)(ho:o.op=.lookup t m key ok)(hu:P.underlying t=aa (.map kt et))
 (hs:(KV P kt et (bO P d V t m) (bO P d V kt key) ok V k).sat P C Q K ν):dh P C Q K ν E V.ln k (bL P E d o σ):=by
 unfold KV at hs;split at hs<;>first|(exact hs.elim)|skip
 rename_i j ke zs n hm hk wu MS;split at wu<;>first|(cases wu;done)|skip
 rename_i arr nE;split at hs<;>first|(exact hs.elim)|skip
 rename_i ma je hj;split at hs<;>first|(exact hs.elim)|skip
 rename_i j_;rw[asN,atD]at j_;obtain⟨j_,eo⟩:=j_;have yL:=asV j_;subst yL;have eo:¬gI kt=ab:=by rw[eo];simp
 obtain⟨z,hz,hs⟩:=hs;have p_:=bo hJ d t m;have P_:=bo hJ d kt key;rw[hm]at p_;obtain⟨id,mc,gZ,g1,g2,g3⟩:=p_;rw[hj]at g2;cases g2;rw[if_neg eo]at g3;obtain⟨kv,a1,a2⟩:=Bg hJ P_ hk;have dH:=hJ.obj j _ hj;rw[gR,if_neg eo]at dH;obtain⟨bB,es,clock,ds,c1,c2,c3,c4,c5⟩:=dH;rw[g1]at c2;cases c2;have kQ:je.den P ν=aa (.az ds):=c1;have wZ:ke.den P ν=aa kv:=a1;obtain⟨zys,y1,y2⟩:=H0 hJ wu (np (R:=R) (φ:=φ) (L:=V.l) (σ:=σ) nE);have aoR:=eL y1;simp only[Value.cells]at y2;have akG:lift (.agg arr)=.agg (arr.toList.map .raw):=rfl
 have hg:∃q,fB P kt ds kv=aa q/\∃cs,z=.agg cs/\cs.length=n/\cs.all Ev.aj=ab/\((q=ah/\cs=zys)\/∃i a,q=aa i/\ds[i]?=aa (.az [a,.agg cs])):=by
  simp only[SE.den,kQ,wZ,aoR,asU]at hz;cases hq:fB P kt ds kv with
  |none=>rw[hq]at hz;simp at hz
  |some q=>
   refine⟨q,rfl,?_⟩;rw[hq]at hz;cases q with
   |none=>
    simp only[asU]at hz;split at hz
    ·rename_i hc;cases hz;exact⟨zys,rfl,hc.1,hc.2,.inl ⟨rfl,rfl⟩⟩
    ·cases hz
   |some i=>
    simp only at hz;split at hz
    ·rename_i a y hd;simp only[asU]at hz;split at hz<;>first|(cases hz;done)|skip
     rename_i cs;split at hz
     ·rename_i hc;cases hz;exact⟨cs,rfl,hc.1,hc.2,.inr ⟨i,a,rfl,hd⟩⟩
     ·cases hz
    ·simp at hz
 obtain⟨q,hq,cs,rfl,ek,wK,rF⟩:=hg;obtain⟨kk,e1,e2,e3,e4,e5⟩:=wv c5.1 hq es.isEmpty;have G7:=ET e1 a2;have bD:=hJ.up (iv:=au P (ν++[.agg cs])) (λe y h=>SE.c9 P e h);have D9:entriesOf σ (ax (E d) m)=aa es:=by rw[g3];simp[entriesOf,c4]
 have eE:∃xs,All2 (bn ab R σ) xs cs/\av P 0 (ax (E d)) o σ=aa (.val (if ok then .az [.agg xs,.raw (.bool q.isSome)]else .agg xs) σ):=by
  rcases rF with⟨rfl,rfl⟩|⟨i,a,rfl,hd⟩
  ·refine⟨_,y2,?_⟩;simp only[av,ho,hu,D9,G7,e2,e4,nE];cases ok<;>simp[ret,akG]
  ·obtain⟨e,h6,_⟩:=e5 i rfl;obtain⟨z',h8,h9⟩:=All2.get c5.1 h6 hd;simp only[IV.az.injEq,atK,and_true]at h8;obtain⟨_,rfl⟩:=h8;obtain⟨xs,zd,wS⟩:=CI h9;refine⟨xs,wS,?_⟩;simp only[av,ho,hu,D9,G7,e2,e4,nE];cases ok<;>simp[ret,h6,zd]
 obtain⟨xs,jf,eE⟩:=eE
 have jd:∀(μ:List IV) (m0:Nat),ν.length=m0->All2 (cI (au P (ν++(.agg cs::μ))) R φ V.l σ) xs ((List.range n).map λj=>.w ab (.bT (.var m0) j)):=by
  intro μ m0 Dl;refine .mk (by simp[jf.len,ek]) λi a b h1 h2=>?_;have hi:=(asM.1 h1).1;rw[jf.len]at hi;rw[as4,avs (by omega)]at h2;simp only[atl,asP]at h2;subst h2;have MT:cs[i]?=aa cs[i]:=asL hi;have bz:Ev.aj cs[i]=ab:=(as6.1 wK) _ (asO hi);exact⟨cs[i],by simp[au,SE.den,<-Dl,MT,yD,bz],jf.get h1 MT,bz⟩
 cases ok with
 |false=>
  simp only[atn,if_false]at hs eE;exact⟨.agg xs,σ,R,φ,.ag _,{V with n:=V.n+1},[.agg cs],eE,bD,⟨xs,rfl,jd [] V.n hn⟩,by simp[hn],rfl,hs⟩
 |true=>
  simp only[if_true]at hs eE;obtain⟨h,hh,hs⟩:=hs;have ab8:=SE.c9 P je (μ:=[.agg cs]) kQ;have ab9:=SE.c9 P ke (μ:=[.agg cs]) wZ;simp only[SE.den,ab8,ab9,asU,hq,atl,asP]at hh;subst hh;rw[atf]at hs;have ff:=bD.up (iv:=au P (ν++([.agg cs]++[.bool q.isSome]))) (λe y h=>by rw[<-atf];exact SE.c9 P e h);refine⟨.az [.agg xs,.raw (.bool q.isSome)],σ,R,φ,.tu [(ab,_),(af,[.v (.var (V.n+1))])],{V with n:=V.n+1+1},[.agg cs]++[.bool q.isSome],eE,ff,⟨_,rfl,⟨xs,rfl,jd [.bool q.isSome] V.n hn⟩,⟨_,rfl,.raw (.bool q.isSome),?_,.raw _,rfl⟩,trivial⟩,by simp[hn],rfl,hs⟩;simp[au,SE.den,<-hn]
theorem W0{t:TypeId}{m key:Operand}{ok:Bool}(hJ:J (au P ν) R φ V.g V.l E σ)(hn:ν.length=V.n)(ho:o.op=.lookup t m key ok)(hs:(gn P d o V k).sat P C Q K ν):dh P C Q K ν E V.ln k (bL P E d o σ):=by
 unfold gn at hs;rw[ho]at hs;simp only at hs;split at hs<;>first|(exact hs.elim)|skip
 rename_i kt et hu;split at hs
 ·rename_i bz;simp only[asN]at bz;obtain⟨rfl,hz⟩:=bz;exact S4 hJ hn ho hu hz hs
 split at hs
 ·exact S5 hJ hn ho hu hs
 unfold TG at hs;split at hs<;>first|(exact hs.elim)|skip
 rename_i j ke z0 hm hk nE;split at hs<;>first|(exact hs.elim)|skip
 rename_i ma je hj;split at hs<;>first|(exact hs.elim)|skip
 rename_i j_;rw[asN,atD]at j_;obtain⟨j_,eo⟩:=j_;have yL:=asV j_;subst yL;have eo:¬gI kt=ab:=by rw[eo];simp
 obtain⟨z,hz,hs⟩:=hs;obtain⟨nu,Lh⟩:=p6 hz;have p_:=bo hJ d t m;have P_:=bo hJ d kt key;rw[hm]at p_;obtain⟨id,mc,gZ,g1,g2,g3⟩:=p_;rw[hj]at g2;cases g2;rw[if_neg eo]at g3;obtain⟨kv,a1,a2⟩:=Bg hJ P_ hk;have dH:=hJ.obj j _ hj;rw[gR,if_neg eo]at dH;obtain⟨bB,es,clock,ds,c1,c2,c3,c4,c5⟩:=dH;rw[g1]at c2;cases c2;have kQ:je.den P ν=aa (.az ds):=c1;have wZ:ke.den P ν=aa kv:=a1;obtain⟨v0,y1,y2,y3⟩:=ab6 (ν:=ν) nE
 have hg:∃q,fB P kt ds kv=aa q/\∃u,z=.raw u/\((q=ah/\u=v0)\/∃i a,q=aa i/\ds[i]?=aa (.az [a,.raw u])):=by
  simp only[SE.den,kQ,wZ,y2,asU]at nu;cases hq:fB P kt ds kv with
  |none=>rw[hq]at nu;simp at nu
  |some q=>
   refine⟨q,rfl,?_⟩;rw[hq]at nu;cases q with
   |none=>
    simp only[asU,aA,if_true,asP]at nu;exact⟨v0,nu.symm,.inl ⟨rfl,rfl⟩⟩
   |some i=>
    simp only at nu;split at nu
    ·rename_i a y hd;simp only[asU]at nu;split at nu
     ·rename_i hr;cases nu;cases z<;>simp only[aA]at hr<;>first|(cases hr;done)|skip
      rename_i u;exact⟨u,rfl,.inr ⟨i,a,rfl,hd⟩⟩
     ·cases nu
    ·simp at nu
 obtain⟨q,hq,u,rfl,rF⟩:=hg;obtain⟨kk,e1,e2,e3,e4,e5⟩:=wv c5.1 hq es.isEmpty;have G7:=ET e1 a2;have bD:=hJ.up (iv:=au P (ν++[.raw u])) (λe y h=>SE.c9 P e h);have iG:(SE.var V.n).den P (ν++[.raw u])=aa (.raw u):=by simp[SE.den,<-hn]
 have D9:entriesOf σ (ax (E d) m)=aa es:=by rw[g3];simp[entriesOf,c4]
 have eE:av P 0 (ax (E d)) o σ=aa (.val (if ok then .az [.raw u,.raw (.bool q.isSome)]else .raw u) σ):=by
  simp only[av,ho,hu,D9,G7,e2,e4,y1];rcases rF with⟨rfl,rfl⟩|⟨i,a,rfl,hd⟩
  ·cases ok<;>simp[ret,y3]
  ·obtain⟨e,h6,_⟩:=e5 i rfl;obtain⟨z',h8,h9⟩:=All2.get c5.1 h6 hd;simp only[IV.az.injEq,atK,and_true]at h8;obtain⟨_,rfl⟩:=h8;have:=cb h9;cases ok<;>simp[ret,h6,this]
 cases ok with
 |false=>
  simp only[atn,if_false]at hs eE;exact⟨.raw u,σ,R,φ,.one (.v (.var V.n)),{V with n:=V.n+1},[.raw u],eE,bD,⟨.raw u,iG,.raw u,Lh⟩,by simp[hn],rfl,hs⟩
 |true=>
  simp only[if_true]at hs eE;obtain⟨h,hh,hs⟩:=hs;have ab8:=SE.c9 P je (μ:=[.raw u]) kQ;have ab9:=SE.c9 P ke (μ:=[.raw u]) wZ;simp only[SE.den,ab8,ab9,asU,hq,atl,asP]at hh;subst hh;rw[atf]at hs;have ff:=bD.up (iv:=au P (ν++([.raw u]++[.bool q.isSome]))) (λe y h=>by rw[<-atf];exact SE.c9 P e h);refine⟨.az [.raw u,.raw (.bool q.isSome)],σ,R,φ,.tu [(af,[.v (.var V.n)]),(af,[.v (.var (V.n+1))])],{V with n:=V.n+1+1},[.raw u]++[.bool q.isSome],eE,ff,⟨_,rfl,⟨_,rfl,.raw u,?_,.raw u,Lh⟩,⟨_,rfl,.raw (.bool q.isSome),?_,.raw _,rfl⟩,trivial⟩,by simp[hn],rfl,hs⟩
  ·simp[au,SE.den,<-hn]
  ·simp[au,SE.den,<-hn]
end Go.Ev
namespace Go.Ev
variable{P:Program}{N:Nat}{σ ao:St}{R R':Rs}{φ aL:Ph}{E:Nat->Env}{ν:List IV}
variable{C:Cr}{Q:IV->Prop}{K:List (List IV->Prop)}{V:SS}{d:Nat}{o:Oper}{k:PV SE->SS->ak}{L:List (LO SE)}{Γ:Gm SE}
theorem TR{s:Nat}{e lo hi:SE}{z:IV}(h:(SE.sub s e lo hi).den P ν=aa z):∃es a b l m q r,e.den P ν=aa (.tree s es)/\lo.den P ν=aa a/\hi.den P ν=aa b/\a=.raw (.int q (l:Nat))/\b=.raw (.int r (m:Nat))/\l<=m/\m<=es.length/\z=.tree s ((es.take m).drop l):=by
 simp only[SE.den,as_]at h;obtain⟨x,h1,a,h2,b,h3,h4⟩:=h;unfold nj at h4;split at h4<;>first|(cases h4;done)|skip
 rename_i s1 es;split at h4<;>first|(cases h4;done)|skip
 rename_i l m hl hm;split at h4<;>first|(cases h4;done)|skip
 rename_i hc;obtain⟨rfl,h5,h6,h7,h8⟩:=hc;cases h4;obtain⟨q,rfl⟩:=CB hl;obtain⟨r,rfl⟩:=CB hm;exact⟨es,_,_,l.toNat,m.toNat,q,r,h1,h2,h3,by rw[avo h5],by rw[avo h7],h6,h8,rfl⟩
theorem bn.part{fr:Bool}{x:IV}{s l m:Nat}{es:List IV}{t el:TypeId}(hu:P.underlying t=aa (.slice el))(aU:aN P el=aa s)(h:bn fr R σ x (.tree s es))(h1:l<=m)(h2:m<=es.length){lo hi:Option IV}
 (fO:∀id off len c ep s',x=.sl id off len (aa c) ep s'->len<=c)
 (zk:gz lo=aa (aa l)\/(gz lo=aa ah/\l=0))(Yc:gz hi=aa (aa m)\/(gz hi=aa ah/\m=es.length)):
 ∃x',fG P t x lo hi ah=aa x'/\bn fr R σ x' (.tree s ((es.take m).drop l)):=by
 obtain⟨kj,Li,Lj⟩:∃q:Option Nat,gz lo=aa q/\q.getD 0=l:=by
  rcases zk with h|⟨h,rfl⟩
  ·exact⟨_,h,rfl⟩
  ·exact⟨_,h,rfl⟩
 obtain⟨da,Ll,ab_⟩:∃q:Option Nat,gz hi=aa q/\∀n,n=es.length\/q≠ah->q.getD n=m:=by
  rcases Yc with h|⟨h,rfl⟩
  ·exact⟨_,h,λn _=>rfl⟩
  ·exact⟨_,h,λn hn=>by rcases hn with rfl|hn;·rfl
                       ·exact absurd rfl hn⟩
 have tB:gz ah=aa ah:=rfl
 have hz:es.length=0->l=0/\m=0/\(es.take m).drop l=[]/\da.getD 0=0:=by
  intro h;have:es=[]:=atr h;subst this;have Dl:m=0:=by simpa using h2
  refine⟨by omega,Dl,by simp,?_⟩;have:=ab_ 0 (.inl rfl);omega
 cases h with
 |nil _ hs=>
  obtain⟨z1,z2,z3,z4⟩:=hz rfl;refine⟨.raw (.slice ah 0 0),?_,by rw[z3];exact .nil s hs⟩;simp[fG,Li,Ll,tB,hu,aU,Lj,z1,z4]
 |emp _ hs=>
  obtain⟨z1,z2,z3,z4⟩:=hz rfl;refine⟨.emp,?_,by rw[z3];exact .emp s hs⟩;simp[fG,Li,Ll,tB,hu,aU,Lj,z1,z4]
 |pure _ hf hp=>
  refine⟨.tree s ((es.take m).drop l),?_,.pure _ hf ?_⟩
  ·have:=ab_ es.length (.inl rfl);simp[fG,Li,Ll,tB,hu,aU,Lj,this,h1,h2]
  ·cases hp with
   |tree _ _ hh=>exact .tree s _ λe he=>hh e (aul (avk he))
 |sl id off len cap ep _ m0 cs ay mn _ hR aE h3 h4 hs hl hb hm bH hh=>
  have D0:=ab_ len (.inl hl.symm)
  have fz:∀H2:Option Nat,bn fr R σ (.sl id (off+l*s) (m- l) H2 ep s) (.tree s ((es.take m).drop l)):=λH2=>by
   refine .sl id (off+l*s) (m- l) H2 ep s m0 cs ay mn _ hR aE h3 h4 hs (by simp;omega) ?_ hm (λe he=>bH e (aul (avk he))) λi e j c d' he hd hc=>?_
   ·have:(m- l)*s+l*s<=len*s:=by rw[<-atq];exact Nat.mul_le_mul_right s (by omega)
    omega
   ·rw[List.getElem?_drop,atp]at he;split at he
    ·refine hh (l+i) e j c d' he hd ?_;rw[atq];rw[show off+(l*s+i*s)+j=off+l*s+i*s+j by omega];exact hc
    ·cases he
  cases cap with
  |none=>
   refine⟨.sl id (off+l*s) (m- l) ah ep s,?_,fz ah⟩;have:da.getD len=m:=D0;simp[fG,Li,Ll,tB,hu,aU,Lj,this,h1];omega
  |some c=>
   by_cases Tp:m<=c
   ·by_cases hc:c=l
    ·refine⟨.emp,?_,?_⟩
     ·simp[fG,Li,Ll,tB,hu,aU,Lj,D0,h1,Tp,hc];omega
     ·have:(es.take m).drop l=[]:=by
       apply atr;simp;omega
      rw[this];exact .emp s hs
    ·refine⟨.sl id (off+l*s) (m- l) (aa (c- l)) ep s,?_,fz _⟩;simp[fG,Li,Ll,tB,hu,aU,Lj,D0,h1,Tp,hc]
   ·have:=fO _ _ _ _ _ _ rfl;omega
theorem Qa{q:IntKind}{n:Nat}:gz (aa (.raw (.int q (n:Nat))))=aa (aa n):=by
 simp[gz]
theorem Jq(hJ:J (au P ν) R φ V.g V.l E σ){Wj e:SE}{x:Option Operand}(h:HM P d V Wj x=aa e){n:Nat}{q:IntKind}(he:e.den P ν=aa (.raw (.int q (n:Nat)))):
 gz (x.map (ax (E d)))=aa (aa n)\/(gz (x.map (ax (E d)))=aa ah/\e=Wj):=by
 cases x with
 |none=>simp only[HM,asP]at h;exact .inr ⟨rfl,h.symm⟩
 |some x=>
  simp only[HM]at h;split at h
  ·rename_i e' hx;cases h;have hv:=bo hJ d 3 x;rw[hx]at hv;obtain⟨y,h1,h2,_⟩:=hv;have c8:e.den P ν=aa y:=h1;rw[he]at c8;cases c8;rw[atl,cb h2];exact .inl Qa
  ·cases h
theorem Y7{t:TypeId}{x:Operand}{lo hi mx:Option Operand}(hJ:J (au P ν) R φ V.g V.l E σ)(hn:ν.length=V.n)(ho:o.op=.slice t x lo hi mx)(hs:(KY P d t (bO P d V t x) lo hi mx V k).sat P C Q K ν):dh P C Q K ν E V.ln k (bL P E d o σ):=by
 unfold KY at hs;split at hs<;>first|(exact hs.elim)|skip
 rename_i el c hu hx;have qT:=bo hJ d t x;rw[hx]at qT;split at hs<;>first|(exact hs.elim)|skip
 rename_i s aU;split at hs
 ·rename_i j l _;split at hs<;>first|(exact hs.elim)|skip
  rename_i s' cut fr es e hj he;split at hs<;>first|(exact hs.elim)|skip
  rename_i iO;have vg:=asV iO;subst vg;obtain⟨⟨z,hz⟩,hs⟩:=hs;obtain⟨fe,a,b,n,m,q,r,h1,h2,h3,rfl,rfl,h4,h5,rfl⟩:=TR hz
  have hm:m=fe.length:=by
   obtain⟨s0,je,h6,h7⟩:=Gp h3;rw[h1]at h6;cases h6;simp at h7;omega
  subst hm;have hl:=bo hJ d 3 l;rw[he]at hl;obtain⟨y,y1,y2,_⟩:=hl;have MM:e.den P ν=aa y:=y1;rw[h2]at MM;cases MM;have f_:=cb y2;obtain⟨s1,sX,sB,sY,z1,gZ,b1,b2,b3⟩:=qT;rw[hj]at b1;cases b1;have qa:es.den P ν=aa (.tree s gZ):=b2;rw[h1]at qa;cases qa;have MS:nat? (.raw (.int q (n:Nat)))=aa n:=by simp[nat?]
  have Qb:gz (aa (ax (E d) l))=aa (aa n):=by rw[f_];exact Qa
  have tB:gz ah=aa ah:=rfl
  have fin:∀x',fG P t (ax (E d) x) (aa (ax (E d) l)) ah ah=aa x'->(KK φ σ j s cut n fe.length x'\/(n=fe.length/\x'=.emp))->dh P C Q K ν E V.ln k (bL P E d o σ):=λx' g1 g2=>by
   refine .at (x:=x') hs hJ hn rfl ⟨s,af,cut,fr,es,fe,_,n,hj,h1,h2,MS,h4,g2⟩ ?_;simp[bL,av,ho,g1,ret]
  rcases b3 with⟨c1,c2,c3⟩|⟨id,cs,ay,mn,cap,c1,c2,c3,c4,c5,c6⟩
  ·have lg:n=0:=by omega
   subst lg;rcases c3 with c3|c3
   ·refine fin (.raw (.slice ah 0 0)) ?_ (.inl (.inl ⟨c1,c2,.inl rfl⟩));rw[c3];simp[fG,Qb,tB,hu,aU]
   ·refine fin .emp ?_ (.inl (.inl ⟨c1,c2,.inr rfl⟩));rw[c3];simp[fG,Qb,tB,hu,aU]
  ·cases cap with
   |none=>
    refine fin (.sl id (n*s) (fe.length- n) ah ay s) ?_ (.inl (.inr ⟨id,cs,ay,mn,ah,c1,c2,rfl,h4,c5,λc hc=>by cases hc⟩));rw[c3];simp[fG,Qb,tB,hu,aU,h4]
   |some c=>
    obtain⟨d1,d2,d3⟩:=c6 c rfl;by_cases hc:c=n
    ·refine fin .emp ?_ (.inr ⟨by omega,rfl⟩);rw[c3];simp[fG,Qb,tB,hu,aU,h4,hc];omega
    ·refine fin (.sl id (n*s) (fe.length- n) (aa (c- n)) ay s) ?_ (.inl (.inr ⟨id,cs,ay,mn,aa (c- n),c1,c2,rfl,h4,(λh=>by simp at h),λc' yd=>?_⟩))
     ·rw[c3];have:fe.length<=c:=by omega
      simp[fG,Qb,tB,hu,aU,h4,hc,this]
     ·have aoS:c- n=c':=by simpa using yd
      subst aoS;refine⟨d1,?_,by omega⟩;have:n*s+(c- n)*s=c*s:=by rw[<-atq];congr 1;omega
      omega
 ·rename_i c lo hi c0 lo0 Dq b0 _;split at hs<;>first|(exact hs.elim)|skip
  rename_i fr z V2 jR;split at hs<;>first|(exact hs.elim)|skip
  rename_i le he hl hh
  have HX:wW V c=aa (fr,z,V2):=by
   split at jR<;>first|exact jR|cases jR
  obtain⟨R',g1,g2,g3⟩:=EI hJ HX;obtain⟨y,g4,g5,_⟩:=g3 _ qT;have yl:ν.length=V2.n:=by rw[g1.2.1];exact hn
  obtain⟨w,w1,w2,w3,w4,w5⟩:=qK g2 yl hs;obtain⟨fe,a,b,l,m,q,r,h1,h2,h3,rfl,rfl,h4,h5,rfl⟩:=TR w1;rw[g4]at h1;cases h1
  have fO:∀id off len c1 ep s',ax (E d) x=.sl id off len (aa c1) ep s'->len<=c1:=by
   intro id off len c1 ep s' iN;split at jR<;>first|(cases jR;done)|skip
   ·obtain⟨y',_,q2,_⟩:=qT;rw[iN]at q2;cases q2 with
    |pure _ _ hp=>cases hp
    |sl _ _ _ _ _ _ _ _ _ _ _ hR=>cases hR
   ·obtain⟨_,q2⟩:=qT;rw[iN]at q2;split at q2<;>cases q2
   ·obtain⟨s1,sX,sB,sY,z1,gZ,b1,b2,⟨_,_,b3|b3⟩|⟨bB,cs,ay,mn,cap,kQ,c2,c3,c4,c5,c6⟩⟩:=qT
    ·rw[iN]at b3;cases b3
    ·rw[iN]at b3;cases b3
    ·rw[iN]at c3;cases c3;have:=(c6 c1 rfl).2.2;omega
  have zk:gz (lo.map (ax (E d)))=aa (aa l)\/(gz (lo.map (ax (E d)))=aa ah/\l=0):=by
   refine(Jq hJ hl h2).imp_right λ⟨e1,e2⟩=>⟨e1,?_⟩;subst e2;simp only[SE.den,asP,IV.raw.injEq,av7]at h2;have:=h2.2;omega
  have Yc:gz (hi.map (ax (E d)))=aa (aa m)\/(gz (hi.map (ax (E d)))=aa ah/\m=fe.length):=by
   refine(Jq hJ hh h3).imp_right λ⟨e1,e2⟩=>⟨e1,?_⟩;subst e2;obtain⟨s0,je,h6,h7⟩:=Gp h3;rw[g4]at h6;cases h6;simp at h7;omega
  obtain⟨x',k1,k2⟩:=g5.part (t:=t) (el:=el) hu aU h4 h5 fO zk Yc;refine⟨x',σ,R',φ,.one (.w fr (.var V2.n)),{V2 with n:=V2.n+1},[.tree s ((fe.take m).drop l)],?_,w4,⟨_,w3,k2,rfl⟩,w5,g1.2.2.1,w2⟩;simp[bL,av,ho,k1,ret]
end Go.Ev
namespace Go.Ev
variable{P:Program}{N:Nat}{σ ao:St}{R R':Rs}{φ aL:Ph}{E:Nat->Env}{ν:List IV}
variable{C:Cr}{Q:IV->Prop}{K:List (List IV->Prop)}{V:SS}{d:Nat}{o:Oper}{k:PV SE->SS->ak}{L:List (LO SE)}{Γ:Gm SE}
theorem afa{s:Nat}{e lo x:SE}{z:IV}(h:(SE.Py s e lo x).den P ν=aa z):∃(es:List IV) (a:IV) (n:Nat) (q:IntKind) (y:IV),e.den P ν=aa (.tree s es)/\lo.den P ν=aa a/\a=.raw (.int q n)/\x.den P ν=aa y/\n<=es.length/\(cellsOf y).length=s/\z=.tree s (es.take n++ate (es.length- n) y):=by
 simp only[SE.den,as_]at h;obtain⟨x,h1,a,h2,b,h3,h4⟩:=h;unfold YO at h4;split at h4<;>first|(cases h4;done)|skip
 rename_i s1 es;split at h4<;>first|(cases h4;done)|skip
 rename_i l hl;split at h4<;>first|(cases h4;done)|skip
 rename_i hc;obtain⟨rfl,h5,h6,h7⟩:=hc;cases h4;obtain⟨q,rfl⟩:=CB hl;exact⟨es,_,l.toNat,q,b,h1,h2,by rw[avo h5],h3,h6,h7,rfl⟩
theorem Lm{y:IV}(n:Nat):flat (ate n y)=(ate n (cellsOf y)).flatten:=by
 induction n with
 |zero=>rfl
 |succ n ih=>simp[flat,au0]at ih⊢;exact ih
theorem Az{α:Type}{c:List α}{s:Nat}(hl:c.length=s):∀{n i:Nat},i<n*s->∀x,((ate n c).flatten)[i]?=aa x->c[i % s]?=aa x
 |0,i,h,_,_=>by simp at h
 |n+1,i,h,x,hx=>by
  rw[au0,List.flatten_cons]at hx;by_cases hi:i<s
  ·rw[asY (by omega)]at hx;rw[Nat.mod_eq_of_lt hi];exact hx
  ·rw[atm (by omega),hl]at hx;rw[atq]at h;have:=Az hl (n:=n) (i:=i- s) (by omega) x hx;rw[Nat.mod_eq_sub_mod (by omega)];exact this
theorem Y8(hJ:J (au P ν) R φ V.g V.l E σ){c:Call}{pv:PV SE}(h:iz P d V c.args.toList c.argTypes.toList=[pv]):∃x,c.args.toList.map (ax (E d))=[x]/\VR (au P ν) R φ V.l σ x pv:=by
 have ha:=fV hJ d c.args.toList c.argTypes.toList;rw[h]at ha;exact lr ha
theorem Y9{c:Call}(hJ:J (au P ν) R φ V.g V.l E σ)(hn:ν.length=V.n)(ho:o.op=.call c)(hc:c.callee=.builtin .clear)(hs:(gn P d o V k).sat P C Q K ν):dh P C Q K ν E V.ln k (bL P E d o σ):=by
 unfold gn at hs;rw[ho]at hs;simp only[hc]at hs;unfold YK at hs;split at hs<;>first|(exact hs.elim)|skip
 rename_i et j lo hu bp;split at hs<;>first|(exact hs.elim)|skip
 rename_i s cut fr es z0 hj nE;split at hs<;>first|(exact hs.elim)|skip
 rename_i bQ;simp only[asN,atw,atv]at bQ;obtain⟨⟨⟨aU,DF⟩,YW⟩,ME⟩:=bQ;split at hs<;>first|(exact hs.elim)|skip
 rename_i f zs V2 jR;split at hs<;>first|(exact hs.elim)|skip
 rename_i kA;have zm:=PX kA;obtain⟨x,hx,qT⟩:=Y8 hJ bp;obtain⟨R',cw,ff,asC,HX⟩:=ve hJ jR;have abY:=cw.My (x:=x) (c:=.sv j lo) qT;obtain⟨s',l8,u7,dg,z',aF,y,n,a1,a2,a3,a4,a5,a6⟩:=abY;rw[zm]at a1;cases a1;obtain⟨bE,gZ,g1,g2,g3⟩:=ff.obj j _ zm;have s5:es.den P ν=aa (.tree s aF):=a2;have nM:es.den P ν=aa (.tree s gZ):=g1;rw[s5]at nM;cases nM;have GP:=np (P:=P) (ν:=ν) (R:=R) (φ:=φ) (L:=V.l) (σ:=σ) nE;obtain⟨ys,b1,b2,b3⟩:=HX _ GP;have PY:(z0.cells.toList.map IV.raw).length=s:=by simp[aU]
 have G6:ys.length=s:=by rw[<-b2.len];exact PY
 obtain⟨ze,YX,aoT⟩:∃ze,(if isAgg P et=ab then d_ zs else zs.headD .an).den P ν=aa ze/\cellsOf ze=ys:=by
  split
  ·exact⟨_,eL b1,rfl⟩
  ·rename_i Yb;have dK:s=1:=DF.resolve_left Yb;have PZ:ys.length=1:=by omega
   obtain⟨y0,rfl⟩:=avN.1 PZ;obtain⟨z1,rfl⟩:=avN.1 (b1.len.trans PZ);refine⟨y0,b1.1,?_⟩;have:Ev.aj y0=ab:=by simpa using b3
   cases y0<;>first|rfl|(simp[Ev.aj]at this;done)
 have yl:ν.length=V2.n:=by rw[cw.2.1];exact hn
 obtain⟨aoJ,Jj,hk,iG,uU,adG⟩:=qK ff yl hs;obtain⟨MJ,a,n',q,y',c1,c2,rfl,c3,c4,c5,rfl⟩:=afa Jj;rw[s5]at c1;cases c1;rw[YX]at c3;cases c3;have a3':lo.den P ν=aa y:=a3;rw[c2]at a3';cases a3'
 have MS:n'=n:=by
  simp[nat?]at a4;exact a4
 subst MS
 let Jr:=aF.take n'++ate (aF.length- n') ze
 have hl4:Jr.length=aF.length:=by simp[Jr];omega
 have aoU:∀e∈Jr,(cellsOf e).length=s:=λe he=>by
  rcases List.mem_append.1 he with he|he
  ·exact g2 e (aul he)
  ·rw[at0 he];exact c5
 have same:n'=aF.length->av P 0 (ax (E d)) o σ=aa (.val .undef σ)->dh P C Q K ν E V.ln k (bL P E d o σ):=by
  intro IH eB;have h4:Jr=aF:=by simp[Jr,IH]
  obtain⟨_,YY⟩:=uU.reZ (dg:=fr||f) (k:=j) zm (SE.c9 P es s5) (by rw[iG];show aa (IV.tree s Jr)=_;rw[h4]) (λh=>by simp[h]);exact⟨.undef,σ,R',φ,.one .un,({V2 with n:=V2.n+1}:SS).setObj j (.row s af cut (fr||f) (.var V2.n)),[.tree s Jr],eB,YY,trivial,adG,cw.2.2.1,hk⟩
 have Y_:∀x0,x=x0->(x0=.raw (.slice ah 0 0)\/x0=.emp)->av P 0 (ax (E d)) o σ=aa (.val .undef σ):=by
  intro x0 h1 h2;subst h1;simp only[av,ho,hc,hx];rcases h2 with rfl|rfl<;>simp[dJ,th,hu,ret]
 rcases a6 with(⟨e1,e2,e3⟩|⟨id,cs,ay,mn,cap,e1,e2,e3,e4,e5,e6⟩)|⟨e1,e2⟩
 ·exact same (by omega) (Y_ _ rfl e3)
 ·by_cases hz:aF.length- n'=0
  ·refine same (by omega) ?_;simp only[av,ho,hc,hx,e3];simp[dJ,th,hu,ret,hz]
  ·rcases g3 with⟨g3,_⟩|⟨bB,cz,iW,pX,g3,g4,g5,g6,g7,g8,g9⟩
   ·rw[e1]at g3;cases g3
   rw[e1]at g3;cases g3;rw[e2]at g4;cases g4;have P8:gO (z0.cells.toList.map IV.raw) ((aF.length- n')*s)=(ate (aF.length- n') (z0.cells.toList.map IV.raw)).flatten:=CH PY bE _;have ek:(gO (z0.cells.toList.map IV.raw) ((aF.length- n')*s)).length=(aF.length- n')*s:=by rw[P8];exact vW PY _
   have wK:(z0.cells.toList.map IV.raw).all Ev.aj=ab:=qy GP YW
   have bg:(gO (z0.cells.toList.map IV.raw) ((aF.length- n')*s)).all Ev.aj=ab:=by
    rw[P8,as6];intro u zf;obtain⟨l,rD,fa⟩:=avl.1 zf;rw[at0 rD]at fa;exact as6.1 wK u fa
   have VD:n'*s+(aF.length- n')*s=aF.length*s:=by rw[<-atq];congr 1;omega
   have W4:flat Jr=(flat aF).take (n'*s)++(ate (aF.length- n') ys).flatten:=by
    show flat (aF.take n'++_)=_;rw[CE,Lm,aoT]
    congr 1
    have h1:flat aF=flat (aF.take n')++flat (aF.drop n'):=by rw[<-CE,List.take_append_drop]
    have h2:(flat (aF.take n')).length=n'*s:=by rw[nZ (s:=s) λe he=>g2 e (aul he),at5,Nat.min_eq_left (by omega)]
    rw[h1,<-h2,List.take_left'];rfl
   have YY:=uU.YV (dg:=fr||f) (z':=.var V2.n) (cz:=dF cs (n'*s) (gO (z0.cells.toList.map IV.raw) ((aF.length- n')*s))) e1 zm e2 (uF (by rw[ek];omega)) (SE.c9 P es s5) iG hl4 aoU
    (xy g8 bg)
    (λp u v hu hv=>by
     rw[nq (α:=IV) (by omega)]at hu;rw[ek]at hu;rw[W4]at hv
     have s6:((flat aF).take (n'*s)).length=n'*s:=by
      rw[at5,nZ g2];omega
     by_cases hp:n'*s<=p/\p<n'*s+(aF.length- n')*s
     ·rw[if_pos hp,P8]at hu;rw[atm (by omega),s6]at hv;have q1:=Az PY (by omega) _ hu;have q2:=Az G6 (by omega) _ hv;exact(b2.get q1 q2).wide (λh=>by simp[h])
     ·rw[if_neg hp]at hu
      have rA:p<n'*s:=by
       by_cases h:p<n'*s
       ·exact h
       ·exfalso;have h1:=(asM.1 hv).1;rw[List.length_append,s6,vW G6]at h1;omega
      rw[asY (by omega),atp,if_pos rA]at hv;exact(g9 p u v hu hv).wide (λh=>by simp[h]))
   refine⟨.undef,σ.put id (.cells (dF cs (n'*s) (gO (z0.cells.toList.map IV.raw) ((aF.length- n')*s))) ay ay),R',φ,.one .un,({V2 with n:=V2.n+1}:SS).setObj j (.row s af cut (fr||f) (.var V2.n)),[.tree s Jr],?_,YY,trivial,adG,cw.2.2.1,hk⟩;simp only[bL,av,ho,hc,hx,e3];simp only[dJ,th,hu,nE,e2,if_neg hz];rw[if_pos ⟨by omega,aU,bg,atE _,trivial,by omega⟩];rfl
 ·exact same e1 (Y_ _ rfl (.inr e2))
theorem xR(hJ:J (au P ν) R φ V.g V.l E σ){x:IV}{pv:PV SE}{e:SE}(h:u9 pv=aa e)(hx:VR (au P ν) R φ L σ x pv):∀y,e.den P ν=aa y->bn ab R σ x y:=by
 intro y hy;unfold u9 at h;split at h<;>cases h
 ·obtain⟨u,h1,h2,_⟩:=hx;have c8:e.den P ν=aa u:=h1;rw[hy]at c8;cases c8;exact h2.mono hJ.Bc
 ·obtain⟨u,h1,h2,_⟩:=hx;have c8:e.den P ν=aa u:=h1;rw[hy]at c8;cases c8;exact h2.cL
theorem Za{t:TypeId}{x ix:Operand}(hJ:J (au P ν) R φ V.g V.l E σ)(hn:ν.length=V.n)(ho:o.op=.index t x ix)(hs:(gn P d o V k).sat P C Q K ν):dh P C Q K ν E V.ln k (bL P E d o σ):=by
 unfold gn at hs;rw[ho]at hs;simp only at hs;split at hs<;>first|(exact hs.elim)|skip
 rename_i a b hu ha hb;have Qc:=xR hJ ha (bo hJ d t x);have hxb:=xR hJ hb (bo hJ d 0 ix);obtain⟨⟨z,hz⟩,hk⟩:=hs;have nE:=hz;simp only[SE.den,as_]at hz;obtain⟨u,h1,v,h2,h3⟩:=hz;split at h3<;>first|(cases h3;done)|skip
 rename_i q kd n;split at h3<;>first|(cases h3;done)|skip
 rename_i lg;rw[asS]at h3;obtain⟨c,h4,rfl⟩:=h3;exact .at (x:=.raw (.int .u8 c.toNat)) hk hJ hn rfl ⟨_,nE,.raw _,rfl⟩ (by unfold bL av;rw[ho];simp only[hu,cb (Qc _ h1),cb (hxb _ h2),if_pos lg,h4];rfl)
theorem EU{a b:IV}{vs:List Value}(h:gy [a,b]=aa vs):∃u v,a=.raw u/\b=.raw v:=by
 cases a<;>simp[gy]at h;cases b<;>simp at h;exact⟨_,_,rfl,rfl⟩
theorem Zb{c:Call}{EA:Bool}{bi:Builtin}(hb:(bi=.max/\EA=ab)\/(bi=.min/\EA=af))(hJ:J (au P ν) R φ V.g V.l E σ)(hn:ν.length=V.n)(ho:o.op=.call c)(hc:c.callee=.builtin bi)(hs:(mxS EA (iz P d V c.args.toList c.argTypes.toList) V k).sat P C Q K ν):dh P C Q K ν E V.ln k (bL P E d o σ):=by
 unfold mxS at hs;split at hs<;>first|(exact hs.elim)|skip
 rename_i pa pb bp;split at hs<;>first|(exact hs.elim)|skip
 rename_i a b ha sJ;have bg:=fV hJ d c.args.toList c.argTypes.toList;rw[bp]at bg;obtain⟨x,y,TS,hx,hy⟩:=HY bg;have Qc:=xR hJ ha hx;have hxb:=xR hJ sJ hy;obtain⟨⟨z,hz⟩,hk⟩:=hs;obtain⟨h1,bz⟩:=p6 hz;simp only[SE.den,as_]at h1;obtain⟨w,⟨u,h2,v,h3,h4⟩,h5⟩:=h1;split at h5<;>cases h5;rename_i dV
 have akH:∃u' v',u=.raw u'/\v=.raw v':=by
  cases EA with
  |true=>
   simp only[if_true]at h4;unfold Kp at h4;split at h4
   ·exact EU ‹_›
   ·cases h4
  |false=>
   simp only[atn,if_false]at h4;unfold Ox at h4;split at h4
   ·exact EU ‹_›
   ·cases h4
 obtain⟨u',v',rfl,rfl⟩:=akH;have iN:=cb (Qc _ h2);have hy':=cb (hxb _ h3);subst iN hy'
 have hzr:iX z z:=by
  cases z<;>simp only[aA]at dV<;>first|(cases dV;done)|skip
  exact .raw _
 refine .here (pv:=.one (.v (.ok (.rw (.mx EA a b))))) (x:=z) ?_ hJ ⟨z,hz,hzr,bz⟩ hn rfl hk;rcases hb with⟨rfl,rfl⟩|⟨rfl,rfl⟩
 ·simp only[if_true]at h4;simp[bL,av,ho,hc,dJ,TS,h4]
 ·simp only[atn,if_false]at h4;simp[bL,av,ho,hc,dJ,TS,h4]
theorem aca{t:TypeId}(h:isStr P t=ab):P.underlying t=aa .string:=by
 unfold isStr at h;split at h
 ·assumption
 ·cases h
theorem W5{t:TypeId}{x:Operand}{lo hi mx:Option Operand}(hJ:J (au P ν) R φ V.g V.l E σ)(hn:ν.length=V.n)(ho:o.op=.slice t x lo hi mx)(hu:P.underlying t=aa .string)(hs:(HN P d (bO P d V t x) lo hi mx V k).sat P C Q K ν):dh P C Q K ν E V.ln k (bL P E d o σ):=by
 unfold HN at hs;split at hs<;>first|(exact hs.elim)|skip
 rename_i a ha;split at hs<;>first|(exact hs.elim)|skip
 rename_i l h hl hh;obtain⟨z,hz,hs⟩:=hs;have Qc:=xR hJ ha (bo hJ d t x);have nE:=hz;simp only[SE.den,as_]at hz;obtain⟨u,h1,b,h2,c,h3,h4⟩:=hz;split at h4<;>first|(cases h4;done)|skip
 rename_i q lv hv e1 e2;split at h4<;>first|(cases h4;done)|skip
 rename_i hc;cases h4
 have hint:∀{w:IV} {n:Int},gS w=aa n->0<=n->∃k,w=.raw (.int k (n.toNat:Nat)):=by
  intro w n h h0;unfold gS at h;split at h
  ·cases h;exact⟨_,by rw[avo h0]⟩
  ·cases h
 obtain⟨k1,rfl⟩:=hint e1 hc.1;obtain⟨k2,rfl⟩:=hint e2 hc.2.2.1
 have n1:gz (lo.map (ax (E d)))=aa (aa lv.toNat)\/(gz (lo.map (ax (E d)))=aa ah/\lv.toNat=0):=by
  rcases Jq hJ hl h2 with g|⟨g,rfl⟩
  ·exact .inl g
  ·refine .inr ⟨g,?_⟩;simp only[SE.den,asP,IV.raw.injEq,av7]at h2;omega
 have n2:gz (hi.map (ax (E d)))=aa (aa hv.toNat)\/(gz (hi.map (ax (E d)))=aa ah/\hv.toNat=q.size):=by
  rcases Jq hJ hh h3 with g|⟨g,rfl⟩
  ·exact .inl g
  ·refine .inr ⟨g,?_⟩;simp only[SE.den,h1,asU,xP,IV.int,asP,IV.raw.injEq,av7]at h3;omega
 have hx:=cb (Qc _ h1);have tB:gz ah=aa ah:=rfl;have bD:=hJ.up (iv:=au P (ν++[.raw (.string ⟨((q.data.toList.drop lv.toNat).take (hv.toNat- lv.toNat)).toArray⟩)])) (λe y h=>SE.c9 P e h);refine⟨.raw (.string ⟨((q.data.toList.drop lv.toNat).take (hv.toNat- lv.toNat)).toArray⟩),σ,R,φ,.one (.v (.var V.n)),{V with n:=V.n+1},[_],?_,bD,⟨_,by simp[au,SE.den,<-hn],.raw _,rfl⟩,by simp[hn],rfl,hs⟩
 have aU:fG P t (.raw (.string q)) (lo.map (ax (E d))) (hi.map (ax (E d))) ah=aa (.raw (.string ⟨((q.data.toList.drop lv.toNat).take (hv.toNat- lv.toNat)).toArray⟩)):=by
  rcases n1 with g1|⟨g1,g2⟩<;>rcases n2 with g3|⟨g3,g4⟩
  ·simp[fG,g1,g3,tB,hu,hc.2.1,hc.2.2.2]
  ·simp[fG,g1,g3,tB,hu,g4];rw[<-g4];have:=hc.2.1;omega
  ·simp[fG,g1,g3,tB,hu,g2,hc.2.2.2]
  ·simp[fG,g1,g3,tB,hu,g2,g4]
 simp[bL,av,ho,hx,aU,ret]
theorem Zc{t:TypeId}{x:Operand}(hJ:J (au P ν) R φ V.g V.l E σ)(hn:ν.length=V.n)(ho:o.op=.range t x)(hs:(gn P d o V k).sat P C Q K ν):dh P C Q K ν E V.ln k (bL P E d o σ):=by
 unfold gn at hs;rw[ho]at hs;simp only at hs;split at hs<;>first|(exact hs.elim)|skip
 ·rename_i a hu ha;have Qc:=xR hJ ha (bo hJ d t x);obtain⟨⟨z,hz⟩,hk⟩:=hs;simp only[SE.den,as_]at hz;obtain⟨u,h1,h2⟩:=hz
  have hb:∃ba,u=.raw (.string ba):=by
   unfold xP at h2;split at h2
   ·exact⟨_,rfl⟩
   ·cases h2
  obtain⟨ba,rfl⟩:=hb;have hv:=cb (Qc _ h1);have bD:=hJ.yv (.qq ba 0) (.mp 0 (.tp (.ac a (.ac (.i 0) .an)))) (by rw[gR,if_pos (show gI 0=ab from rfl)];exact .inl ⟨rfl,σ.n,ba,0,by simp[au,SE.den,h1],by simp[bX],hJ.rJ,by simp⟩);refine .at (x:=.ptr σ.n 0 0 1) (V1:={V with l:=V.l++[.mp 0 (.tp (.ac a (.ac (.i 0) .an)))]}) hk bD hn rfl ⟨σ.n,0,SE.tp (.ac a (.ac (.i 0) .an)),by simp[bX],by simp,rfl⟩ ?_;simp[bL,av,ho,hu,hv,ret]
 ·rename_i _ _ _ _ hu;have p_:=bo hJ d t x;split at hs<;>first|(exact hs.elim)|skip
  rename_i m hm;rw[hm]at p_;split at hs<;>first|(exact hs.elim)|skip
  rename_i kt je hj;split at hs
  ·exact hs.elim
  rename_i j_;simp only[atw,atD,not_or,Bool.not_eq_false]at j_;obtain⟨eo,ai⟩:=j_;have ai:m<1000000:=by simpa using ai
  obtain⟨_,hk⟩:=hs;obtain⟨id,mc,gZ,g1,g2,g3⟩:=p_;rw[hj]at g2;cases g2;rw[if_neg eo]at g3;have dH:=hJ.obj m _ hj;rw[gR,if_neg eo]at dH;obtain⟨bB,es,clock,ds,c1,c2,c3,c4,c5,c6⟩:=dH;rw[g1]at c2;cases c2;have kQ:je.den P ν=aa (.az ds):=c1;have hlen:es.length=ds.length:=All2.len c5;have aha:((t+1)*1000000+m) % 1000000=m:=agE t m ai;have hit:gI ((t+1)*1000000+m)=ab:=Et (adr t m);have D0:m<V.l.length:=(asM.1 hj).1
  have bD:=hJ.yv (.jO (aa id) clock [] clock) (.mp ((t+1)*1000000+m) (.tp (.ac je (.ac je .an)))) (by
   rw[gR,if_pos hit];refine .inr ⟨adr t m,σ.n,id,ds,[],ds,[],by simp[au,SE.den,kQ],by simp[bX],hJ.rJ,⟨kt,je,by rw[aha,asY D0];exact hj⟩,by rw[aha];simp[bX,show m≠V.l.length by omega,g1],?_,by simp,Left.init ds,.inl rfl⟩;have:=c6.1;simp[this,hlen])
  refine .at (x:=.ptr σ.n 0 0 1) (V1:={V with l:=V.l++[.mp ((t+1)*1000000+m) (.tp (.ac je (.ac je .an)))]}) hk bD hn rfl ⟨σ.n,(t+1)*1000000+m,SE.tp (.ac je (.ac je .an)),by simp[bX],by simp,(if_pos hit).symm⟩ ?_;simp[bL,av,ho,hu,g3,c4,ret]
theorem TT(hJ:J (au P ν) R φ V.g V.l E σ){t:TypeId}{e:SE}{x y:IV}(hy:e.den P ν=aa y)(hx:bn ab R σ x y){k:ak}(hs:(I4 P t e k).sat P C Q K ν):tP (au P ν) R φ V.l σ x (Wl P t e)/\k.sat P C Q K ν:=by
 unfold I4 at hs;unfold Wl;split at hs
 ·rename_i ha;rw[if_pos ha];obtain⟨⟨z,hz⟩,hk⟩:=hs;refine⟨?_,hk⟩;simp only[SE.den,hy,asU]at hz;split at hz<;>first|(cases hz;done)|skip
  rename_i cs;split at hz
  ·rename_i hc;obtain⟨xs,rfl,jf⟩:=CI hx;refine⟨xs,rfl,.mk (by simp[jf.len,hc.1]) λi a b h1 h2=>?_⟩;have hi:=(asM.1 h1).1;rw[jf.len]at hi;rw[as4,avs (by rw[<-hc.1];exact hi)]at h2;simp only[atl,asP]at h2;subst h2;have MT:cs[i]?=aa cs[i]:=asL hi;have bz:Ev.aj cs[i]=ab:=(as6.1 hc.2) _ (asO hi);exact⟨cs[i],by simp[au,SE.den,hy,MT,yD,bz],jf.get h1 MT,bz⟩
  ·cases hz
 ·rename_i ha;rw[if_neg ha];split at hs
  ·rename_i qX;rw[if_pos qX];obtain⟨⟨z,hz⟩,hk⟩:=hs;refine⟨?_,hk⟩;obtain⟨nu,Lh⟩:=p6 hz;simp only[SE.den,hy,asU]at nu;split at nu
   ·rename_i hr;cases nu;cases y<;>simp only[aA]at hr<;>first|(cases hr;done)|skip
    rename_i u;have:=cb hx;subst this;exact⟨_,rfl,.raw u,hz,.raw u,Lh⟩
   ·cases nu
  ·rename_i qX;rw[if_neg qX];obtain⟨⟨z,hz⟩,hk⟩:=hs;refine⟨?_,hk⟩;obtain⟨nu,Lh⟩:=p6 hz;rw[hy]at nu;cases nu;exact⟨_,rfl,_,hz,hx,Lh⟩
theorem acb(v:Value):bn ab R σ (lift v) (lift v):=by
 unfold lift;split
 ·exact .pure _ rfl (.agg _ λc hc=>by obtain⟨v,_,rfl⟩:=List.mem_map.1 hc;exact .raw v)
 all_goals exact .raw _
theorem Zd{it:Operand}(hJ:J (au P ν) R φ V.g V.l E σ)(hn:ν.length=V.n)(ho:o.op=.entry it)(hs:(gn P d o V k).sat P C Q K ν):dh P C Q K ν E V.ln k (bL P E d o σ):=by
 unfold gn at hs;rw[ho]at hs;simp only at hs;unfold YL at hs;have p_:=bo hJ d 0 it;split at hs<;>first|(exact hs.elim)|skip
 rename_i j hm;rw[hm]at p_;split at hs<;>first|(exact hs.elim)|skip
 rename_i kt x hj;split at hs
 rotate_left
 ·exact hs.elim
 rename_i hle;have hle:1000000<=kt:=by simpa using hle
 split at hs<;>first|(exact hs.elim)|skip
 rename_i mc je kt1 et Ze hu;split at hs
 ·exact hs.elim
 rename_i eo;obtain⟨mQ,r,d1,d2,hs⟩:=hs;have hit:gI kt=ab:=Et hle;obtain⟨id,kt3,x3,g1,g2,g3⟩:=p_;rw[hj]at g2;cases g2;rw[if_pos hit]at g3;have dH:=hJ.obj j _ hj;rw[gR,if_pos hit]at dH;rcases dH with⟨h0,_⟩|⟨_,bB,m,ds,seen,rem,rest,e1,e2,e3,e4,e5,e6,e7,e8,e9⟩
 ·exact(ads hle h0).elim
 rw[g1]at e2;cases e2;have dc:x.den P ν=aa (.az (.az ds::.az rem::rest)):=e1;rw[dc]at d2;have Js:ds=mQ:=by simp only[asP,IV.az.injEq,atK]at d2;exact d2.1
 subst Js;have Qd:=hJ.obj _ _ Ze;rw[gR,if_neg eo]at Qd;obtain⟨id2,es,clock,TU,c1,c2,c3,c4,c5,c6⟩:=Qd;rw[e5]at c2;cases c2;have kQ:je.den P ν=aa (.az TU):=c1;rw[kQ]at d1;have Js:ds=TU:=by simp only[asP,IV.az.injEq]at d1;exact d1.symm
 subst Js;have hlen:es.length=ds.length:=All2.len c5;rcases e9 with rfl|⟨i,last,rfl,f1,f2⟩
 ·unfold I4 at hs;exfalso;have hp:(SE.proj (.proj x 2) 0).den P ν=ah:=by simp[SE.den,dc]
  split at hs
  ·obtain⟨⟨z,hz⟩,_⟩:=hs;simp[SE.den,dc]at hz
  ·split at hs
   ·obtain⟨⟨z,hz⟩,_⟩:=hs;simp[SE.den,dc]at hz
   ·obtain⟨⟨z,hz⟩,_⟩:=hs;simp[SE.den,dc]at hz
 ·have hi:i<es.length:=by rw[hlen];exact(asM.1 f2).1
  have tC:es[i]?=aa es[i]:=asL hi;obtain⟨z,h1,h2⟩:=All2.get c5 tC f2;subst h1;have hp0:(SE.proj (.proj x 2) 0).den P ν=aa (lift es[i].1):=by simp[SE.den,dc]
  have l6:(SE.proj (.proj x 2) 1).den P ν=aa z:=by simp[SE.den,dc]
  obtain⟨v1,hs⟩:=TT hJ hp0 (acb _) hs;obtain⟨v2,hs⟩:=TT hJ l6 h2 hs;refine .here (pv:=.tu [_,_]) (x:=.az [lift es[i].1,es[i].2.1]) ?_ hJ ⟨_,rfl,v1,v2,trivial⟩ hn rfl hs
  have hf:es.find? (λe=>e.2.2==i)=aa es[i]:=by
   rw[List.find?_eq_some_iff_getElem];refine⟨by simp[c6.2 i _ tC],i,hi,rfl,λq hq=>?_⟩;have:=c6.2 q es[q] (asL (by omega));simp[this];omega
  have ek:clock=ds.length:=by rw[<-hlen];exact c6.1
  simp[bL,av,ho,g3,e6,c4,f1,hf,ek,ret]
theorem Zf(hJ:J (au P ν) R φ V.g V.l E σ)(hn:ν.length=V.n){j id:Nat}{je:SE}(hj:V.l[j]?=aa (.mp 0 je)){ba:ByteArray}{p p':Nat}(ll:φ j=aa id)(hR:R id=ah)(aE:σ.at id=aa (.qq ba p)):
 J (au P (ν++[.az [.raw (.string ba),.raw (.int .i64 (p':Nat))]])) R φ V.g (V.l.set j (.mp 0 (.var V.n))) E (σ.put id (.qq ba p')):=by
 have bD:=hJ.up (iv:=au P (ν++[.az [.raw (.string ba),.raw (.int .i64 (p':Nat))]])) (λe y h=>SE.c9 P e h)
 exact(bD.tQ (R':=R) (bad:=λ_=>False) (kj:=.mp 0 (.var V.n)) (eT:=.qq ba p') ll hj (λ_ _=>rfl)
  (λm hm=>by rw[hR]at hm;cases hm) (λm _ _ _ hm=>by rw[hR]at hm;cases hm) (λm _ _ _ hm=>by rw[hR]at hm;cases hm)
  (λ_ h=>by cases h) (λ_ _ _=>by rename_i h;cases h;exact⟨_,rfl⟩) (λ_ _ _ _ _ h=>by cases h) (λ_ _ pv _=>pv.aZ) (λ_ o _ _=>o.aZ)
  (λdK=>by rw[gR,if_pos (show gI 0=ab from rfl)];exact .inl ⟨rfl,id,ba,p',by simp[au,SE.den,<-hn],ll,hR,by rw[St.c_,if_pos rfl]⟩)).2
theorem acd{it:Operand}(hJ:J (au P ν) R φ V.g V.l E σ)(hn:ν.length=V.n)(ho:o.op=.next it ab)(hs:(gn P d o V k).sat P C Q K ν):dh P C Q K ν E V.ln k (bL P E d o σ):=by
 unfold gn at hs;rw[ho]at hs;simp only at hs;split at hs<;>first|(exact hs.elim)|skip
 rename_i j hm;split at hs<;>first|(exact hs.elim)|skip
 rename_i kt es hj;split at hs<;>first|(exact hs.elim)|skip
 rename_i j_;have yL:=asV j_;subst yL;have p_:=bo hJ d 0 it;rw[hm]at p_;obtain⟨id,mc,gZ,g1,g2,g3⟩:=p_;rw[hj]at g2;cases g2;rw[if_pos (show gI 0=ab from rfl)]at g3;have dH:=hJ.obj j _ hj;rw[gR,if_pos (show gI 0=ab from rfl)]at dH;rcases dH with⟨_,bB,ba,p,c1,c2,c3,c4⟩|⟨h0,_⟩
 rotate_left
 ·exact absurd h0 (by decide)
 rw[g1]at c2;cases c2;have kQ:es.den P ν=aa (.az [.raw (.string ba),.raw (.int .i64 (p:Nat))]):=c1
 have hd:∀w,(SE.dec w (.proj es 0) (.proj es 1)).den P ν=mA w (.raw (.string ba)) (.raw (.int .i64 (p:Nat))):=by
  intro w;simp[SE.den,kQ]
 rcases hs with⟨h0,hs⟩|⟨h0,hs⟩
 ·rw[hd]at h0;simp[mA]at h0;obtain⟨z,hz,hs⟩:=hs
  have p5:z=.az [.raw (.string ba),.raw (.int .i64 ((p+(auE ba p).2:Nat):Nat))]:=by
   have:=hd 2;simp only[SE.den]at this hz;rw[this]at hz;simp[kQ,mA]at hz;rw[<-hz];simp
  subst p5;have ff:=Zf (p':=p+(auE ba p).2) hJ hn hj g1 c3 c4;have e1:(SE.proj es 1).den P (ν++[.az [.raw (.string ba),.raw (.int .i64 ((p+(auE ba p).2:Nat):Nat))]])=aa (.raw (.int .i64 (p:Nat))):=SE.c9 P _ (by simp[SE.den,kQ]);have e2:(SE.dec 1 (.proj es 0) (.proj es 1)).den P (ν++[.az [.raw (.string ba),.raw (.int .i64 ((p+(auE ba p).2:Nat):Nat))]])=aa (.raw (.int .i32 (auE ba p).1)):=SE.c9 P _ (by rw[hd];simp[mA]);refine⟨.az [.bool ab,.raw (.int .i64 (p:Nat)),.raw (.int .i32 (auE ba p).1)],_,R,φ,.tu [(af,[.v (.b ab)]),(af,[.v (.proj es 1)]),(af,[.v (.dec 1 (.proj es 0) (.proj es 1))])],{V with n:=V.n+1,l:=V.l.set j (.mp 0 (.var V.n))},[_],?_,ff,⟨_,rfl,⟨_,rfl,.raw (.bool ab),rfl,.raw _,rfl⟩,⟨_,rfl,_,e1,.raw _,rfl⟩,⟨_,rfl,_,e2,.raw _,rfl⟩,trivial⟩,by simp[hn],rfl,hs⟩;simp[bL,av,ho,g3,c4,h0,ret]
 ·rw[hd]at h0;simp[mA]at h0;refine .here (pv:=.tu [(af,[.v (.b af)])]) (x:=.az [.bool af]) ?_ hJ ⟨_,rfl,⟨_,rfl,.raw (.bool af),rfl,.raw _,rfl⟩,trivial⟩ hn rfl hs;have:¬p<ba.size:=by omega
  simp[bL,av,ho,g3,c4,this,ret]
theorem akI{x z:IV}{b:Bool}(h:mA 7 x (.raw (.bool b))=aa z):∃q c,x=.raw (.int q c)/\0<=c/\c<=1000000:=by
 unfold mA at h;split at h
 ·rename_i heq;exact absurd heq (by simp)
 ·split at h
  ·rename_i hc;exact⟨_,_,rfl,hc.2⟩
  ·cases h
 ·simp at h
 ·cases h
theorem Qe(hJ:J (au P ν) R φ V.g V.l E σ){x:IV}{pv:PV SE}{e:SE}(hx:VR (au P ν) R φ V.l σ x pv)(h:u9 pv=aa e):∃y,e.den P ν=aa y/\bn ab R σ x y:=by
 unfold u9 at h;split at h<;>first|(cases h;done)|skip
 ·cases h;obtain⟨y,h1,h2,_⟩:=hx;exact⟨y,h1,h2.mono hJ.Bc⟩
 ·cases h;obtain⟨y,h1,h2,_⟩:=hx;exact⟨y,h1,h2.cL⟩
theorem Zg{t:TypeId}{l c:Operand}(hJ:J (au P ν) R φ V.g V.l E σ)(hn:ν.length=V.n)(ho:o.op=.makeSlice t l c)(hs:(Wk P d t l c V k).sat P C Q K ν):dh P C Q K ν E V.ln k (bL P E d o σ):=by
 unfold Wk at hs;split at hs<;>first|(exact hs.elim)|skip
 rename_i el ce hu hl hc;split at hs<;>first|(exact hs.elim)|skip
 rename_i s z bytes aU wu ML;split at hs<;>first|(exact hs.elim)|skip
 rename_i bQ;simp only[asN,atD]at bQ;obtain⟨⟨⟨h1,h2⟩,h3⟩,h4⟩:=bQ;have zq:=asV h2;have Jh:bytes<=1000000:=by simpa using h3
 have bE:0<s:=by
  rcases Nat.eq_zero_or_pos s with h|h
  ·subst h;simp at h1
  ·exact h
 obtain⟨⟨u,yM⟩,hk⟩:=hs;have f_:=bo hJ d 0 l;rw[hl]at f_;obtain⟨y0,b1,b2,_⟩:=f_
 have w6:y0=.raw (.int .i64 0):=by
  have:(SE.i 0).den P ν=aa y0:=b1;simp only[SE.den,asP]at this;exact this.symm
 subst w6;have hle:=cb b2;obtain⟨y,c1,c2⟩:=Qe hJ (bo hJ d 0 c) hc;simp only[SE.den,c1,asU]at yM;obtain⟨q,n,rfl,d1,d2⟩:=akI yM;have rB:=cb c2;have p8:(SE.tr s SE.an).den P ν=aa (.tree s []):=by simp[SE.den,bE]
 have jQ:(V.l++[LO.row s af af af (SE.tr s SE.an)])[V.l.length]?=aa (.row s af af af (SE.tr s SE.an)):=by simp
 by_cases lg:n=0
 ·subst lg;refine .at (x:=.emp) (V1:={V with l:=V.l++[.row s af af af (.tr s .an)]}) hk (hJ.Bf (fr:=af) bE p8).2 hn rfl ⟨s,af,af,af,_,[],jQ,p8,.inl ⟨xQ hJ (asR _),rfl,.inr rfl⟩⟩ ?_;simp only[bL,av,ho,hu,hle,rB,aU,wu,ML];rw[if_neg (by omega),if_pos trivial];rfl
 ·have MN:gO (z.cells.toList.map .raw) (n.toNat*s)=(ate n.toNat (z.cells.toList.map IV.raw)).flatten:=CH (by simp[zq]) bE _
  have hlen:(gO (z.cells.toList.map .raw) (n.toNat*s)).length=n.toNat*s:=by
   rw[MN];simp[zq,Function.comp_def]
  have ik:(gO (z.cells.toList.map .raw) (n.toNat*s)).all Ev.aj=ab:=by
   rw[MN];refine as6.2 λx hx=>?_;obtain⟨l',cu,iN⟩:=avl.1 hx;have:=at0 cu;subst this;exact(as6.1 h4) x iN
  refine .at (x:=.sl σ.n 0 0 (aa n.toNat) 0 s) (V1:={V with l:=V.l++[.row s af af af (.tr s .an)]}) hk (hJ.yv (.cells (gO (z.cells.toList.map .raw) (n.toNat*s)) 0 0) _ ⟨bE,[],p8,λe he=>(by cases he),.inr ⟨σ.n,(gO (z.cells.toList.map .raw) (n.toNat*s)),0,0,by simp[bX],by simp,asR _,by simp,hJ.rJ,ik,λj x d hx hd=>by simp[flat]at hd⟩⟩) hn rfl ⟨s,af,af,af,_,[],jQ,p8,.inr ⟨σ.n,(gO (z.cells.toList.map .raw) (n.toNat*s)),0,0,aa n.toNat,by simp[bX],by simp,by simp,asR _,λh=>(by cases h),λc hc=>?_⟩⟩ ?_
  ·cases hc;exact⟨rfl,by rw[hlen];simp,atE _⟩
  ·simp only[bL,av,ho,hu,hle,rB,aU,wu,ML];rw[if_neg (by omega),if_neg lg];rfl
theorem ace(hJ:J (au P ν) R φ V.g V.l E σ){id:Nat}{ob:Ob}(h:σ.at id=aa ob):σ.put id ob=σ:=by
 have:(σ.put id ob).t=σ.t:=Go.Ev.T.WF.ext (hJ.wf.set _ _) hJ.wf λi=>by
  show(σ.put id ob).at i=σ.at i;rw[St.c_];split
  ·rename_i hh;rw[<-hh,h]
  ·rfl
 cases σ;simp only[St.put]at this⊢;rw[this]
theorem W6{t:TypeId}{x:Operand}{lo hi mx:Option Operand}{f:ak}(hJ:J (au P ν) R φ V.g V.l E σ)(hn:ν.length=V.n)(ho:o.op=.slice t x lo hi mx)(hz:PD P d t (bO P d V t x) lo hi mx V k=aa f)(hs:f.sat P C Q K ν):dh P C Q K ν E V.ln k (bL P E d o σ):=by
 unfold PD at hz;split at hz<;>first|(cases hz;done)|skip
 rename_i el c kj da h hu hx;have qT:=bo hJ d t x;rw[hx]at qT;split at hz<;>first|(cases hz;done)|skip
 ·rename_i s s' hh aU;split at hz<;>first|(cases hz;done)|skip
  rename_i iO;have:=asV iO;subst this;cases hz;have Zh:=bo hJ d 3 h;rw[hh]at Zh;obtain⟨y,y1,y2,_⟩:=Zh;simp only[au,SE.den,asP]at y1;subst y1;have IG:=cb y2;obtain⟨h0,h1⟩:=qT;simp only[if_true]at h1;refine .at (x:=.raw (.slice ah 0 0)) hs hJ hn rfl ⟨h0,rfl⟩ ?_;simp[bL,av,ho,h1,IG,fG,gz,hu,aU,ret]
 ·rename_i s j hh aU;split at hz<;>first|(cases hz;done)|skip
  rename_i s' cut fr es hj;split at hz<;>first|(cases hz;done)|skip
  rename_i iO;have:=asV iO;subst this;cases hz;have Zh:=bo hJ d 3 h;rw[hh]at Zh;obtain⟨y,y1,y2,_⟩:=Zh;simp only[au,SE.den,asP]at y1;subst y1;have IG:=cb y2;obtain⟨⟨z,hz⟩,hk⟩:=hs;obtain⟨s1,sX,sB,sY,z1,fe,b1,b2,b3⟩:=qT;rw[hj]at b1;cases b1;have qa:es.den P ν=aa (.tree s fe):=b2
  have aW:fe≠[]:=by
   rintro rfl;simp[SE.den,qa,dy,gS]at hz
  have hlen:1<=fe.length:=by
   cases fe with
   |nil=>exact absurd rfl aW
   |cons=>simp
  rcases b3 with⟨_,c2,_⟩|⟨id,cs,ay,mn,cap,c1,c2,c3,c4,c5,c6⟩
  ·omega
  obtain⟨bE,gZ,d1,d2,d3⟩:=hJ.obj j _ hj;have Zi:es.den P ν=aa (.tree s gZ):=d1;rw[qa]at Zi;cases Zi;rcases d3 with⟨_,d3⟩|⟨bB,cz,iW,pX,g1,g2,g3,g4,g5,g6,g7⟩
  ·exact absurd d3 aW
  rw[c1]at g1;cases g1;rw[c2]at g2;cases g2;have hR:R id=ah:=by simpa using g5
  have p8:(SE.tr s SE.an).den P ν=aa (.tree s []):=by simp[SE.den,bE]
  have Y3:(V.l.map (LO.drop j))[j]?=aa (.row s af cut fr es):=by simp[hj,LO.drop]
  have bD:=(hJ.Wb j).tQ (R':=R) (bad:=(·=j)) (kj:=.row s af ab fr (.tr s .an)) (eT:=.cells cs ay mn) c1 Y3 (λ_ _=>rfl) (λm hm=>by rw[hR]at hm;cases hm) (λm _ _ _ hm=>by rw[hR]at hm;cases hm) (λm _ _ _ hm=>by rw[hR]at hm;cases hm)
   (λ_ h=>by cases h) (λ_ _ h=>by cases h) (λ_ _ _ _ _ _=>rfl) (λd t pv hg=>by obtain⟨q,_,rfl⟩:=Er _ hg;exact q.nc j) (λi o hi _=>by
    rw[as4]at hi;obtain⟨o',_,rfl⟩:=asS.1 hi;exact o'.nc j)
   (λ_=>⟨bE,[],p8,λe he=>(by cases he),.inr ⟨id,cs,ay,mn,c1,by rw[St.c_,if_pos rfl],g3,by simp,hR,g6,λj x d hx hd=>by simp[flat]at hd⟩⟩)
  have ff:=bD.2;rw[ace hJ c2]at ff
  have jQ:((V.l.map (LO.drop j)).set j (LO.row s af ab fr (SE.tr s SE.an)))[j]?=aa (.row s af ab fr (SE.tr s SE.an)):=by
   rw[List.getElem?_set,if_pos rfl,if_pos (by have:=(asM.1 hj).1;simpa using this)]
  cases cap with
  |none=>
   refine .at (x:=.sl id 0 0 ah ay s) (V1:=(V.sS j).setObj j (.row s af ab fr (.tr s .an))) hk ff hn rfl ⟨s,af,ab,fr,_,[],jQ,p8,.inr ⟨id,cs,ay,mn,ah,c1,c2,by simp,atE _,(λ_ h=>(by cases h)),λc hc=>by cases hc⟩⟩ ?_;simp[bL,av,ho,c3,IG,fG,gz,hu,aU,ret]
  |some m=>
   obtain⟨f1,f2,f3⟩:=c6 m rfl;have Dl:m≠0:=by omega
   refine .at (x:=.sl id 0 0 (aa m) ay s) (V1:=(V.sS j).setObj j (.row s af ab fr (.tr s .an))) hk ff hn rfl ⟨s,af,ab,fr,_,[],jQ,p8,.inr ⟨id,cs,ay,mn,aa m,c1,c2,by simp,atE _,(λh=>(by cases h)),λc hc=>by cases hc;exact⟨f1,by omega,atE _⟩⟩⟩ ?_;simp[bL,av,ho,c3,IG,fG,gz,hu,aU,ret,Dl]
theorem acf{c:Call}(hJ:J (au P ν) R φ V.g V.l E σ)(hn:ν.length=V.n)(ho:o.op=.call c)(hc:c.callee=.builtin .cap)(hs:(gn P d o V k).sat P C Q K ν):dh P C Q K ν E V.ln k (bL P E d o σ):=by
 unfold gn at hs;rw[ho]at hs;simp only[hc]at hs;have bp:=fV hJ d c.args.toList c.argTypes.toList;split at hs<;>first|(exact hs.elim)|skip
 rename_i s et hh hu;rw[hh]at bp;obtain⟨x,hx,hr⟩:=lr bp;obtain⟨_,h1⟩:=hr;simp only[if_true]at h1;refine .at (x:=.raw (.int .i64 0)) hs hJ hn rfl ⟨_,rfl,.raw _,rfl⟩ ?_;simp[bL,av,ho,hc,dJ,hx,h1,VB,hu]
theorem TV(hJ:J (au P ν) R φ V.g V.l E σ)(hn:ν.length=V.n)(hs:(gn P d o V k).sat P C Q K ν):dh P C Q K ν E V.ln k (bL P E d o σ):=by
 cases ho:o.op with
 |makeFunc f first cap=>
  cases f with
  |func f=>exact P9 hJ hn ho hs
  |_=>unfold gn at hs;rw[ho]at hs;exact hs.elim
 |makeMap t r=>exact S3 hJ hn ho hs
 |makeSlice t l c=>unfold gn at hs;rw[ho]at hs;exact Zg hJ hn ho hs
 |mapUpdate t m key x=>exact Jp hJ hn (.inl ho) hs
 |insert t m key x=>exact Jp hJ hn (.inr ho) hs
 |lookup t m key ok=>exact W0 hJ hn ho hs
 |slice t x lo hi mx=>
  unfold gn at hs;rw[ho]at hs;simp only at hs;split at hs
  ·exact W6 hJ hn ho ‹_› hs
  split at hs
  ·exact W5 hJ hn ho (aca ‹_›) hs
  ·exact Y7 hJ hn ho hs
 |index t x ix=>exact Za hJ hn ho hs
 |range t x=>exact Zc hJ hn ho hs
 |next it str=>
  cases str with
  |true=>exact acd hJ hn ho hs
  |false=>unfold gn at hs;rw[ho]at hs;exact hs.elim
 |entry it=>exact Zd hJ hn ho hs
 |call c=>
  cases hc:c.callee with
  |builtin b=>
   cases b with
   |clear=>exact Y9 hJ hn ho hc hs
   |cap=>exact acf hJ hn ho hc hs
   |max=>unfold gn at hs;rw[ho]at hs;simp only[hc]at hs;exact Zb (.inl ⟨rfl,rfl⟩) hJ hn ho hc hs
   |min=>unfold gn at hs;rw[ho]at hs;simp only[hc]at hs;exact Zb (.inr ⟨rfl,rfl⟩) hJ hn ho hc hs
   |_=>unfold gn at hs;rw[ho]at hs;simp only[hc]at hs;exact hs.elim
  |_=>unfold gn at hs;rw[ho]at hs;simp only[hc]at hs;exact hs.elim
 |_=>unfold gn at hs;rw[ho]at hs;exact hs.elim
end Go.Ev
namespace Go.Ev
variable{P:Program}{N:Nat}{σ ao:St}{R R':Rs}{φ aL:Ph}{E:Nat->Env}{ν:List IV}
variable{C:Cr}{Q:IV->Prop}{K:List (List IV->Prop)}{V:SS}{d:Nat}{o:Oper}{k:PV SE->SS->ak}{L:List (LO SE)}{Γ:Gm SE}
theorem afb(hJ:J (au P ν) R φ V.g V.l E σ)(hn:ν.length=V.n){op:BinOp}{t yt:TypeId}{x y:Operand}(ho:o.op=.binOp op t x y yt)(hs:(fT P d o V k).sat P C Q K ν):dh P C Q K ν E V.ln k (bL P E d o σ):=by
 unfold fT at hs;rw[ho]at hs;simp only at hs;have hx:=bo hJ d t x;have hy:=bo hJ d t y
 have rdv:∀{xv:IV} {a:SE},VR (au P ν) R φ V.l σ xv (.one (.v a))->∀z,a.den P ν=aa z->bn ab R σ xv z:=by
  intro xv a ⟨u,h1,h2,_⟩ z hz;have c8:a.den P ν=aa u:=h1;rw[hz]at c8;cases c8;exact h2.mono hJ.Bc
 have rdw:∀{xv:IV} {f:Bool} {a:SE},VR (au P ν) R φ V.l σ xv (.one (.w f a))->∀z,a.den P ν=aa z->bn ab R σ xv z:=by
  intro xv f a ⟨u,h1,h2,_⟩ z hz;have c8:a.den P ν=aa u:=h1;rw[hz]at c8;cases c8;exact h2.cL
 split at hs
 ·rename_i cs ds ym tD;rw[ym]at hx;rw[tD]at hy;split at hs
  ·rename_i f1 a V1 f2 b V2 h1 h2;obtain⟨R1,a1,a2,_,a3⟩:=ve hJ h1;obtain⟨R2,b1,b2,_,b3⟩:=ve hJ h2;obtain⟨xs,zd,wS⟩:=hx;obtain⟨ys,AZ,IY⟩:=hy;obtain⟨us,c1,c2,_⟩:=a3 xs wS;obtain⟨vs,d1,d2,_⟩:=b3 ys IY;obtain⟨⟨z,hz⟩,hk⟩:=hs;obtain⟨h3,h4⟩:=p6 hz;simp only[SE.den,eL c1,eL d1,asU]at h3;have ha:bn f1 R1 σ (ax (E d) x) (.agg us):=by rw[zd];exact .agg xs us c2.len λi c e h1 h2=>c2.get h1 h2
   have hb:bn f2 R2 σ (ax (E d) y) (.agg vs):=by rw[AZ];exact .agg ys vs d2.len λi c e h1 h2=>d2.get h1 h2
   have h6:pP P op t x y (ax (E d) x) (ax (E d) y)=aa z:=by
    unfold dt at h3;split at h3
    ·cases h3
    ·rename_i u v aW hu hv;rw[CA ha hu,CA hb hv,P1 (x':=.func 0) (y':=.func 0) hu hv (λhc=>aW hc)];exact h3
    ·cases h3
   exact .at (x:=z) hk hJ hn rfl ⟨z,hz,P3 h6,h4⟩ (by simp[bL,av,ho,h6,ret])
  ·exact hs.elim
 ·rename_i a b ym tD;rw[ym]at hx;rw[tD]at hy;exact Jl hJ hn ho (rdv hx) (rdv hy) hs
 ·rename_i f a b ym tD;rw[ym]at hx;rw[tD]at hy;exact Jl hJ hn ho (rdw hx) (rdv hy) hs
 ·rename_i a f b ym tD;rw[ym]at hx;rw[tD]at hy;exact Jl hJ hn ho (rdv hx) (rdw hy) hs
 ·rename_i f a g b ym tD;rw[ym]at hx;rw[tD]at hy;exact Jl hJ hn ho (rdw hx) (rdw hy) hs
 ·exact hs.elim
theorem Zj(hJ:J (au P ν) R φ V.g V.l E σ)(hn:ν.length=V.n)(hs:(fT P d o V k).sat P C Q K ν):dh P C Q K ν E V.ln k (bL P E d o σ):=by
 cases ho:o.op with
 |move x=>exact YT hJ hn (.inl ho) hs
 |assign x=>exact YT hJ hn (.inr ho) hs
 |pick c a b=>exact abT hJ hn ho hs
 |alloc t=>exact YU hJ hn ho hs
 |box t x=>exact ae6 hJ hn ho hs
 |load t a=>exact abW hJ hn ho hs
 |store t a x=>exact YZ hJ hn ho hs
 |nilCheck x=>exact PT hJ hn ho hs
 |binOp op t x y yt=>exact afb hJ hn ho hs
 |unOp op t x=>exact ag0 hJ hn ho hs
 |convert a b x=>exact ag1 hJ hn ho hs
 |build t p=>exact Y6 hJ hn ho hs
 |buildSlice t l p=>exact Lg hJ hn ho hs
 |fieldAddr s x f=>exact N4 hJ hn ho hs
 |field t x f=>exact Y2 hJ hn ho hs
 |indexAddr t x i=>exact N5 hJ hn ho hs
 |extract x i=>exact S2 hJ hn ho hs
 |call c=>
  cases hc:c.callee with
  |builtin b=>
   by_cases hl:b=.len
   ·subst hl;exact ae9 hJ hn ho hc hs
   ·by_cases ha:b=.append
    ·subst ha;exact WY hJ hn ho hc hs
    ·unfold fT at hs;rw[ho]at hs;simp only[hc]at hs;split at hs<;>first|exact absurd rfl hl|exact absurd rfl ha|exact hs.elim|exact TV hJ hn hs
  |value f=>unfold fT at hs;rw[ho]at hs;simp only[hc]at hs;exact hs.elim
  |invoke x n=>unfold fT at hs;rw[ho]at hs;simp only[hc]at hs;exact hs.elim
 |_=>unfold fT at hs;rw[ho]at hs;exact TV hJ hn hs
end Go.Ev
namespace Go.Ev
variable{P:Program}{N:Nat}{σ ao:St}{ι:Io}{w:World}
namespace T
variable{α:Type}
def of(f:Nat->Option α):Nat->T α
 |0=>.lf
 |n+1=>match f n with
  |some x=>(of f n).set n x
  |none=>of f n
theorem Gq(f:Nat->Option α):∀n,(of f n).WF
 |0=>WF.lf
 |n+1=>by
  unfold of;split
  ·exact(Gq f n).set _ _
  ·exact Gq f n
theorem Jt(f:Nat->Option α):∀(n i:Nat),(of f n).get i=if i<n then f i else ah
 |0,i=>by simp[of,get]
 |n+1,i=>by
  unfold of;split
  ·rename_i x hx;rw[gj];split
   ·rename_i h;subst h;rw[if_pos (by omega),hx]
   ·rw[Jt f n i];by_cases h:i<n
    ·rw[if_pos h,if_pos (by omega)]
    ·rw[if_neg h,if_neg (by omega)]
  ·rename_i hx;rw[Jt f n i];by_cases h:i<n
   ·rw[if_pos h,if_pos (by omega)]
   ·rw[if_neg h];by_cases h2:i=n
    ·subst h2;rw[if_pos (by omega),hx]
    ·rw[if_neg (by omega)]
end T
def St.only(σ:St)(dq:Nat->Bool):St:=⟨σ.n,T.of (λi=>if dq i then σ.at i else ah) σ.n⟩
theorem Ln(dq:Nat->Bool)(HA:∀id,σ.n<=id->σ.at id=ah)(i:Nat):(σ.only dq).at i=if dq i then σ.at i else ah:=by
 unfold St.only St.at;simp only[T.Jt];split
 ·rfl
 ·rename_i h;have:=HA i (by omega);unfold St.at at this;rw[this];simp
def St.back(σ aq:St)(dq:Nat->Bool):St:=⟨aq.n,T.of (λi=>if i<σ.n/\dq i=af then σ.at i else aq.at i) aq.n⟩
theorem Lo{aq:St}(dq:Nat->Bool)(hn:σ.n<=aq.n)(HA:∀id,aq.n<=id->aq.at id=ah)(i:Nat):(σ.back aq dq).at i=if i<σ.n/\dq i=af then σ.at i else aq.at i:=by
 unfold St.back St.at;simp only[T.Jt];split
 ·rfl
 ·rename_i h;rw[if_neg (by omega)];have:=HA i (by omega);unfold St.at at this;rw[this]
theorem dQ.frame{f:FuncId}{args:List IV}{RW:IV->St->Prop}(dq:Nat->Bool)(HA:∀id,σ.n<=id->σ.at id=ah)(h:dQ P N f args (σ.only dq) RW):
 dQ P N f args σ (λv ao=>∃aq,RW v aq/\ao=σ.back aq dq/\σ.n<=aq.n/\(∀id,aq.n<=id->aq.at id=ah)/\∀id,id<σ.n->dq id=af->aq.at id=ah):=by
 intro ι us w hi hr;have aE:=Ln dq HA
 have Dq:Inv N ι (σ.only dq) w:=by
  refine⟨hi.mem,hi.sep,hi.jc,hi.fresh,hi.inj,λid o ho=>?_,λid hid=>?_⟩
  ·rw[aE]at ho;split at ho
   ·exact hi.obj id o ho
   ·cases ho
  ·rw[aE];split
   ·exact hi.wf id hid
   ·rfl
 refine(h ι us w Dq hr).mono λed w' hR=>?_;obtain⟨v,aq,rK,hR⟩:=hR;cases ed with
 |returned u=>
  obtain⟨aG,h1,h2,h3⟩:=hR;have hn:σ.n<=aq.n:=h3.An
  have CJ:∀id,id<σ.n->dq id=af->aq.at id=ah:=λid hid hv=>by
   refine h3.dead id ?_ (.inl hid);rw[aE,hv];simp
  have yN:=Lo (σ:=σ) (aq:=aq) dq hn h2.wf;refine⟨v,σ.back aq dq,⟨aq,rK,rfl,hn,h2.wf,CJ⟩,aG,h1,⟨h2.mem,h2.sep,h2.jc,h2.fresh,h2.inj,λid o ho=>?_,λid hid=>?_⟩,?_⟩
  ·rw[yN]at ho;split at ho
   ·rename_i hc;refine(hi.obj id o ho).keep h3.ext (h3.AL id (by rw[aE,hc.2];simp) (.inl hc.1)) λb hb=>h3.frame b (hi.jc id b hb) λbB sJ=>.inr ?_;have:=hi.inj id bB b hb sJ;subst this;rw[aE,hc.2];simp
   ·exact h2.obj id o ho
  ·rw[yN];have jj:aq.n<=id:=hid;rw[if_neg (by omega)];exact h2.wf id jj
  ·refine⟨h3.ext,h3.own,λid hid hr=>h3.AL id (by rw[aE,hid];simp) hr,λid hid hr=>?_,λid hr=>absurd hr (Nat.not_lt_zero _),hn,h3.os,h3.tape,h3.output,h3.size,λb hb hc=>h3.frame b hb λid ho=>?_,h3.xX⟩
   ·rw[yN];split
    ·exact hid
    ·exact h3.dead id (by rw[aE,hid];simp) hr
   ·rcases hc id ho with h|h
    ·exact .inl h
    ·exact .inr (by rw[aE,h];simp)
 |outgrown=>exact hR.elim
 |panicked chain=>exact hR.elim
end Go.Ev
namespace Go.Ev
variable{P:Program}{N:Nat}{σ ao:St}{R R':Rs}{φ aL:Ph}{E:Nat->Env}{ν:List IV}{L:List (LO SE)}{Γ:Gm SE}
abbrev W7(s:Nat)(es:List IV)(R:Rs)(φ:Ph)(E:Nat->Env)(σ:St):Prop:=J (α:=Unit) (λ_=>aa (.tree s es)) R φ [] [.row s af af af ()] E σ
abbrev W8(s:Nat)(es:List IV)(R:Rs)(φ:Ph)(σ:St)(x:IV):Prop:=cI (α:=Unit) (λ_=>aa (.tree s es)) R φ [.row s af af af ()] σ x (.sr 0)
def CK(P:Program)(s:Nat)(f:FuncId)(es:List IV)(xs:List IV)(aF:List IV):Prop:=
 ∀R φ E σ x args,W7 s es R φ E σ->W8 s es R φ σ x->All2 iX args xs->∀KW:Nat->IV->St->Prop,(∀R' aL ao v,W7 s aF R' aL E ao->W8 s aF R' aL ao v->∃b,∀N,b<=N->KW N v ao)->
  ∃b,∀N,b<=N->dQ P N f (x::args) σ (KW N)
theorem bn.move{fr:Bool}{x y:IV}(hm:∀i ob,σ.at i=aa ob->ao.at i=aa ob/\R' i=R i)(h:bn fr R σ x y):bn fr R' ao x y:=by
 induction h with
 |raw v=>exact .raw v
 |nil s hs=>exact .nil s hs
 |emp s hs=>exact .emp s hs
 |du t x y _ ih=>exact .du t x y ih
 |agg cs ds hl _ ih=>exact .agg cs ds hl ih
 |az cs ds hl _ ih=>exact .az cs ds hl ih
 |pure x hf hp=>exact .pure x hf hp
 |sl id off len cap ep s m cs ay mn es hR aE h1 h2 hs hl hb hm' bH _ ih=>
  obtain⟨g1,g2⟩:=hm id _ aE;exact .sl id off len cap ep s m cs ay mn es (by rw[g2];exact hR) g1 h1 h2 hs hl hb hm' bH ih
theorem Zk{k s:Nat}{f:FuncId}{fr:Bool}{z z':SE}{es aF xs args:List IV}{x:IV}(h:J (au P ν) R φ Γ L E σ)(hk:L[k]?=aa (.row s af af fr z))(hz:z.den P ν=aa (.tree s es))(p5:z'.den P ν=aa (.tree s aF))
 (dV:∀e∈es,∀c∈cellsOf e,aA c=ab)(hx:cI (au P ν) R φ L σ x (.sr k))(bp:All2 iX args xs)
 (Mv:∀d t pv,cA d t Γ=aa pv->pv.ok (·=k))(hL:∀j o,L[j]?=aa o->j≠k->o.ok (·=k))(hr:CK P s f es xs aF)
 (KW:Nat->IV->St->Prop)(Qf:∀R' aL ao v,J (au P ν) R' aL Γ (L.set k (.row s af af af z')) E ao->cI (au P ν) R' aL (L.set k (.row s af af af z')) ao v (.sr k)->∃b,∀N,b<=N->KW N v ao):
 ∃b,∀N,b<=N->dQ P N f (x::args) σ (KW N):=by
 obtain⟨bE,gZ,g1,g2,g3⟩:=h.obj k _ hk;have nM:z.den P ν=aa (.tree s gZ):=g1;rw[hz]at nM;cases nM;have py:=dj hk
 let dq:Nat->Bool:=λi=>match φ k with
  |some id=>Nat.beq i id
  |none=>af
 have EV:∀i,dq i=ab↔φ k=aa i:=λi=>by
  simp only[dq];cases φ k with
  |none=>simp
  |some id=>simp only[atv,asP];exact eq_comm
 have aE:=Ln dq h.top
 have W4:∀d∈flat es,aA d=ab:=λd hd=>by
  obtain⟨e,he,hc⟩:=List.mem_flatMap.1 hd;exact dV e he d hc
 have kR:W7 s es (λ_=>ah) (λj=>if j=0 then φ k else ah) E (σ.only dq):=by
  refine⟨λd t pv hg=>(by cases hg),λj ob hj=>?_,λj j' id h1 h2=>?_,λj id hj=>?_,λid m hm=>(by cases hm),λid m cs ay mn hm=>(by cases hm),T.Gq _ _,λid hid=>?_⟩
  ·cases j with
   |succ j=>simp at hj
   |zero=>
    simp at hj;subst hj;refine⟨bE,es,rfl,g2,?_⟩;rcases g3 with⟨a,b⟩|⟨id,cs,ay,mn,a1,a2,a3,a4,a5,a6,a7⟩
    ·exact .inl ⟨by simp[a],b⟩
    ·refine .inr ⟨id,cs,ay,mn,by simp[a1],?_,a3,a4,rfl,a6,λj u v hu hv=>?_⟩
     ·rw[aE,(EV id).2 a1];simpa using a2
     ·have hd:=W4 v (List.mem_of_getElem? hv);have:=a7 j u v hu hv;cases v<;>simp only[aA]at hd<;>first|(cases hd;done)|skip
      rw[cb this];exact .raw _
  ·split at h1<;>first|(cases h1;done)|skip
   split at h2<;>first|(cases h2;done)|skip
   omega
  ·split at hj<;>first|(cases hj;done)|skip
   rename_i Zl;subst Zl;exact⟨by simp,(h.lt k id hj).2⟩
  ·rw[aE];split
   ·exact h.top id hid
   ·rfl
 have hX0:W8 s es (λ_=>ah) (λj=>if j=0 then φ k else ah) (σ.only dq) x:=by
  obtain⟨s1,sX,sB,sY,z1,fe,b1,b2,b3⟩:=hx;rw[hk]at b1;cases b1;have qa:z.den P ν=aa (.tree s fe):=b2;rw[hz]at qa;cases qa;refine⟨s,af,af,af,(),es,rfl,rfl,?_⟩;rcases b3 with⟨c1,c2,c3⟩|⟨id,cs,ay,mn,cap,c1,c2,c3,c4,c5,c6⟩
  ·exact .inl ⟨by simp[c1],c2,c3⟩
  ·exact .inr ⟨id,cs,ay,mn,cap,by simp[c1],by rw[aE,(EV id).2 c1];simpa using c2,c3,c4,c5,c6⟩
 suffices W9:∀R1 dI aq v,W7 s aF R1 dI E aq->W8 s aF R1 dI aq v->σ.n<=aq.n->(∀id,id<σ.n->dq id=af->aq.at id=ah)->∃b,∀N,b<=N->KW N v (σ.back aq dq) by
  obtain⟨b,hb⟩:=hr _ _ _ _ x args kR hX0 bp (λN v aq=>σ.n<=aq.n->(∀id,id<σ.n->dq id=af->aq.at id=ah)->KW N v (σ.back aq dq)) λR1 dI aq v h1 h2=>by
   by_cases hc:σ.n<=aq.n/\∀id,id<σ.n->dq id=af->aq.at id=ah
   ·obtain⟨b,hb⟩:=W9 R1 dI aq v h1 h2 hc.1 hc.2;exact⟨b,λN hN _ _=>hb N hN⟩
   ·exact⟨0,λN _ h3 h4=>absurd ⟨h3,h4⟩ hc⟩
  refine⟨b,λN hN ι us w hi l7=>((hb N hN).frame dq h.top ι us w hi l7).mono λed w' hR=>?_⟩;obtain⟨v,ao,⟨aq,ju,rfl,hle,_,CJ⟩,acg⟩:=hR;exact⟨v,σ.back aq dq,ju hle CJ,acg⟩
 intro R1 dI aq v bD hX1 hle CJ;have Ju:=bD.top;have yN:=Lo (σ:=σ) (aq:=aq) dq hle Ju;have hold:∀id,id<σ.n->dq id=af->(σ.back aq dq).at id=σ.at id:=λid h1 h2=>by rw[yN,if_pos ⟨h1,h2⟩]
 have fg:∀id ob,aq.at id=aa ob->¬(id<σ.n/\dq id=af):=λid ob ho hc=>by rw[CJ id hc.1 hc.2]at ho;cases ho
 have Jv:∀id ob,aq.at id=aa ob->(σ.back aq dq).at id=aa ob:=λid ob ho=>by rw[yN,if_neg (fg id ob ho)];exact ho
 let R2:Rs:=λi=>if i<σ.n/\dq i=af then R i else R1 i
 let DC:Ph:=λi=>if i=k then dI 0 else φ i
 have hRk:∀id,φ k=aa id->R id=ah:=λid hid=>by
  rcases g3 with⟨a,_⟩|⟨bB,cs,ay,mn,a1,_,_,_,a5,_⟩
  ·rw[hid]at a;cases a
  ·rw[hid]at a1;cases a1;simpa using a5
 have yO:∀id m,R id=aa m->id<σ.n/\dq id=af:=λid m hm=>by
  refine⟨h.qU id m hm,?_⟩;cases hv:dq id with
  |false=>rfl
  |true=>rw[hRk id ((EV id).1 hv)]at hm;cases hm
 have si:∀j id,j≠k->φ j=aa id->id<σ.n/\dq id=af:=λj id hj hid=>by
  refine⟨(h.lt j id hid).2,?_⟩;cases hv:dq id with
  |false=>rfl
  |true=>exact absurd (h.inj j k id hid ((EV id).1 hv)) hj
 have xf:∀id m cs ay mn,R2 id=aa m->(σ.back aq dq).at id=aa (.cells cs ay mn)->m<=cs.length:=λid m cs ay mn hm ha=>by
  simp only[R2]at hm;rw[yN]at ha;split at hm
  ·rename_i hc;rw[if_pos hc]at ha;exact h.fits id m cs ay mn hm ha
  ·rename_i hc;rw[if_neg hc]at ha;exact bD.fits id m cs ay mn hm ha
 have qw:ja R σ R2 (σ.back aq dq):=by
  refine⟨λid m hm=>⟨m,by simp only[R2];rw[if_pos (yO id m hm)];exact hm,asR _⟩,λid m cs ay mn hm ha=>⟨cs,ay,?_,asR _,λ_ _=>rfl⟩,xf⟩;rw[hold id (yO id m hm).1 (yO id m hm).2];exact ha
 have aW:∀j,j≠k->(L.set k (.row s af af af z'))[j]?=L[j]? :=λj hj=>List.getElem?_set_ne (λhc=>hj hc.symm);have bj:(L.set k (.row s af af af z'))[k]?=aa (.row s af af af z'):=by simp[py]
 have CL:∀j,j≠k->DC j=φ j:=λj hj=>by simp only[DC];rw[if_neg hj]
 have uG:DC k=dI 0:=by simp[DC]
 have hs:kO (au P ν) (au P ν) R φ L σ R2 DC (L.set k (.row s af af af z')) (σ.back aq dq) (·=k):=by
  refine⟨λ_ _ h=>h,qw,λj cs hj=>?_,λj kt fe hj=>?_,λj s1 sX sB sY z1 hj hb=>?_⟩
  ·have bI:j≠k:=λhc=>by subst hc;rw[hk]at hj;cases hj
   exact⟨⟨cs,by rw[aW j bI];exact hj⟩,CL j bI⟩
  ·have bI:j≠k:=λhc=>by subst hc;rw[hk]at hj;cases hj
   exact⟨⟨fe,by rw[aW j bI];exact hj⟩,CL j bI⟩
  ·exact⟨⟨sX,sY,z1,by rw[aW j hb];exact hj,λe he=>⟨e,he,rfl⟩⟩,CL j hb,λid cs ay mn hid ha=>⟨cs,mn,by rw[hold id (si j id hb hid).1 (si j id hb hid).2];exact ha,rfl,λh=>h⟩⟩
 obtain⟨dK,MJ,k1,k2,k3⟩:=bD.obj 0 _ rfl;have MU:aa (IV.tree s aF)=aa (.tree s MJ):=k1;cases MU
 have Lp:∀id,dI 0=aa id->∃ob,aq.at id=aa ob:=λid hid=>by
  rcases k3 with⟨a,_⟩|⟨bB,cs,ay,mn,a1,a2,_⟩
  ·rw[hid]at a;cases a
  ·rw[hid]at a1;cases a1;exact⟨_,a2⟩
 refine Qf R2 DC (σ.back aq dq) v ⟨λd t pv hg=>(h.slot d t pv hg).step hs (Mv d t pv hg),λj ob hj=>?_,λj j' id h1 h2=>?_,λj id hj=>?_,λid m hm=>?_,xf,T.Gq _ _,λid hid=>?_⟩ ?_
 ·by_cases bI:j=k
  ·subst bI;rw[bj]at hj;cases hj;refine⟨dK,aF,p5,k2,?_⟩;rcases k3 with⟨a,b⟩|⟨id,cs,ay,mn,a1,a2,a3,a4,a5,a6,a7⟩
   ·exact .inl ⟨by rw[uG];exact a,b⟩
   ·refine .inr ⟨id,cs,ay,mn,by rw[uG];exact a1,Jv id _ a2,a3,a4,?_,a6,λq u v hu hv=>?_⟩
    ·simp only[R2];rw[if_neg (fg id _ a2)];exact a5
    ·refine(a7 q u v hu hv).move λi ob ho=>⟨Jv i ob ho,?_⟩;simp only[R2];rw[if_neg (fg i ob ho)]
  ·rw[aW j bI]at hj;exact(h.obj j ob hj).step hs (CL j bI) (λid hid=>⟨hold id (si j id bI hid).1 (si j id bI hid).2,by simp only[R2];rw[if_pos (si j id bI hid)]⟩) (hL j ob hj bI)
 ·by_cases hj:j=k
  ·by_cases fZ:j'=k
   ·rw[hj,fZ]
   ·exfalso;rw[hj,uG]at h1;rw[CL j' fZ]at h2;obtain⟨ob,ho⟩:=Lp id h1;exact fg id ob ho (si j' id fZ h2)
  ·by_cases fZ:j'=k
   ·exfalso;rw[fZ,uG]at h2;rw[CL j hj]at h1;obtain⟨ob,ho⟩:=Lp id h2;exact fg id ob ho (si j id hj h1)
   ·rw[CL j hj]at h1;rw[CL j' fZ]at h2;exact h.inj j j' id h1 h2
 ·by_cases bI:j=k
  ·subst bI;rw[uG]at hj;exact⟨by simpa using py,(bD.lt 0 id hj).2⟩
  ·rw[CL j bI]at hj;have:=h.lt j id hj;exact⟨by simpa using this.1,avc this.2 hle⟩
 ·simp only[R2]at hm;split at hm
  ·exact avc (h.qU id m hm) hle
  ·exact bD.qU id m hm
 ·have jj:aq.n<=id:=hid;rw[yN,if_neg (by omega)];exact Ju id jj
 ·obtain⟨s1,sX,sB,sY,z1,fe,b1,b2,b3⟩:=hX1;have w6:aa (LO.row s af af af ())=aa (.row s1 sX sB sY z1):=b1;cases w6;have qa:aa (IV.tree s aF)=aa (.tree s fe):=b2;cases qa;refine⟨s,af,af,af,z',aF,bj,p5,?_⟩;rcases b3 with⟨c1,c2,c3⟩|⟨id,cs,ay,mn,cap,c1,c2,c3,c4,c5,c6⟩
  ·exact .inl ⟨by rw[uG];exact c1,c2,c3⟩
  ·exact .inr ⟨id,cs,ay,mn,cap,by rw[uG];exact c1,Jv id _ c2,c3,c4,c5,c6⟩
end Go.Ev
