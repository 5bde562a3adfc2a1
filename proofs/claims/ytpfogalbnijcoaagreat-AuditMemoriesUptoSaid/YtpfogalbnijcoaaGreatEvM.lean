/- Lemmas over the model, without conditions of their own: operations on expressions (3). -/
import Derived.Test.YtpfogalbnijcoaaGreatEvL
import Derived.Test.YtpfogalbnijcoaaGreatEvI
open Option.some renaming injEq->ar6
open Option renaming map_eq_some_iff->ar9,bind_some->asa,map_some->asy,bind_eq_some_iff->aso
open Bool renaming and_eq_true->ar4,not_eq_true'->asR,false_eq_true->asA,or_eq_true->asL
open Nat renaming eq_of_beq_eq_true->asb,zero_le->asT,add_mul->asE,beq_eq->asK,le_refl->ar8,lt_of_lt_of_le->aut
open List renaming eq_nil_of_length_eq_zero->asF,getElem?_eq_some_iff->ar3,getElem?_map->asi,getElem?_range->auL,getElem?_eq_getElem->ar2,all_eq_true->asl,getElem_mem->ar5,append_assoc->ast,mem_of_mem_take->atA,mem_of_mem_drop->auD,getElem?_take->asD,replicate->asr,replicate_succ->aug,getElem?_append_left->asd,getElem?_append_right->asz,length_eq_one_iff->au5,eq_of_mem_replicate->atg,mem_flatten->auE,length_take->atz
open List.cons renaming injEq->as4
open Int renaming toNat_of_nonneg->auH
open Go.Value.int renaming injEq->avn
open Go.Utf8 renaming decode->atS
open Option renaming some->aa,none->ah
open Bool renaming true->ab,false->af
set_option linter.all false
namespace Go.Ev
variable{P:Program}{N:Nat}{σ ao:St}{R R':Rs}{φ aL:Ph}{E:Nat->Env}{ν:List IV}
variable{C:Cr}{Q:IV->Prop}{K:List (List IV->Prop)}{V:SS}{d:Nat}{o:Oper}{k:PV SE->SS->ak}{L:List (LO SE)}{Γ:Gm SE}
theorem Hx:∀{ds:List (Cl SE)} {es:List SE},FA ds=aa es->ds=es.map .v
 |[],es,h=>by simp only[FA,ar6]at h;subst h;rfl
 |c::ds,es,h=>by
  cases c<;>simp only[FA]at h<;>first|(cases h;done)|skip
  split at h
  ·rename_i aF he;simp only[ar6]at h;subst h;rw[Hx he];rfl
  ·cases h
theorem Hy(hJ:J (au P ν) R φ V.g V.l E σ):∀{cs:List (Cl SE)} {es:List SE} {xs:List IV},vT cs=aa es->All2 (cD (au P ν) R φ V.l σ) xs cs->
 ∃ys:List IV,All2 (λ(z:SE) y=>z.den P ν=aa y) es ys/\All2 (bn ab R σ) xs ys
 |[],es,[],h,_=>by simp only[vT,ar6]at h;subst h;exact⟨[],trivial,trivial⟩
 |[],es,_::_,_,hx=>hx.elim
 |c::cs,es,[],_,hx=>hx.elim
 |c::cs,es,x::xs,h,hx=>by
  have next:∀{e:SE} {y:IV},(vT cs).map (e::·)=aa es->e.den P ν=aa y->bn ab R σ x y->∃ys:List IV,All2 (λ(z:SE) y=>z.den P ν=aa y) es ys/\All2 (bn ab R σ) (x::xs) ys:=by
   intro e y h h1 h2;obtain⟨aF,h3,rfl⟩:=ar9.1 h;obtain⟨ys,h4,h5⟩:=Hy hJ h3 hx.2;exact⟨y::ys,⟨h1,h4⟩,⟨h2,h5⟩⟩
  simp only[vT]at h;split at h
  ·obtain⟨y,h1,h2,_⟩:=hx.1;exact next h h1 (h2.mono hJ.A7)
  ·obtain⟨y,h1,h2,_⟩:=hx.1;exact next h h1 h2.cH
  ·rename_i b s;obtain⟨h1,h2⟩:=hx.1;refine next (y:=.tree s []) h (by simp[SE.den,h1]) ?_
   subst h2;cases b
   ·exact .emp s h1
   ·exact .nil s h1
  ·cases h
theorem A_(hJ:J (au P ν) R φ V.g V.l E σ){pv:PV SE}{ke:SE}{x:IV}(hx:VR (au P ν) R φ V.l σ x pv)(h:Hm pv=aa ke):∃kv,ke.den P ν=aa kv/\bn ab R σ x kv:=by
 unfold Hm at h;split at h<;>first|(cases h;done)|skip
 ·cases h;obtain⟨y,h1,h2,_⟩:=hx;exact⟨y,h1,h2.mono hJ.A7⟩
 ·cases h;obtain⟨y,h1,h2,_⟩:=hx;exact⟨y,h1,h2.cH⟩
 ·rename_i cs;obtain⟨es,h1,rfl⟩:=ar9.1 h;obtain⟨xs,rfl,iR⟩:=hx;obtain⟨ys,g1,g2⟩:=Hy hJ h1 iR;exact⟨.agg ys,eB g1,.agg xs ys g2.len λi c e h1 h2=>g2.get h1 h2⟩
theorem All2.agq{α β:Type}{r:α->β->Prop}{a:α}{b:β}(hr:r a b):∀{as:List α} {bs:List β} {i:Nat},All2 r as bs->All2 r (as.set i a) (bs.set i b)
 |[],[],i,_=>by simp;trivial
 |_::_,_::_,0,h=>⟨hr,h.2⟩
 |_::_,_::_,i+1,h=>⟨h.1,All2.agq hr h.2⟩
 |[],_::_,_,h=>h.elim
 |_::_,[],_,h=>h.elim
theorem aer(hJ:J (au P ν) R φ V.g V.l E σ)(hn:ν.length=V.n){j id:Nat}{kt:TypeId}{iQ:SE}(hj:V.l[j]?=aa (.mp kt iQ)){es aF:List (Value×IV×Nat)}{clock od:Nat}{mj:List IV}(dW:¬gB kt=ab)(kO:φ j=aa id)(hR:R id=ah)(aE:σ.at id=aa (.map es clock))
 (he:zo R σ aF mj/\Canon aF od):J (au P (ν++[.az mj])) R φ V.g (V.l.set j (.mp kt (.var V.n))) E (σ.put id (.map aF od)):=by
 have bD:=hJ.up (ia:=au P (ν++[.az mj])) (λe y h=>SE.cU P e h)
 exact(bD.tv (R':=R) (bad:=λ_=>False) (jY:=.mp kt (.var V.n)) (eK:=.map aF od) kO hj (λ_ _=>rfl)
  (λm hm=>by rw[hR]at hm;cases hm) (λm _ _ _ hm=>by rw[hR]at hm;cases hm) (λm _ _ _ hm=>by rw[hR]at hm;cases hm)
  (λ_ h=>by cases h) (λ_ _ _=>by rename_i h;cases h;exact⟨_,rfl⟩) (λ_ _ _ _ _ h=>by cases h) (λ_ _ pv _=>pv.a_) (λ_ o _ _=>o.a_)
  (λdC=>by rw[gL,if_neg dW];exact⟨id,aF,od,mj,by simp[au,SE.den,<-hn],kO,hR,by rw[St.cV,if_pos rfl],he.1.mono λ_ _ ⟨z,h1,h2⟩=>⟨z,h1,h2.mono dC.grow⟩,he.2⟩)).2
theorem IZ{t:TypeId}{m key x:Operand}(hJ:J (au P ν) R φ V.g V.l E σ)(hn:ν.length=V.n)(ho:o.op=.mapUpdate t m key x\/o.op=.insert t m key x)(hs:(f_ P d o V k).sat P C Q K ν):c8 P C Q K ν E V.ln k (bK P E d o σ):=by
 have dC:(match P.underlying t with
  |some (.map kt et)=>Kk kt (bN P d V t m) (bN P d V kt key) (bN P d V et x) V k
  |_=>.fail 66).sat P C Q K ν:=by
  rcases ho with ho|ho<;>(unfold f_ at hs;rw[ho]at hs;exact hs)
 split at dC<;>first|(exact dC.elim)|skip
 rename_i kt et hu;unfold Kk at dC;split at dC<;>first|(exact dC.elim)|skip
 rename_i j ke xe hm hk hx;split at dC<;>first|(exact dC.elim)|skip
 rename_i lJ iQ hj;split at dC<;>first|(exact dC.elim)|skip
 rename_i jQ;rw[ar4,asR]at jQ;obtain⟨jQ,dW⟩:=jQ;have yD:=asb jQ;subst yD;have dW:¬gB kt=ab:=by rw[dW];simp
 obtain⟨z,hz,anV⟩:=dC;have pI:=bo hJ d t m;have PB:=bo hJ d kt key;obtain⟨xv,wG,hxr⟩:=A_ hJ (bo hJ d et x) hx;rw[hm]at pI;obtain⟨id,lL,gS,g1,g2,g3⟩:=pI;rw[hj]at g2;cases g2;rw[if_neg dW]at g3;obtain⟨kv,a1,a2⟩:=A_ hJ PB hk;have dz:=hJ.obj j _ hj;rw[gL,if_neg dW]at dz;obtain⟨bA,es,clock,ds,c1,c2,c3,c4,c5⟩:=dz;rw[g1]at c2;cases c2;have kz:iQ.den P ν=aa (.az ds):=c1;have wF:ke.den P ν=aa kv:=a1;simp only[SE.den,kz,wF,wG,asa]at hz
 have fin:∀{aF:List (Value×IV×Nat)} {od:Nat} {mj:List IV},zo R σ aF mj/\Canon aF od->z=.az mj->pe P 0 kt (ax (E d) m) (ax (E d) key) (ax (E d) x) σ=aa (σ.put id (.map aF od))->c8 P C Q K ν E V.ln k (bK P E d o σ):=by
  intro aF od mj he IT r7;subst IT;have eU:=aer (od:=od) hJ hn hj dW g1 c3 c4 he;refine⟨.undef,_,R,φ,.one .un,{V with n:=V.n+1,l:=V.l.set j (.mp kt (.var V.n))},[.az mj],?_,eU,trivial,by simp[hn],rfl,anV⟩;rcases ho with ho|ho<;>simp[bK,av,ho,hu,r7,ret]
 split at hz
 ·rename_i q hq;obtain⟨kk,e1,e2,e3,e4,e5⟩:=vY c5.1 hq af;have GK:=Eo e1 a2;obtain⟨e,h6,h7⟩:=e5 q rfl;refine fin (aF:=es.set q (kk,ax (E d) x,e.2.2)) (od:=clock) (mj:=ds.set q (.az [kv,xv])) ⟨All2.agq ⟨xv,by rw[e3],hxr⟩ c5.1,c5.2.set h6 _ _⟩ (by simpa using hz.symm) ?_;unfold pe;rw[g3,GK];simp only[e2,c4,e4,h6,h7,if_true,asT,not_true,if_false]
 ·rename_i hq;obtain⟨kk,e1,e2,e3,e4,e5⟩:=vY c5.1 hq af;have GK:=Eo e1 a2;refine fin (aF:=es++[(kk,ax (E d) x,clock)]) (od:=clock+1) (mj:=ds++[.az [kv,xv]]) ⟨c5.1.app ⟨⟨xv,by rw[e3],hxr⟩,trivial⟩,c5.2.app _ _⟩ (by simpa using hz.symm) ?_;unfold pe;rw[g3,GK];simp only[e2,c4,e4,asT,not_true,if_false]
 ·cases hz
theorem abk{t:TypeId}{e:SE}(h:Fy P t=aa e):∃v,cw P t=aa v/\e.den P ν=aa (.raw v)/\lift v=.raw v:=by
 unfold Fy at h;split at h<;>first|(cases h;exact⟨_,‹_›,rfl,rfl⟩)|cases h
theorem agr{fr:Bool}{x:IV}(h:bn fr R σ x (.agg [])):x=.agg []:=by
 cases h with
 |agg cs _ hl _=>
  have h0:cs=[]:=asF (by simpa using hl);rw[h0]
 |pure=>rfl
theorem abl{t:TypeId}(h:Nz P t=ab):cw P t=aa (.agg #[]):=by
 unfold Nz at h;split at h
 ·rename_i cs hc;rw[hc];have:cs.toList=[]:=by simpa using h
  rw[show cs= #[]from by cases cs;simp at this;rw[this]]
 ·cases h
theorem SC{t:TypeId}{m key:Operand}{kt et:TypeId}(hJ:J (au P ν) R φ V.g V.l E σ)(hn:ν.length=V.n)(ho:o.op=.lookup t m key ab)(hu:P.underlying t=aa (.map kt et))(hz:Nz P et=ab)
 (hs:(Km kt (bN P d V t m) (bN P d V kt key) V k).sat P C Q K ν):c8 P C Q K ν E V.ln k (bK P E d o σ):=by
 have mV:=abl hz;unfold Km at hs;split at hs<;>first|(exact hs.elim)|skip
 rename_i j ke hm hk;split at hs<;>first|(exact hs.elim)|skip
 rename_i lJ iQ hj;split at hs<;>first|(exact hs.elim)|skip
 rename_i jQ;rw[ar4,asR]at jQ;obtain⟨jQ,dW⟩:=jQ;have yD:=asb jQ;subst yD;have dW:¬gB kt=ab:=by rw[dW];simp
 obtain⟨⟨u,yE⟩,h,hh,hs⟩:=hs;have pI:=bo hJ d t m;have PB:=bo hJ d kt key;rw[hm]at pI;obtain⟨id,lL,gS,g1,g2,g3⟩:=pI;rw[hj]at g2;cases g2;rw[if_neg dW]at g3;obtain⟨kv,a1,a2⟩:=A_ hJ PB hk;have dz:=hJ.obj j _ hj;rw[gL,if_neg dW]at dz;obtain⟨bA,es,clock,ds,c1,c2,c3,c4,c5⟩:=dz;rw[g1]at c2;cases c2;have kz:iQ.den P ν=aa (.az ds):=c1;have wF:ke.den P ν=aa kv:=a1
 have hg:∃q,fi P kt ds kv=aa q/\(q=ah\/∃i a,q=aa i/\ds[i]?=aa (.az [a,.agg []])):=by
  simp only[SE.den,kz,wF,asa]at yE;cases hq:fi P kt ds kv with
  |none=>rw[hq]at yE;simp at yE
  |some q=>
   refine⟨q,rfl,?_⟩;rw[hq]at yE;cases q with
   |none=>exact .inl rfl
   |some i=>
    refine .inr ?_;simp only at yE;split at yE
    ·rename_i a y hd;simp only[asa]at yE;split at yE
     ·rename_i cs;split at yE
      ·rename_i hc;have:cs=[]:=asF hc.1;subst this;exact⟨i,a,rfl,hd⟩
      ·cases yE
     ·cases yE
    ·simp at yE
 obtain⟨q,hq,q0⟩:=hg;obtain⟨kk,e1,e2,e3,e4,e5⟩:=vY c5.1 hq es.isEmpty;have GK:=Eo e1 a2;simp only[SE.den,kz,wF,asa,hq,asy,ar6]at hh;subst hh;have bD:=hJ.up (ia:=au P (ν++[.bool q.isSome])) (λe y h=>SE.cU P e h);have DL:entriesOf σ (ax (E d) m)=aa es:=by rw[g3];simp[entriesOf,c4]
 have er:av P 0 (ax (E d)) o σ=aa (.val (.az [.agg [],.raw (.bool q.isSome)]) σ):=by
  simp only[av,ho,hu,DL,GK,e2,e4,mV];rcases q0 with rfl|⟨i,a,rfl,hd⟩
  ·simp[ret,lift]
  ·obtain⟨e,h6,_⟩:=e5 i rfl;obtain⟨z',h8,h9⟩:=All2.get c5.1 h6 hd;simp only[IV.az.injEq,as4,and_true]at h8;obtain⟨_,rfl⟩:=h8;simp[ret,h6,agr h9]
 refine⟨.az [.agg [],.raw (.bool q.isSome)],σ,R,φ,.tu [(ab,[]),(af,[.v (.var V.n)])],{V with n:=V.n+1},[.bool q.isSome],er,bD,⟨_,rfl,⟨[],rfl,trivial⟩,⟨_,rfl,.raw (.bool q.isSome),?_,.raw _,rfl⟩,trivial⟩,by simp[hn],rfl,hs⟩;simp[au,SE.den,<-hn]
theorem SD{t:TypeId}{m key:Operand}{kt et:TypeId}{ok:Bool}(hJ:J (au P ν) R φ V.g V.l E σ)(hn:ν.length=V.n)(ho:o.op=.lookup t m key ok)(hu:P.underlying t=aa (.map kt et))
 (hs:(Kl P kt et (bN P d V t m) (bN P d V kt key) ok V k).sat P C Q K ν):c8 P C Q K ν E V.ln k (bK P E d o σ):=by
 unfold Kl at hs;split at hs<;>first|(exact hs.elim)|skip
 rename_i j ke zs n hm hk vW Mc;split at vW<;>first|(cases vW;done)|skip
 rename_i arr mV;split at hs<;>first|(exact hs.elim)|skip
 rename_i lJ iQ hj;split at hs<;>first|(exact hs.elim)|skip
 rename_i jQ;rw[ar4,asR]at jQ;obtain⟨jQ,dW⟩:=jQ;have yD:=asb jQ;subst yD;have dW:¬gB kt=ab:=by rw[dW];simp
 obtain⟨z,hz,hs⟩:=hs;have pI:=bo hJ d t m;have PB:=bo hJ d kt key;rw[hm]at pI;obtain⟨id,lL,gS,g1,g2,g3⟩:=pI;rw[hj]at g2;cases g2;rw[if_neg dW]at g3;obtain⟨kv,a1,a2⟩:=A_ hJ PB hk;have dz:=hJ.obj j _ hj;rw[gL,if_neg dW]at dz;obtain⟨bA,es,clock,ds,c1,c2,c3,c4,c5⟩:=dz;rw[g1]at c2;cases c2;have kz:iQ.den P ν=aa (.az ds):=c1;have wF:ke.den P ν=aa kv:=a1;obtain⟨zys,y1,y2⟩:=Hy hJ vW (mL (R:=R) (φ:=φ) (L:=V.l) (σ:=σ) mV);have anW:=eB y1;simp only[Value.cells]at y2;have ajT:lift (.agg arr)=.agg (arr.toList.map .raw):=rfl
 have hg:∃q,fi P kt ds kv=aa q/\∃cs,z=.agg cs/\cs.length=n/\cs.all Ev.aj=ab/\((q=ah/\cs=zys)\/∃i a,q=aa i/\ds[i]?=aa (.az [a,.agg cs])):=by
  simp only[SE.den,kz,wF,anW,asa]at hz;cases hq:fi P kt ds kv with
  |none=>rw[hq]at hz;simp at hz
  |some q=>
   refine⟨q,rfl,?_⟩;rw[hq]at hz;cases q with
   |none=>
    simp only[asa]at hz;split at hz
    ·rename_i hc;cases hz;exact⟨zys,rfl,hc.1,hc.2,.inl ⟨rfl,rfl⟩⟩
    ·cases hz
   |some i=>
    simp only at hz;split at hz
    ·rename_i a y hd;simp only[asa]at hz;split at hz<;>first|(cases hz;done)|skip
     rename_i cs;split at hz
     ·rename_i hc;cases hz;exact⟨cs,rfl,hc.1,hc.2,.inr ⟨i,a,rfl,hd⟩⟩
     ·cases hz
    ·simp at hz
 obtain⟨q,hq,cs,rfl,dV,wo,q0⟩:=hg;obtain⟨kk,e1,e2,e3,e4,e5⟩:=vY c5.1 hq es.isEmpty;have GK:=Eo e1 a2;have bD:=hJ.up (ia:=au P (ν++[.agg cs])) (λe y h=>SE.cU P e h);have DL:entriesOf σ (ax (E d) m)=aa es:=by rw[g3];simp[entriesOf,c4]
 have er:∃xs,All2 (bn ab R σ) xs cs/\av P 0 (ax (E d)) o σ=aa (.val (if ok then .az [.agg xs,.raw (.bool q.isSome)]else .agg xs) σ):=by
  rcases q0 with⟨rfl,rfl⟩|⟨i,a,rfl,hd⟩
  ·refine⟨_,y2,?_⟩;simp only[av,ho,hu,DL,GK,e2,e4,mV];cases ok<;>simp[ret,ajT]
  ·obtain⟨e,h6,_⟩:=e5 i rfl;obtain⟨z',h8,h9⟩:=All2.get c5.1 h6 hd;simp only[IV.az.injEq,as4,and_true]at h8;obtain⟨_,rfl⟩:=h8;obtain⟨xs,y7,wA⟩:=Co h9;refine⟨xs,wA,?_⟩;simp only[av,ho,hu,DL,GK,e2,e4,mV];cases ok<;>simp[ret,h6,y7]
 obtain⟨xs,iR,er⟩:=er
 have iP:∀(μ:List IV) (m0:Nat),ν.length=m0->All2 (cD (au P (ν++(.agg cs::μ))) R φ V.l σ) xs ((List.range n).map λj=>.w ab (.bS (.var m0) j)):=by
  intro μ m0 C1;refine .mk (by simp[iR.len,dV]) λi a b h1 h2=>?_;have hi:=(ar3.1 h1).1;rw[iR.len]at hi;rw[asi,auL (by omega)]at h2;simp only[asy,ar6]at h2;subst h2;have Md:cs[i]?=aa cs[i]:=ar2 hi;have bp:Ev.aj cs[i]=ab:=(asl.1 wo) _ (ar5 hi);exact⟨cs[i],by simp[au,SE.den,<-C1,Md,yo,bp],iR.get h1 Md,bp⟩
 cases ok with
 |false=>
  simp only[asA,if_false]at hs er;exact⟨.agg xs,σ,R,φ,.ag _,{V with n:=V.n+1},[.agg cs],er,bD,⟨xs,rfl,iP [] V.n hn⟩,by simp[hn],rfl,hs⟩
 |true=>
  simp only[if_true]at hs er;obtain⟨h,hh,hs⟩:=hs;have abm:=SE.cU P iQ (μ:=[.agg cs]) kz;have abn:=SE.cU P ke (μ:=[.agg cs]) wF;simp only[SE.den,abm,abn,asa,hq,asy,ar6]at hh;subst hh;rw[ast]at hs;have eU:=bD.up (ia:=au P (ν++([.agg cs]++[.bool q.isSome]))) (λe y h=>by rw[<-ast];exact SE.cU P e h);refine⟨.az [.agg xs,.raw (.bool q.isSome)],σ,R,φ,.tu [(ab,_),(af,[.v (.var (V.n+1))])],{V with n:=V.n+1+1},[.agg cs]++[.bool q.isSome],er,eU,⟨_,rfl,⟨xs,rfl,iP [.bool q.isSome] V.n hn⟩,⟨_,rfl,.raw (.bool q.isSome),?_,.raw _,rfl⟩,trivial⟩,by simp[hn],rfl,hs⟩;simp[au,SE.den,<-hn]
theorem Wq{t:TypeId}{m key:Operand}{ok:Bool}(hJ:J (au P ν) R φ V.g V.l E σ)(hn:ν.length=V.n)(ho:o.op=.lookup t m key ok)(hs:(f_ P d o V k).sat P C Q K ν):c8 P C Q K ν E V.ln k (bK P E d o σ):=by
 unfold f_ at hs;rw[ho]at hs;simp only at hs;split at hs<;>first|(exact hs.elim)|skip
 rename_i kt et hu;split at hs
 ·rename_i bp;simp only[ar4]at bp;obtain⟨rfl,hz⟩:=bp;exact SC hJ hn ho hu hz hs
 split at hs
 ·exact SD hJ hn ho hu hs
 unfold Th at hs;split at hs<;>first|(exact hs.elim)|skip
 rename_i j ke z0 hm hk mV;split at hs<;>first|(exact hs.elim)|skip
 rename_i lJ iQ hj;split at hs<;>first|(exact hs.elim)|skip
 rename_i jQ;rw[ar4,asR]at jQ;obtain⟨jQ,dW⟩:=jQ;have yD:=asb jQ;subst yD;have dW:¬gB kt=ab:=by rw[dW];simp
 obtain⟨z,hz,hs⟩:=hs;obtain⟨mP,KC⟩:=pF hz;have pI:=bo hJ d t m;have PB:=bo hJ d kt key;rw[hm]at pI;obtain⟨id,lL,gS,g1,g2,g3⟩:=pI;rw[hj]at g2;cases g2;rw[if_neg dW]at g3;obtain⟨kv,a1,a2⟩:=A_ hJ PB hk;have dz:=hJ.obj j _ hj;rw[gL,if_neg dW]at dz;obtain⟨bA,es,clock,ds,c1,c2,c3,c4,c5⟩:=dz;rw[g1]at c2;cases c2;have kz:iQ.den P ν=aa (.az ds):=c1;have wF:ke.den P ν=aa kv:=a1;obtain⟨v0,y1,y2,y3⟩:=abk (ν:=ν) mV
 have hg:∃q,fi P kt ds kv=aa q/\∃u,z=.raw u/\((q=ah/\u=v0)\/∃i a,q=aa i/\ds[i]?=aa (.az [a,.raw u])):=by
  simp only[SE.den,kz,wF,y2,asa]at mP;cases hq:fi P kt ds kv with
  |none=>rw[hq]at mP;simp at mP
  |some q=>
   refine⟨q,rfl,?_⟩;rw[hq]at mP;cases q with
   |none=>
    simp only[asa,aA,if_true,ar6]at mP;exact⟨v0,mP.symm,.inl ⟨rfl,rfl⟩⟩
   |some i=>
    simp only at mP;split at mP
    ·rename_i a y hd;simp only[asa]at mP;split at mP
     ·rename_i hr;cases mP;cases z<;>simp only[aA]at hr<;>first|(cases hr;done)|skip
      rename_i u;exact⟨u,rfl,.inr ⟨i,a,rfl,hd⟩⟩
     ·cases mP
    ·simp at mP
 obtain⟨q,hq,u,rfl,q0⟩:=hg;obtain⟨kk,e1,e2,e3,e4,e5⟩:=vY c5.1 hq es.isEmpty;have GK:=Eo e1 a2;have bD:=hJ.up (ia:=au P (ν++[.raw u])) (λe y h=>SE.cU P e h);have ig:(SE.var V.n).den P (ν++[.raw u])=aa (.raw u):=by simp[SE.den,<-hn]
 have DL:entriesOf σ (ax (E d) m)=aa es:=by rw[g3];simp[entriesOf,c4]
 have er:av P 0 (ax (E d)) o σ=aa (.val (if ok then .az [.raw u,.raw (.bool q.isSome)]else .raw u) σ):=by
  simp only[av,ho,hu,DL,GK,e2,e4,y1];rcases q0 with⟨rfl,rfl⟩|⟨i,a,rfl,hd⟩
  ·cases ok<;>simp[ret,y3]
  ·obtain⟨e,h6,_⟩:=e5 i rfl;obtain⟨z',h8,h9⟩:=All2.get c5.1 h6 hd;simp only[IV.az.injEq,as4,and_true]at h8;obtain⟨_,rfl⟩:=h8;have:=bZ h9;cases ok<;>simp[ret,h6,this]
 cases ok with
 |false=>
  simp only[asA,if_false]at hs er;exact⟨.raw u,σ,R,φ,.one (.v (.var V.n)),{V with n:=V.n+1},[.raw u],er,bD,⟨.raw u,ig,.raw u,KC⟩,by simp[hn],rfl,hs⟩
 |true=>
  simp only[if_true]at hs er;obtain⟨h,hh,hs⟩:=hs;have abm:=SE.cU P iQ (μ:=[.raw u]) kz;have abn:=SE.cU P ke (μ:=[.raw u]) wF;simp only[SE.den,abm,abn,asa,hq,asy,ar6]at hh;subst hh;rw[ast]at hs;have eU:=bD.up (ia:=au P (ν++([.raw u]++[.bool q.isSome]))) (λe y h=>by rw[<-ast];exact SE.cU P e h);refine⟨.az [.raw u,.raw (.bool q.isSome)],σ,R,φ,.tu [(af,[.v (.var V.n)]),(af,[.v (.var (V.n+1))])],{V with n:=V.n+1+1},[.raw u]++[.bool q.isSome],er,eU,⟨_,rfl,⟨_,rfl,.raw u,?_,.raw u,KC⟩,⟨_,rfl,.raw (.bool q.isSome),?_,.raw _,rfl⟩,trivial⟩,by simp[hn],rfl,hs⟩
  ·simp[au,SE.den,<-hn]
  ·simp[au,SE.den,<-hn]
end Go.Ev
namespace Go.Ev
variable{P:Program}{N:Nat}{σ ao:St}{R R':Rs}{φ aL:Ph}{E:Nat->Env}{ν:List IV}
variable{C:Cr}{Q:IV->Prop}{K:List (List IV->Prop)}{V:SS}{d:Nat}{o:Oper}{k:PV SE->SS->ak}{L:List (LO SE)}{Γ:Gm SE}
theorem Tu{s:Nat}{e lo hi:SE}{z:IV}(h:(SE.sub s e lo hi).den P ν=aa z):∃es a b l m q r,e.den P ν=aa (.tree s es)/\lo.den P ν=aa a/\hi.den P ν=aa b/\a=.raw (.int q (l:Nat))/\b=.raw (.int r (m:Nat))/\l<=m/\m<=es.length/\z=.tree s ((es.take m).drop l):=by
 simp only[SE.den,aso]at h;obtain⟨x,h1,a,h2,b,h3,h4⟩:=h;unfold kP at h4;split at h4<;>first|(cases h4;done)|skip
 rename_i s1 es;split at h4<;>first|(cases h4;done)|skip
 rename_i l m hl hm;split at h4<;>first|(cases h4;done)|skip
 rename_i hc;obtain⟨rfl,h5,h6,h7,h8⟩:=hc;cases h4;obtain⟨q,rfl⟩:=Ci hl;obtain⟨r,rfl⟩:=Ci hm;exact⟨es,_,_,l.toNat,m.toNat,q,r,h1,h2,h3,by rw[auH h5],by rw[auH h7],h6,h8,rfl⟩
theorem bn.part{fr:Bool}{x:IV}{s l m:Nat}{es:List IV}{t el:TypeId}(hu:P.underlying t=aa (.slice el))(aT:aN P el=aa s)(h:bn fr R σ x (.tree s es))(h1:l<=m)(h2:m<=es.length){lo hi:Option IV}
 (fB:∀id off len c ep s',x=.sl id off len (aa c) ep s'->len<=c)
 (zd:gm lo=aa (aa l)\/(gm lo=aa ah/\l=0))(Xu:gm hi=aa (aa m)\/(gm hi=aa ah/\m=es.length)):
 ∃x',fm P t x lo hi ah=aa x'/\bn fr R σ x' (.tree s ((es.take m).drop l)):=by
 obtain⟨jY,KD,KE⟩:∃q:Option Nat,gm lo=aa q/\q.getD 0=l:=by
  rcases zd with h|⟨h,rfl⟩
  ·exact⟨_,h,rfl⟩
  ·exact⟨_,h,rfl⟩
 obtain⟨cW,KF,abo⟩:∃q:Option Nat,gm hi=aa q/\∀n,n=es.length\/q≠ah->q.getD n=m:=by
  rcases Xu with h|⟨h,rfl⟩
  ·exact⟨_,h,λn _=>rfl⟩
  ·exact⟨_,h,λn hn=>by rcases hn with rfl|hn;·rfl
                       ·exact absurd rfl hn⟩
 have s6:gm ah=aa ah:=rfl
 have hz:es.length=0->l=0/\m=0/\(es.take m).drop l=[]/\cW.getD 0=0:=by
  intro h;have:es=[]:=asF h;subst this;have C1:m=0:=by simpa using h2
  refine⟨by omega,C1,by simp,?_⟩;have:=abo 0 (.inl rfl);omega
 cases h with
 |nil _ hs=>
  obtain⟨z1,z2,z3,z4⟩:=hz rfl;refine⟨.raw (.slice ah 0 0),?_,by rw[z3];exact .nil s hs⟩;simp[fm,KD,KF,s6,hu,aT,KE,z1,z4]
 |emp _ hs=>
  obtain⟨z1,z2,z3,z4⟩:=hz rfl;refine⟨.emp,?_,by rw[z3];exact .emp s hs⟩;simp[fm,KD,KF,s6,hu,aT,KE,z1,z4]
 |pure _ hf hp=>
  refine⟨.tree s ((es.take m).drop l),?_,.pure _ hf ?_⟩
  ·have:=abo es.length (.inl rfl);simp[fm,KD,KF,s6,hu,aT,KE,this,h1,h2]
  ·cases hp with
   |tree _ _ hh=>exact .tree s _ λe he=>hh e (atA (auD he))
 |sl id off len cap ep _ m0 cs ay mn _ hR aE h3 h4 hs hl hb hm bH hh=>
  have Dz:=abo len (.inl hl.symm)
  have fc:∀Hz:Option Nat,bn fr R σ (.sl id (off+l*s) (m- l) Hz ep s) (.tree s ((es.take m).drop l)):=λHz=>by
   refine .sl id (off+l*s) (m- l) Hz ep s m0 cs ay mn _ hR aE h3 h4 hs (by simp;omega) ?_ hm (λe he=>bH e (atA (auD he))) λi e j c d' he hd hc=>?_
   ·have:(m- l)*s+l*s<=len*s:=by rw[<-asE];exact Nat.mul_le_mul_right s (by omega)
    omega
   ·rw[List.getElem?_drop,asD]at he;split at he
    ·refine hh (l+i) e j c d' he hd ?_;rw[asE];rw[show off+(l*s+i*s)+j=off+l*s+i*s+j by omega];exact hc
    ·cases he
  cases cap with
  |none=>
   refine⟨.sl id (off+l*s) (m- l) ah ep s,?_,fc ah⟩;have:cW.getD len=m:=Dz;simp[fm,KD,KF,s6,hu,aT,KE,this,h1];omega
  |some c=>
   by_cases S2:m<=c
   ·by_cases hc:c=l
    ·refine⟨.emp,?_,?_⟩
     ·simp[fm,KD,KF,s6,hu,aT,KE,Dz,h1,S2,hc];omega
     ·have:(es.take m).drop l=[]:=by
       apply asF;simp;omega
      rw[this];exact .emp s hs
    ·refine⟨.sl id (off+l*s) (m- l) (aa (c- l)) ep s,?_,fc _⟩;simp[fm,KD,KF,s6,hu,aT,KE,Dz,h1,S2,hc]
   ·have:=fB _ _ _ _ _ _ rfl;omega
theorem PC{q:IntKind}{n:Nat}:gm (aa (.raw (.int q (n:Nat))))=aa (aa n):=by
 simp[gm]
theorem I0(hJ:J (au P ν) R φ V.g V.l E σ){VM e:SE}{x:Option Operand}(h:Hn P d V VM x=aa e){n:Nat}{q:IntKind}(he:e.den P ν=aa (.raw (.int q (n:Nat)))):
 gm (x.map (ax (E d)))=aa (aa n)\/(gm (x.map (ax (E d)))=aa ah/\e=VM):=by
 cases x with
 |none=>simp only[Hn,ar6]at h;exact .inr ⟨rfl,h.symm⟩
 |some x=>
  simp only[Hn]at h;split at h
  ·rename_i e' hx;cases h;have hv:=bo hJ d 3 x;rw[hx]at hv;obtain⟨y,h1,h2,_⟩:=hv;have cZ:e.den P ν=aa y:=h1;rw[he]at cZ;cases cZ;rw[asy,bZ h2];exact .inl PC
  ·cases h
theorem Yn{t:TypeId}{x:Operand}{lo hi mx:Option Operand}(hJ:J (au P ν) R φ V.g V.l E σ)(hn:ν.length=V.n)(ho:o.op=.slice t x lo hi mx)(hs:(Kn P d t (bN P d V t x) lo hi mx V k).sat P C Q K ν):c8 P C Q K ν E V.ln k (bK P E d o σ):=by
 unfold Kn at hs;split at hs<;>first|(exact hs.elim)|skip
 rename_i el c hu hx;have qv:=bo hJ d t x;rw[hx]at qv;split at hs<;>first|(exact hs.elim)|skip
 rename_i s aT;split at hs
 ·rename_i j l _;split at hs<;>first|(exact hs.elim)|skip
  rename_i s' cut fr es e hj he;split at hs<;>first|(exact hs.elim)|skip
  rename_i ir;have uP:=asb ir;subst uP;obtain⟨⟨z,hz⟩,hs⟩:=hs;obtain⟨eT,a,b,n,m,q,r,h1,h2,h3,rfl,rfl,h4,h5,rfl⟩:=Tu hz
  have hm:m=eT.length:=by
   obtain⟨s0,iQ,h6,h7⟩:=FX h3;rw[h1]at h6;cases h6;simp at h7;omega
  subst hm;have hl:=bo hJ d 3 l;rw[he]at hl;obtain⟨y,y1,y2,_⟩:=hl;have L7:e.den P ν=aa y:=y1;rw[h2]at L7;cases L7;have fP:=bZ y2;obtain⟨s1,sE,r6,sF,z1,gS,b1,b2,b3⟩:=qv;rw[hj]at b1;cases b1;have pJ:es.den P ν=aa (.tree s gS):=b2;rw[h1]at pJ;cases pJ;have Mc:nat? (.raw (.int q (n:Nat)))=aa n:=by simp[nat?]
  have PD:gm (aa (ax (E d) l))=aa (aa n):=by rw[fP];exact PC
  have s6:gm ah=aa ah:=rfl
  have fin:∀x',fm P t (ax (E d) x) (aa (ax (E d) l)) ah ah=aa x'->(Kc φ σ j s cut n eT.length x'\/(n=eT.length/\x'=.emp))->c8 P C Q K ν E V.ln k (bK P E d o σ):=λx' g1 g2=>by
   refine .at (x:=x') hs hJ hn rfl ⟨s,af,cut,fr,es,eT,_,n,hj,h1,h2,Mc,h4,g2⟩ ?_;simp[bK,av,ho,g1,ret]
  rcases b3 with⟨c1,c2,c3⟩|⟨id,cs,ay,mn,cap,c1,c2,c3,c4,c5,c6⟩
  ·have kJ:n=0:=by omega
   subst kJ;rcases c3 with c3|c3
   ·refine fin (.raw (.slice ah 0 0)) ?_ (.inl (.inl ⟨c1,c2,.inl rfl⟩));rw[c3];simp[fm,PD,s6,hu,aT]
   ·refine fin .emp ?_ (.inl (.inl ⟨c1,c2,.inr rfl⟩));rw[c3];simp[fm,PD,s6,hu,aT]
  ·cases cap with
   |none=>
    refine fin (.sl id (n*s) (eT.length- n) ah ay s) ?_ (.inl (.inr ⟨id,cs,ay,mn,ah,c1,c2,rfl,h4,c5,λc hc=>by cases hc⟩));rw[c3];simp[fm,PD,s6,hu,aT,h4]
   |some c=>
    obtain⟨d1,d2,d3⟩:=c6 c rfl;by_cases hc:c=n
    ·refine fin .emp ?_ (.inr ⟨by omega,rfl⟩);rw[c3];simp[fm,PD,s6,hu,aT,h4,hc];omega
    ·refine fin (.sl id (n*s) (eT.length- n) (aa (c- n)) ay s) ?_ (.inl (.inr ⟨id,cs,ay,mn,aa (c- n),c1,c2,rfl,h4,(λh=>by simp at h),λc' xQ=>?_⟩))
     ·rw[c3];have:eT.length<=c:=by omega
      simp[fm,PD,s6,hu,aT,h4,hc,this]
     ·have anX:c- n=c':=by simpa using xQ
      subst anX;refine⟨d1,?_,by omega⟩;have:n*s+(c- n)*s=c*s:=by rw[<-asE];congr 1;omega
      omega
 ·rename_i c lo hi c0 lo0 C4 b0 _;split at hs<;>first|(exact hs.elim)|skip
  rename_i fr z V2 jC;split at hs<;>first|(exact hs.elim)|skip
  rename_i le he hl hh
  have Hv:wD V c=aa (fr,z,V2):=by
   split at jC<;>first|exact jC|cases jC
  obtain⟨R',g1,g2,g3⟩:=Ei hJ Hv;obtain⟨y,g4,g5,_⟩:=g3 _ qv;have xX:ν.length=V2.n:=by rw[g1.2.1];exact hn
  obtain⟨w,w1,w2,w3,w4,w5⟩:=qi g2 xX hs;obtain⟨eT,a,b,l,m,q,r,h1,h2,h3,rfl,rfl,h4,h5,rfl⟩:=Tu w1;rw[g4]at h1;cases h1
  have fB:∀id off len c1 ep s',ax (E d) x=.sl id off len (aa c1) ep s'->len<=c1:=by
   intro id off len c1 ep s' il;split at jC<;>first|(cases jC;done)|skip
   ·obtain⟨y',_,q2,_⟩:=qv;rw[il]at q2;cases q2 with
    |pure _ _ hp=>cases hp
    |sl _ _ _ _ _ _ _ _ _ _ _ hR=>cases hR
   ·obtain⟨_,q2⟩:=qv;rw[il]at q2;split at q2<;>cases q2
   ·obtain⟨s1,sE,r6,sF,z1,gS,b1,b2,⟨_,_,b3|b3⟩|⟨bA,cs,ay,mn,cap,kz,c2,c3,c4,c5,c6⟩⟩:=qv
    ·rw[il]at b3;cases b3
    ·rw[il]at b3;cases b3
    ·rw[il]at c3;cases c3;have:=(c6 c1 rfl).2.2;omega
  have zd:gm (lo.map (ax (E d)))=aa (aa l)\/(gm (lo.map (ax (E d)))=aa ah/\l=0):=by
   refine(I0 hJ hl h2).imp_right λ⟨e1,e2⟩=>⟨e1,?_⟩;subst e2;simp only[SE.den,ar6,IV.raw.injEq,avn]at h2;have:=h2.2;omega
  have Xu:gm (hi.map (ax (E d)))=aa (aa m)\/(gm (hi.map (ax (E d)))=aa ah/\m=eT.length):=by
   refine(I0 hJ hh h3).imp_right λ⟨e1,e2⟩=>⟨e1,?_⟩;subst e2;obtain⟨s0,iQ,h6,h7⟩:=FX h3;rw[g4]at h6;cases h6;simp at h7;omega
  obtain⟨x',k1,k2⟩:=g5.part (t:=t) (el:=el) hu aT h4 h5 fB zd Xu;refine⟨x',σ,R',φ,.one (.w fr (.var V2.n)),{V2 with n:=V2.n+1},[.tree s ((eT.take m).drop l)],?_,w4,⟨_,w3,k2,rfl⟩,w5,g1.2.2.1,w2⟩;simp[bK,av,ho,k1,ret]
end Go.Ev
namespace Go.Ev
variable{P:Program}{N:Nat}{σ ao:St}{R R':Rs}{φ aL:Ph}{E:Nat->Env}{ν:List IV}
variable{C:Cr}{Q:IV->Prop}{K:List (List IV->Prop)}{V:SS}{d:Nat}{o:Oper}{k:PV SE->SS->ak}{L:List (LO SE)}{Γ:Gm SE}
theorem aes{s:Nat}{e lo x:SE}{z:IV}(h:(SE.OV s e lo x).den P ν=aa z):∃(es:List IV) (a:IV) (n:Nat) (q:IntKind) (y:IV),e.den P ν=aa (.tree s es)/\lo.den P ν=aa a/\a=.raw (.int q n)/\x.den P ν=aa y/\n<=es.length/\(cellsOf y).length=s/\z=.tree s (es.take n++asr (es.length- n) y):=by
 simp only[SE.den,aso]at h;obtain⟨x,h1,a,h2,b,h3,h4⟩:=h;unfold X7 at h4;split at h4<;>first|(cases h4;done)|skip
 rename_i s1 es;split at h4<;>first|(cases h4;done)|skip
 rename_i l hl;split at h4<;>first|(cases h4;done)|skip
 rename_i hc;obtain⟨rfl,h5,h6,h7⟩:=hc;cases h4;obtain⟨q,rfl⟩:=Ci hl;exact⟨es,_,l.toNat,q,b,h1,h2,by rw[auH h5],h3,h6,h7,rfl⟩
theorem KH{y:IV}(n:Nat):flat (asr n y)=(asr n (cellsOf y)).flatten:=by
 induction n with
 |zero=>rfl
 |succ n ih=>simp[flat,aug]at ih⊢;exact ih
theorem Au{α:Type}{c:List α}{s:Nat}(hl:c.length=s):∀{n i:Nat},i<n*s->∀x,((asr n c).flatten)[i]?=aa x->c[i % s]?=aa x
 |0,i,h,_,_=>by simp at h
 |n+1,i,h,x,hx=>by
  rw[aug,List.flatten_cons]at hx;by_cases hi:i<s
  ·rw[asd (by omega)]at hx;rw[Nat.mod_eq_of_lt hi];exact hx
  ·rw[asz (by omega),hl]at hx;rw[asE]at h;have:=Au hl (n:=n) (i:=i- s) (by omega) x hx;rw[Nat.mod_eq_sub_mod (by omega)];exact this
theorem Yo(hJ:J (au P ν) R φ V.g V.l E σ){c:Call}{pv:PV SE}(h:ib P d V c.args.toList c.argTypes.toList=[pv]):∃x,c.args.toList.map (ax (E d))=[x]/\VR (au P ν) R φ V.l σ x pv:=by
 have ha:=fL hJ d c.args.toList c.argTypes.toList;rw[h]at ha;exact kQ ha
theorem Yp{c:Call}(hJ:J (au P ν) R φ V.g V.l E σ)(hn:ν.length=V.n)(ho:o.op=.call c)(hc:c.callee=.builtin .clear)(hs:(f_ P d o V k).sat P C Q K ν):c8 P C Q K ν E V.ln k (bK P E d o σ):=by
 unfold f_ at hs;rw[ho]at hs;simp only[hc]at hs;unfold X3 at hs;split at hs<;>first|(exact hs.elim)|skip
 rename_i et j lo hu br;split at hs<;>first|(exact hs.elim)|skip
 rename_i s cut fr es z0 hj mV;split at hs<;>first|(exact hs.elim)|skip
 rename_i bP;simp only[ar4,asL,asK]at bP;obtain⟨⟨⟨aT,Dg⟩,Yc⟩,Tj⟩:=bP;split at hs<;>first|(exact hs.elim)|skip
 rename_i f zs V2 jC;split at hs<;>first|(exact hs.elim)|skip
 rename_i kb;have zg:=Po kb;obtain⟨x,hx,qv⟩:=Yo hJ br;obtain⟨R',ct,eU,arT,Hv⟩:=uL hJ jC;have abc:=ct.LQ (x:=x) (c:=.sv j lo) qv;obtain⟨s',lG,uF,c7,z',aF,y,n,a1,a2,a3,a4,a5,a6⟩:=abc;rw[zg]at a1;cases a1;obtain⟨bE,gS,g1,g2,g3⟩:=eU.obj j _ zg;have sH:es.den P ν=aa (.tree s aF):=a2;have na:es.den P ν=aa (.tree s gS):=g1;rw[sH]at na;cases na;have Gr:=mL (P:=P) (ν:=ν) (R:=R) (φ:=φ) (L:=V.l) (σ:=σ) mV;obtain⟨ys,b1,b2,b3⟩:=Hv _ Gr;have Pp:(z0.cells.toList.map IV.raw).length=s:=by simp[aT]
 have GJ:ys.length=s:=by rw[<-b2.len];exact Pp
 obtain⟨ze,Yd,anY⟩:∃ze,(if isAgg P et=ab then dT zs else zs.headD .an).den P ν=aa ze/\cellsOf ze=ys:=by
  split
  ·exact⟨_,eB b1,rfl⟩
  ·rename_i Xt;have dC:s=1:=Dg.resolve_left Xt;have Pq:ys.length=1:=by omega
   obtain⟨y0,rfl⟩:=au5.1 Pq;obtain⟨z1,rfl⟩:=au5.1 (b1.len.trans Pq);refine⟨y0,b1.1,?_⟩;have:Ev.aj y0=ab:=by simpa using b3
   cases y0<;>first|rfl|(simp[Ev.aj]at this;done)
 have xX:ν.length=V2.n:=by rw[ct.2.1];exact hn
 obtain⟨anO,IS,hk,ig,ux,acY⟩:=qi eU xX hs;obtain⟨L4,a,n',q,y',c1,c2,rfl,c3,c4,c5,rfl⟩:=aes IS;rw[sH]at c1;cases c1;rw[Yd]at c3;cases c3;have a3':lo.den P ν=aa y:=a3;rw[c2]at a3';cases a3'
 have Mc:n'=n:=by
  simp[nat?]at a4;exact a4
 subst Mc
 let I1:=aF.take n'++asr (aF.length- n') ze
 have hl4:I1.length=aF.length:=by simp[I1];omega
 have anZ:∀e∈I1,(cellsOf e).length=s:=λe he=>by
  rcases List.mem_append.1 he with he|he
  ·exact g2 e (atA he)
  ·rw[atg he];exact c5
 have same:n'=aF.length->av P 0 (ax (E d)) o σ=aa (.val .undef σ)->c8 P C Q K ν E V.ln k (bK P E d o σ):=by
  intro Ib eh;have h4:I1=aF:=by simp[I1,Ib]
  obtain⟨_,Ye⟩:=ux.reZ (c7:=fr||f) (k:=j) zg (SE.cU P es sH) (by rw[ig];show aa (IV.tree s I1)=_;rw[h4]) (λh=>by simp[h]);exact⟨.undef,σ,R',φ,.one .un,({V2 with n:=V2.n+1}:SS).setObj j (.row s af cut (fr||f) (.var V2.n)),[.tree s I1],eh,Ye,trivial,acY,ct.2.2.1,hk⟩
 have Yq:∀x0,x=x0->(x0=.raw (.slice ah 0 0)\/x0=.emp)->av P 0 (ax (E d)) o σ=aa (.val .undef σ):=by
  intro x0 h1 h2;subst h1;simp only[av,ho,hc,hx];rcases h2 with rfl|rfl<;>simp[dB,sR,hu,ret]
 rcases a6 with(⟨e1,e2,e3⟩|⟨id,cs,ay,mn,cap,e1,e2,e3,e4,e5,e6⟩)|⟨e1,e2⟩
 ·exact same (by omega) (Yq _ rfl e3)
 ·by_cases hz:aF.length- n'=0
  ·refine same (by omega) ?_;simp only[av,ho,hc,hx,e3];simp[dB,sR,hu,ret,hz]
  ·rcases g3 with⟨g3,_⟩|⟨bA,cx,iC,pw,g3,g4,g5,g6,g7,g8,g9⟩
   ·rw[e1]at g3;cases g3
   rw[e1]at g3;cases g3;rw[e2]at g4;cases g4;have Pz:gI (z0.cells.toList.map IV.raw) ((aF.length- n')*s)=(asr (aF.length- n') (z0.cells.toList.map IV.raw)).flatten:=Cn Pp bE _;have dV:(gI (z0.cells.toList.map IV.raw) ((aF.length- n')*s)).length=(aF.length- n')*s:=by rw[Pz];exact vy Pp _
   have wo:(z0.cells.toList.map IV.raw).all Ev.aj=ab:=p_ Gr Yc
   have bz:(gI (z0.cells.toList.map IV.raw) ((aF.length- n')*s)).all Ev.aj=ab:=by
    rw[Pz,asl];intro u y8;obtain⟨l,qY,eR⟩:=auE.1 y8;rw[atg qY]at eR;exact asl.1 wo u eR
   have U9:n'*s+(aF.length- n')*s=aF.length*s:=by rw[<-asE];congr 1;omega
   have Wr:flat I1=(flat aF).take (n'*s)++(asr (aF.length- n') ys).flatten:=by
    show flat (aF.take n'++_)=_;rw[Cj,KH,anY]
    congr 1
    have h1:flat aF=flat (aF.take n')++flat (aF.drop n'):=by rw[<-Cj,List.take_append_drop]
    have h2:(flat (aF.take n')).length=n'*s:=by rw[nD (s:=s) λe he=>g2 e (atA he),atz,Nat.min_eq_left (by omega)]
    rw[h1,<-h2,List.take_left'];rfl
   have Ye:=ux.Yb (c7:=fr||f) (z':=.var V2.n) (cx:=dw cs (n'*s) (gI (z0.cells.toList.map IV.raw) ((aF.length- n')*s))) e1 zg e2 (tW (by rw[dV];omega)) (SE.cU P es sH) ig hl4 anZ
    (xj g8 bz)
    (λp u v hu hv=>by
     rw[mO (α:=IV) (by omega)]at hu;rw[dV]at hu;rw[Wr]at hv
     have vX:((flat aF).take (n'*s)).length=n'*s:=by
      rw[atz,nD g2];omega
     by_cases hp:n'*s<=p/\p<n'*s+(aF.length- n')*s
     ·rw[if_pos hp,Pz]at hu;rw[asz (by omega),vX]at hv;have q1:=Au Pp (by omega) _ hu;have q2:=Au GJ (by omega) _ hv;exact(b2.get q1 q2).wide (λh=>by simp[h])
     ·rw[if_neg hp]at hu
      have qV:p<n'*s:=by
       by_cases h:p<n'*s
       ·exact h
       ·exfalso;have h1:=(ar3.1 hv).1;rw[List.length_append,vX,vy GJ]at h1;omega
      rw[asd (by omega),asD,if_pos qV]at hv;exact(g9 p u v hu hv).wide (λh=>by simp[h]))
   refine⟨.undef,σ.put id (.cells (dw cs (n'*s) (gI (z0.cells.toList.map IV.raw) ((aF.length- n')*s))) ay ay),R',φ,.one .un,({V2 with n:=V2.n+1}:SS).setObj j (.row s af cut (fr||f) (.var V2.n)),[.tree s I1],?_,Ye,trivial,acY,ct.2.2.1,hk⟩;simp only[bK,av,ho,hc,hx,e3];simp only[dB,sR,hu,mV,e2,if_neg hz];rw[if_pos ⟨by omega,aT,bz,asT _,trivial,by omega⟩];rfl
 ·exact same e1 (Yq _ rfl (.inr e2))
theorem xE(hJ:J (au P ν) R φ V.g V.l E σ){x:IV}{pv:PV SE}{e:SE}(h:uG pv=aa e)(hx:VR (au P ν) R φ L σ x pv):∀y,e.den P ν=aa y->bn ab R σ x y:=by
 intro y hy;unfold uG at h;split at h<;>cases h
 ·obtain⟨u,h1,h2,_⟩:=hx;have cZ:e.den P ν=aa u:=h1;rw[hy]at cZ;cases cZ;exact h2.mono hJ.A7
 ·obtain⟨u,h1,h2,_⟩:=hx;have cZ:e.den P ν=aa u:=h1;rw[hy]at cZ;cases cZ;exact h2.cH
theorem Yr{t:TypeId}{x ix:Operand}(hJ:J (au P ν) R φ V.g V.l E σ)(hn:ν.length=V.n)(ho:o.op=.index t x ix)(hs:(f_ P d o V k).sat P C Q K ν):c8 P C Q K ν E V.ln k (bK P E d o σ):=by
 unfold f_ at hs;rw[ho]at hs;simp only at hs;split at hs<;>first|(exact hs.elim)|skip
 rename_i a b hu ha hb;have PE:=xE hJ ha (bo hJ d t x);have hxb:=xE hJ hb (bo hJ d 0 ix);obtain⟨⟨z,hz⟩,hk⟩:=hs;have mV:=hz;simp only[SE.den,aso]at hz;obtain⟨u,h1,v,h2,h3⟩:=hz;split at h3<;>first|(cases h3;done)|skip
 rename_i q kd n;split at h3<;>first|(cases h3;done)|skip
 rename_i kJ;rw[ar9]at h3;obtain⟨c,h4,rfl⟩:=h3;exact .at (x:=.raw (.int .u8 c.toNat)) hk hJ hn rfl ⟨_,mV,.raw _,rfl⟩ (by unfold bK av;rw[ho];simp only[hu,bZ (PE _ h1),bZ (hxb _ h2),if_pos kJ,h4];rfl)
theorem Ep{a b:IV}{vs:List Value}(h:gl [a,b]=aa vs):∃u v,a=.raw u/\b=.raw v:=by
 cases a<;>simp[gl]at h;cases b<;>simp at h;exact⟨_,_,rfl,rfl⟩
theorem Ys{c:Call}{Ec:Bool}{bi:Builtin}(hb:(bi=.max/\Ec=ab)\/(bi=.min/\Ec=af))(hJ:J (au P ν) R φ V.g V.l E σ)(hn:ν.length=V.n)(ho:o.op=.call c)(hc:c.callee=.builtin bi)(hs:(mxS Ec (ib P d V c.args.toList c.argTypes.toList) V k).sat P C Q K ν):c8 P C Q K ν E V.ln k (bK P E d o σ):=by
 unfold mxS at hs;split at hs<;>first|(exact hs.elim)|skip
 rename_i pa pb br;split at hs<;>first|(exact hs.elim)|skip
 rename_i a b ha si;have bz:=fL hJ d c.args.toList c.argTypes.toList;rw[br]at bz;obtain⟨x,y,Tv,hx,hy⟩:=Hw bz;have PE:=xE hJ ha hx;have hxb:=xE hJ si hy;obtain⟨⟨z,hz⟩,hk⟩:=hs;obtain⟨h1,bp⟩:=pF hz;simp only[SE.den,aso]at h1;obtain⟨w,⟨u,h2,v,h3,h4⟩,h5⟩:=h1;split at h5<;>cases h5;rename_i dO
 have ajU:∃u' v',u=.raw u'/\v=.raw v':=by
  cases Ec with
  |true=>
   simp only[if_true]at h4;unfold JW at h4;split at h4
   ·exact Ep ‹_›
   ·cases h4
  |false=>
   simp only[asA,if_false]at h4;unfold NS at h4;split at h4
   ·exact Ep ‹_›
   ·cases h4
 obtain⟨u',v',rfl,rfl⟩:=ajU;have il:=bZ (PE _ h2);have hy':=bZ (hxb _ h3);subst il hy'
 have hzr:iD z z:=by
  cases z<;>simp only[aA]at dO<;>first|(cases dO;done)|skip
  exact .raw _
 refine .here (pv:=.one (.v (.ok (.rw (.mx Ec a b))))) (x:=z) ?_ hJ ⟨z,hz,hzr,bp⟩ hn rfl hk;rcases hb with⟨rfl,rfl⟩|⟨rfl,rfl⟩
 ·simp only[if_true]at h4;simp[bK,av,ho,hc,dB,Tv,h4]
 ·simp only[asA,if_false]at h4;simp[bK,av,ho,hc,dB,Tv,h4]
theorem abp{t:TypeId}(h:isStr P t=ab):P.underlying t=aa .string:=by
 unfold isStr at h;split at h
 ·assumption
 ·cases h
theorem Ws{t:TypeId}{x:Operand}{lo hi mx:Option Operand}(hJ:J (au P ν) R φ V.g V.l E σ)(hn:ν.length=V.n)(ho:o.op=.slice t x lo hi mx)(hu:P.underlying t=aa .string)(hs:(Ho P d (bN P d V t x) lo hi mx V k).sat P C Q K ν):c8 P C Q K ν E V.ln k (bK P E d o σ):=by
 unfold Ho at hs;split at hs<;>first|(exact hs.elim)|skip
 rename_i a ha;split at hs<;>first|(exact hs.elim)|skip
 rename_i l h hl hh;obtain⟨z,hz,hs⟩:=hs;have PE:=xE hJ ha (bo hJ d t x);have mV:=hz;simp only[SE.den,aso]at hz;obtain⟨u,h1,b,h2,c,h3,h4⟩:=hz;split at h4<;>first|(cases h4;done)|skip
 rename_i q lv hv e1 e2;split at h4<;>first|(cases h4;done)|skip
 rename_i hc;cases h4
 have hint:∀{w:IV} {n:Int},gh w=aa n->0<=n->∃k,w=.raw (.int k (n.toNat:Nat)):=by
  intro w n h h0;unfold gh at h;split at h
  ·cases h;exact⟨_,by rw[auH h0]⟩
  ·cases h
 obtain⟨k1,rfl⟩:=hint e1 hc.1;obtain⟨k2,rfl⟩:=hint e2 hc.2.2.1
 have n1:gm (lo.map (ax (E d)))=aa (aa lv.toNat)\/(gm (lo.map (ax (E d)))=aa ah/\lv.toNat=0):=by
  rcases I0 hJ hl h2 with g|⟨g,rfl⟩
  ·exact .inl g
  ·refine .inr ⟨g,?_⟩;simp only[SE.den,ar6,IV.raw.injEq,avn]at h2;omega
 have n2:gm (hi.map (ax (E d)))=aa (aa hv.toNat)\/(gm (hi.map (ax (E d)))=aa ah/\hv.toNat=q.size):=by
  rcases I0 hJ hh h3 with g|⟨g,rfl⟩
  ·exact .inl g
  ·refine .inr ⟨g,?_⟩;simp only[SE.den,h1,asa,xC,IV.int,ar6,IV.raw.injEq,avn]at h3;omega
 have hx:=bZ (PE _ h1);have s6:gm ah=aa ah:=rfl;have bD:=hJ.up (ia:=au P (ν++[.raw (.string ⟨((q.data.toList.drop lv.toNat).take (hv.toNat- lv.toNat)).toArray⟩)])) (λe y h=>SE.cU P e h);refine⟨.raw (.string ⟨((q.data.toList.drop lv.toNat).take (hv.toNat- lv.toNat)).toArray⟩),σ,R,φ,.one (.v (.var V.n)),{V with n:=V.n+1},[_],?_,bD,⟨_,by simp[au,SE.den,<-hn],.raw _,rfl⟩,by simp[hn],rfl,hs⟩
 have aT:fm P t (.raw (.string q)) (lo.map (ax (E d))) (hi.map (ax (E d))) ah=aa (.raw (.string ⟨((q.data.toList.drop lv.toNat).take (hv.toNat- lv.toNat)).toArray⟩)):=by
  rcases n1 with g1|⟨g1,g2⟩<;>rcases n2 with g3|⟨g3,g4⟩
  ·simp[fm,g1,g3,s6,hu,hc.2.1,hc.2.2.2]
  ·simp[fm,g1,g3,s6,hu,g4];rw[<-g4];have:=hc.2.1;omega
  ·simp[fm,g1,g3,s6,hu,g2,hc.2.2.2]
  ·simp[fm,g1,g3,s6,hu,g2,g4]
 simp[bK,av,ho,hx,aT,ret]
theorem Yt{t:TypeId}{x:Operand}(hJ:J (au P ν) R φ V.g V.l E σ)(hn:ν.length=V.n)(ho:o.op=.range t x)(hs:(f_ P d o V k).sat P C Q K ν):c8 P C Q K ν E V.ln k (bK P E d o σ):=by
 unfold f_ at hs;rw[ho]at hs;simp only at hs;split at hs<;>first|(exact hs.elim)|skip
 ·rename_i a hu ha;have PE:=xE hJ ha (bo hJ d t x);obtain⟨⟨z,hz⟩,hk⟩:=hs;simp only[SE.den,aso]at hz;obtain⟨u,h1,h2⟩:=hz
  have hb:∃ba,u=.raw (.string ba):=by
   unfold xC at h2;split at h2
   ·exact⟨_,rfl⟩
   ·cases h2
  obtain⟨ba,rfl⟩:=hb;have hv:=bZ (PE _ h1);have bD:=hJ.yf (.pY ba 0) (.mp 0 (.tp (.ac a (.ac (.i 0) .an)))) (by rw[gL,if_pos (show gB 0=ab from rfl)];exact .inl ⟨rfl,σ.n,ba,0,by simp[au,SE.den,h1],by simp[bV],hJ.q6,by simp⟩);refine .at (x:=.ptr σ.n 0 0 1) (V1:={V with l:=V.l++[.mp 0 (.tp (.ac a (.ac (.i 0) .an)))]}) hk bD hn rfl ⟨σ.n,0,SE.tp (.ac a (.ac (.i 0) .an)),by simp[bV],by simp,rfl⟩ ?_;simp[bK,av,ho,hu,hv,ret]
 ·rename_i _ _ _ _ hu;have pI:=bo hJ d t x;split at hs<;>first|(exact hs.elim)|skip
  rename_i m hm;rw[hm]at pI;split at hs<;>first|(exact hs.elim)|skip
  rename_i kt iQ hj;split at hs
  ·exact hs.elim
  rename_i jQ;simp only[asL,asR,not_or,Bool.not_eq_false]at jQ;obtain⟨dW,ai⟩:=jQ;have ai:m<1000000:=by simpa using ai
  obtain⟨_,hk⟩:=hs;obtain⟨id,lL,gS,g1,g2,g3⟩:=pI;rw[hj]at g2;cases g2;rw[if_neg dW]at g3;have dz:=hJ.obj m _ hj;rw[gL,if_neg dW]at dz;obtain⟨bA,es,clock,ds,c1,c2,c3,c4,c5,c6⟩:=dz;rw[g1]at c2;cases c2;have kz:iQ.den P ν=aa (.az ds):=c1;have hlen:es.length=ds.length:=All2.len c5;have ags:((t+1)*1000000+m) % 1000000=m:=afW t m ai;have hit:gB ((t+1)*1000000+m)=ab:=D7 (acJ t m);have Dz:m<V.l.length:=(ar3.1 hj).1
  have bD:=hJ.yf (.jz (aa id) clock [] clock) (.mp ((t+1)*1000000+m) (.tp (.ac iQ (.ac iQ .an)))) (by
   rw[gL,if_pos hit];refine .inr ⟨acJ t m,σ.n,id,ds,[],ds,[],by simp[au,SE.den,kz],by simp[bV],hJ.q6,⟨kt,iQ,by rw[ags,asd Dz];exact hj⟩,by rw[ags];simp[bV,show m≠V.l.length by omega,g1],?_,by simp,Left.init ds,.inl rfl⟩;have:=c6.1;simp[this,hlen])
  refine .at (x:=.ptr σ.n 0 0 1) (V1:={V with l:=V.l++[.mp ((t+1)*1000000+m) (.tp (.ac iQ (.ac iQ .an)))]}) hk bD hn rfl ⟨σ.n,(t+1)*1000000+m,SE.tp (.ac iQ (.ac iQ .an)),by simp[bV],by simp,(if_pos hit).symm⟩ ?_;simp[bK,av,ho,hu,g3,c4,ret]
theorem Tw(hJ:J (au P ν) R φ V.g V.l E σ){t:TypeId}{e:SE}{x y:IV}(hy:e.den P ν=aa y)(hx:bn ab R σ x y){k:ak}(hs:(IA P t e k).sat P C Q K ν):tq (au P ν) R φ V.l σ x (VO P t e)/\k.sat P C Q K ν:=by
 unfold IA at hs;unfold VO;split at hs
 ·rename_i ha;rw[if_pos ha];obtain⟨⟨z,hz⟩,hk⟩:=hs;refine⟨?_,hk⟩;simp only[SE.den,hy,asa]at hz;split at hz<;>first|(cases hz;done)|skip
  rename_i cs;split at hz
  ·rename_i hc;obtain⟨xs,rfl,iR⟩:=Co hx;refine⟨xs,rfl,.mk (by simp[iR.len,hc.1]) λi a b h1 h2=>?_⟩;have hi:=(ar3.1 h1).1;rw[iR.len]at hi;rw[asi,auL (by rw[<-hc.1];exact hi)]at h2;simp only[asy,ar6]at h2;subst h2;have Md:cs[i]?=aa cs[i]:=ar2 hi;have bp:Ev.aj cs[i]=ab:=(asl.1 hc.2) _ (ar5 hi);exact⟨cs[i],by simp[au,SE.den,hy,Md,yo,bp],iR.get h1 Md,bp⟩
  ·cases hz
 ·rename_i ha;rw[if_neg ha];split at hs
  ·rename_i qz;rw[if_pos qz];obtain⟨⟨z,hz⟩,hk⟩:=hs;refine⟨?_,hk⟩;obtain⟨mP,KC⟩:=pF hz;simp only[SE.den,hy,asa]at mP;split at mP
   ·rename_i hr;cases mP;cases y<;>simp only[aA]at hr<;>first|(cases hr;done)|skip
    rename_i u;have:=bZ hx;subst this;exact⟨_,rfl,.raw u,hz,.raw u,KC⟩
   ·cases mP
  ·rename_i qz;rw[if_neg qz];obtain⟨⟨z,hz⟩,hk⟩:=hs;refine⟨?_,hk⟩;obtain⟨mP,KC⟩:=pF hz;rw[hy]at mP;cases mP;exact⟨_,rfl,_,hz,hx,KC⟩
theorem abq(v:Value):bn ab R σ (lift v) (lift v):=by
 unfold lift;split
 ·exact .pure _ rfl (.agg _ λc hc=>by obtain⟨v,_,rfl⟩:=List.mem_map.1 hc;exact .raw v)
 all_goals exact .raw _
theorem Yu{it:Operand}(hJ:J (au P ν) R φ V.g V.l E σ)(hn:ν.length=V.n)(ho:o.op=.entry it)(hs:(f_ P d o V k).sat P C Q K ν):c8 P C Q K ν E V.ln k (bK P E d o σ):=by
 unfold f_ at hs;rw[ho]at hs;simp only at hs;unfold X4 at hs;have pI:=bo hJ d 0 it;split at hs<;>first|(exact hs.elim)|skip
 rename_i j hm;rw[hm]at pI;split at hs<;>first|(exact hs.elim)|skip
 rename_i kt x hj;split at hs
 rotate_left
 ·exact hs.elim
 rename_i hle;have hle:1000000<=kt:=by simpa using hle
 split at hs<;>first|(exact hs.elim)|skip
 rename_i lL iQ kt1 et Yv hu;split at hs
 ·exact hs.elim
 rename_i dW;obtain⟨mj,r,d1,d2,hs⟩:=hs;have hit:gB kt=ab:=D7 hle;obtain⟨id,kt3,x3,g1,g2,g3⟩:=pI;rw[hj]at g2;cases g2;rw[if_pos hit]at g3;have dz:=hJ.obj j _ hj;rw[gL,if_pos hit]at dz;rcases dz with⟨h0,_⟩|⟨_,bA,m,ds,seen,rem,rest,e1,e2,e3,e4,e5,e6,e7,e8,e9⟩
 ·exact(acK hle h0).elim
 rw[g1]at e2;cases e2;have cY:x.den P ν=aa (.az (.az ds::.az rem::rest)):=e1;rw[cY]at d2;have I2:ds=mj:=by simp only[ar6,IV.az.injEq,as4]at d2;exact d2.1
 subst I2;have PF:=hJ.obj _ _ Yv;rw[gL,if_neg dW]at PF;obtain⟨id2,es,clock,Tx,c1,c2,c3,c4,c5,c6⟩:=PF;rw[e5]at c2;cases c2;have kz:iQ.den P ν=aa (.az Tx):=c1;rw[kz]at d1;have I2:ds=Tx:=by simp only[ar6,IV.az.injEq]at d1;exact d1.symm
 subst I2;have hlen:es.length=ds.length:=All2.len c5;rcases e9 with rfl|⟨i,last,rfl,f1,f2⟩
 ·unfold IA at hs;exfalso;have hp:(SE.proj (.proj x 2) 0).den P ν=ah:=by simp[SE.den,cY]
  split at hs
  ·obtain⟨⟨z,hz⟩,_⟩:=hs;simp[SE.den,cY]at hz
  ·split at hs
   ·obtain⟨⟨z,hz⟩,_⟩:=hs;simp[SE.den,cY]at hz
   ·obtain⟨⟨z,hz⟩,_⟩:=hs;simp[SE.den,cY]at hz
 ·have hi:i<es.length:=by rw[hlen];exact(ar3.1 f2).1
  have s7:es[i]?=aa es[i]:=ar2 hi;obtain⟨z,h1,h2⟩:=All2.get c5 s7 f2;subst h1;have hp0:(SE.proj (.proj x 2) 0).den P ν=aa (lift es[i].1):=by simp[SE.den,cY]
  have lE:(SE.proj (.proj x 2) 1).den P ν=aa z:=by simp[SE.den,cY]
  obtain⟨v1,hs⟩:=Tw hJ hp0 (abq _) hs;obtain⟨v2,hs⟩:=Tw hJ lE h2 hs;refine .here (pv:=.tu [_,_]) (x:=.az [lift es[i].1,es[i].2.1]) ?_ hJ ⟨_,rfl,v1,v2,trivial⟩ hn rfl hs
  have hf:es.find? (λe=>e.2.2==i)=aa es[i]:=by
   rw[List.find?_eq_some_iff_getElem];refine⟨by simp[c6.2 i _ s7],i,hi,rfl,λq hq=>?_⟩;have:=c6.2 q es[q] (ar2 (by omega));simp[this];omega
  have dV:clock=ds.length:=by rw[<-hlen];exact c6.1
  simp[bK,av,ho,g3,e6,c4,f1,hf,dV,ret]
theorem Yw(hJ:J (au P ν) R φ V.g V.l E σ)(hn:ν.length=V.n){j id:Nat}{iQ:SE}(hj:V.l[j]?=aa (.mp 0 iQ)){ba:ByteArray}{p p':Nat}(kO:φ j=aa id)(hR:R id=ah)(aE:σ.at id=aa (.pY ba p)):
 J (au P (ν++[.az [.raw (.string ba),.raw (.int .i64 (p':Nat))]])) R φ V.g (V.l.set j (.mp 0 (.var V.n))) E (σ.put id (.pY ba p')):=by
 have bD:=hJ.up (ia:=au P (ν++[.az [.raw (.string ba),.raw (.int .i64 (p':Nat))]])) (λe y h=>SE.cU P e h)
 exact(bD.tv (R':=R) (bad:=λ_=>False) (jY:=.mp 0 (.var V.n)) (eK:=.pY ba p') kO hj (λ_ _=>rfl)
  (λm hm=>by rw[hR]at hm;cases hm) (λm _ _ _ hm=>by rw[hR]at hm;cases hm) (λm _ _ _ hm=>by rw[hR]at hm;cases hm)
  (λ_ h=>by cases h) (λ_ _ _=>by rename_i h;cases h;exact⟨_,rfl⟩) (λ_ _ _ _ _ h=>by cases h) (λ_ _ pv _=>pv.a_) (λ_ o _ _=>o.a_)
  (λdC=>by rw[gL,if_pos (show gB 0=ab from rfl)];exact .inl ⟨rfl,id,ba,p',by simp[au,SE.den,<-hn],kO,hR,by rw[St.cV,if_pos rfl]⟩)).2
theorem abr{it:Operand}(hJ:J (au P ν) R φ V.g V.l E σ)(hn:ν.length=V.n)(ho:o.op=.next it ab)(hs:(f_ P d o V k).sat P C Q K ν):c8 P C Q K ν E V.ln k (bK P E d o σ):=by
 unfold f_ at hs;rw[ho]at hs;simp only at hs;split at hs<;>first|(exact hs.elim)|skip
 rename_i j hm;split at hs<;>first|(exact hs.elim)|skip
 rename_i kt es hj;split at hs<;>first|(exact hs.elim)|skip
 rename_i jQ;have yD:=asb jQ;subst yD;have pI:=bo hJ d 0 it;rw[hm]at pI;obtain⟨id,lL,gS,g1,g2,g3⟩:=pI;rw[hj]at g2;cases g2;rw[if_pos (show gB 0=ab from rfl)]at g3;have dz:=hJ.obj j _ hj;rw[gL,if_pos (show gB 0=ab from rfl)]at dz;rcases dz with⟨_,bA,ba,p,c1,c2,c3,c4⟩|⟨h0,_⟩
 rotate_left
 ·exact absurd h0 (by decide)
 rw[g1]at c2;cases c2;have kz:es.den P ν=aa (.az [.raw (.string ba),.raw (.int .i64 (p:Nat))]):=c1
 have hd:∀w,(SE.dec w (.proj es 0) (.proj es 1)).den P ν=lX w (.raw (.string ba)) (.raw (.int .i64 (p:Nat))):=by
  intro w;simp[SE.den,kz]
 rcases hs with⟨h0,hs⟩|⟨h0,hs⟩
 ·rw[hd]at h0;simp[lX]at h0;obtain⟨z,hz,hs⟩:=hs
  have pE:z=.az [.raw (.string ba),.raw (.int .i64 ((p+(atS ba p).2:Nat):Nat))]:=by
   have:=hd 2;simp only[SE.den]at this hz;rw[this]at hz;simp[kz,lX]at hz;rw[<-hz];simp
  subst pE;have eU:=Yw (p':=p+(atS ba p).2) hJ hn hj g1 c3 c4;have e1:(SE.proj es 1).den P (ν++[.az [.raw (.string ba),.raw (.int .i64 ((p+(atS ba p).2:Nat):Nat))]])=aa (.raw (.int .i64 (p:Nat))):=SE.cU P _ (by simp[SE.den,kz]);have e2:(SE.dec 1 (.proj es 0) (.proj es 1)).den P (ν++[.az [.raw (.string ba),.raw (.int .i64 ((p+(atS ba p).2:Nat):Nat))]])=aa (.raw (.int .i32 (atS ba p).1)):=SE.cU P _ (by rw[hd];simp[lX]);refine⟨.az [.bool ab,.raw (.int .i64 (p:Nat)),.raw (.int .i32 (atS ba p).1)],_,R,φ,.tu [(af,[.v (.b ab)]),(af,[.v (.proj es 1)]),(af,[.v (.dec 1 (.proj es 0) (.proj es 1))])],{V with n:=V.n+1,l:=V.l.set j (.mp 0 (.var V.n))},[_],?_,eU,⟨_,rfl,⟨_,rfl,.raw (.bool ab),rfl,.raw _,rfl⟩,⟨_,rfl,_,e1,.raw _,rfl⟩,⟨_,rfl,_,e2,.raw _,rfl⟩,trivial⟩,by simp[hn],rfl,hs⟩;simp[bK,av,ho,g3,c4,h0,ret]
 ·rw[hd]at h0;simp[lX]at h0;refine .here (pv:=.tu [(af,[.v (.b af)])]) (x:=.az [.bool af]) ?_ hJ ⟨_,rfl,⟨_,rfl,.raw (.bool af),rfl,.raw _,rfl⟩,trivial⟩ hn rfl hs;have:¬p<ba.size:=by omega
  simp[bK,av,ho,g3,c4,this,ret]
theorem ajV{x z:IV}{b:Bool}(h:lX 7 x (.raw (.bool b))=aa z):∃q c,x=.raw (.int q c)/\0<=c/\c<=1000000:=by
 unfold lX at h;split at h
 ·rename_i heq;exact absurd heq (by simp)
 ·split at h
  ·rename_i hc;exact⟨_,_,rfl,hc.2⟩
  ·cases h
 ·simp at h
 ·cases h
theorem PG(hJ:J (au P ν) R φ V.g V.l E σ){x:IV}{pv:PV SE}{e:SE}(hx:VR (au P ν) R φ V.l σ x pv)(h:uG pv=aa e):∃y,e.den P ν=aa y/\bn ab R σ x y:=by
 unfold uG at h;split at h<;>first|(cases h;done)|skip
 ·cases h;obtain⟨y,h1,h2,_⟩:=hx;exact⟨y,h1,h2.mono hJ.A7⟩
 ·cases h;obtain⟨y,h1,h2,_⟩:=hx;exact⟨y,h1,h2.cH⟩
theorem Yx{t:TypeId}{l c:Operand}(hJ:J (au P ν) R φ V.g V.l E σ)(hn:ν.length=V.n)(ho:o.op=.makeSlice t l c)(hs:(VN P d t l c V k).sat P C Q K ν):c8 P C Q K ν E V.ln k (bK P E d o σ):=by
 unfold VN at hs;split at hs<;>first|(exact hs.elim)|skip
 rename_i el ce hu hl hc;split at hs<;>first|(exact hs.elim)|skip
 rename_i s z bytes aT vW L6;split at hs<;>first|(exact hs.elim)|skip
 rename_i bP;simp only[ar4,asR]at bP;obtain⟨⟨⟨h1,h2⟩,h3⟩,h4⟩:=bP;have zk:=asb h2;have IP:bytes<=1000000:=by simpa using h3
 have bE:0<s:=by
  rcases Nat.eq_zero_or_pos s with h|h
  ·subst h;simp at h1
  ·exact h
 obtain⟨⟨u,yE⟩,hk⟩:=hs;have fP:=bo hJ d 0 l;rw[hl]at fP;obtain⟨y0,b1,b2,_⟩:=fP
 have wG:y0=.raw (.int .i64 0):=by
  have:(SE.i 0).den P ν=aa y0:=b1;simp only[SE.den,ar6]at this;exact this.symm
 subst wG;have hle:=bZ b2;obtain⟨y,c1,c2⟩:=PG hJ (bo hJ d 0 c) hc;simp only[SE.den,c1,asa]at yE;obtain⟨q,n,rfl,d1,d2⟩:=ajV yE;have qW:=bZ c2;have pH:(SE.tr s SE.an).den P ν=aa (.tree s []):=by simp[SE.den,bE]
 have jB:(V.l++[LO.row s af af af (SE.tr s SE.an)])[V.l.length]?=aa (.row s af af af (SE.tr s SE.an)):=by simp
 by_cases kJ:n=0
 ·subst kJ;refine .at (x:=.emp) (V1:={V with l:=V.l++[.row s af af af (.tr s .an)]}) hk (hJ.A9 (fr:=af) bE pH).2 hn rfl ⟨s,af,af,af,_,[],jB,pH,.inl ⟨xD hJ (ar8 _),rfl,.inr rfl⟩⟩ ?_;simp only[bK,av,ho,hu,hle,qW,aT,vW,L6];rw[if_neg (by omega),if_pos trivial];rfl
 ·have L8:gI (z.cells.toList.map .raw) (n.toNat*s)=(asr n.toNat (z.cells.toList.map IV.raw)).flatten:=Cn (by simp[zk]) bE _
  have hlen:(gI (z.cells.toList.map .raw) (n.toNat*s)).length=n.toNat*s:=by
   rw[L8];simp[zk,Function.comp_def]
  have gZ:(gI (z.cells.toList.map .raw) (n.toNat*s)).all Ev.aj=ab:=by
   rw[L8];refine asl.2 λx hx=>?_;obtain⟨l',cq,il⟩:=auE.1 hx;have:=atg cq;subst this;exact(asl.1 h4) x il
  refine .at (x:=.sl σ.n 0 0 (aa n.toNat) 0 s) (V1:={V with l:=V.l++[.row s af af af (.tr s .an)]}) hk (hJ.yf (.cells (gI (z.cells.toList.map .raw) (n.toNat*s)) 0 0) _ ⟨bE,[],pH,λe he=>(by cases he),.inr ⟨σ.n,(gI (z.cells.toList.map .raw) (n.toNat*s)),0,0,by simp[bV],by simp,ar8 _,by simp,hJ.q6,gZ,λj x d hx hd=>by simp[flat]at hd⟩⟩) hn rfl ⟨s,af,af,af,_,[],jB,pH,.inr ⟨σ.n,(gI (z.cells.toList.map .raw) (n.toNat*s)),0,0,aa n.toNat,by simp[bV],by simp,by simp,ar8 _,λh=>(by cases h),λc hc=>?_⟩⟩ ?_
  ·cases hc;exact⟨rfl,by rw[hlen];simp,asT _⟩
  ·simp only[bK,av,ho,hu,hle,qW,aT,vW,L6];rw[if_neg (by omega),if_neg kJ];rfl
theorem abt(hJ:J (au P ν) R φ V.g V.l E σ){id:Nat}{ob:Ob}(h:σ.at id=aa ob):σ.put id ob=σ:=by
 have:(σ.put id ob).t=σ.t:=Go.Ev.T.WF.ext (hJ.wf.set _ _) hJ.wf λi=>by
  show(σ.put id ob).at i=σ.at i;rw[St.cV];split
  ·rename_i hh;rw[<-hh,h]
  ·rfl
 cases σ;simp only[St.put]at this⊢;rw[this]
theorem Wt{t:TypeId}{x:Operand}{lo hi mx:Option Operand}{f:ak}(hJ:J (au P ν) R φ V.g V.l E σ)(hn:ν.length=V.n)(ho:o.op=.slice t x lo hi mx)(hz:O0 P d t (bN P d V t x) lo hi mx V k=aa f)(hs:f.sat P C Q K ν):c8 P C Q K ν E V.ln k (bK P E d o σ):=by
 unfold O0 at hz;split at hz<;>first|(cases hz;done)|skip
 rename_i el c jY cW h hu hx;have qv:=bo hJ d t x;rw[hx]at qv;split at hz<;>first|(cases hz;done)|skip
 ·rename_i s s' hh aT;split at hz<;>first|(cases hz;done)|skip
  rename_i ir;have:=asb ir;subst this;cases hz;have Yy:=bo hJ d 3 h;rw[hh]at Yy;obtain⟨y,y1,y2,_⟩:=Yy;simp only[au,SE.den,ar6]at y1;subst y1;have Ia:=bZ y2;obtain⟨h0,h1⟩:=qv;simp only[if_true]at h1;refine .at (x:=.raw (.slice ah 0 0)) hs hJ hn rfl ⟨h0,rfl⟩ ?_;simp[bK,av,ho,h1,Ia,fm,gm,hu,aT,ret]
 ·rename_i s j hh aT;split at hz<;>first|(cases hz;done)|skip
  rename_i s' cut fr es hj;split at hz<;>first|(cases hz;done)|skip
  rename_i ir;have:=asb ir;subst this;cases hz;have Yy:=bo hJ d 3 h;rw[hh]at Yy;obtain⟨y,y1,y2,_⟩:=Yy;simp only[au,SE.den,ar6]at y1;subst y1;have Ia:=bZ y2;obtain⟨⟨z,hz⟩,hk⟩:=hs;obtain⟨s1,sE,r6,sF,z1,eT,b1,b2,b3⟩:=qv;rw[hj]at b1;cases b1;have pJ:es.den P ν=aa (.tree s eT):=b2
  have aZ:eT≠[]:=by
   rintro rfl;simp[SE.den,pJ,dD,gh]at hz
  have hlen:1<=eT.length:=by
   cases eT with
   |nil=>exact absurd rfl aZ
   |cons=>simp
  rcases b3 with⟨_,c2,_⟩|⟨id,cs,ay,mn,cap,c1,c2,c3,c4,c5,c6⟩
  ·omega
  obtain⟨bE,gS,d1,d2,d3⟩:=hJ.obj j _ hj;have Yz:es.den P ν=aa (.tree s gS):=d1;rw[pJ]at Yz;cases Yz;rcases d3 with⟨_,d3⟩|⟨bA,cx,iC,pw,g1,g2,g3,g4,g5,g6,g7⟩
  ·exact absurd d3 aZ
  rw[c1]at g1;cases g1;rw[c2]at g2;cases g2;have hR:R id=ah:=by simpa using g5
  have pH:(SE.tr s SE.an).den P ν=aa (.tree s []):=by simp[SE.den,bE]
  have Yj:(V.l.map (LO.drop j))[j]?=aa (.row s af cut fr es):=by simp[hj,LO.drop]
  have bD:=(hJ.VE j).tv (R':=R) (bad:=(·=j)) (jY:=.row s af ab fr (.tr s .an)) (eK:=.cells cs ay mn) c1 Yj (λ_ _=>rfl) (λm hm=>by rw[hR]at hm;cases hm) (λm _ _ _ hm=>by rw[hR]at hm;cases hm) (λm _ _ _ hm=>by rw[hR]at hm;cases hm)
   (λ_ h=>by cases h) (λ_ _ h=>by cases h) (λ_ _ _ _ _ _=>rfl) (λd t pv hg=>by obtain⟨q,_,rfl⟩:=D5 _ hg;exact q.mH j) (λi o hi _=>by
    rw[asi]at hi;obtain⟨o',_,rfl⟩:=ar9.1 hi;exact o'.mH j)
   (λ_=>⟨bE,[],pH,λe he=>(by cases he),.inr ⟨id,cs,ay,mn,c1,by rw[St.cV,if_pos rfl],g3,by simp,hR,g6,λj x d hx hd=>by simp[flat]at hd⟩⟩)
  have eU:=bD.2;rw[abt hJ c2]at eU
  have jB:((V.l.map (LO.drop j)).set j (LO.row s af ab fr (SE.tr s SE.an)))[j]?=aa (.row s af ab fr (SE.tr s SE.an)):=by
   rw[List.getElem?_set,if_pos rfl,if_pos (by have:=(ar3.1 hj).1;simpa using this)]
  cases cap with
  |none=>
   refine .at (x:=.sl id 0 0 ah ay s) (V1:=(V.sA j).setObj j (.row s af ab fr (.tr s .an))) hk eU hn rfl ⟨s,af,ab,fr,_,[],jB,pH,.inr ⟨id,cs,ay,mn,ah,c1,c2,by simp,asT _,(λ_ h=>(by cases h)),λc hc=>by cases hc⟩⟩ ?_;simp[bK,av,ho,c3,Ia,fm,gm,hu,aT,ret]
  |some m=>
   obtain⟨f1,f2,f3⟩:=c6 m rfl;have C1:m≠0:=by omega
   refine .at (x:=.sl id 0 0 (aa m) ay s) (V1:=(V.sA j).setObj j (.row s af ab fr (.tr s .an))) hk eU hn rfl ⟨s,af,ab,fr,_,[],jB,pH,.inr ⟨id,cs,ay,mn,aa m,c1,c2,by simp,asT _,(λh=>(by cases h)),λc hc=>by cases hc;exact⟨f1,by omega,asT _⟩⟩⟩ ?_;simp[bK,av,ho,c3,Ia,fm,gm,hu,aT,ret,C1]
theorem abu{c:Call}(hJ:J (au P ν) R φ V.g V.l E σ)(hn:ν.length=V.n)(ho:o.op=.call c)(hc:c.callee=.builtin .cap)(hs:(f_ P d o V k).sat P C Q K ν):c8 P C Q K ν E V.ln k (bK P E d o σ):=by
 unfold f_ at hs;rw[ho]at hs;simp only[hc]at hs;have br:=fL hJ d c.args.toList c.argTypes.toList;split at hs<;>first|(exact hs.elim)|skip
 rename_i s et hh hu;rw[hh]at br;obtain⟨x,hx,hr⟩:=kQ br;obtain⟨_,h1⟩:=hr;simp only[if_true]at h1;refine .at (x:=.raw (.int .i64 0)) hs hJ hn rfl ⟨_,rfl,.raw _,rfl⟩ ?_;simp[bK,av,ho,hc,dB,hx,h1,U7,hu]
theorem Ty(hJ:J (au P ν) R φ V.g V.l E σ)(hn:ν.length=V.n)(hs:(f_ P d o V k).sat P C Q K ν):c8 P C Q K ν E V.ln k (bK P E d o σ):=by
 cases ho:o.op with
 |makeFunc f first cap=>
  cases f with
  |func f=>exact PA hJ hn ho hs
  |_=>unfold f_ at hs;rw[ho]at hs;exact hs.elim
 |makeMap t r=>exact SB hJ hn ho hs
 |makeSlice t l c=>unfold f_ at hs;rw[ho]at hs;exact Yx hJ hn ho hs
 |mapUpdate t m key x=>exact IZ hJ hn (.inl ho) hs
 |insert t m key x=>exact IZ hJ hn (.inr ho) hs
 |lookup t m key ok=>exact Wq hJ hn ho hs
 |slice t x lo hi mx=>
  unfold f_ at hs;rw[ho]at hs;simp only at hs;split at hs
  ·exact Wt hJ hn ho ‹_› hs
  split at hs
  ·exact Ws hJ hn ho (abp ‹_›) hs
  ·exact Yn hJ hn ho hs
 |index t x ix=>exact Yr hJ hn ho hs
 |range t x=>exact Yt hJ hn ho hs
 |next it str=>
  cases str with
  |true=>exact abr hJ hn ho hs
  |false=>unfold f_ at hs;rw[ho]at hs;exact hs.elim
 |entry it=>exact Yu hJ hn ho hs
 |call c=>
  cases hc:c.callee with
  |builtin b=>
   cases b with
   |clear=>exact Yp hJ hn ho hc hs
   |cap=>exact abu hJ hn ho hc hs
   |max=>unfold f_ at hs;rw[ho]at hs;simp only[hc]at hs;exact Ys (.inl ⟨rfl,rfl⟩) hJ hn ho hc hs
   |min=>unfold f_ at hs;rw[ho]at hs;simp only[hc]at hs;exact Ys (.inr ⟨rfl,rfl⟩) hJ hn ho hc hs
   |_=>unfold f_ at hs;rw[ho]at hs;simp only[hc]at hs;exact hs.elim
  |_=>unfold f_ at hs;rw[ho]at hs;simp only[hc]at hs;exact hs.elim
 |_=>unfold f_ at hs;rw[ho]at hs;exact hs.elim
end Go.Ev
namespace Go.Ev
variable{P:Program}{N:Nat}{σ ao:St}{R R':Rs}{φ aL:Ph}{E:Nat->Env}{ν:List IV}
variable{C:Cr}{Q:IV->Prop}{K:List (List IV->Prop)}{V:SS}{d:Nat}{o:Oper}{k:PV SE->SS->ak}{L:List (LO SE)}{Γ:Gm SE}
theorem aet(hJ:J (au P ν) R φ V.g V.l E σ)(hn:ν.length=V.n){op:BinOp}{t yt:TypeId}{x y:Operand}(ho:o.op=.binOp op t x y yt)(hs:(fI P d o V k).sat P C Q K ν):c8 P C Q K ν E V.ln k (bK P E d o σ):=by
 unfold fI at hs;rw[ho]at hs;simp only at hs;have hx:=bo hJ d t x;have hy:=bo hJ d t y
 have rdv:∀{xv:IV} {a:SE},VR (au P ν) R φ V.l σ xv (.one (.v a))->∀z,a.den P ν=aa z->bn ab R σ xv z:=by
  intro xv a ⟨u,h1,h2,_⟩ z hz;have cZ:a.den P ν=aa u:=h1;rw[hz]at cZ;cases cZ;exact h2.mono hJ.A7
 have rdw:∀{xv:IV} {f:Bool} {a:SE},VR (au P ν) R φ V.l σ xv (.one (.w f a))->∀z,a.den P ν=aa z->bn ab R σ xv z:=by
  intro xv f a ⟨u,h1,h2,_⟩ z hz;have cZ:a.den P ν=aa u:=h1;rw[hz]at cZ;cases cZ;exact h2.cH
 split at hs
 ·rename_i cs ds xY s8;rw[xY]at hx;rw[s8]at hy;split at hs
  ·rename_i f1 a V1 f2 b V2 h1 h2;obtain⟨R1,a1,a2,_,a3⟩:=uL hJ h1;obtain⟨R2,b1,b2,_,b3⟩:=uL hJ h2;obtain⟨xs,y7,wA⟩:=hx;obtain⟨ys,AT,It⟩:=hy;obtain⟨us,c1,c2,_⟩:=a3 xs wA;obtain⟨vs,d1,d2,_⟩:=b3 ys It;obtain⟨⟨z,hz⟩,hk⟩:=hs;obtain⟨h3,h4⟩:=pF hz;simp only[SE.den,eB c1,eB d1,asa]at h3;have ha:bn f1 R1 σ (ax (E d) x) (.agg us):=by rw[y7];exact .agg xs us c2.len λi c e h1 h2=>c2.get h1 h2
   have hb:bn f2 R2 σ (ax (E d) y) (.agg vs):=by rw[AT];exact .agg ys vs d2.len λi c e h1 h2=>d2.get h1 h2
   have h6:pf P op t x y (ax (E d) x) (ax (E d) y)=aa z:=by
    unfold dc at h3;split at h3
    ·cases h3
    ·rename_i u v aZ hu hv;rw[Ch ha hu,Ch hb hv,Ps (x':=.func 0) (y':=.func 0) hu hv (λhc=>aZ hc)];exact h3
    ·cases h3
   exact .at (x:=z) hk hJ hn rfl ⟨z,hz,Pu h6,h4⟩ (by simp[bK,av,ho,h6,ret])
  ·exact hs.elim
 ·rename_i a b xY s8;rw[xY]at hx;rw[s8]at hy;exact IU hJ hn ho (rdv hx) (rdv hy) hs
 ·rename_i f a b xY s8;rw[xY]at hx;rw[s8]at hy;exact IU hJ hn ho (rdw hx) (rdv hy) hs
 ·rename_i a f b xY s8;rw[xY]at hx;rw[s8]at hy;exact IU hJ hn ho (rdv hx) (rdw hy) hs
 ·rename_i f a g b xY s8;rw[xY]at hx;rw[s8]at hy;exact IU hJ hn ho (rdw hx) (rdw hy) hs
 ·exact hs.elim
theorem YA(hJ:J (au P ν) R φ V.g V.l E σ)(hn:ν.length=V.n)(hs:(fI P d o V k).sat P C Q K ν):c8 P C Q K ν E V.ln k (bK P E d o σ):=by
 cases ho:o.op with
 |move x=>exact X_ hJ hn (.inl ho) hs
 |assign x=>exact X_ hJ hn (.inr ho) hs
 |pick c a b=>exact aa8 hJ hn ho hs
 |alloc t=>exact Ya hJ hn ho hs
 |box t x=>exact aen hJ hn ho hs
 |load t a=>exact aba hJ hn ho hs
 |store t a x=>exact Yf hJ hn ho hs
 |nilCheck x=>exact Pm hJ hn ho hs
 |binOp op t x y yt=>exact aet hJ hn ho hs
 |unOp op t x=>exact agf hJ hn ho hs
 |convert a b x=>exact agh hJ hn ho hs
 |build t p=>exact Ym hJ hn ho hs
 |buildSlice t l p=>exact KA hJ hn ho hs
 |fieldAddr s x f=>exact No hJ hn ho hs
 |field t x f=>exact Yi hJ hn ho hs
 |indexAddr t x i=>exact Np hJ hn ho hs
 |extract x i=>exact SA hJ hn ho hs
 |call c=>
  cases hc:c.callee with
  |builtin b=>
   by_cases hl:b=.len
   ·subst hl;exact aeq hJ hn ho hc hs
   ·by_cases ha:b=.append
    ·subst ha;exact Wo hJ hn ho hc hs
    ·unfold fI at hs;rw[ho]at hs;simp only[hc]at hs;split at hs<;>first|exact absurd rfl hl|exact absurd rfl ha|exact hs.elim|exact Ty hJ hn hs
  |value f=>unfold fI at hs;rw[ho]at hs;simp only[hc]at hs;exact hs.elim
  |invoke x n=>unfold fI at hs;rw[ho]at hs;simp only[hc]at hs;exact hs.elim
 |_=>unfold fI at hs;rw[ho]at hs;exact Ty hJ hn hs
end Go.Ev
namespace Go.Ev
variable{P:Program}{N:Nat}{σ ao:St}{ι:Io}{w:World}
namespace T
variable{α:Type}
def of(f:Nat->Option α):Nat->T α
 |0=>.lf
 |n+1=>match f n with
  |some x=>(of f n).set n x
  |none=>of f n
theorem FY(f:Nat->Option α):∀n,(of f n).WF
 |0=>WF.lf
 |n+1=>by
  unfold of;split
  ·exact(FY f n).set _ _
  ·exact FY f n
theorem I3(f:Nat->Option α):∀(n i:Nat),(of f n).get i=if i<n then f i else ah
 |0,i=>by simp[of,get]
 |n+1,i=>by
  unfold of;split
  ·rename_i x hx;rw[fW];split
   ·rename_i h;subst h;rw[if_pos (by omega),hx]
   ·rw[I3 f n i];by_cases h:i<n
    ·rw[if_pos h,if_pos (by omega)]
    ·rw[if_neg h,if_neg (by omega)]
  ·rename_i hx;rw[I3 f n i];by_cases h:i<n
   ·rw[if_pos h,if_pos (by omega)]
   ·rw[if_neg h];by_cases h2:i=n
    ·subst h2;rw[if_pos (by omega),hx]
    ·rw[if_neg (by omega)]
end T
def St.only(σ:St)(db:Nat->Bool):St:=⟨σ.n,T.of (λi=>if db i then σ.at i else ah) σ.n⟩
theorem KI(db:Nat->Bool)(Ha:∀id,σ.n<=id->σ.at id=ah)(i:Nat):(σ.only db).at i=if db i then σ.at i else ah:=by
 unfold St.only St.at;simp only[T.I3];split
 ·rfl
 ·rename_i h;have:=Ha i (by omega);unfold St.at at this;rw[this];simp
def St.back(σ aq:St)(db:Nat->Bool):St:=⟨aq.n,T.of (λi=>if i<σ.n/\db i=af then σ.at i else aq.at i) aq.n⟩
theorem KJ{aq:St}(db:Nat->Bool)(hn:σ.n<=aq.n)(Ha:∀id,aq.n<=id->aq.at id=ah)(i:Nat):(σ.back aq db).at i=if i<σ.n/\db i=af then σ.at i else aq.at i:=by
 unfold St.back St.at;simp only[T.I3];split
 ·rfl
 ·rename_i h;rw[if_neg (by omega)];have:=Ha i (by omega);unfold St.at at this;rw[this]
theorem dL.frame{f:FuncId}{args:List IV}{RW:IV->St->Prop}(db:Nat->Bool)(Ha:∀id,σ.n<=id->σ.at id=ah)(h:dL P N f args (σ.only db) RW):
 dL P N f args σ (λv ao=>∃aq,RW v aq/\ao=σ.back aq db/\σ.n<=aq.n/\(∀id,aq.n<=id->aq.at id=ah)/\∀id,id<σ.n->db id=af->aq.at id=ah):=by
 intro ι us w hi hr;have aE:=KI db Ha
 have C4:Inv N ι (σ.only db) w:=by
  refine⟨hi.mem,hi.sep,hi.iO,hi.fresh,hi.inj,λid o ho=>?_,λid hid=>?_⟩
  ·rw[aE]at ho;split at ho
   ·exact hi.obj id o ho
   ·cases ho
  ·rw[aE];split
   ·exact hi.wf id hid
   ·rfl
 refine(h ι us w C4 hr).mono λed w' hR=>?_;obtain⟨v,aq,q7,hR⟩:=hR;cases ed with
 |returned u=>
  obtain⟨aG,h1,h2,h3⟩:=hR;have hn:σ.n<=aq.n:=h3.Ag
  have Cp:∀id,id<σ.n->db id=af->aq.at id=ah:=λid hid hv=>by
   refine h3.dead id ?_ (.inl hid);rw[aE,hv];simp
  have yF:=KJ (σ:=σ) (aq:=aq) db hn h2.wf;refine⟨v,σ.back aq db,⟨aq,q7,rfl,hn,h2.wf,Cp⟩,aG,h1,⟨h2.mem,h2.sep,h2.iO,h2.fresh,h2.inj,λid o ho=>?_,λid hid=>?_⟩,?_⟩
  ·rw[yF]at ho;split at ho
   ·rename_i hc;refine(hi.obj id o ho).keep h3.ext (h3.AG id (by rw[aE,hc.2];simp) (.inl hc.1)) λb hb=>h3.frame b (hi.iO id b hb) λbA si=>.inr ?_;have:=hi.inj id bA b hb si;subst this;rw[aE,hc.2];simp
   ·exact h2.obj id o ho
  ·rw[yF];have iY:aq.n<=id:=hid;rw[if_neg (by omega)];exact h2.wf id iY
  ·refine⟨h3.ext,h3.own,λid hid hr=>h3.AG id (by rw[aE,hid];simp) hr,λid hid hr=>?_,λid hr=>absurd hr (Nat.not_lt_zero _),hn,h3.os,h3.tape,h3.output,h3.size,λb hb hc=>h3.frame b hb λid ho=>?_,h3.xJ⟩
   ·rw[yF];split
    ·exact hid
    ·exact h3.dead id (by rw[aE,hid];simp) hr
   ·rcases hc id ho with h|h
    ·exact .inl h
    ·exact .inr (by rw[aE,h];simp)
 |outgrown=>exact hR.elim
 |panicked chain=>exact hR.elim
end Go.Ev
namespace Go.Ev
variable{P:Program}{N:Nat}{σ ao:St}{R R':Rs}{φ aL:Ph}{E:Nat->Env}{ν:List IV}{L:List (LO SE)}{Γ:Gm SE}
abbrev Wu(s:Nat)(es:List IV)(R:Rs)(φ:Ph)(E:Nat->Env)(σ:St):Prop:=J (α:=Unit) (λ_=>aa (.tree s es)) R φ [] [.row s af af af ()] E σ
abbrev Wv(s:Nat)(es:List IV)(R:Rs)(φ:Ph)(σ:St)(x:IV):Prop:=cD (α:=Unit) (λ_=>aa (.tree s es)) R φ [.row s af af af ()] σ x (.sr 0)
def Cq(P:Program)(s:Nat)(f:FuncId)(es:List IV)(xs:List IV)(aF:List IV):Prop:=
 ∀R φ E σ x args,Wu s es R φ E σ->Wv s es R φ σ x->All2 iD args xs->∀KW:Nat->IV->St->Prop,(∀R' aL ao v,Wu s aF R' aL E ao->Wv s aF R' aL ao v->∃b,∀N,b<=N->KW N v ao)->
  ∃b,∀N,b<=N->dL P N f (x::args) σ (KW N)
theorem bn.move{fr:Bool}{x y:IV}(hm:∀i ob,σ.at i=aa ob->ao.at i=aa ob/\R' i=R i)(h:bn fr R σ x y):bn fr R' ao x y:=by
 induction h with
 |raw v=>exact .raw v
 |nil s hs=>exact .nil s hs
 |emp s hs=>exact .emp s hs
 |di t x y _ ih=>exact .di t x y ih
 |agg cs ds hl _ ih=>exact .agg cs ds hl ih
 |az cs ds hl _ ih=>exact .az cs ds hl ih
 |pure x hf hp=>exact .pure x hf hp
 |sl id off len cap ep s m cs ay mn es hR aE h1 h2 hs hl hb hm' bH _ ih=>
  obtain⟨g1,g2⟩:=hm id _ aE;exact .sl id off len cap ep s m cs ay mn es (by rw[g2];exact hR) g1 h1 h2 hs hl hb hm' bH ih
theorem YB{k s:Nat}{f:FuncId}{fr:Bool}{z z':SE}{es aF xs args:List IV}{x:IV}(h:J (au P ν) R φ Γ L E σ)(hk:L[k]?=aa (.row s af af fr z))(hz:z.den P ν=aa (.tree s es))(pE:z'.den P ν=aa (.tree s aF))
 (dO:∀e∈es,∀c∈cellsOf e,aA c=ab)(hx:cD (au P ν) R φ L σ x (.sr k))(br:All2 iD args xs)
 (LM:∀d t pv,cy d t Γ=aa pv->pv.ok (·=k))(hL:∀j o,L[j]?=aa o->j≠k->o.ok (·=k))(hr:Cq P s f es xs aF)
 (KW:Nat->IV->St->Prop)(PH:∀R' aL ao v,J (au P ν) R' aL Γ (L.set k (.row s af af af z')) E ao->cD (au P ν) R' aL (L.set k (.row s af af af z')) ao v (.sr k)->∃b,∀N,b<=N->KW N v ao):
 ∃b,∀N,b<=N->dL P N f (x::args) σ (KW N):=by
 obtain⟨bE,gS,g1,g2,g3⟩:=h.obj k _ hk;have na:z.den P ν=aa (.tree s gS):=g1;rw[hz]at na;cases na;have oL:=c_ hk
 let db:Nat->Bool:=λi=>match φ k with
  |some id=>Nat.beq i id
  |none=>af
 have Er:∀i,db i=ab↔φ k=aa i:=λi=>by
  simp only[db];cases φ k with
  |none=>simp
  |some id=>simp only[asK,ar6];exact eq_comm
 have aE:=KI db h.top
 have Wr:∀d∈flat es,aA d=ab:=λd hd=>by
  obtain⟨e,he,hc⟩:=List.mem_flatMap.1 hd;exact dO e he d hc
 have kA:Wu s es (λ_=>ah) (λj=>if j=0 then φ k else ah) E (σ.only db):=by
  refine⟨λd t pv hg=>(by cases hg),λj ob hj=>?_,λj j' id h1 h2=>?_,λj id hj=>?_,λid m hm=>(by cases hm),λid m cs ay mn hm=>(by cases hm),T.FY _ _,λid hid=>?_⟩
  ·cases j with
   |succ j=>simp at hj
   |zero=>
    simp at hj;subst hj;refine⟨bE,es,rfl,g2,?_⟩;rcases g3 with⟨a,b⟩|⟨id,cs,ay,mn,a1,a2,a3,a4,a5,a6,a7⟩
    ·exact .inl ⟨by simp[a],b⟩
    ·refine .inr ⟨id,cs,ay,mn,by simp[a1],?_,a3,a4,rfl,a6,λj u v hu hv=>?_⟩
     ·rw[aE,(Er id).2 a1];simpa using a2
     ·have hd:=Wr v (List.mem_of_getElem? hv);have:=a7 j u v hu hv;cases v<;>simp only[aA]at hd<;>first|(cases hd;done)|skip
      rw[bZ this];exact .raw _
  ·split at h1<;>first|(cases h1;done)|skip
   split at h2<;>first|(cases h2;done)|skip
   omega
  ·split at hj<;>first|(cases hj;done)|skip
   rename_i YC;subst YC;exact⟨by simp,(h.lt k id hj).2⟩
  ·rw[aE];split
   ·exact h.top id hid
   ·rfl
 have hX0:Wv s es (λ_=>ah) (λj=>if j=0 then φ k else ah) (σ.only db) x:=by
  obtain⟨s1,sE,r6,sF,z1,eT,b1,b2,b3⟩:=hx;rw[hk]at b1;cases b1;have pJ:z.den P ν=aa (.tree s eT):=b2;rw[hz]at pJ;cases pJ;refine⟨s,af,af,af,(),es,rfl,rfl,?_⟩;rcases b3 with⟨c1,c2,c3⟩|⟨id,cs,ay,mn,cap,c1,c2,c3,c4,c5,c6⟩
  ·exact .inl ⟨by simp[c1],c2,c3⟩
  ·exact .inr ⟨id,cs,ay,mn,cap,by simp[c1],by rw[aE,(Er id).2 c1];simpa using c2,c3,c4,c5,c6⟩
 suffices Ww:∀R1 dA aq v,Wu s aF R1 dA E aq->Wv s aF R1 dA aq v->σ.n<=aq.n->(∀id,id<σ.n->db id=af->aq.at id=ah)->∃b,∀N,b<=N->KW N v (σ.back aq db) by
  obtain⟨b,hb⟩:=hr _ _ _ _ x args kA hX0 br (λN v aq=>σ.n<=aq.n->(∀id,id<σ.n->db id=af->aq.at id=ah)->KW N v (σ.back aq db)) λR1 dA aq v h1 h2=>by
   by_cases hc:σ.n<=aq.n/\∀id,id<σ.n->db id=af->aq.at id=ah
   ·obtain⟨b,hb⟩:=Ww R1 dA aq v h1 h2 hc.1 hc.2;exact⟨b,λN hN _ _=>hb N hN⟩
   ·exact⟨0,λN _ h3 h4=>absurd ⟨h3,h4⟩ hc⟩
  refine⟨b,λN hN ι us w hi lF=>((hb N hN).frame db h.top ι us w hi lF).mono λed w' hR=>?_⟩;obtain⟨v,ao,⟨aq,je,rfl,hle,_,Cp⟩,abv⟩:=hR;exact⟨v,σ.back aq db,je hle Cp,abv⟩
 intro R1 dA aq v bD hX1 hle Cp;have I4:=bD.top;have yF:=KJ (σ:=σ) (aq:=aq) db hle I4;have hold:∀id,id<σ.n->db id=af->(σ.back aq db).at id=σ.at id:=λid h1 h2=>by rw[yF,if_pos ⟨h1,h2⟩]
 have eV:∀id ob,aq.at id=aa ob->¬(id<σ.n/\db id=af):=λid ob ho hc=>by rw[Cp id hc.1 hc.2]at ho;cases ho
 have I5:∀id ob,aq.at id=aa ob->(σ.back aq db).at id=aa ob:=λid ob ho=>by rw[yF,if_neg (eV id ob ho)];exact ho
 let R2:Rs:=λi=>if i<σ.n/\db i=af then R i else R1 i
 let Dc:Ph:=λi=>if i=k then dA 0 else φ i
 have hRk:∀id,φ k=aa id->R id=ah:=λid hid=>by
  rcases g3 with⟨a,_⟩|⟨bA,cs,ay,mn,a1,_,_,_,a5,_⟩
  ·rw[hid]at a;cases a
  ·rw[hid]at a1;cases a1;simpa using a5
 have yG:∀id m,R id=aa m->id<σ.n/\db id=af:=λid m hm=>by
  refine⟨h.qw id m hm,?_⟩;cases hv:db id with
  |false=>rfl
  |true=>rw[hRk id ((Er id).1 hv)]at hm;cases hm
 have rP:∀j id,j≠k->φ j=aa id->id<σ.n/\db id=af:=λj id hj hid=>by
  refine⟨(h.lt j id hid).2,?_⟩;cases hv:db id with
  |false=>rfl
  |true=>exact absurd (h.inj j k id hid ((Er id).1 hv)) hj
 have wO:∀id m cs ay mn,R2 id=aa m->(σ.back aq db).at id=aa (.cells cs ay mn)->m<=cs.length:=λid m cs ay mn hm ha=>by
  simp only[R2]at hm;rw[yF]at ha;split at hm
  ·rename_i hc;rw[if_pos hc]at ha;exact h.fits id m cs ay mn hm ha
  ·rename_i hc;rw[if_neg hc]at ha;exact bD.fits id m cs ay mn hm ha
 have p7:iH R σ R2 (σ.back aq db):=by
  refine⟨λid m hm=>⟨m,by simp only[R2];rw[if_pos (yG id m hm)];exact hm,ar8 _⟩,λid m cs ay mn hm ha=>⟨cs,ay,?_,ar8 _,λ_ _=>rfl⟩,wO⟩;rw[hold id (yG id m hm).1 (yG id m hm).2];exact ha
 have aZ:∀j,j≠k->(L.set k (.row s af af af z'))[j]?=L[j]? :=λj hj=>List.getElem?_set_ne (λhc=>hj hc.symm);have bf:(L.set k (.row s af af af z'))[k]?=aa (.row s af af af z'):=by simp[oL]
 have Cs:∀j,j≠k->Dc j=φ j:=λj hj=>by simp only[Dc];rw[if_neg hj]
 have tX:Dc k=dA 0:=by simp[Dc]
 have hs:ky (au P ν) (au P ν) R φ L σ R2 Dc (L.set k (.row s af af af z')) (σ.back aq db) (·=k):=by
  refine⟨λ_ _ h=>h,p7,λj cs hj=>?_,λj kt eT hj=>?_,λj s1 sE r6 sF z1 hj hb=>?_⟩
  ·have bI:j≠k:=λhc=>by subst hc;rw[hk]at hj;cases hj
   exact⟨⟨cs,by rw[aZ j bI];exact hj⟩,Cs j bI⟩
  ·have bI:j≠k:=λhc=>by subst hc;rw[hk]at hj;cases hj
   exact⟨⟨eT,by rw[aZ j bI];exact hj⟩,Cs j bI⟩
  ·exact⟨⟨sE,sF,z1,by rw[aZ j hb];exact hj,λe he=>⟨e,he,rfl⟩⟩,Cs j hb,λid cs ay mn hid ha=>⟨cs,mn,by rw[hold id (rP j id hb hid).1 (rP j id hb hid).2];exact ha,rfl,λh=>h⟩⟩
 obtain⟨dC,L4,k1,k2,k3⟩:=bD.obj 0 _ rfl;have Mf:aa (IV.tree s aF)=aa (.tree s L4):=k1;cases Mf
 have KK:∀id,dA 0=aa id->∃ob,aq.at id=aa ob:=λid hid=>by
  rcases k3 with⟨a,_⟩|⟨bA,cs,ay,mn,a1,a2,_⟩
  ·rw[hid]at a;cases a
  ·rw[hid]at a1;cases a1;exact⟨_,a2⟩
 refine PH R2 Dc (σ.back aq db) v ⟨λd t pv hg=>(h.slot d t pv hg).step hs (LM d t pv hg),λj ob hj=>?_,λj j' id h1 h2=>?_,λj id hj=>?_,λid m hm=>?_,wO,T.FY _ _,λid hid=>?_⟩ ?_
 ·by_cases bI:j=k
  ·subst bI;rw[bf]at hj;cases hj;refine⟨dC,aF,pE,k2,?_⟩;rcases k3 with⟨a,b⟩|⟨id,cs,ay,mn,a1,a2,a3,a4,a5,a6,a7⟩
   ·exact .inl ⟨by rw[tX];exact a,b⟩
   ·refine .inr ⟨id,cs,ay,mn,by rw[tX];exact a1,I5 id _ a2,a3,a4,?_,a6,λq u v hu hv=>?_⟩
    ·simp only[R2];rw[if_neg (eV id _ a2)];exact a5
    ·refine(a7 q u v hu hv).move λi ob ho=>⟨I5 i ob ho,?_⟩;simp only[R2];rw[if_neg (eV i ob ho)]
  ·rw[aZ j bI]at hj;exact(h.obj j ob hj).step hs (Cs j bI) (λid hid=>⟨hold id (rP j id bI hid).1 (rP j id bI hid).2,by simp only[R2];rw[if_pos (rP j id bI hid)]⟩) (hL j ob hj bI)
 ·by_cases hj:j=k
  ·by_cases fO:j'=k
   ·rw[hj,fO]
   ·exfalso;rw[hj,tX]at h1;rw[Cs j' fO]at h2;obtain⟨ob,ho⟩:=KK id h1;exact eV id ob ho (rP j' id fO h2)
  ·by_cases fO:j'=k
   ·exfalso;rw[fO,tX]at h2;rw[Cs j hj]at h1;obtain⟨ob,ho⟩:=KK id h2;exact eV id ob ho (rP j id hj h1)
   ·rw[Cs j hj]at h1;rw[Cs j' fO]at h2;exact h.inj j j' id h1 h2
 ·by_cases bI:j=k
  ·subst bI;rw[tX]at hj;exact⟨by simpa using oL,(bD.lt 0 id hj).2⟩
  ·rw[Cs j bI]at hj;have:=h.lt j id hj;exact⟨by simpa using this.1,aut this.2 hle⟩
 ·simp only[R2]at hm;split at hm
  ·exact aut (h.qw id m hm) hle
  ·exact bD.qw id m hm
 ·have iY:aq.n<=id:=hid;rw[yF,if_neg (by omega)];exact I4 id iY
 ·obtain⟨s1,sE,r6,sF,z1,eT,b1,b2,b3⟩:=hX1;have wG:aa (LO.row s af af af ())=aa (.row s1 sE r6 sF z1):=b1;cases wG;have pJ:aa (IV.tree s aF)=aa (.tree s eT):=b2;cases pJ;refine⟨s,af,af,af,z',aF,bf,pE,?_⟩;rcases b3 with⟨c1,c2,c3⟩|⟨id,cs,ay,mn,cap,c1,c2,c3,c4,c5,c6⟩
  ·exact .inl ⟨by rw[tX];exact c1,c2,c3⟩
  ·exact .inr ⟨id,cs,ay,mn,cap,by rw[tX];exact c1,I5 id _ c2,c3,c4,c5,c6⟩
end Go.Ev
