/- Lemmas over the model, without conditions of their own: operations on expressions (3). -/
import Derived.Test.YtggffkaadeagbaaGreatEvL
import Derived.Test.YtggffkaadeagbaaGreatEvI
open Option.some renaming injEq->ar7
open Option renaming map_eq_some_iff->ar_,bind_some->asc,map_some->asC,bind_eq_some_iff->ass
open Bool renaming and_eq_true->ar6,not_eq_true'->asN,false_eq_true->asD,or_eq_true->asP
open Nat renaming eq_of_beq_eq_true->asd,zero_le->asT,add_mul->asG,beq_eq->asL,le_refl->ar9,lt_of_lt_of_le->auw
open List renaming eq_nil_of_length_eq_zero->asH,getElem?_eq_some_iff->ar5,getElem?_map->asi,getElem?_range->auN,getElem?_eq_getElem->ar4,all_eq_true->asl,getElem_mem->asb,append_assoc->asv,mem_of_mem_take->atn,mem_of_mem_drop->aue,getElem?_take->asF,replicate->asn,replicate_succ->auk,getElem?_append_left->asf,getElem?_append_right->asw,length_eq_one_iff->au8,eq_of_mem_replicate->ati,mem_flatten->avM,length_take->auc
open List.cons renaming injEq->as5
open Int renaming toNat_of_nonneg->auI
open Go.Value.int renaming injEq->avq
open Go.Utf8 renaming decode->atG
set_option linter.all false
namespace Go.Ev
variable{P:Program}{N:Nat}{σ ah:St}{R R':Rs}{φ aH:Ph}{E:Nat→Env}{ν:List IV}
variable{C:Cr}{Q:IV→Prop}{K:List (List IV→Prop)}{V:SS}{d:Nat}{o:Oper}{k:PV SE→SS→af}{L:List (LO SE)}{Γ:Gm SE}
theorem GK:∀{ds:List (Cl SE)} {es:List SE},EK ds=some es→ds=es.map .v
 |[],es,h=>by simp only[EK,ar7]at h;subst h;rfl
 |c::ds,es,h=>by
  cases c<;>simp only[EK]at h<;>first|(cases h;done)|skip
  split at h
  ·rename_i aB he;simp only[ar7]at h;subst h;rw[GK he];rfl
  ·cases h
theorem GL(hJ:J (aj P ν) R φ V.g V.l E σ):∀{cs:List (Cl SE)} {es:List SE} {xs:List IV},vu cs=some es→All2 (cw (aj P ν) R φ V.l σ) xs cs→
 ∃ys:List IV,All2 (fun(z:SE) y=>z.den P ν=some y) es ys∧All2 (aV true R σ) xs ys
 |[],es,[],h,_=>by simp only[vu,ar7]at h;subst h;exact⟨[],trivial,trivial⟩
 |[],es,_::_,_,hx=>hx.elim
 |c::cs,es,[],_,hx=>hx.elim
 |c::cs,es,x::xs,h,hx=>by
  have next:∀{e:SE} {y:IV},(vu cs).map (e::·)=some es→e.den P ν=some y→aV true R σ x y→∃ys:List IV,All2 (fun(z:SE) y=>z.den P ν=some y) es ys∧All2 (aV true R σ) (x::xs) ys:=by
   intro e y h h1 h2;obtain⟨aB,h3,rfl⟩:=ar_.1 h;obtain⟨ys,h4,h5⟩:=GL hJ h3 hx.2;exact⟨y::ys,⟨h1,h4⟩,⟨h2,h5⟩⟩
  simp only[vu]at h;split at h
  ·obtain⟨y,h1,h2,_⟩:=hx.1;exact next h h1 (h2.mono hJ.AE)
  ·obtain⟨y,h1,h2,_⟩:=hx.1;exact next h h1 h2.cu
  ·rename_i b s;obtain⟨h1,h2⟩:=hx.1;refine next (y:=.tree s []) h (by simp[SE.den,h1]) ?_
   subst h2;cases b
   ·exact .emp s h1
   ·exact .nil s h1
  ·cases h
theorem AH(hJ:J (aj P ν) R φ V.g V.l E σ){pv:PV SE}{ke:SE}{x:IV}(hx:VR (aj P ν) R φ V.l σ x pv)(h:Gy pv=some ke):∃kv,ke.den P ν=some kv∧aV true R σ x kv:=by
 unfold Gy at h;split at h<;>first|(cases h;done)|skip
 ·cases h;obtain⟨y,h1,h2,_⟩:=hx;exact⟨y,h1,h2.mono hJ.AE⟩
 ·cases h;obtain⟨y,h1,h2,_⟩:=hx;exact⟨y,h1,h2.cu⟩
 ·rename_i cs;obtain⟨es,h1,rfl⟩:=ar_.1 h;obtain⟨xs,rfl,il⟩:=hx;obtain⟨ys,g1,g2⟩:=GL hJ h1 il;exact⟨.agg ys,ey g1,.agg xs ys g2.len fun i c e h1 h2=>g2.get h1 h2⟩
theorem All2.afC{α β:Type}{r:α→β→Prop}{a:α}{b:β}(hr:r a b):∀{as:List α} {bs:List β} {i:Nat},All2 r as bs→All2 r (as.set i a) (bs.set i b)
 |[],[],i,_=>by simp;trivial
 |_::_,_::_,0,h=>⟨hr,h.2⟩
 |_::_,_::_,i+1,h=>⟨h.1,All2.afC hr h.2⟩
 |[],_::_,_,h=>h.elim
 |_::_,[],_,h=>h.elim
theorem adH(hJ:J (aj P ν) R φ V.g V.l E σ)(hn:ν.length=V.n){j id:Nat}{kt:TypeId}{ik:SE}(hj:V.l[j]?=some (.mp kt ik)){es aB:List (Value×IV×Nat)}{clock nO:Nat}{l6:List IV}(d_:¬gk kt=true)(kj:φ j=some id)(hR:R id=none)(az:σ.at id=some (.map es clock))
 (he:yP R σ aB l6∧Canon aB nO):J (aj P (ν++[.av l6])) R φ V.g (V.l.set j (.mp kt (.var V.n))) E (σ.put id (.map aB nO)):=by
 have bk:=hJ.up (gN:=aj P (ν++[.av l6])) (fun e y h=>SE.cI P e h)
 exact(bk.sL (R':=R) (bad:=fun _=>False) (jD:=.mp kt (.var V.n)) (eF:=.map aB nO) kj hj (fun _ _=>rfl)
  (fun m hm=>by rw[hR]at hm;cases hm) (fun m _ _ _ hm=>by rw[hR]at hm;cases hm) (fun m _ _ _ hm=>by rw[hR]at hm;cases hm)
  (fun _ h=>by cases h) (fun _ _ _=>by rename_i h;cases h;exact⟨_,rfl⟩) (fun _ _ _ _ _ h=>by cases h) (fun _ _ pv _=>pv.aS) (fun _ o _ _=>o.aS)
  (fun c9=>by rw[gw,if_neg d_];exact⟨id,aB,nO,l6,by simp[aj,SE.den,←hn],kj,hR,by rw[St.cJ,if_pos rfl],he.1.mono fun _ _ ⟨z,h1,h2⟩=>⟨z,h1,h2.mono c9.grow⟩,he.2⟩)).2
theorem Ig{t:TypeId}{m key x:Operand}(hJ:J (aj P ν) R φ V.g V.l E σ)(hn:ν.length=V.n)(ho:o.op=.mapUpdate t m key x∨o.op=.insert t m key x)(hs:(fU P d o V k).sat P C Q K ν):cN P C Q K ν E V.ln k (bE P E d o σ):=by
 have c9:(match P.underlying t with
  |some (.map kt et)=>Jv kt (bG P d V t m) (bG P d V kt key) (bG P d V et x) V k
  |_=>.fail 66).sat P C Q K ν:=by
  rcases ho with ho|ho<;>(unfold fU at hs;rw[ho]at hs;exact hs)
 split at c9<;>first|(exact c9.elim)|skip
 rename_i kt et hu;unfold Jv at c9;split at c9<;>first|(exact c9.elim)|skip
 rename_i j ke xe hm hk hx;split at c9<;>first|(exact c9.elim)|skip
 rename_i lz ik hj;split at c9<;>first|(exact c9.elim)|skip
 rename_i js;rw[ar6,asN]at js;obtain⟨js,d_⟩:=js;have ye:=asd js;subst ye;have d_:¬gk kt=true:=by rw[d_];simp
 obtain⟨z,hz,anY⟩:=c9;have pn:=aW hJ d t m;have Oq:=aW hJ d kt key;obtain⟨xv,wq,hxr⟩:=AH hJ (aW hJ d et x) hx;rw[hm]at pn;obtain⟨id,lB,gF,g1,g2,g3⟩:=pn;rw[hj]at g2;cases g2;rw[if_neg d_]at g3;obtain⟨kv,a1,a2⟩:=AH hJ Oq hk;have dr:=hJ.obj j _ hj;rw[gw,if_neg d_]at dr;obtain⟨bp,es,clock,ds,c1,c2,c3,c4,c5⟩:=dr;rw[g1]at c2;cases c2;have jV:ik.den P ν=some (.av ds):=c1;have wm:ke.den P ν=some kv:=a1;simp only[SE.den,jV,wm,wq,asc]at hz
 have fin:∀{aB:List (Value×IV×Nat)} {nO:Nat} {l6:List IV},yP R σ aB l6∧Canon aB nO→z=.av l6→oS P 0 kt (aq (E d) m) (aq (E d) key) (aq (E d) x) σ=some (σ.put id (.map aB nO))→cN P C Q K ν E V.ln k (bE P E d o σ):=by
  intro aB nO l6 he H_ uC;subst H_;have dP:=adH (nO:=nO) hJ hn hj d_ g1 c3 c4 he;refine⟨.undef,_,R,φ,.one .un,{V with n:=V.n+1,l:=V.l.set j (.mp kt (.var V.n))},[.av l6],?_,dP,trivial,by simp[hn],rfl,anY⟩;rcases ho with ho|ho<;>simp[bE,ak,ho,hu,uC,ret]
 split at hz
 ·rename_i q hq;obtain⟨kk,e1,e2,e3,e4,e5⟩:=vA c5.1 hq false;have FR:=DR e1 a2;obtain⟨e,h6,h7⟩:=e5 q rfl;refine fin (aB:=es.set q (kk,aq (E d) x,e.2.2)) (nO:=clock) (l6:=ds.set q (.av [kv,xv])) ⟨All2.afC ⟨xv,by rw[e3],hxr⟩ c5.1,c5.2.set h6 _ _⟩ (by simpa using hz.symm) ?_;unfold oS;rw[g3,FR];simp only[e2,c4,e4,h6,h7,if_true,asT,not_true,if_false]
 ·rename_i hq;obtain⟨kk,e1,e2,e3,e4,e5⟩:=vA c5.1 hq false;have FR:=DR e1 a2;refine fin (aB:=es++[(kk,aq (E d) x,clock)]) (nO:=clock+1) (l6:=ds++[.av [kv,xv]]) ⟨c5.1.app ⟨⟨xv,by rw[e3],hxr⟩,trivial⟩,c5.2.app _ _⟩ (by simpa using hz.symm) ?_;unfold oS;rw[g3,FR];simp only[e2,c4,e4,asT,not_true,if_false]
 ·cases hz
theorem aax{t:TypeId}{e:SE}(h:EJ P t=some e):∃v,cj P t=some v∧e.den P ν=some (.raw v)∧lift v=.raw v:=by
 unfold EJ at h;split at h<;>first|(cases h;exact⟨_,‹_›,rfl,rfl⟩)|cases h
theorem afD{fr:Bool}{x:IV}(h:aV fr R σ x (.agg [])):x=.agg []:=by
 cases h with
 |agg cs _ hl _=>
  have h0:cs=[]:=asH (by simpa using hl);rw[h0]
 |pure=>rfl
theorem aay{t:TypeId}(h:Ms P t=true):cj P t=some (.agg #[]):=by
 unfold Ms at h;split at h
 ·rename_i cs hc;rw[hc];have:cs.toList=[]:=by simpa using h
  rw[show cs= #[]from by cases cs;simp at this;rw[this]]
 ·cases h
theorem Q_{t:TypeId}{m key:Operand}{kt et:TypeId}(hJ:J (aj P ν) R φ V.g V.l E σ)(hn:ν.length=V.n)(ho:o.op=.lookup t m key true)(hu:P.underlying t=some (.map kt et))(hz:Ms P et=true)
 (hs:(Jy kt (bG P d V t m) (bG P d V kt key) V k).sat P C Q K ν):cN P C Q K ν E V.ln k (bE P E d o σ):=by
 have lZ:=aay hz;unfold Jy at hs;split at hs<;>first|(exact hs.elim)|skip
 rename_i j ke hm hk;split at hs<;>first|(exact hs.elim)|skip
 rename_i lz ik hj;split at hs<;>first|(exact hs.elim)|skip
 rename_i js;rw[ar6,asN]at js;obtain⟨js,d_⟩:=js;have ye:=asd js;subst ye;have d_:¬gk kt=true:=by rw[d_];simp
 obtain⟨⟨u,yf⟩,h,hh,hs⟩:=hs;have pn:=aW hJ d t m;have Oq:=aW hJ d kt key;rw[hm]at pn;obtain⟨id,lB,gF,g1,g2,g3⟩:=pn;rw[hj]at g2;cases g2;rw[if_neg d_]at g3;obtain⟨kv,a1,a2⟩:=AH hJ Oq hk;have dr:=hJ.obj j _ hj;rw[gw,if_neg d_]at dr;obtain⟨bp,es,clock,ds,c1,c2,c3,c4,c5⟩:=dr;rw[g1]at c2;cases c2;have jV:ik.den P ν=some (.av ds):=c1;have wm:ke.den P ν=some kv:=a1
 have hg:∃q,fc P kt ds kv=some q∧(q=none∨∃i a,q=some i∧ds[i]?=some (.av [a,.agg []])):=by
  simp only[SE.den,jV,wm,asc]at yf;cases hq:fc P kt ds kv with
  |none=>rw[hq]at yf;simp at yf
  |some q=>
   refine⟨q,rfl,?_⟩;rw[hq]at yf;cases q with
   |none=>exact .inl rfl
   |some i=>
    refine .inr ?_;simp only at yf;split at yf
    ·rename_i a y hd;simp only[asc]at yf;split at yf
     ·rename_i cs;split at yf
      ·rename_i hc;have:cs=[]:=asH hc.1;subst this;exact⟨i,a,rfl,hd⟩
      ·cases yf
     ·cases yf
    ·simp at yf
 obtain⟨q,hq,qF⟩:=hg;obtain⟨kk,e1,e2,e3,e4,e5⟩:=vA c5.1 hq es.isEmpty;have FR:=DR e1 a2;simp only[SE.den,jV,wm,asc,hq,asC,ar7]at hh;subst hh;have bk:=hJ.up (gN:=aj P (ν++[.bool q.isSome])) (fun e y h=>SE.cI P e h);have Dg:entriesOf σ (aq (E d) m)=some es:=by rw[g3];simp[entriesOf,c4]
 have eo:ak P 0 (aq (E d)) o σ=some (.val (.av [.agg [],.raw (.bool q.isSome)]) σ):=by
  simp only[ak,ho,hu,Dg,FR,e2,e4,lZ];rcases qF with rfl|⟨i,a,rfl,hd⟩
  ·simp[ret,lift]
  ·obtain⟨e,h6,_⟩:=e5 i rfl;obtain⟨z',h8,h9⟩:=All2.get c5.1 h6 hd;simp only[IV.av.injEq,as5,and_true]at h8;obtain⟨_,rfl⟩:=h8;simp[ret,h6,afD h9]
 refine⟨.av [.agg [],.raw (.bool q.isSome)],σ,R,φ,.tu [(true,[]),(false,[.v (.var V.n)])],{V with n:=V.n+1},[.bool q.isSome],eo,bk,⟨_,rfl,⟨[],rfl,trivial⟩,⟨_,rfl,.raw (.bool q.isSome),?_,.raw _,rfl⟩,trivial⟩,by simp[hn],rfl,hs⟩;simp[aj,SE.den,←hn]
theorem Ra{t:TypeId}{m key:Operand}{kt et:TypeId}{ok:Bool}(hJ:J (aj P ν) R φ V.g V.l E σ)(hn:ν.length=V.n)(ho:o.op=.lookup t m key ok)(hu:P.underlying t=some (.map kt et))
 (hs:(Jw P kt et (bG P d V t m) (bG P d V kt key) ok V k).sat P C Q K ν):cN P C Q K ν E V.ln k (bE P E d o σ):=by
 unfold Jw at hs;split at hs<;>first|(exact hs.elim)|skip
 rename_i j ke zs n hm hk vy Ld;split at vy<;>first|(cases vy;done)|skip
 rename_i arr lZ;split at hs<;>first|(exact hs.elim)|skip
 rename_i lz ik hj;split at hs<;>first|(exact hs.elim)|skip
 rename_i js;rw[ar6,asN]at js;obtain⟨js,d_⟩:=js;have ye:=asd js;subst ye;have d_:¬gk kt=true:=by rw[d_];simp
 obtain⟨z,hz,hs⟩:=hs;have pn:=aW hJ d t m;have Oq:=aW hJ d kt key;rw[hm]at pn;obtain⟨id,lB,gF,g1,g2,g3⟩:=pn;rw[hj]at g2;cases g2;rw[if_neg d_]at g3;obtain⟨kv,a1,a2⟩:=AH hJ Oq hk;have dr:=hJ.obj j _ hj;rw[gw,if_neg d_]at dr;obtain⟨bp,es,clock,ds,c1,c2,c3,c4,c5⟩:=dr;rw[g1]at c2;cases c2;have jV:ik.den P ν=some (.av ds):=c1;have wm:ke.den P ν=some kv:=a1;obtain⟨zys,y1,y2⟩:=GL hJ vy (mD (R:=R) (φ:=φ) (L:=V.l) (σ:=σ) lZ);have anZ:=ey y1;simp only[Value.cells]at y2;have ajD:lift (.agg arr)=.agg (arr.toList.map .raw):=rfl
 have hg:∃q,fc P kt ds kv=some q∧∃cs,z=.agg cs∧cs.length=n∧cs.all Ev.ab=true∧((q=none∧cs=zys)∨∃i a,q=some i∧ds[i]?=some (.av [a,.agg cs])):=by
  simp only[SE.den,jV,wm,anZ,asc]at hz;cases hq:fc P kt ds kv with
  |none=>rw[hq]at hz;simp at hz
  |some q=>
   refine⟨q,rfl,?_⟩;rw[hq]at hz;cases q with
   |none=>
    simp only[asc]at hz;split at hz
    ·rename_i hc;cases hz;exact⟨zys,rfl,hc.1,hc.2,.inl ⟨rfl,rfl⟩⟩
    ·cases hz
   |some i=>
    simp only at hz;split at hz
    ·rename_i a y hd;simp only[asc]at hz;split at hz<;>first|(cases hz;done)|skip
     rename_i cs;split at hz
     ·rename_i hc;cases hz;exact⟨cs,rfl,hc.1,hc.2,.inr ⟨i,a,rfl,hd⟩⟩
     ·cases hz
    ·simp at hz
 obtain⟨q,hq,cs,rfl,eu,vT,qF⟩:=hg;obtain⟨kk,e1,e2,e3,e4,e5⟩:=vA c5.1 hq es.isEmpty;have FR:=DR e1 a2;have bk:=hJ.up (gN:=aj P (ν++[.agg cs])) (fun e y h=>SE.cI P e h);have Dg:entriesOf σ (aq (E d) m)=some es:=by rw[g3];simp[entriesOf,c4]
 have eo:∃xs,All2 (aV true R σ) xs cs∧ak P 0 (aq (E d)) o σ=some (.val (if ok then .av [.agg xs,.raw (.bool q.isSome)]else .agg xs) σ):=by
  rcases qF with⟨rfl,rfl⟩|⟨i,a,rfl,hd⟩
  ·refine⟨_,y2,?_⟩;simp only[ak,ho,hu,Dg,FR,e2,e4,lZ];cases ok<;>simp[ret,ajD]
  ·obtain⟨e,h6,_⟩:=e5 i rfl;obtain⟨z',h8,h9⟩:=All2.get c5.1 h6 hd;simp only[IV.av.injEq,as5,and_true]at h8;obtain⟨_,rfl⟩:=h8;obtain⟨xs,yC,v_⟩:=BV h9;refine⟨xs,v_,?_⟩;simp only[ak,ho,hu,Dg,FR,e2,e4,lZ];cases ok<;>simp[ret,h6,yC]
 obtain⟨xs,il,eo⟩:=eo
 have ij:∀(μ:List IV) (m0:Nat),ν.length=m0→All2 (cw (aj P (ν++(.agg cs::μ))) R φ V.l σ) xs ((List.range n).map fun j=>.w true (.bM (.var m0) j)):=by
  intro μ m0 Ct;refine .mk (by simp[il.len,eu]) fun i a b h1 h2=>?_;have hi:=(ar5.1 h1).1;rw[il.len]at hi;rw[asi,auN (by omega)]at h2;simp only[asC,ar7]at h2;subst h2;have Lf:cs[i]?=some cs[i]:=ar4 hi;have bf:Ev.ab cs[i]=true:=(asl.1 vT) _ (asb hi);exact⟨cs[i],by simp[aj,SE.den,←Ct,Lf,xU,bf],il.get h1 Lf,bf⟩
 cases ok with
 |false=>
  simp only[asD,if_false]at hs eo;exact⟨.agg xs,σ,R,φ,.ag _,{V with n:=V.n+1},[.agg cs],eo,bk,⟨xs,rfl,ij [] V.n hn⟩,by simp[hn],rfl,hs⟩
 |true=>
  simp only[if_true]at hs eo;obtain⟨h,hh,hs⟩:=hs;have aaz:=SE.cI P ik (μ:=[.agg cs]) jV;have aaA:=SE.cI P ke (μ:=[.agg cs]) wm;simp only[SE.den,aaz,aaA,asc,hq,asC,ar7]at hh;subst hh;rw[asv]at hs;have dP:=bk.up (gN:=aj P (ν++([.agg cs]++[.bool q.isSome]))) (fun e y h=>by rw[←asv];exact SE.cI P e h);refine⟨.av [.agg xs,.raw (.bool q.isSome)],σ,R,φ,.tu [(true,_),(false,[.v (.var (V.n+1))])],{V with n:=V.n+1+1},[.agg cs]++[.bool q.isSome],eo,dP,⟨_,rfl,⟨xs,rfl,ij [.bool q.isSome] V.n hn⟩,⟨_,rfl,.raw (.bool q.isSome),?_,.raw _,rfl⟩,trivial⟩,by simp[hn],rfl,hs⟩;simp[aj,SE.den,←hn]
theorem U8{t:TypeId}{m key:Operand}{ok:Bool}(hJ:J (aj P ν) R φ V.g V.l E σ)(hn:ν.length=V.n)(ho:o.op=.lookup t m key ok)(hs:(fU P d o V k).sat P C Q K ν):cN P C Q K ν E V.ln k (bE P E d o σ):=by
 unfold fU at hs;rw[ho]at hs;simp only at hs;split at hs<;>first|(exact hs.elim)|skip
 rename_i kt et hu;split at hs
 ·rename_i bf;simp only[ar6]at bf;obtain⟨rfl,hz⟩:=bf;exact Q_ hJ hn ho hu hz hs
 split at hs
 ·exact Ra hJ hn ho hu hs
 unfold RU at hs;split at hs<;>first|(exact hs.elim)|skip
 rename_i j ke z0 hm hk lZ;split at hs<;>first|(exact hs.elim)|skip
 rename_i lz ik hj;split at hs<;>first|(exact hs.elim)|skip
 rename_i js;rw[ar6,asN]at js;obtain⟨js,d_⟩:=js;have ye:=asd js;subst ye;have d_:¬gk kt=true:=by rw[d_];simp
 obtain⟨z,hz,hs⟩:=hs;obtain⟨mG,JL⟩:=ph hz;have pn:=aW hJ d t m;have Oq:=aW hJ d kt key;rw[hm]at pn;obtain⟨id,lB,gF,g1,g2,g3⟩:=pn;rw[hj]at g2;cases g2;rw[if_neg d_]at g3;obtain⟨kv,a1,a2⟩:=AH hJ Oq hk;have dr:=hJ.obj j _ hj;rw[gw,if_neg d_]at dr;obtain⟨bp,es,clock,ds,c1,c2,c3,c4,c5⟩:=dr;rw[g1]at c2;cases c2;have jV:ik.den P ν=some (.av ds):=c1;have wm:ke.den P ν=some kv:=a1;obtain⟨v0,y1,y2,y3⟩:=aax (ν:=ν) lZ
 have hg:∃q,fc P kt ds kv=some q∧∃u,z=.raw u∧((q=none∧u=v0)∨∃i a,q=some i∧ds[i]?=some (.av [a,.raw u])):=by
  simp only[SE.den,jV,wm,y2,asc]at mG;cases hq:fc P kt ds kv with
  |none=>rw[hq]at mG;simp at mG
  |some q=>
   refine⟨q,rfl,?_⟩;rw[hq]at mG;cases q with
   |none=>
    simp only[asc,au,if_true,ar7]at mG;exact⟨v0,mG.symm,.inl ⟨rfl,rfl⟩⟩
   |some i=>
    simp only at mG;split at mG
    ·rename_i a y hd;simp only[asc]at mG;split at mG
     ·rename_i hr;cases mG;cases z<;>simp only[au]at hr<;>first|(cases hr;done)|skip
      rename_i u;exact⟨u,rfl,.inr ⟨i,a,rfl,hd⟩⟩
     ·cases mG
    ·simp at mG
 obtain⟨q,hq,u,rfl,qF⟩:=hg;obtain⟨kk,e1,e2,e3,e4,e5⟩:=vA c5.1 hq es.isEmpty;have FR:=DR e1 a2;have bk:=hJ.up (gN:=aj P (ν++[.raw u])) (fun e y h=>SE.cI P e h);have gS:(SE.var V.n).den P (ν++[.raw u])=some (.raw u):=by simp[SE.den,←hn]
 have Dg:entriesOf σ (aq (E d) m)=some es:=by rw[g3];simp[entriesOf,c4]
 have eo:ak P 0 (aq (E d)) o σ=some (.val (if ok then .av [.raw u,.raw (.bool q.isSome)]else .raw u) σ):=by
  simp only[ak,ho,hu,Dg,FR,e2,e4,y1];rcases qF with⟨rfl,rfl⟩|⟨i,a,rfl,hd⟩
  ·cases ok<;>simp[ret,y3]
  ·obtain⟨e,h6,_⟩:=e5 i rfl;obtain⟨z',h8,h9⟩:=All2.get c5.1 h6 hd;simp only[IV.av.injEq,as5,and_true]at h8;obtain⟨_,rfl⟩:=h8;have:=bS h9;cases ok<;>simp[ret,h6,this]
 cases ok with
 |false=>
  simp only[asD,if_false]at hs eo;exact⟨.raw u,σ,R,φ,.one (.v (.var V.n)),{V with n:=V.n+1},[.raw u],eo,bk,⟨.raw u,gS,.raw u,JL⟩,by simp[hn],rfl,hs⟩
 |true=>
  simp only[if_true]at hs eo;obtain⟨h,hh,hs⟩:=hs;have aaz:=SE.cI P ik (μ:=[.raw u]) jV;have aaA:=SE.cI P ke (μ:=[.raw u]) wm;simp only[SE.den,aaz,aaA,asc,hq,asC,ar7]at hh;subst hh;rw[asv]at hs;have dP:=bk.up (gN:=aj P (ν++([.raw u]++[.bool q.isSome]))) (fun e y h=>by rw[←asv];exact SE.cI P e h);refine⟨.av [.raw u,.raw (.bool q.isSome)],σ,R,φ,.tu [(false,[.v (.var V.n)]),(false,[.v (.var (V.n+1))])],{V with n:=V.n+1+1},[.raw u]++[.bool q.isSome],eo,dP,⟨_,rfl,⟨_,rfl,.raw u,?_,.raw u,JL⟩,⟨_,rfl,.raw (.bool q.isSome),?_,.raw _,rfl⟩,trivial⟩,by simp[hn],rfl,hs⟩
  ·simp[aj,SE.den,←hn]
  ·simp[aj,SE.den,←hn]
end Go.Ev
namespace Go.Ev
variable{P:Program}{N:Nat}{σ ah:St}{R R':Rs}{φ aH:Ph}{E:Nat→Env}{ν:List IV}
variable{C:Cr}{Q:IV→Prop}{K:List (List IV→Prop)}{V:SS}{d:Nat}{o:Oper}{k:PV SE→SS→af}{L:List (LO SE)}{Γ:Gm SE}
theorem R9{s:Nat}{e lo hi:SE}{z:IV}(h:(SE.sub s e lo hi).den P ν=some z):∃es a b l m q r,e.den P ν=some (.tree s es)∧lo.den P ν=some a∧hi.den P ν=some b∧a=.raw (.int q (l:Nat))∧b=.raw (.int r (m:Nat))∧l≤m∧m≤es.length∧z=.tree s ((es.take m).drop l):=by
 simp only[SE.den,ass]at h;obtain⟨x,h1,a,h2,b,h3,h4⟩:=h;unfold jF at h4;split at h4<;>first|(cases h4;done)|skip
 rename_i s1 es;split at h4<;>first|(cases h4;done)|skip
 rename_i l m hl hm;split at h4<;>first|(cases h4;done)|skip
 rename_i hc;obtain⟨rfl,h5,h6,h7,h8⟩:=hc;cases h4;obtain⟨q,rfl⟩:=BP hl;obtain⟨r,rfl⟩:=BP hm;exact⟨es,_,_,l.toNat,m.toNat,q,r,h1,h2,h3,by rw[auI h5],by rw[auI h7],h6,h8,rfl⟩
theorem aV.part{fr:Bool}{x:IV}{s l m:Nat}{es:List IV}{t el:TypeId}(hu:P.underlying t=some (.slice el))(aK:aI P el=some s)(h:aV fr R σ x (.tree s es))(h1:l≤m)(h2:m≤es.length){lo hi:Option IV}
 (fv:∀id off len c ep s',x=.sl id off len (some c) ep s'→len≤c)
 (yH:ga lo=some (some l)∨(ga lo=some none∧l=0))(Wn:ga hi=some (some m)∨(ga hi=some none∧m=es.length)):
 ∃x',fg P t x lo hi none=some x'∧aV fr R σ x' (.tree s ((es.take m).drop l)):=by
 obtain⟨jD,JM,JN⟩:∃q:Option Nat,ga lo=some q∧q.getD 0=l:=by
  rcases yH with h|⟨h,rfl⟩
  ·exact⟨_,h,rfl⟩
  ·exact⟨_,h,rfl⟩
 obtain⟨cU,JO,aaB⟩:∃q:Option Nat,ga hi=some q∧∀n,n=es.length∨q≠none→q.getD n=m:=by
  rcases Wn with h|⟨h,rfl⟩
  ·exact⟨_,h,fun n _=>rfl⟩
  ·exact⟨_,h,fun n hn=>by rcases hn with rfl|hn;·rfl
                          ·exact absurd rfl hn⟩
 have sx:ga none=some none:=rfl
 have hz:es.length=0→l=0∧m=0∧(es.take m).drop l=[]∧cU.getD 0=0:=by
  intro h;have:es=[]:=asH h;subst this;have Ct:m=0:=by simpa using h2
  refine⟨by omega,Ct,by simp,?_⟩;have:=aaB 0 (.inl rfl);omega
 cases h with
 |nil _ hs=>
  obtain⟨z1,z2,z3,z4⟩:=hz rfl;refine⟨.raw (.slice none 0 0),?_,by rw[z3];exact .nil s hs⟩;simp[fg,JM,JO,sx,hu,aK,JN,z1,z4]
 |emp _ hs=>
  obtain⟨z1,z2,z3,z4⟩:=hz rfl;refine⟨.emp,?_,by rw[z3];exact .emp s hs⟩;simp[fg,JM,JO,sx,hu,aK,JN,z1,z4]
 |pure _ hf hp=>
  refine⟨.tree s ((es.take m).drop l),?_,.pure _ hf ?_⟩
  ·have:=aaB es.length (.inl rfl);simp[fg,JM,JO,sx,hu,aK,JN,this,h1,h2]
  ·cases hp with
   |tree _ _ hh=>exact .tree s _ fun e he=>hh e (atn (aue he))
 |sl id off len cap ep _ m0 cs ar mn _ hR az h3 h4 hs hl hb hm bD hh=>
  have C5:=aaB len (.inl hl.symm)
  have e_:∀GM:Option Nat,aV fr R σ (.sl id (off+l*s) (m- l) GM ep s) (.tree s ((es.take m).drop l)):=fun GM=>by
   refine .sl id (off+l*s) (m- l) GM ep s m0 cs ar mn _ hR az h3 h4 hs (by simp;omega) ?_ hm (fun e he=>bD e (atn (aue he))) fun i e j c d' he hd hc=>?_
   ·have:(m- l)*s+l*s≤len*s:=by rw[←asG];exact Nat.mul_le_mul_right s (by omega)
    omega
   ·rw[List.getElem?_drop,asF]at he;split at he
    ·refine hh (l+i) e j c d' he hd ?_;rw[asG];rw[show off+(l*s+i*s)+j=off+l*s+i*s+j by omega];exact hc
    ·cases he
  cases cap with
  |none=>
   refine⟨.sl id (off+l*s) (m- l) none ep s,?_,e_ none⟩;have:cU.getD len=m:=C5;simp[fg,JM,JO,sx,hu,aK,JN,this,h1];omega
  |some c=>
   by_cases Rw:m≤c
   ·by_cases hc:c=l
    ·refine⟨.emp,?_,?_⟩
     ·simp[fg,JM,JO,sx,hu,aK,JN,C5,h1,Rw,hc];omega
     ·have:(es.take m).drop l=[]:=by
       apply asH;simp;omega
      rw[this];exact .emp s hs
    ·refine⟨.sl id (off+l*s) (m- l) (some (c- l)) ep s,?_,e_ _⟩;simp[fg,JM,JO,sx,hu,aK,JN,C5,h1,Rw,hc]
   ·have:=fv _ _ _ _ _ _ rfl;omega
theorem Ot{q:IntKind}{n:Nat}:ga (some (.raw (.int q (n:Nat))))=some (some n):=by
 simp[ga]
theorem Ih(hJ:J (aj P ν) R φ V.g V.l E σ){Ux e:SE}{x:Option Operand}(h:Gz P d V Ux x=some e){n:Nat}{q:IntKind}(he:e.den P ν=some (.raw (.int q (n:Nat)))):
 ga (x.map (aq (E d)))=some (some n)∨(ga (x.map (aq (E d)))=some none∧e=Ux):=by
 cases x with
 |none=>simp only[Gz,ar7]at h;exact .inr ⟨rfl,h.symm⟩
 |some x=>
  simp only[Gz]at h;split at h
  ·rename_i e' hx;cases h;have hv:=aW hJ d 3 x;rw[hx]at hv;obtain⟨y,h1,h2,_⟩:=hv;have cH:e.den P ν=some y:=h1;rw[he]at cH;cases cH;rw[asC,bS h2];exact .inl Ot
  ·cases h
theorem Xr{t:TypeId}{x:Operand}{lo hi mx:Option Operand}(hJ:J (aj P ν) R φ V.g V.l E σ)(hn:ν.length=V.n)(ho:o.op=.slice t x lo hi mx)(hs:(Jz P d t (bG P d V t x) lo hi mx V k).sat P C Q K ν):cN P C Q K ν E V.ln k (bE P E d o σ):=by
 unfold Jz at hs;split at hs<;>first|(exact hs.elim)|skip
 rename_i el c hu hx;have p_:=aW hJ d t x;rw[hx]at p_;split at hs<;>first|(exact hs.elim)|skip
 rename_i s aK;split at hs
 ·rename_i j l _;split at hs<;>first|(exact hs.elim)|skip
  rename_i s' cut fr es e hj he;split at hs<;>first|(exact hs.elim)|skip
  rename_i gW;have uD:=asd gW;subst uD;obtain⟨⟨z,hz⟩,hs⟩:=hs;obtain⟨eP,a,b,n,m,q,r,h1,h2,h3,rfl,rfl,h4,h5,rfl⟩:=R9 hz
  have hm:m=eP.length:=by
   obtain⟨s0,ik,h6,h7⟩:=Fe h3;rw[h1]at h6;cases h6;simp at h7;omega
  subst hm;have hl:=aW hJ d 3 l;rw[he]at hl;obtain⟨y,y1,y2,_⟩:=hl;have K8:e.den P ν=some y:=y1;rw[h2]at K8;cases K8;have fN:=bS y2;obtain⟨s1,rX,rG,rY,z1,gF,b1,b2,b3⟩:=p_;rw[hj]at b1;cases b1;have po:es.den P ν=some (.tree s gF):=b2;rw[h1]at po;cases po;have Ld:nat? (.raw (.int q (n:Nat)))=some n:=by simp[nat?]
  have Ou:ga (some (aq (E d) l))=some (some n):=by rw[fN];exact Ot
  have sx:ga none=some none:=rfl
  have fin:∀x',fg P t (aq (E d) x) (some (aq (E d) l)) none none=some x'→(Jn φ σ j s cut n eP.length x'∨(n=eP.length∧x'=.emp))→cN P C Q K ν E V.ln k (bE P E d o σ):=fun x' g1 g2=>by
   refine .at (x:=x') hs hJ hn rfl ⟨s,false,cut,fr,es,eP,_,n,hj,h1,h2,Ld,h4,g2⟩ ?_;simp[bE,ak,ho,g1,ret]
  rcases b3 with⟨c1,c2,c3⟩|⟨id,cs,ar,mn,cap,c1,c2,c3,c4,c5,c6⟩
  ·have kf:n=0:=by omega
   subst kf;rcases c3 with c3|c3
   ·refine fin (.raw (.slice none 0 0)) ?_ (.inl (.inl ⟨c1,c2,.inl rfl⟩));rw[c3];simp[fg,Ou,sx,hu,aK]
   ·refine fin .emp ?_ (.inl (.inl ⟨c1,c2,.inr rfl⟩));rw[c3];simp[fg,Ou,sx,hu,aK]
  ·cases cap with
   |none=>
    refine fin (.sl id (n*s) (eP.length- n) none ar s) ?_ (.inl (.inr ⟨id,cs,ar,mn,none,c1,c2,rfl,h4,c5,fun c hc=>by cases hc⟩));rw[c3];simp[fg,Ou,sx,hu,aK,h4]
   |some c=>
    obtain⟨d1,d2,d3⟩:=c6 c rfl;by_cases hc:c=n
    ·refine fin .emp ?_ (.inr ⟨by omega,rfl⟩);rw[c3];simp[fg,Ou,sx,hu,aK,h4,hc];omega
    ·refine fin (.sl id (n*s) (eP.length- n) (some (c- n)) ar s) ?_ (.inl (.inr ⟨id,cs,ar,mn,some (c- n),c1,c2,rfl,h4,(fun h=>by simp at h),fun c' xA=>?_⟩))
     ·rw[c3];have:eP.length≤c:=by omega
      simp[fg,Ou,sx,hu,aK,h4,hc,this]
     ·have an0:c- n=c':=by simpa using xA
      subst an0;refine⟨d1,?_,by omega⟩;have:n*s+(c- n)*s=c*s:=by rw[←asG];congr 1;omega
      omega
 ·rename_i c lo hi c0 lo0 tS b0 _;split at hs<;>first|(exact hs.elim)|skip
  rename_i fr z V2 jk;split at hs<;>first|(exact hs.elim)|skip
  rename_i le he hl hh
  have GI:wj V c=some (fr,z,V2):=by
   split at jk<;>first|exact jk|cases jk
  obtain⟨R',g1,g2,g3⟩:=DM hJ GI;obtain⟨y,g4,g5,_⟩:=g3 _ p_;have xH:ν.length=V2.n:=by rw[g1.2.1];exact hn
  obtain⟨w,w1,w2,w3,w4,w5⟩:=pY g2 xH hs;obtain⟨eP,a,b,l,m,q,r,h1,h2,h3,rfl,rfl,h4,h5,rfl⟩:=R9 w1;rw[g4]at h1;cases h1
  have fv:∀id off len c1 ep s',aq (E d) x=.sl id off len (some c1) ep s'→len≤c1:=by
   intro id off len c1 ep s' iJ;split at jk<;>first|(cases jk;done)|skip
   ·obtain⟨y',_,q2,_⟩:=p_;rw[iJ]at q2;cases q2 with
    |pure _ _ hp=>cases hp
    |sl _ _ _ _ _ _ _ _ _ _ _ hR=>cases hR
   ·obtain⟨_,q2⟩:=p_;rw[iJ]at q2;split at q2<;>cases q2
   ·obtain⟨s1,rX,rG,rY,z1,gF,b1,b2,⟨_,_,b3|b3⟩|⟨bp,cs,ar,mn,cap,jV,c2,c3,c4,c5,c6⟩⟩:=p_
    ·rw[iJ]at b3;cases b3
    ·rw[iJ]at b3;cases b3
    ·rw[iJ]at c3;cases c3;have:=(c6 c1 rfl).2.2;omega
  have yH:ga (lo.map (aq (E d)))=some (some l)∨(ga (lo.map (aq (E d)))=some none∧l=0):=by
   refine(Ih hJ hl h2).imp_right fun⟨e1,e2⟩=>⟨e1,?_⟩;subst e2;simp only[SE.den,ar7,IV.raw.injEq,avq]at h2;have:=h2.2;omega
  have Wn:ga (hi.map (aq (E d)))=some (some m)∨(ga (hi.map (aq (E d)))=some none∧m=eP.length):=by
   refine(Ih hJ hh h3).imp_right fun⟨e1,e2⟩=>⟨e1,?_⟩;subst e2;obtain⟨s0,ik,h6,h7⟩:=Fe h3;rw[g4]at h6;cases h6;simp at h7;omega
  obtain⟨x',k1,k2⟩:=g5.part (t:=t) (el:=el) hu aK h4 h5 fv yH Wn;refine⟨x',σ,R',φ,.one (.w fr (.var V2.n)),{V2 with n:=V2.n+1},[.tree s ((eP.take m).drop l)],?_,w4,⟨_,w3,k2,rfl⟩,w5,g1.2.2.1,w2⟩;simp[bE,ak,ho,k1,ret]
end Go.Ev
namespace Go.Ev
variable{P:Program}{N:Nat}{σ ah:St}{R R':Rs}{φ aH:Ph}{E:Nat→Env}{ν:List IV}
variable{C:Cr}{Q:IV→Prop}{K:List (List IV→Prop)}{V:SS}{d:Nat}{o:Oper}{k:PV SE→SS→af}{L:List (LO SE)}{Γ:Gm SE}
theorem adI{s:Nat}{e lo x:SE}{z:IV}(h:(SE.HN s e lo x).den P ν=some z):∃(es:List IV) (a:IV) (n:Nat) (q:IntKind) (y:IV),e.den P ν=some (.tree s es)∧lo.den P ν=some a∧a=.raw (.int q n)∧x.den P ν=some y∧n≤es.length∧(cellsOf y).length=s∧z=.tree s (es.take n++asn (es.length- n) y):=by
 simp only[SE.den,ass]at h;obtain⟨x,h1,a,h2,b,h3,h4⟩:=h;unfold DL at h4;split at h4<;>first|(cases h4;done)|skip
 rename_i s1 es;split at h4<;>first|(cases h4;done)|skip
 rename_i l hl;split at h4<;>first|(cases h4;done)|skip
 rename_i hc;obtain⟨rfl,h5,h6,h7⟩:=hc;cases h4;obtain⟨q,rfl⟩:=BP hl;exact⟨es,_,l.toNat,q,b,h1,h2,by rw[auI h5],h3,h6,h7,rfl⟩
theorem JP{y:IV}(n:Nat):flat (asn n y)=(asn n (cellsOf y)).flatten:=by
 induction n with
 |zero=>rfl
 |succ n ih=>simp[flat,auk]at ih⊢;exact ih
theorem zX{α:Type}{c:List α}{s:Nat}(hl:c.length=s):∀{n i:Nat},i<n*s→∀x,((asn n c).flatten)[i]?=some x→c[i % s]?=some x
 |0,i,h,_,_=>by simp at h
 |n+1,i,h,x,hx=>by
  rw[auk,List.flatten_cons]at hx;by_cases hi:i<s
  ·rw[asf (by omega)]at hx;rw[Nat.mod_eq_of_lt hi];exact hx
  ·rw[asw (by omega),hl]at hx;rw[asG]at h;have:=zX hl (n:=n) (i:=i- s) (by omega) x hx;rw[Nat.mod_eq_sub_mod (by omega)];exact this
theorem Xs(hJ:J (aj P ν) R φ V.g V.l E σ){c:Call}{pv:PV SE}(h:gO P d V c.args.toList c.argTypes.toList=[pv]):∃x,c.args.toList.map (aq (E d))=[x]∧VR (aj P ν) R φ V.l σ x pv:=by
 have ha:=fI hJ d c.args.toList c.argTypes.toList;rw[h]at ha;exact kq ha
theorem Xt{c:Call}(hJ:J (aj P ν) R φ V.g V.l E σ)(hn:ν.length=V.n)(ho:o.op=.call c)(hc:c.callee=.builtin .clear)(hs:(fU P d o V k).sat P C Q K ν):cN P C Q K ν E V.ln k (bE P E d o σ):=by
 unfold fU at hs;rw[ho]at hs;simp only[hc]at hs;unfold W8 at hs;split at hs<;>first|(exact hs.elim)|skip
 rename_i et j lo hu bg;split at hs<;>first|(exact hs.elim)|skip
 rename_i s cut fr es z0 hj lZ;split at hs<;>first|(exact hs.elim)|skip
 rename_i bJ;simp only[ar6,asP,asL]at bJ;obtain⟨⟨⟨aK,CN⟩,Xg⟩,RX⟩:=bJ;split at hs<;>first|(exact hs.elim)|skip
 rename_i f zs V2 jk;split at hs<;>first|(exact hs.elim)|skip
 rename_i gX;have yJ:=Oa gX;obtain⟨x,hx,p_⟩:=Xs hJ bg;obtain⟨R',dK,dP,arX,GI⟩:=uy hJ jk;have aap:=dK.KO (x:=x) (c:=.sv j lo) p_;obtain⟨s',lu,uj,cL,z',aB,y,n,a1,a2,a3,a4,a5,a6⟩:=aap;rw[yJ]at a1;cases a1;obtain⟨bu,gF,g1,g2,g3⟩:=dP.obj j _ yJ;have r6:es.den P ν=some (.tree s aB):=a2;have mQ:es.den P ν=some (.tree s gF):=g1;rw[r6]at mQ;cases mQ;have FB:=mD (P:=P) (ν:=ν) (R:=R) (φ:=φ) (L:=V.l) (σ:=σ) lZ;obtain⟨ys,b1,b2,b3⟩:=GI _ FB;have Oc:(z0.cells.toList.map IV.raw).length=s:=by simp[aK]
 have FP:ys.length=s:=by rw[←b2.len];exact Oc
 obtain⟨ze,Xh,an1⟩:∃ze,(if isAgg P et=true then dN zs else zs.headD .an).den P ν=some ze∧cellsOf ze=ys:=by
  split
  ·exact⟨_,ey b1,rfl⟩
  ·rename_i Wm;have c9:s=1:=CN.resolve_left Wm;have Od:ys.length=1:=by omega
   obtain⟨y0,rfl⟩:=au8.1 Od;obtain⟨z1,rfl⟩:=au8.1 (b1.len.trans Od);refine⟨y0,b1.1,?_⟩;have:Ev.ab y0=true:=by simpa using b3
   cases y0<;>first|rfl|(simp[Ev.ab]at this;done)
 have xH:ν.length=V2.n:=by rw[dK.2.1];exact hn
 obtain⟨anR,H9,hk,gS,tV,ab5⟩:=pY dP xH hs;obtain⟨K5,a,n',q,y',c1,c2,rfl,c3,c4,c5,rfl⟩:=adI H9;rw[r6]at c1;cases c1;rw[Xh]at c3;cases c3;have a3':lo.den P ν=some y:=a3;rw[c2]at a3';cases a3'
 have Ld:n'=n:=by
  simp[nat?]at a4;exact a4
 subst Ld
 let Ii:=aB.take n'++asn (aB.length- n') ze
 have hl4:Ii.length=aB.length:=by simp[Ii];omega
 have an2:∀e∈Ii,(cellsOf e).length=s:=fun e he=>by
  rcases List.mem_append.1 he with he|he
  ·exact g2 e (atn he)
  ·rw[ati he];exact c5
 have same:n'=aB.length→ak P 0 (aq (E d)) o σ=some (.val .undef σ)→cN P C Q K ν E V.ln k (bE P E d o σ):=by
  intro Hu dZ;have h4:Ii=aB:=by simp[Ii,Hu]
  obtain⟨_,Xi⟩:=tV.reZ (cL:=fr||f) (k:=j) yJ (SE.cI P es r6) (by rw[gS];show some (IV.tree s Ii)=_;rw[h4]) (fun h=>by simp[h]);exact⟨.undef,σ,R',φ,.one .un,({V2 with n:=V2.n+1}:SS).setObj j (.row s false cut (fr||f) (.var V2.n)),[.tree s Ii],dZ,Xi,trivial,ab5,dK.2.2.1,hk⟩
 have Xu:∀x0,x=x0→(x0=.raw (.slice none 0 0)∨x0=.emp)→ak P 0 (aq (E d)) o σ=some (.val .undef σ):=by
  intro x0 h1 h2;subst h1;simp only[ak,ho,hc,hx];rcases h2 with rfl|rfl<;>simp[du,si,hu,ret]
 rcases a6 with(⟨e1,e2,e3⟩|⟨id,cs,ar,mn,cap,e1,e2,e3,e4,e5,e6⟩)|⟨e1,e2⟩
 ·exact same (by omega) (Xu _ rfl e3)
 ·by_cases hz:aB.length- n'=0
  ·refine same (by omega) ?_;simp only[ak,ho,hc,hx,e3];simp[du,si,hu,ret,hz]
  ·rcases g3 with⟨g3,_⟩|⟨bp,cm,g_,o7,g3,g4,g5,g6,g7,g8,g9⟩
   ·rw[e1]at g3;cases g3
   rw[e1]at g3;cases g3;rw[e2]at g4;cases g4;have On:gr (z0.cells.toList.map IV.raw) ((aB.length- n')*s)=(asn (aB.length- n') (z0.cells.toList.map IV.raw)).flatten:=BU Oc bu _;have eu:(gr (z0.cells.toList.map IV.raw) ((aB.length- n')*s)).length=(aB.length- n')*s:=by rw[On];exact vg Oc _
   have vT:(z0.cells.toList.map IV.raw).all Ev.ab=true:=pO FB Xg
   have aT:(gr (z0.cells.toList.map IV.raw) ((aB.length- n')*s)).all Ev.ab=true:=by
    rw[On,asl];intro u yD;obtain⟨l,tR,fi⟩:=avM.1 yD;rw[ati tR]at fi;exact asl.1 vT u fi
   have TT:n'*s+(aB.length- n')*s=aB.length*s:=by rw[←asG];congr 1;omega
   have U9:flat Ii=(flat aB).take (n'*s)++(asn (aB.length- n') ys).flatten:=by
    show flat (aB.take n'++_)=_;rw[BQ,JP,an1]
    congr 1
    have h1:flat aB=flat (aB.take n')++flat (aB.drop n'):=by rw[←BQ,List.take_append_drop]
    have h2:(flat (aB.take n')).length=n'*s:=by rw[na (s:=s) fun e he=>g2 e (atn he),auc,Nat.min_eq_left (by omega)]
    rw[h1,←h2,List.take_left'];rfl
   have Xi:=tV.Xf (cL:=fr||f) (z':=.var V2.n) (cm:=dm cs (n'*s) (gr (z0.cells.toList.map IV.raw) ((aB.length- n')*s))) e1 yJ e2 (tA (by rw[eu];omega)) (SE.cI P es r6) gS hl4 an2
    (wT g8 aT)
    (fun p u v hu hv=>by
     rw[mF (α:=IV) (by omega)]at hu;rw[eu]at hu;rw[U9]at hv
     have tW:((flat aB).take (n'*s)).length=n'*s:=by
      rw[auc,na g2];omega
     by_cases hp:n'*s≤p∧p<n'*s+(aB.length- n')*s
     ·rw[if_pos hp,On]at hu;rw[asw (by omega),tW]at hv;have q1:=zX Oc (by omega) _ hu;have q2:=zX FP (by omega) _ hv;exact(b2.get q1 q2).wide (fun h=>by simp[h])
     ·rw[if_neg hp]at hu
      have qA:p<n'*s:=by
       by_cases h:p<n'*s
       ·exact h
       ·exfalso;have h1:=(ar5.1 hv).1;rw[List.length_append,tW,vg FP]at h1;omega
      rw[asf (by omega),asF,if_pos qA]at hv;exact(g9 p u v hu hv).wide (fun h=>by simp[h]))
   refine⟨.undef,σ.put id (.cells (dm cs (n'*s) (gr (z0.cells.toList.map IV.raw) ((aB.length- n')*s))) ar ar),R',φ,.one .un,({V2 with n:=V2.n+1}:SS).setObj j (.row s false cut (fr||f) (.var V2.n)),[.tree s Ii],?_,Xi,trivial,ab5,dK.2.2.1,hk⟩;simp only[bE,ak,ho,hc,hx,e3];simp only[du,si,hu,lZ,e2,if_neg hz];rw[if_pos ⟨by omega,aK,aT,asT _,trivial,by omega⟩];rfl
 ·exact same e1 (Xu _ rfl (.inr e2))
theorem xl(hJ:J (aj P ν) R φ V.g V.l E σ){x:IV}{pv:PV SE}{e:SE}(h:uo pv=some e)(hx:VR (aj P ν) R φ L σ x pv):∀y,e.den P ν=some y→aV true R σ x y:=by
 intro y hy;unfold uo at h;split at h<;>cases h
 ·obtain⟨u,h1,h2,_⟩:=hx;have cH:e.den P ν=some u:=h1;rw[hy]at cH;cases cH;exact h2.mono hJ.AE
 ·obtain⟨u,h1,h2,_⟩:=hx;have cH:e.den P ν=some u:=h1;rw[hy]at cH;cases cH;exact h2.cu
theorem Xv{t:TypeId}{x ix:Operand}(hJ:J (aj P ν) R φ V.g V.l E σ)(hn:ν.length=V.n)(ho:o.op=.index t x ix)(hs:(fU P d o V k).sat P C Q K ν):cN P C Q K ν E V.ln k (bE P E d o σ):=by
 unfold fU at hs;rw[ho]at hs;simp only at hs;split at hs<;>first|(exact hs.elim)|skip
 rename_i a b hu ha hb;have tC:=xl hJ ha (aW hJ d t x);have hxb:=xl hJ hb (aW hJ d 0 ix);obtain⟨⟨z,hz⟩,hk⟩:=hs;have lZ:=hz;simp only[SE.den,ass]at hz;obtain⟨u,h1,v,h2,h3⟩:=hz;split at h3<;>first|(cases h3;done)|skip
 rename_i q kd n;split at h3<;>first|(cases h3;done)|skip
 rename_i kf;rw[ar_]at h3;obtain⟨c,h4,rfl⟩:=h3;exact .at (x:=.raw (.int .u8 c.toNat)) hk hJ hn rfl ⟨_,lZ,.raw _,rfl⟩ (by unfold bE ak;rw[ho];simp only[hu,bS (tC _ h1),bS (hxb _ h2),if_pos kf,h4];rfl)
theorem DT{a b:IV}{vs:List Value}(h:f_ [a,b]=some vs):∃u v,a=.raw u∧b=.raw v:=by
 cases a<;>simp[f_]at h;cases b<;>simp at h;exact⟨_,_,rfl,rfl⟩
theorem Xw{c:Call}{DF:Bool}{bi:Builtin}(hb:(bi=.max∧DF=true)∨(bi=.min∧DF=false))(hJ:J (aj P ν) R φ V.g V.l E σ)(hn:ν.length=V.n)(ho:o.op=.call c)(hc:c.callee=.builtin bi)(hs:(mxS DF (gO P d V c.args.toList c.argTypes.toList) V k).sat P C Q K ν):cN P C Q K ν E V.ln k (bE P E d o σ):=by
 unfold mxS at hs;split at hs<;>first|(exact hs.elim)|skip
 rename_i pa pb bg;split at hs<;>first|(exact hs.elim)|skip
 rename_i a b ha wa;have aT:=fI hJ d c.args.toList c.argTypes.toList;rw[bg]at aT;obtain⟨x,y,R_,hx,hy⟩:=GJ aT;have tC:=xl hJ ha hx;have hxb:=xl hJ wa hy;obtain⟨⟨z,hz⟩,hk⟩:=hs;obtain⟨h1,bf⟩:=ph hz;simp only[SE.den,ass]at h1;obtain⟨w,⟨u,h2,v,h3,h4⟩,h5⟩:=h1;split at h5<;>cases h5;rename_i dI
 have ajE:∃u' v',u=.raw u'∧v=.raw v':=by
  cases DF with
  |true=>
   simp only[if_true]at h4;unfold I7 at h4;split at h4
   ·exact DT ‹_›
   ·cases h4
  |false=>
   simp only[asD,if_false]at h4;unfold MN at h4;split at h4
   ·exact DT ‹_›
   ·cases h4
 obtain⟨u',v',rfl,rfl⟩:=ajE;have iJ:=bS (tC _ h2);have hy':=bS (hxb _ h3);subst iJ hy'
 have hzr:hZ z z:=by
  cases z<;>simp only[au]at dI<;>first|(cases dI;done)|skip
  exact .raw _
 refine .here (pv:=.one (.v (.ok (.rw (.mx DF a b))))) (x:=z) ?_ hJ ⟨z,hz,hzr,bf⟩ hn rfl hk;rcases hb with⟨rfl,rfl⟩|⟨rfl,rfl⟩
 ·simp only[if_true]at h4;simp[bE,ak,ho,hc,du,R_,h4]
 ·simp only[asD,if_false]at h4;simp[bE,ak,ho,hc,du,R_,h4]
theorem aaC{t:TypeId}(h:isStr P t=true):P.underlying t=some .string:=by
 unfold isStr at h;split at h
 ·assumption
 ·cases h
theorem U_{t:TypeId}{x:Operand}{lo hi mx:Option Operand}(hJ:J (aj P ν) R φ V.g V.l E σ)(hn:ν.length=V.n)(ho:o.op=.slice t x lo hi mx)(hu:P.underlying t=some .string)(hs:(GA P d (bG P d V t x) lo hi mx V k).sat P C Q K ν):cN P C Q K ν E V.ln k (bE P E d o σ):=by
 unfold GA at hs;split at hs<;>first|(exact hs.elim)|skip
 rename_i a ha;split at hs<;>first|(exact hs.elim)|skip
 rename_i l h hl hh;obtain⟨z,hz,hs⟩:=hs;have tC:=xl hJ ha (aW hJ d t x);have lZ:=hz;simp only[SE.den,ass]at hz;obtain⟨u,h1,b,h2,c,h3,h4⟩:=hz;split at h4<;>first|(cases h4;done)|skip
 rename_i q lv hv e1 e2;split at h4<;>first|(cases h4;done)|skip
 rename_i hc;cases h4
 have hint:∀{w:IV} {n:Int},fa w=some n→0≤n→∃k,w=.raw (.int k (n.toNat:Nat)):=by
  intro w n h h0;unfold fa at h;split at h
  ·cases h;exact⟨_,by rw[auI h0]⟩
  ·cases h
 obtain⟨k1,rfl⟩:=hint e1 hc.1;obtain⟨k2,rfl⟩:=hint e2 hc.2.2.1
 have n1:ga (lo.map (aq (E d)))=some (some lv.toNat)∨(ga (lo.map (aq (E d)))=some none∧lv.toNat=0):=by
  rcases Ih hJ hl h2 with g|⟨g,rfl⟩
  ·exact .inl g
  ·refine .inr ⟨g,?_⟩;simp only[SE.den,ar7,IV.raw.injEq,avq]at h2;omega
 have n2:ga (hi.map (aq (E d)))=some (some hv.toNat)∨(ga (hi.map (aq (E d)))=some none∧hv.toNat=q.size):=by
  rcases Ih hJ hh h3 with g|⟨g,rfl⟩
  ·exact .inl g
  ·refine .inr ⟨g,?_⟩;simp only[SE.den,h1,asc,xj,IV.int,ar7,IV.raw.injEq,avq]at h3;omega
 have hx:=bS (tC _ h1);have sx:ga none=some none:=rfl;have bk:=hJ.up (gN:=aj P (ν++[.raw (.string ⟨((q.data.toList.drop lv.toNat).take (hv.toNat- lv.toNat)).toArray⟩)])) (fun e y h=>SE.cI P e h);refine⟨.raw (.string ⟨((q.data.toList.drop lv.toNat).take (hv.toNat- lv.toNat)).toArray⟩),σ,R,φ,.one (.v (.var V.n)),{V with n:=V.n+1},[_],?_,bk,⟨_,by simp[aj,SE.den,←hn],.raw _,rfl⟩,by simp[hn],rfl,hs⟩
 have aK:fg P t (.raw (.string q)) (lo.map (aq (E d))) (hi.map (aq (E d))) none=some (.raw (.string ⟨((q.data.toList.drop lv.toNat).take (hv.toNat- lv.toNat)).toArray⟩)):=by
  rcases n1 with g1|⟨g1,g2⟩<;>rcases n2 with g3|⟨g3,g4⟩
  ·simp[fg,g1,g3,sx,hu,hc.2.1,hc.2.2.2]
  ·simp[fg,g1,g3,sx,hu,g4];rw[←g4];have:=hc.2.1;omega
  ·simp[fg,g1,g3,sx,hu,g2,hc.2.2.2]
  ·simp[fg,g1,g3,sx,hu,g2,g4]
 simp[bE,ak,ho,hx,aK,ret]
theorem Xx{t:TypeId}{x:Operand}(hJ:J (aj P ν) R φ V.g V.l E σ)(hn:ν.length=V.n)(ho:o.op=.range t x)(hs:(fU P d o V k).sat P C Q K ν):cN P C Q K ν E V.ln k (bE P E d o σ):=by
 unfold fU at hs;rw[ho]at hs;simp only at hs;split at hs<;>first|(exact hs.elim)|skip
 ·rename_i a hu ha;have tC:=xl hJ ha (aW hJ d t x);obtain⟨⟨z,hz⟩,hk⟩:=hs;simp only[SE.den,ass]at hz;obtain⟨u,h1,h2⟩:=hz
  have hb:∃ba,u=.raw (.string ba):=by
   unfold xj at h2;split at h2
   ·exact⟨_,rfl⟩
   ·cases h2
  obtain⟨ba,rfl⟩:=hb;have hv:=bS (tC _ h1);have bk:=hJ.xM (.pG ba 0) (.mp 0 (.tp (.ac a (.ac (.i 0) .an)))) (by rw[gw,if_pos (show gk 0=true from rfl)];exact .inl ⟨rfl,σ.n,ba,0,by simp[aj,SE.den,h1],by simp[bP],hJ.qJ,by simp⟩);refine .at (x:=.ptr σ.n 0 0 1) (V1:={V with l:=V.l++[.mp 0 (.tp (.ac a (.ac (.i 0) .an)))]}) hk bk hn rfl ⟨σ.n,0,SE.tp (.ac a (.ac (.i 0) .an)),by simp[bP],by simp,rfl⟩ ?_;simp[bE,ak,ho,hu,hv,ret]
 ·rename_i _ _ _ _ hu;have pn:=aW hJ d t x;split at hs<;>first|(exact hs.elim)|skip
  rename_i m hm;rw[hm]at pn;split at hs<;>first|(exact hs.elim)|skip
  rename_i kt ik hj;split at hs
  ·exact hs.elim
  rename_i js;simp only[asP,asN,not_or,Bool.not_eq_false]at js;obtain⟨d_,aa⟩:=js;have aa:m<1000000:=by simpa using aa
  obtain⟨_,hk⟩:=hs;obtain⟨id,lB,gF,g1,g2,g3⟩:=pn;rw[hj]at g2;cases g2;rw[if_neg d_]at g3;have dr:=hJ.obj m _ hj;rw[gw,if_neg d_]at dr;obtain⟨bp,es,clock,ds,c1,c2,c3,c4,c5,c6⟩:=dr;rw[g1]at c2;cases c2;have jV:ik.den P ν=some (.av ds):=c1;have hlen:es.length=ds.length:=All2.len c5;have afE:((t+1)*1000000+m) % 1000000=m:=afa t m aa;have hit:gk ((t+1)*1000000+m)=true:=DA (abP t m);have C5:m<V.l.length:=(ar5.1 hj).1
  have bk:=hJ.xM (.jg (some id) clock [] clock) (.mp ((t+1)*1000000+m) (.tp (.ac ik (.ac ik .an)))) (by
   rw[gw,if_pos hit];refine .inr ⟨abP t m,σ.n,id,ds,[],ds,[],by simp[aj,SE.den,jV],by simp[bP],hJ.qJ,⟨kt,ik,by rw[afE,asf C5];exact hj⟩,by rw[afE];simp[bP,show m≠V.l.length by omega,g1],?_,by simp,Left.init ds,.inl rfl⟩;have:=c6.1;simp[this,hlen])
  refine .at (x:=.ptr σ.n 0 0 1) (V1:={V with l:=V.l++[.mp ((t+1)*1000000+m) (.tp (.ac ik (.ac ik .an)))]}) hk bk hn rfl ⟨σ.n,(t+1)*1000000+m,SE.tp (.ac ik (.ac ik .an)),by simp[bP],by simp,(if_pos hit).symm⟩ ?_;simp[bE,ak,ho,hu,g3,c4,ret]
theorem Sa(hJ:J (aj P ν) R φ V.g V.l E σ){t:TypeId}{e:SE}{x y:IV}(hy:e.den P ν=some y)(hx:aV true R σ x y){k:af}(hs:(HQ P t e k).sat P C Q K ν):sK (aj P ν) R φ V.l σ x (Uz P t e)∧k.sat P C Q K ν:=by
 unfold HQ at hs;unfold Uz;split at hs
 ·rename_i ha;rw[if_pos ha];obtain⟨⟨z,hz⟩,hk⟩:=hs;refine⟨?_,hk⟩;simp only[SE.den,hy,asc]at hz;split at hz<;>first|(cases hz;done)|skip
  rename_i cs;split at hz
  ·rename_i hc;obtain⟨xs,rfl,il⟩:=BV hx;refine⟨xs,rfl,.mk (by simp[il.len,hc.1]) fun i a b h1 h2=>?_⟩;have hi:=(ar5.1 h1).1;rw[il.len]at hi;rw[asi,auN (by rw[←hc.1];exact hi)]at h2;simp only[asC,ar7]at h2;subst h2;have Lf:cs[i]?=some cs[i]:=ar4 hi;have bf:Ev.ab cs[i]=true:=(asl.1 hc.2) _ (asb hi);exact⟨cs[i],by simp[aj,SE.den,hy,Lf,xU,bf],il.get h1 Lf,bf⟩
  ·cases hz
 ·rename_i ha;rw[if_neg ha];split at hs
  ·rename_i qf;rw[if_pos qf];obtain⟨⟨z,hz⟩,hk⟩:=hs;refine⟨?_,hk⟩;obtain⟨mG,JL⟩:=ph hz;simp only[SE.den,hy,asc]at mG;split at mG
   ·rename_i hr;cases mG;cases y<;>simp only[au]at hr<;>first|(cases hr;done)|skip
    rename_i u;have:=bS hx;subst this;exact⟨_,rfl,.raw u,hz,.raw u,JL⟩
   ·cases mG
  ·rename_i qf;rw[if_neg qf];obtain⟨⟨z,hz⟩,hk⟩:=hs;refine⟨?_,hk⟩;obtain⟨mG,JL⟩:=ph hz;rw[hy]at mG;cases mG;exact⟨_,rfl,_,hz,hx,JL⟩
theorem aaD(v:Value):aV true R σ (lift v) (lift v):=by
 unfold lift;split
 ·exact .pure _ rfl (.agg _ fun c hc=>by obtain⟨v,_,rfl⟩:=List.mem_map.1 hc;exact .raw v)
 all_goals exact .raw _
theorem Xy{it:Operand}(hJ:J (aj P ν) R φ V.g V.l E σ)(hn:ν.length=V.n)(ho:o.op=.entry it)(hs:(fU P d o V k).sat P C Q K ν):cN P C Q K ν E V.ln k (bE P E d o σ):=by
 unfold fU at hs;rw[ho]at hs;simp only at hs;unfold W9 at hs;have pn:=aW hJ d 0 it;split at hs<;>first|(exact hs.elim)|skip
 rename_i j hm;rw[hm]at pn;split at hs<;>first|(exact hs.elim)|skip
 rename_i kt x hj;split at hs
 rotate_left
 ·exact hs.elim
 rename_i hle;have hle:1000000≤kt:=by simpa using hle
 split at hs<;>first|(exact hs.elim)|skip
 rename_i lB ik kt1 et Ov hu;split at hs
 ·exact hs.elim
 rename_i d_;obtain⟨l6,r,d1,d2,hs⟩:=hs;have hit:gk kt=true:=DA hle;obtain⟨id,kt3,x3,g1,g2,g3⟩:=pn;rw[hj]at g2;cases g2;rw[if_pos hit]at g3;have dr:=hJ.obj j _ hj;rw[gw,if_pos hit]at dr;rcases dr with⟨h0,_⟩|⟨_,bp,m,ds,seen,rem,rest,e1,e2,e3,e4,e5,e6,e7,e8,e9⟩
 ·exact(abQ hle h0).elim
 rw[g1]at e2;cases e2;have cg:x.den P ν=some (.av (.av ds::.av rem::rest)):=e1;rw[cg]at d2;have Ij:ds=l6:=by simp only[ar7,IV.av.injEq,as5]at d2;exact d2.1
 subst Ij;have Ow:=hJ.obj _ _ Ov;rw[gw,if_neg d_]at Ow;obtain⟨id2,es,clock,Sb,c1,c2,c3,c4,c5,c6⟩:=Ow;rw[e5]at c2;cases c2;have jV:ik.den P ν=some (.av Sb):=c1;rw[jV]at d1;have Ij:ds=Sb:=by simp only[ar7,IV.av.injEq]at d1;exact d1.symm
 subst Ij;have hlen:es.length=ds.length:=All2.len c5;rcases e9 with rfl|⟨i,last,rfl,f1,f2⟩
 ·unfold HQ at hs;exfalso;have hp:(SE.proj (.proj x 2) 0).den P ν=none:=by simp[SE.den,cg]
  split at hs
  ·obtain⟨⟨z,hz⟩,_⟩:=hs;simp[SE.den,cg]at hz
  ·split at hs
   ·obtain⟨⟨z,hz⟩,_⟩:=hs;simp[SE.den,cg]at hz
   ·obtain⟨⟨z,hz⟩,_⟩:=hs;simp[SE.den,cg]at hz
 ·have hi:i<es.length:=by rw[hlen];exact(ar5.1 f2).1
  have sy:es[i]?=some es[i]:=ar4 hi;obtain⟨z,h1,h2⟩:=All2.get c5 sy f2;subst h1;have hp0:(SE.proj (.proj x 2) 0).den P ν=some (lift es[i].1):=by simp[SE.den,cg]
  have lp:(SE.proj (.proj x 2) 1).den P ν=some z:=by simp[SE.den,cg]
  obtain⟨v1,hs⟩:=Sa hJ hp0 (aaD _) hs;obtain⟨v2,hs⟩:=Sa hJ lp h2 hs;refine .here (pv:=.tu [_,_]) (x:=.av [lift es[i].1,es[i].2.1]) ?_ hJ ⟨_,rfl,v1,v2,trivial⟩ hn rfl hs
  have hf:es.find? (fun e=>e.2.2==i)=some es[i]:=by
   rw[List.find?_eq_some_iff_getElem];refine⟨by simp[c6.2 i _ sy],i,hi,rfl,fun q hq=>?_⟩;have:=c6.2 q es[q] (ar4 (by omega));simp[this];omega
  have eu:clock=ds.length:=by rw[←hlen];exact c6.1
  simp[bE,ak,ho,g3,e6,c4,f1,hf,eu,ret]
theorem Xz(hJ:J (aj P ν) R φ V.g V.l E σ)(hn:ν.length=V.n){j id:Nat}{ik:SE}(hj:V.l[j]?=some (.mp 0 ik)){ba:ByteArray}{p p':Nat}(kj:φ j=some id)(hR:R id=none)(az:σ.at id=some (.pG ba p)):
 J (aj P (ν++[.av [.raw (.string ba),.raw (.int .i64 (p':Nat))]])) R φ V.g (V.l.set j (.mp 0 (.var V.n))) E (σ.put id (.pG ba p')):=by
 have bk:=hJ.up (gN:=aj P (ν++[.av [.raw (.string ba),.raw (.int .i64 (p':Nat))]])) (fun e y h=>SE.cI P e h)
 exact(bk.sL (R':=R) (bad:=fun _=>False) (jD:=.mp 0 (.var V.n)) (eF:=.pG ba p') kj hj (fun _ _=>rfl)
  (fun m hm=>by rw[hR]at hm;cases hm) (fun m _ _ _ hm=>by rw[hR]at hm;cases hm) (fun m _ _ _ hm=>by rw[hR]at hm;cases hm)
  (fun _ h=>by cases h) (fun _ _ _=>by rename_i h;cases h;exact⟨_,rfl⟩) (fun _ _ _ _ _ h=>by cases h) (fun _ _ pv _=>pv.aS) (fun _ o _ _=>o.aS)
  (fun c9=>by rw[gw,if_pos (show gk 0=true from rfl)];exact .inl ⟨rfl,id,ba,p',by simp[aj,SE.den,←hn],kj,hR,by rw[St.cJ,if_pos rfl]⟩)).2
theorem aaE{it:Operand}(hJ:J (aj P ν) R φ V.g V.l E σ)(hn:ν.length=V.n)(ho:o.op=.next it true)(hs:(fU P d o V k).sat P C Q K ν):cN P C Q K ν E V.ln k (bE P E d o σ):=by
 unfold fU at hs;rw[ho]at hs;simp only at hs;split at hs<;>first|(exact hs.elim)|skip
 rename_i j hm;split at hs<;>first|(exact hs.elim)|skip
 rename_i kt es hj;split at hs<;>first|(exact hs.elim)|skip
 rename_i js;have ye:=asd js;subst ye;have pn:=aW hJ d 0 it;rw[hm]at pn;obtain⟨id,lB,gF,g1,g2,g3⟩:=pn;rw[hj]at g2;cases g2;rw[if_pos (show gk 0=true from rfl)]at g3;have dr:=hJ.obj j _ hj;rw[gw,if_pos (show gk 0=true from rfl)]at dr;rcases dr with⟨_,bp,ba,p,c1,c2,c3,c4⟩|⟨h0,_⟩
 rotate_left
 ·exact absurd h0 (by decide)
 rw[g1]at c2;cases c2;have jV:es.den P ν=some (.av [.raw (.string ba),.raw (.int .i64 (p:Nat))]):=c1
 have hd:∀w,(SE.dec w (.proj es 0) (.proj es 1)).den P ν=lO w (.raw (.string ba)) (.raw (.int .i64 (p:Nat))):=by
  intro w;simp[SE.den,jV]
 rcases hs with⟨h0,hs⟩|⟨h0,hs⟩
 ·rw[hd]at h0;simp[lO]at h0;obtain⟨z,hz,hs⟩:=hs
  have pf:z=.av [.raw (.string ba),.raw (.int .i64 ((p+(atG ba p).2:Nat):Nat))]:=by
   have:=hd 2;simp only[SE.den]at this hz;rw[this]at hz;simp[jV,lO]at hz;rw[←hz];simp
  subst pf;have dP:=Xz (p':=p+(atG ba p).2) hJ hn hj g1 c3 c4;have e1:(SE.proj es 1).den P (ν++[.av [.raw (.string ba),.raw (.int .i64 ((p+(atG ba p).2:Nat):Nat))]])=some (.raw (.int .i64 (p:Nat))):=SE.cI P _ (by simp[SE.den,jV]);have e2:(SE.dec 1 (.proj es 0) (.proj es 1)).den P (ν++[.av [.raw (.string ba),.raw (.int .i64 ((p+(atG ba p).2:Nat):Nat))]])=some (.raw (.int .i32 (atG ba p).1)):=SE.cI P _ (by rw[hd];simp[lO]);refine⟨.av [.bool true,.raw (.int .i64 (p:Nat)),.raw (.int .i32 (atG ba p).1)],_,R,φ,.tu [(false,[.v (.b true)]),(false,[.v (.proj es 1)]),(false,[.v (.dec 1 (.proj es 0) (.proj es 1))])],{V with n:=V.n+1,l:=V.l.set j (.mp 0 (.var V.n))},[_],?_,dP,⟨_,rfl,⟨_,rfl,.raw (.bool true),rfl,.raw _,rfl⟩,⟨_,rfl,_,e1,.raw _,rfl⟩,⟨_,rfl,_,e2,.raw _,rfl⟩,trivial⟩,by simp[hn],rfl,hs⟩;simp[bE,ak,ho,g3,c4,h0,ret]
 ·rw[hd]at h0;simp[lO]at h0;refine .here (pv:=.tu [(false,[.v (.b false)])]) (x:=.av [.bool false]) ?_ hJ ⟨_,rfl,⟨_,rfl,.raw (.bool false),rfl,.raw _,rfl⟩,trivial⟩ hn rfl hs;have:¬p<ba.size:=by omega
  simp[bE,ak,ho,g3,c4,this,ret]
theorem ajF{x z:IV}{b:Bool}(h:lO 7 x (.raw (.bool b))=some z):∃q c,x=.raw (.int q c)∧0≤c∧c≤1000000:=by
 unfold lO at h;split at h
 ·rename_i heq;exact absurd heq (by simp)
 ·split at h
  ·rename_i hc;exact⟨_,_,rfl,hc.2⟩
  ·cases h
 ·simp at h
 ·cases h
theorem Ox(hJ:J (aj P ν) R φ V.g V.l E σ){x:IV}{pv:PV SE}{e:SE}(hx:VR (aj P ν) R φ V.l σ x pv)(h:uo pv=some e):∃y,e.den P ν=some y∧aV true R σ x y:=by
 unfold uo at h;split at h<;>first|(cases h;done)|skip
 ·cases h;obtain⟨y,h1,h2,_⟩:=hx;exact⟨y,h1,h2.mono hJ.AE⟩
 ·cases h;obtain⟨y,h1,h2,_⟩:=hx;exact⟨y,h1,h2.cu⟩
theorem XA{t:TypeId}{l c:Operand}(hJ:J (aj P ν) R φ V.g V.l E σ)(hn:ν.length=V.n)(ho:o.op=.makeSlice t l c)(hs:(Uy P d t l c V k).sat P C Q K ν):cN P C Q K ν E V.ln k (bE P E d o σ):=by
 unfold Uy at hs;split at hs<;>first|(exact hs.elim)|skip
 rename_i el ce hu hl hc;split at hs<;>first|(exact hs.elim)|skip
 rename_i s z bytes aK vy K7;split at hs<;>first|(exact hs.elim)|skip
 rename_i bJ;simp only[ar6,asN]at bJ;obtain⟨⟨⟨h1,h2⟩,h3⟩,h4⟩:=bJ;have CA:=asd h2;have N9:bytes≤1000000:=by simpa using h3
 have bu:0<s:=by
  rcases Nat.eq_zero_or_pos s with h|h
  ·subst h;simp at h1
  ·exact h
 obtain⟨⟨u,yf⟩,hk⟩:=hs;have fN:=aW hJ d 0 l;rw[hl]at fN;obtain⟨y0,b1,b2,_⟩:=fN
 have wq:y0=.raw (.int .i64 0):=by
  have:(SE.i 0).den P ν=some y0:=b1;simp only[SE.den,ar7]at this;exact this.symm
 subst wq;have hle:=bS b2;obtain⟨y,c1,c2⟩:=Ox hJ (aW hJ d 0 c) hc;simp only[SE.den,c1,asc]at yf;obtain⟨q,n,rfl,d1,d2⟩:=ajF yf;have qB:=bS c2;have pk:(SE.tr s SE.an).den P ν=some (.tree s []):=by simp[SE.den,bu]
 have jj:(V.l++[LO.row s false false false (SE.tr s SE.an)])[V.l.length]?=some (.row s false false false (SE.tr s SE.an)):=by simp
 by_cases kf:n=0
 ·subst kf;refine .at (x:=.emp) (V1:={V with l:=V.l++[.row s false false false (.tr s .an)]}) hk (hJ.AG (fr:=false) bu pk).2 hn rfl ⟨s,false,false,false,_,[],jj,pk,.inl ⟨xk hJ (ar9 _),rfl,.inr rfl⟩⟩ ?_;simp only[bE,ak,ho,hu,hle,qB,aK,vy,K7];rw[if_neg (by omega),if_pos trivial];rfl
 ·have K9:gr (z.cells.toList.map .raw) (n.toNat*s)=(asn n.toNat (z.cells.toList.map IV.raw)).flatten:=BU (by simp[CA]) bu _
  have hlen:(gr (z.cells.toList.map .raw) (n.toNat*s)).length=n.toNat*s:=by
   rw[K9];simp[CA,Function.comp_def]
  have ji:(gr (z.cells.toList.map .raw) (n.toNat*s)).all Ev.ab=true:=by
   rw[K9];refine asl.2 fun x hx=>?_;obtain⟨l',cd,iJ⟩:=avM.1 hx;have:=ati cd;subst this;exact(asl.1 h4) x iJ
  refine .at (x:=.sl σ.n 0 0 (some n.toNat) 0 s) (V1:={V with l:=V.l++[.row s false false false (.tr s .an)]}) hk (hJ.xM (.cells (gr (z.cells.toList.map .raw) (n.toNat*s)) 0 0) _ ⟨bu,[],pk,fun e he=>(by cases he),.inr ⟨σ.n,(gr (z.cells.toList.map .raw) (n.toNat*s)),0,0,by simp[bP],by simp,ar9 _,by simp,hJ.qJ,ji,fun j x d hx hd=>by simp[flat]at hd⟩⟩) hn rfl ⟨s,false,false,false,_,[],jj,pk,.inr ⟨σ.n,(gr (z.cells.toList.map .raw) (n.toNat*s)),0,0,some n.toNat,by simp[bP],by simp,by simp,ar9 _,fun h=>(by cases h),fun c hc=>?_⟩⟩ ?_
  ·cases hc;exact⟨rfl,by rw[hlen];simp,asT _⟩
  ·simp only[bE,ak,ho,hu,hle,qB,aK,vy,K7];rw[if_neg (by omega),if_neg kf];rfl
theorem aaF(hJ:J (aj P ν) R φ V.g V.l E σ){id:Nat}{ob:Ob}(h:σ.at id=some ob):σ.put id ob=σ:=by
 have:(σ.put id ob).t=σ.t:=Go.Ev.T.WF.ext (hJ.wf.set _ _) hJ.wf fun i=>by
  show(σ.put id ob).at i=σ.at i;rw[St.cJ];split
  ·rename_i hh;rw[←hh,h]
  ·rfl
 cases σ;simp only[St.put]at this⊢;rw[this]
theorem Va{t:TypeId}{x:Operand}{lo hi mx:Option Operand}{f:af}(hJ:J (aj P ν) R φ V.g V.l E σ)(hn:ν.length=V.n)(ho:o.op=.slice t x lo hi mx)(hz:NU P d t (bG P d V t x) lo hi mx V k=some f)(hs:f.sat P C Q K ν):cN P C Q K ν E V.ln k (bE P E d o σ):=by
 unfold NU at hz;split at hz<;>first|(cases hz;done)|skip
 rename_i el c jD cU h hu hx;have p_:=aW hJ d t x;rw[hx]at p_;split at hz<;>first|(cases hz;done)|skip
 ·rename_i s s' hh aK;split at hz<;>first|(cases hz;done)|skip
  rename_i gW;have:=asd gW;subst this;cases hz;have XB:=aW hJ d 3 h;rw[hh]at XB;obtain⟨y,y1,y2,_⟩:=XB;simp only[aj,SE.den,ar7]at y1;subst y1;have Ht:=bS y2;obtain⟨h0,h1⟩:=p_;simp only[if_true]at h1;refine .at (x:=.raw (.slice none 0 0)) hs hJ hn rfl ⟨h0,rfl⟩ ?_;simp[bE,ak,ho,h1,Ht,fg,ga,hu,aK,ret]
 ·rename_i s j hh aK;split at hz<;>first|(cases hz;done)|skip
  rename_i s' cut fr es hj;split at hz<;>first|(cases hz;done)|skip
  rename_i gW;have:=asd gW;subst this;cases hz;have XB:=aW hJ d 3 h;rw[hh]at XB;obtain⟨y,y1,y2,_⟩:=XB;simp only[aj,SE.den,ar7]at y1;subst y1;have Ht:=bS y2;obtain⟨⟨z,hz⟩,hk⟩:=hs;obtain⟨s1,rX,rG,rY,z1,eP,b1,b2,b3⟩:=p_;rw[hj]at b1;cases b1;have po:es.den P ν=some (.tree s eP):=b2
  have bc:eP≠[]:=by
   rintro rfl;simp[SE.den,po,cq,fa]at hz
  have hlen:1≤eP.length:=by
   cases eP with
   |nil=>exact absurd rfl bc
   |cons=>simp
  rcases b3 with⟨_,c2,_⟩|⟨id,cs,ar,mn,cap,c1,c2,c3,c4,c5,c6⟩
  ·omega
  obtain⟨bu,gF,d1,d2,d3⟩:=hJ.obj j _ hj;have XC:es.den P ν=some (.tree s gF):=d1;rw[po]at XC;cases XC;rcases d3 with⟨_,d3⟩|⟨bp,cm,g_,o7,g1,g2,g3,g4,g5,g6,g7⟩
  ·exact absurd d3 bc
  rw[c1]at g1;cases g1;rw[c2]at g2;cases g2;have hR:R id=none:=by simpa using g5
  have pk:(SE.tr s SE.an).den P ν=some (.tree s []):=by simp[SE.den,bu]
  have Xn:(V.l.map (LO.drop j))[j]?=some (.row s false cut fr es):=by simp[hj,LO.drop]
  have bk:=(hJ.Uo j).sL (R':=R) (bad:=(·=j)) (jD:=.row s false true fr (.tr s .an)) (eF:=.cells cs ar mn) c1 Xn (fun _ _=>rfl) (fun m hm=>by rw[hR]at hm;cases hm) (fun m _ _ _ hm=>by rw[hR]at hm;cases hm) (fun m _ _ _ hm=>by rw[hR]at hm;cases hm)
   (fun _ h=>by cases h) (fun _ _ h=>by cases h) (fun _ _ _ _ _ _=>rfl) (fun d t pv hg=>by obtain⟨q,_,rfl⟩:=Dy _ hg;exact q.mz j) (fun i o hi _=>by
    rw[asi]at hi;obtain⟨o',_,rfl⟩:=ar_.1 hi;exact o'.mz j)
   (fun _=>⟨bu,[],pk,fun e he=>(by cases he),.inr ⟨id,cs,ar,mn,c1,by rw[St.cJ,if_pos rfl],g3,by simp,hR,g6,fun j x d hx hd=>by simp[flat]at hd⟩⟩)
  have dP:=bk.2;rw[aaF hJ c2]at dP
  have jj:((V.l.map (LO.drop j)).set j (LO.row s false true fr (SE.tr s SE.an)))[j]?=some (.row s false true fr (SE.tr s SE.an)):=by
   rw[List.getElem?_set,if_pos rfl,if_pos (by have:=(ar5.1 hj).1;simpa using this)]
  cases cap with
  |none=>
   refine .at (x:=.sl id 0 0 none ar s) (V1:=(V.rU j).setObj j (.row s false true fr (.tr s .an))) hk dP hn rfl ⟨s,false,true,fr,_,[],jj,pk,.inr ⟨id,cs,ar,mn,none,c1,c2,by simp,asT _,(fun _ h=>(by cases h)),fun c hc=>by cases hc⟩⟩ ?_;simp[bE,ak,ho,c3,Ht,fg,ga,hu,aK,ret]
  |some m=>
   obtain⟨f1,f2,f3⟩:=c6 m rfl;have Ct:m≠0:=by omega
   refine .at (x:=.sl id 0 0 (some m) ar s) (V1:=(V.rU j).setObj j (.row s false true fr (.tr s .an))) hk dP hn rfl ⟨s,false,true,fr,_,[],jj,pk,.inr ⟨id,cs,ar,mn,some m,c1,c2,by simp,asT _,(fun h=>(by cases h)),fun c hc=>by cases hc;exact⟨f1,by omega,asT _⟩⟩⟩ ?_;simp[bE,ak,ho,c3,Ht,fg,ga,hu,aK,ret,Ct]
theorem aaG{c:Call}(hJ:J (aj P ν) R φ V.g V.l E σ)(hn:ν.length=V.n)(ho:o.op=.call c)(hc:c.callee=.builtin .cap)(hs:(fU P d o V k).sat P C Q K ν):cN P C Q K ν E V.ln k (bE P E d o σ):=by
 unfold fU at hs;rw[ho]at hs;simp only[hc]at hs;have bg:=fI hJ d c.args.toList c.argTypes.toList;split at hs<;>first|(exact hs.elim)|skip
 rename_i s et hh hu;rw[hh]at bg;obtain⟨x,hx,hr⟩:=kq bg;obtain⟨_,h1⟩:=hr;simp only[if_true]at h1;refine .at (x:=.raw (.int .i64 0)) hs hJ hn rfl ⟨_,rfl,.raw _,rfl⟩ ?_;simp[bE,ak,ho,hc,du,hx,h1,TR,hu]
theorem Sc(hJ:J (aj P ν) R φ V.g V.l E σ)(hn:ν.length=V.n)(hs:(fU P d o V k).sat P C Q K ν):cN P C Q K ν E V.ln k (bE P E d o σ):=by
 cases ho:o.op with
 |makeFunc f first cap=>
  cases f with
  |func f=>exact Oo hJ hn ho hs
  |_=>unfold fU at hs;rw[ho]at hs;exact hs.elim
 |makeMap t r=>exact Q9 hJ hn ho hs
 |makeSlice t l c=>unfold fU at hs;rw[ho]at hs;exact XA hJ hn ho hs
 |mapUpdate t m key x=>exact Ig hJ hn (.inl ho) hs
 |insert t m key x=>exact Ig hJ hn (.inr ho) hs
 |lookup t m key ok=>exact U8 hJ hn ho hs
 |slice t x lo hi mx=>
  unfold fU at hs;rw[ho]at hs;simp only at hs;split at hs
  ·exact Va hJ hn ho ‹_› hs
  split at hs
  ·exact U_ hJ hn ho (aaC ‹_›) hs
  ·exact Xr hJ hn ho hs
 |index t x ix=>exact Xv hJ hn ho hs
 |range t x=>exact Xx hJ hn ho hs
 |next it str=>
  cases str with
  |true=>exact aaE hJ hn ho hs
  |false=>unfold fU at hs;rw[ho]at hs;exact hs.elim
 |entry it=>exact Xy hJ hn ho hs
 |call c=>
  cases hc:c.callee with
  |builtin b=>
   cases b with
   |clear=>exact Xt hJ hn ho hc hs
   |cap=>exact aaG hJ hn ho hc hs
   |max=>unfold fU at hs;rw[ho]at hs;simp only[hc]at hs;exact Xw (.inl ⟨rfl,rfl⟩) hJ hn ho hc hs
   |min=>unfold fU at hs;rw[ho]at hs;simp only[hc]at hs;exact Xw (.inr ⟨rfl,rfl⟩) hJ hn ho hc hs
   |_=>unfold fU at hs;rw[ho]at hs;simp only[hc]at hs;exact hs.elim
  |_=>unfold fU at hs;rw[ho]at hs;simp only[hc]at hs;exact hs.elim
 |_=>unfold fU at hs;rw[ho]at hs;exact hs.elim
end Go.Ev
namespace Go.Ev
variable{P:Program}{N:Nat}{σ ah:St}{R R':Rs}{φ aH:Ph}{E:Nat→Env}{ν:List IV}
variable{C:Cr}{Q:IV→Prop}{K:List (List IV→Prop)}{V:SS}{d:Nat}{o:Oper}{k:PV SE→SS→af}{L:List (LO SE)}{Γ:Gm SE}
theorem adJ(hJ:J (aj P ν) R φ V.g V.l E σ)(hn:ν.length=V.n){op:BinOp}{t yt:TypeId}{x y:Operand}(ho:o.op=.binOp op t x y yt)(hs:(fE P d o V k).sat P C Q K ν):cN P C Q K ν E V.ln k (bE P E d o σ):=by
 unfold fE at hs;rw[ho]at hs;simp only at hs;have hx:=aW hJ d t x;have hy:=aW hJ d t y
 have rdv:∀{xv:IV} {a:SE},VR (aj P ν) R φ V.l σ xv (.one (.v a))→∀z,a.den P ν=some z→aV true R σ xv z:=by
  intro xv a ⟨u,h1,h2,_⟩ z hz;have cH:a.den P ν=some u:=h1;rw[hz]at cH;cases cH;exact h2.mono hJ.AE
 have rdw:∀{xv:IV} {f:Bool} {a:SE},VR (aj P ν) R φ V.l σ xv (.one (.w f a))→∀z,a.den P ν=some z→aV true R σ xv z:=by
  intro xv f a ⟨u,h1,h2,_⟩ z hz;have cH:a.den P ν=some u:=h1;rw[hz]at cH;cases cH;exact h2.cu
 split at hs
 ·rename_i cs ds Cw wg;rw[Cw]at hx;rw[wg]at hy;split at hs
  ·rename_i f1 a V1 f2 b V2 h1 h2;obtain⟨R1,a1,a2,_,a3⟩:=uy hJ h1;obtain⟨R2,b1,b2,_,b3⟩:=uy hJ h2;obtain⟨xs,yC,v_⟩:=hx;obtain⟨ys,Aq,HH⟩:=hy;obtain⟨us,c1,c2,_⟩:=a3 xs v_;obtain⟨vs,d1,d2,_⟩:=b3 ys HH;obtain⟨⟨z,hz⟩,hk⟩:=hs;obtain⟨h3,h4⟩:=ph hz;simp only[SE.den,ey c1,ey d1,asc]at h3;have ha:aV f1 R1 σ (aq (E d) x) (.agg us):=by rw[yC];exact .agg xs us c2.len fun i c e h1 h2=>c2.get h1 h2
   have hb:aV f2 R2 σ (aq (E d) y) (.agg vs):=by rw[Aq];exact .agg ys vs d2.len fun i c e h1 h2=>d2.get h1 h2
   have h6:oT P op t x y (aq (E d) x) (aq (E d) y)=some z:=by
    unfold da at h3;split at h3
    ·cases h3
    ·rename_i u v bc hu hv;rw[BO ha hu,BO hb hv,Of (x':=.func 0) (y':=.func 0) hu hv (fun hc=>bc hc)];exact h3
    ·cases h3
   exact .at (x:=z) hk hJ hn rfl ⟨z,hz,Oh h6,h4⟩ (by simp[bE,ak,ho,h6,ret])
  ·exact hs.elim
 ·rename_i a b Cw wg;rw[Cw]at hx;rw[wg]at hy;exact Ia hJ hn ho (rdv hx) (rdv hy) hs
 ·rename_i f a b Cw wg;rw[Cw]at hx;rw[wg]at hy;exact Ia hJ hn ho (rdw hx) (rdv hy) hs
 ·rename_i a f b Cw wg;rw[Cw]at hx;rw[wg]at hy;exact Ia hJ hn ho (rdv hx) (rdw hy) hs
 ·rename_i f a g b Cw wg;rw[Cw]at hx;rw[wg]at hy;exact Ia hJ hn ho (rdw hx) (rdw hy) hs
 ·exact hs.elim
theorem XD(hJ:J (aj P ν) R φ V.g V.l E σ)(hn:ν.length=V.n)(hs:(fE P d o V k).sat P C Q K ν):cN P C Q K ν E V.ln k (bE P E d o σ):=by
 cases ho:o.op with
 |move x=>exact Xd hJ hn (.inl ho) hs
 |assign x=>exact Xd hJ hn (.inr ho) hs
 |pick c a b=>exact aak hJ hn ho hs
 |alloc t=>exact Xe hJ hn ho hs
 |box t x=>exact adD hJ hn ho hs
 |load t a=>exact aan hJ hn ho hs
 |store t a x=>exact Xj hJ hn ho hs
 |nilCheck x=>exact N8 hJ hn ho hs
 |binOp op t x y yt=>exact adJ hJ hn ho hs
 |unOp op t x=>exact aft hJ hn ho hs
 |convert a b x=>exact afu hJ hn ho hs
 |build t p=>exact Xq hJ hn ho hs
 |buildSlice t l p=>exact JK hJ hn ho hs
 |fieldAddr s x f=>exact Mh hJ hn ho hs
 |field t x f=>exact Xm hJ hn ho hs
 |indexAddr t x i=>exact Mi hJ hn ho hs
 |extract x i=>exact Q8 hJ hn ho hs
 |call c=>
  cases hc:c.callee with
  |builtin b=>
   by_cases hl:b=.len
   ·subst hl;exact adG hJ hn ho hc hs
   ·by_cases ha:b=.append
    ·subst ha;exact U6 hJ hn ho hc hs
    ·unfold fE at hs;rw[ho]at hs;simp only[hc]at hs;split at hs<;>first|exact absurd rfl hl|exact absurd rfl ha|exact hs.elim|exact Sc hJ hn hs
  |value f=>unfold fE at hs;rw[ho]at hs;simp only[hc]at hs;exact hs.elim
  |invoke x n=>unfold fE at hs;rw[ho]at hs;simp only[hc]at hs;exact hs.elim
 |_=>unfold fE at hs;rw[ho]at hs;exact Sc hJ hn hs
end Go.Ev
namespace Go.Ev
variable{P:Program}{N:Nat}{σ ah:St}{ι:Io}{w:World}
namespace T
variable{α:Type}
def of(f:Nat→Option α):Nat→T α
 |0=>.lf
 |n+1=>match f n with
  |some x=>(of f n).set n x
  |none=>of f n
theorem Ff(f:Nat→Option α):∀n,(of f n).WF
 |0=>WF.lf
 |n+1=>by
  unfold of;split
  ·exact(Ff f n).set _ _
  ·exact Ff f n
theorem Ik(f:Nat→Option α):∀(n i:Nat),(of f n).get i=if i<n then f i else none
 |0,i=>by simp[of,get]
 |n+1,i=>by
  unfold of;split
  ·rename_i x hx;rw[fQ];split
   ·rename_i h;subst h;rw[if_pos (by omega),hx]
   ·rw[Ik f n i];by_cases h:i<n
    ·rw[if_pos h,if_pos (by omega)]
    ·rw[if_neg h,if_neg (by omega)]
  ·rename_i hx;rw[Ik f n i];by_cases h:i<n
   ·rw[if_pos h,if_pos (by omega)]
   ·rw[if_neg h];by_cases h2:i=n
    ·subst h2;rw[if_pos (by omega),hx]
    ·rw[if_neg (by omega)]
end T
def St.only(σ:St)(cQ:Nat→Bool):St:=⟨σ.n,T.of (fun i=>if cQ i then σ.at i else none) σ.n⟩
theorem JQ(cQ:Nat→Bool)(Gk:∀id,σ.n≤id→σ.at id=none)(i:Nat):(σ.only cQ).at i=if cQ i then σ.at i else none:=by
 unfold St.only St.at;simp only[T.Ik];split
 ·rfl
 ·rename_i h;have:=Gk i (by omega);unfold St.at at this;rw[this];simp
def St.back(σ ai:St)(cQ:Nat→Bool):St:=⟨ai.n,T.of (fun i=>if i<σ.n∧cQ i=false then σ.at i else ai.at i) ai.n⟩
theorem JR{ai:St}(cQ:Nat→Bool)(hn:σ.n≤ai.n)(Gk:∀id,ai.n≤id→ai.at id=none)(i:Nat):(σ.back ai cQ).at i=if i<σ.n∧cQ i=false then σ.at i else ai.at i:=by
 unfold St.back St.at;simp only[T.Ik];split
 ·rfl
 ·rename_i h;rw[if_neg (by omega)];have:=Gk i (by omega);unfold St.at at this;rw[this]
theorem dD.frame{f:FuncId}{args:List IV}{RW:IV→St→Prop}(cQ:Nat→Bool)(Gk:∀id,σ.n≤id→σ.at id=none)(h:dD P N f args (σ.only cQ) RW):
 dD P N f args σ (fun v ah=>∃ai,RW v ai∧ah=σ.back ai cQ∧σ.n≤ai.n∧(∀id,ai.n≤id→ai.at id=none)∧∀id,id<σ.n→cQ id=false→ai.at id=none):=by
 intro ι us w hi hr;have az:=JQ cQ Gk
 have tS:Inv N ι (σ.only cQ) w:=by
  refine⟨hi.mem,hi.sep,hi.jA,hi.fresh,hi.inj,fun id o ho=>?_,fun id hid=>?_⟩
  ·rw[az]at ho;split at ho
   ·exact hi.obj id o ho
   ·cases ho
  ·rw[az];split
   ·exact hi.wf id hid
   ·rfl
 refine(h ι us w tS hr).mono fun ed w' hR=>?_;obtain⟨v,ai,qK,hR⟩:=hR;cases ed with
 |returned u=>
  obtain⟨ay,h1,h2,h3⟩:=hR;have hn:σ.n≤ai.n:=h3.zJ
  have BW:∀id,id<σ.n→cQ id=false→ai.at id=none:=fun id hid hv=>by
   refine h3.dead id ?_ (.inl hid);rw[az,hv];simp
  have AI:=JR (σ:=σ) (ai:=ai) cQ hn h2.wf;refine⟨v,σ.back ai cQ,⟨ai,qK,rfl,hn,h2.wf,BW⟩,ay,h1,⟨h2.mem,h2.sep,h2.jA,h2.fresh,h2.inj,fun id o ho=>?_,fun id hid=>?_⟩,?_⟩
  ·rw[AI]at ho;split at ho
   ·rename_i hc;refine(hi.obj id o ho).keep h3.ext (h3.Ae id (by rw[az,hc.2];simp) (.inl hc.1)) fun b hb=>h3.frame b (hi.jA id b hb) fun bp wa=>.inr ?_;have:=hi.inj id bp b hb wa;subst this;rw[az,hc.2];simp
   ·exact h2.obj id o ho
  ·rw[AI];have iv:ai.n≤id:=hid;rw[if_neg (by omega)];exact h2.wf id iv
  ·refine⟨h3.ext,h3.own,fun id hid hr=>h3.Ae id (by rw[az,hid];simp) hr,fun id hid hr=>?_,fun id hr=>absurd hr (Nat.not_lt_zero _),hn,h3.os,h3.tape,h3.output,h3.size,fun b hb hc=>h3.frame b hb fun id ho=>?_,h3.xq⟩
   ·rw[AI];split
    ·exact hid
    ·exact h3.dead id (by rw[az,hid];simp) hr
   ·rcases hc id ho with h|h
    ·exact .inl h
    ·exact .inr (by rw[az,h];simp)
 |outgrown=>exact hR.elim
 |panicked chain=>exact hR.elim
end Go.Ev
namespace Go.Ev
variable{P:Program}{N:Nat}{σ ah:St}{R R':Rs}{φ aH:Ph}{E:Nat→Env}{ν:List IV}{L:List (LO SE)}{Γ:Gm SE}
abbrev Vb(s:Nat)(es:List IV)(R:Rs)(φ:Ph)(E:Nat→Env)(σ:St):Prop:=J (α:=Unit) (fun _=>some (.tree s es)) R φ [] [.row s false false false ()] E σ
abbrev Vc(s:Nat)(es:List IV)(R:Rs)(φ:Ph)(σ:St)(x:IV):Prop:=cw (α:=Unit) (fun _=>some (.tree s es)) R φ [.row s false false false ()] σ x (.sr 0)
def BX(P:Program)(s:Nat)(f:FuncId)(es:List IV)(xs:List IV)(aB:List IV):Prop:=
 ∀R φ E σ x args,Vb s es R φ E σ→Vc s es R φ σ x→All2 hZ args xs→∀KW:Nat→IV→St→Prop,(∀R' aH ah v,Vb s aB R' aH E ah→Vc s aB R' aH ah v→∃b,∀N,b≤N→KW N v ah)→
  ∃b,∀N,b≤N→dD P N f (x::args) σ (KW N)
theorem aV.move{fr:Bool}{x y:IV}(hm:∀i ob,σ.at i=some ob→ah.at i=some ob∧R' i=R i)(h:aV fr R σ x y):aV fr R' ah x y:=by
 induction h with
 |raw v=>exact .raw v
 |nil s hs=>exact .nil s hs
 |emp s hs=>exact .emp s hs
 |cY t x y _ ih=>exact .cY t x y ih
 |agg cs ds hl _ ih=>exact .agg cs ds hl ih
 |av cs ds hl _ ih=>exact .av cs ds hl ih
 |pure x hf hp=>exact .pure x hf hp
 |sl id off len cap ep s m cs ar mn es hR az h1 h2 hs hl hb hm' bD _ ih=>
  obtain⟨g1,g2⟩:=hm id _ az;exact .sl id off len cap ep s m cs ar mn es (by rw[g2];exact hR) g1 h1 h2 hs hl hb hm' bD ih
theorem XE{k s:Nat}{f:FuncId}{fr:Bool}{z z':SE}{es aB xs args:List IV}{x:IV}(h:J (aj P ν) R φ Γ L E σ)(hk:L[k]?=some (.row s false false fr z))(hz:z.den P ν=some (.tree s es))(pf:z'.den P ν=some (.tree s aB))
 (dI:∀e∈es,∀c∈cellsOf e,au c=true)(hx:cw (aj P ν) R φ L σ x (.sr k))(bg:All2 hZ args xs)
 (KL:∀d t pv,cn d t Γ=some pv→pv.ok (·=k))(hL:∀j o,L[j]?=some o→j≠k→o.ok (·=k))(hr:BX P s f es xs aB)
 (KW:Nat→IV→St→Prop)(Oy:∀R' aH ah v,J (aj P ν) R' aH Γ (L.set k (.row s false false false z')) E ah→cw (aj P ν) R' aH (L.set k (.row s false false false z')) ah v (.sr k)→∃b,∀N,b≤N→KW N v ah):
 ∃b,∀N,b≤N→dD P N f (x::args) σ (KW N):=by
 obtain⟨bu,gF,g1,g2,g3⟩:=h.obj k _ hk;have mQ:z.den P ν=some (.tree s gF):=g1;rw[hz]at mQ;cases mQ;have qc:=cO hk
 let cQ:Nat→Bool:=fun i=>match φ k with
  |some id=>Nat.beq i id
  |none=>false
 have DU:∀i,cQ i=true↔φ k=some i:=fun i=>by
  simp only[cQ];cases φ k with
  |none=>simp
  |some id=>simp only[asL,ar7];exact eq_comm
 have az:=JQ cQ h.top
 have U9:∀d∈flat es,au d=true:=fun d hd=>by
  obtain⟨e,he,hc⟩:=List.mem_flatMap.1 hd;exact dI e he d hc
 have l7:Vb s es (fun _=>none) (fun j=>if j=0 then φ k else none) E (σ.only cQ):=by
  refine⟨fun d t pv hg=>(by cases hg),fun j ob hj=>?_,fun j j' id h1 h2=>?_,fun j id hj=>?_,fun id m hm=>(by cases hm),fun id m cs ar mn hm=>(by cases hm),T.Ff _ _,fun id hid=>?_⟩
  ·cases j with
   |succ j=>simp at hj
   |zero=>
    simp at hj;subst hj;refine⟨bu,es,rfl,g2,?_⟩;rcases g3 with⟨a,b⟩|⟨id,cs,ar,mn,a1,a2,a3,a4,a5,a6,a7⟩
    ·exact .inl ⟨by simp[a],b⟩
    ·refine .inr ⟨id,cs,ar,mn,by simp[a1],?_,a3,a4,rfl,a6,fun j u v hu hv=>?_⟩
     ·rw[az,(DU id).2 a1];simpa using a2
     ·have hd:=U9 v (List.mem_of_getElem? hv);have:=a7 j u v hu hv;cases v<;>simp only[au]at hd<;>first|(cases hd;done)|skip
      rw[bS this];exact .raw _
  ·split at h1<;>first|(cases h1;done)|skip
   split at h2<;>first|(cases h2;done)|skip
   omega
  ·split at hj<;>first|(cases hj;done)|skip
   rename_i hj0;subst hj0;exact⟨by simp,(h.lt k id hj).2⟩
  ·rw[az];split
   ·exact h.top id hid
   ·rfl
 have hX0:Vc s es (fun _=>none) (fun j=>if j=0 then φ k else none) (σ.only cQ) x:=by
  obtain⟨s1,rX,rG,rY,z1,eP,b1,b2,b3⟩:=hx;rw[hk]at b1;cases b1;have po:z.den P ν=some (.tree s eP):=b2;rw[hz]at po;cases po;refine⟨s,false,false,false,(),es,rfl,rfl,?_⟩;rcases b3 with⟨c1,c2,c3⟩|⟨id,cs,ar,mn,cap,c1,c2,c3,c4,c5,c6⟩
  ·exact .inl ⟨by simp[c1],c2,c3⟩
  ·exact .inr ⟨id,cs,ar,mn,cap,by simp[c1],by rw[az,(DU id).2 c1];simpa using c2,c3,c4,c5,c6⟩
 suffices Vd:∀R1 dt ai v,Vb s aB R1 dt E ai→Vc s aB R1 dt ai v→σ.n≤ai.n→(∀id,id<σ.n→cQ id=false→ai.at id=none)→∃b,∀N,b≤N→KW N v (σ.back ai cQ) by
  obtain⟨b,hb⟩:=hr _ _ _ _ x args l7 hX0 bg (fun N v ai=>σ.n≤ai.n→(∀id,id<σ.n→cQ id=false→ai.at id=none)→KW N v (σ.back ai cQ)) fun R1 dt ai v h1 h2=>by
   by_cases hc:σ.n≤ai.n∧∀id,id<σ.n→cQ id=false→ai.at id=none
   ·obtain⟨b,hb⟩:=Vd R1 dt ai v h1 h2 hc.1 hc.2;exact⟨b,fun N hN _ _=>hb N hN⟩
   ·exact⟨0,fun N _ h3 h4=>absurd ⟨h3,h4⟩ hc⟩
  refine⟨b,fun N hN ι us w hi lq=>((hb N hN).frame cQ h.top ι us w hi lq).mono fun ed w' hR=>?_⟩;obtain⟨v,ah,⟨ai,iN,rfl,hle,_,BW⟩,GN⟩:=hR;exact⟨v,σ.back ai cQ,iN hle BW,GN⟩
 intro R1 dt ai v bk hX1 hle BW;have Il:=bk.top;have AI:=JR (σ:=σ) (ai:=ai) cQ hle Il;have hold:∀id,id<σ.n→cQ id=false→(σ.back ai cQ).at id=σ.at id:=fun id h1 h2=>by rw[AI,if_pos ⟨h1,h2⟩]
 have dG:∀id ob,ai.at id=some ob→¬(id<σ.n∧cQ id=false):=fun id ob ho hc=>by rw[BW id hc.1 hc.2]at ho;cases ho
 have Im:∀id ob,ai.at id=some ob→(σ.back ai cQ).at id=some ob:=fun id ob ho=>by rw[AI,if_neg (dG id ob ho)];exact ho
 let R2:Rs:=fun i=>if i<σ.n∧cQ i=false then R i else R1 i
 let CL:Ph:=fun i=>if i=k then dt 0 else φ i
 have hRk:∀id,φ k=some id→R id=none:=fun id hid=>by
  rcases g3 with⟨a,_⟩|⟨bp,cs,ar,mn,a1,_,_,_,a5,_⟩
  ·rw[hid]at a;cases a
  ·rw[hid]at a1;cases a1;simpa using a5
 have yg:∀id m,R id=some m→id<σ.n∧cQ id=false:=fun id m hm=>by
  refine⟨h.qb id m hm,?_⟩;cases hv:cQ id with
  |false=>rfl
  |true=>rw[hRk id ((DU id).1 hv)]at hm;cases hm
 have ry:∀j id,j≠k→φ j=some id→id<σ.n∧cQ id=false:=fun j id hj hid=>by
  refine⟨(h.lt j id hid).2,?_⟩;cases hv:cQ id with
  |false=>rfl
  |true=>exact absurd (h.inj j k id hid ((DU id).1 hv)) hj
 have wz:∀id m cs ar mn,R2 id=some m→(σ.back ai cQ).at id=some (.cells cs ar mn)→m≤cs.length:=fun id m cs ar mn hm ha=>by
  simp only[R2]at hm;rw[AI]at ha;split at hm
  ·rename_i hc;rw[if_pos hc]at ha;exact h.fits id m cs ar mn hm ha
  ·rename_i hc;rw[if_neg hc]at ha;exact bk.fits id m cs ar mn hm ha
 have pM:ic R σ R2 (σ.back ai cQ):=by
  refine⟨fun id m hm=>⟨m,by simp only[R2];rw[if_pos (yg id m hm)];exact hm,ar9 _⟩,fun id m cs ar mn hm ha=>⟨cs,ar,?_,ar9 _,fun _ _=>rfl⟩,wz⟩;rw[hold id (yg id m hm).1 (yg id m hm).2];exact ha
 have bc:∀j,j≠k→(L.set k (.row s false false false z'))[j]?=L[j]? :=fun j hj=>List.getElem?_set_ne (fun hc=>hj hc.symm);have bn:(L.set k (.row s false false false z'))[k]?=some (.row s false false false z'):=by simp[qc]
 have BY:∀j,j≠k→CL j=φ j:=fun j hj=>by simp only[CL];rw[if_neg hj]
 have tD:CL k=dt 0:=by simp[CL]
 have hs:jU (aj P ν) (aj P ν) R φ L σ R2 CL (L.set k (.row s false false false z')) (σ.back ai cQ) (·=k):=by
  refine⟨fun _ _ h=>h,pM,fun j cs hj=>?_,fun j kt eP hj=>?_,fun j s1 rX rG rY z1 hj hb=>?_⟩
  ·have bB:j≠k:=fun hc=>by subst hc;rw[hk]at hj;cases hj
   exact⟨⟨cs,by rw[bc j bB];exact hj⟩,BY j bB⟩
  ·have bB:j≠k:=fun hc=>by subst hc;rw[hk]at hj;cases hj
   exact⟨⟨eP,by rw[bc j bB];exact hj⟩,BY j bB⟩
  ·exact⟨⟨rX,rY,z1,by rw[bc j hb];exact hj,fun e he=>⟨e,he,rfl⟩⟩,BY j hb,fun id cs ar mn hid ha=>⟨cs,mn,by rw[hold id (ry j id hb hid).1 (ry j id hb hid).2];exact ha,rfl,fun h=>h⟩⟩
 obtain⟨c9,K5,k1,k2,k3⟩:=bk.obj 0 _ rfl;have Lg:some (IV.tree s aB)=some (.tree s K5):=k1;cases Lg
 have JS:∀id,dt 0=some id→∃ob,ai.at id=some ob:=fun id hid=>by
  rcases k3 with⟨a,_⟩|⟨bp,cs,ar,mn,a1,a2,_⟩
  ·rw[hid]at a;cases a
  ·rw[hid]at a1;cases a1;exact⟨_,a2⟩
 refine Oy R2 CL (σ.back ai cQ) v ⟨fun d t pv hg=>(h.slot d t pv hg).step hs (KL d t pv hg),fun j ob hj=>?_,fun j j' id h1 h2=>?_,fun j id hj=>?_,fun id m hm=>?_,wz,T.Ff _ _,fun id hid=>?_⟩ ?_
 ·by_cases bB:j=k
  ·subst bB;rw[bn]at hj;cases hj;refine⟨c9,aB,pf,k2,?_⟩;rcases k3 with⟨a,b⟩|⟨id,cs,ar,mn,a1,a2,a3,a4,a5,a6,a7⟩
   ·exact .inl ⟨by rw[tD];exact a,b⟩
   ·refine .inr ⟨id,cs,ar,mn,by rw[tD];exact a1,Im id _ a2,a3,a4,?_,a6,fun q u v hu hv=>?_⟩
    ·simp only[R2];rw[if_neg (dG id _ a2)];exact a5
    ·refine(a7 q u v hu hv).move fun i ob ho=>⟨Im i ob ho,?_⟩;simp only[R2];rw[if_neg (dG i ob ho)]
  ·rw[bc j bB]at hj;exact(h.obj j ob hj).step hs (BY j bB) (fun id hid=>⟨hold id (ry j id bB hid).1 (ry j id bB hid).2,by simp only[R2];rw[if_pos (ry j id bB hid)]⟩) (hL j ob hj bB)
 ·by_cases hj:j=k
  ·by_cases kb:j'=k
   ·rw[hj,kb]
   ·exfalso;rw[hj,tD]at h1;rw[BY j' kb]at h2;obtain⟨ob,ho⟩:=JS id h1;exact dG id ob ho (ry j' id kb h2)
  ·by_cases kb:j'=k
   ·exfalso;rw[kb,tD]at h2;rw[BY j hj]at h1;obtain⟨ob,ho⟩:=JS id h2;exact dG id ob ho (ry j id hj h1)
   ·rw[BY j hj]at h1;rw[BY j' kb]at h2;exact h.inj j j' id h1 h2
 ·by_cases bB:j=k
  ·subst bB;rw[tD]at hj;exact⟨by simpa using qc,(bk.lt 0 id hj).2⟩
  ·rw[BY j bB]at hj;have:=h.lt j id hj;exact⟨by simpa using this.1,auw this.2 hle⟩
 ·simp only[R2]at hm;split at hm
  ·exact auw (h.qb id m hm) hle
  ·exact bk.qb id m hm
 ·have iv:ai.n≤id:=hid;rw[AI,if_neg (by omega)];exact Il id iv
 ·obtain⟨s1,rX,rG,rY,z1,eP,b1,b2,b3⟩:=hX1;have wq:some (LO.row s false false false ())=some (.row s1 rX rG rY z1):=b1;cases wq;have po:some (IV.tree s aB)=some (.tree s eP):=b2;cases po;refine⟨s,false,false,false,z',aB,bn,pf,?_⟩;rcases b3 with⟨c1,c2,c3⟩|⟨id,cs,ar,mn,cap,c1,c2,c3,c4,c5,c6⟩
  ·exact .inl ⟨by rw[tD];exact c1,c2,c3⟩
  ·exact .inr ⟨id,cs,ar,mn,cap,by rw[tD];exact c1,Im id _ c2,c3,c4,c5,c6⟩
end Go.Ev
