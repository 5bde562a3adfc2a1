/- Lemmas over the model, without conditions of their own: operations on expressions (3). -/
import Derived.Test.YtggffkaadeagbaaGreatEvL
import Derived.Test.YtggffkaadeagbaaGreatEvI
open Option.some renaming injEq->aqH
open Option renaming map_eq_some_iff->aqL,bind_some->aqN,map_some->aq9,bind_eq_some_iff->aqZ
open Bool renaming and_eq_true->aqG,not_eq_true'->aru,false_eq_true->ara,or_eq_true->arl
open Nat renaming eq_of_beq_eq_true->aqO,zero_le->arw,add_mul->are,beq_eq->ark,le_refl->aqK,lt_of_lt_of_le->as4
open List renaming eq_nil_of_length_eq_zero->arf,getElem?_eq_some_iff->aqF,getElem?_map->aqU,getElem?_range->atk,getElem?_eq_getElem->aqE,all_eq_true->aqW,getElem_mem->aqI,append_assoc->aq4,mem_of_mem_take->ar_,mem_of_mem_drop->atc,getElem?_take->ard,replicate->aq1,replicate_succ->asO,getElem?_append_left->aqQ,getElem?_append_right->aq_,length_eq_one_iff->atF,eq_of_mem_replicate->arR,mem_flatten->atd,length_take->ar9
open List.cons renaming injEq->arF
open Int renaming toNat_of_nonneg->atg
open Go.Value.int renaming injEq->atZ
open Go.Utf8 renaming decode->ass
set_option linter.all false
namespace Go.Ev
variable{P:Program}{N:Nat}{σ ah:St}{R R':Rs}{φ aG:Ph}{E:Nat→Env}{ν:List IV}
variable{C:Cr}{Q:IV→Prop}{K:List (List IV→Prop)}{V:SS}{d:Nat}{o:Oper}{k:PV SE→SS→ab}{L:List (LO SE)}{Γ:Gm SE}
theorem GW:∀{ds:List (Cl SE)} {es:List SE},ET ds=some es→ds=es.map .v
 |[],es,h=>by simp only[ET,aqH]at h;subst h;rfl
 |c::ds,es,h=>by
  cases c<;>simp only[ET]at h<;>first|(cases h;done)|skip
  split at h
  ·rename_i aB he;simp only[aqH]at h;subst h;rw[GW he];rfl
  ·cases h
theorem GX(hJ:J (aj P ν) R φ V.g V.l E σ):∀{cs:List (Cl SE)} {es:List SE} {xs:List IV},vc cs=some es→All2 (cz (aj P ν) R φ V.l σ) xs cs→
 ∃ys:List IV,All2 (fun(z:SE) y=>z.den P ν=some y) es ys∧All2 (aY true R σ) xs ys
 |[],es,[],h,_=>by simp only[vc,aqH]at h;subst h;exact⟨[],trivial,trivial⟩
 |[],es,_::_,_,hx=>hx.elim
 |c::cs,es,[],_,hx=>hx.elim
 |c::cs,es,x::xs,h,hx=>by
  have next:∀{e:SE} {y:IV},(vc cs).map (e::·)=some es→e.den P ν=some y→aY true R σ x y→∃ys:List IV,All2 (fun(z:SE) y=>z.den P ν=some y) es ys∧All2 (aY true R σ) (x::xs) ys:=by
   intro e y h h1 h2;obtain⟨aB,h3,rfl⟩:=aqL.1 h;obtain⟨ys,h4,h5⟩:=GX hJ h3 hx.2;exact⟨y::ys,⟨h1,h4⟩,⟨h2,h5⟩⟩
  simp only[vc]at h;split at h
  ·obtain⟨y,h1,h2,_⟩:=hx.1;exact next h h1 (h2.mono hJ.z8)
  ·obtain⟨y,h1,h2,_⟩:=hx.1;exact next h h1 h2.cC
  ·rename_i b s;obtain⟨h1,h2⟩:=hx.1;refine next (y:=.tree s []) h (by simp[SE.den,h1]) ?_
   subst h2;cases b
   ·exact .emp s h1
   ·exact .nil s h1
  ·cases h
theorem Ab(hJ:J (aj P ν) R φ V.g V.l E σ){pv:PV SE}{ke:SE}{x:IV}(hx:VR (aj P ν) R φ V.l σ x pv)(h:GI pv=some ke):∃kv,ke.den P ν=some kv∧aY true R σ x kv:=by
 unfold GI at h;split at h<;>first|(cases h;done)|skip
 ·cases h;obtain⟨y,h1,h2,_⟩:=hx;exact⟨y,h1,h2.mono hJ.z8⟩
 ·cases h;obtain⟨y,h1,h2,_⟩:=hx;exact⟨y,h1,h2.cC⟩
 ·rename_i cs;obtain⟨es,h1,rfl⟩:=aqL.1 h;obtain⟨xs,rfl,iC⟩:=hx;obtain⟨ys,g1,g2⟩:=GX hJ h1 iC;exact⟨.agg ys,ew g1,.agg xs ys g2.len fun i c e h1 h2=>g2.get h1 h2⟩
theorem All2.afu{α β:Type}{r:α→β→Prop}{a:α}{b:β}(hr:r a b):∀{as:List α} {bs:List β} {i:Nat},All2 r as bs→All2 r (as.set i a) (bs.set i b)
 |[],[],i,_=>by simp;trivial
 |_::_,_::_,0,h=>⟨hr,h.2⟩
 |_::_,_::_,i+1,h=>⟨h.1,All2.afu hr h.2⟩
 |[],_::_,_,h=>h.elim
 |_::_,[],_,h=>h.elim
theorem adw(hJ:J (aj P ν) R φ V.g V.l E σ)(hn:ν.length=V.n){j id:Nat}{kt:TypeId}{iA:SE}(hj:V.l[j]?=some (.mp kt iA)){es aB:List (Value×IV×Nat)}{clock nL:Nat}{l6:List IV}(dV:¬gp kt=true)(ky:φ j=some id)(hR:R id=none)(aA:σ.at id=some (.map es clock))
 (he:yp R σ aB l6∧Canon aB nL):J (aj P (ν++[.av l6])) R φ V.g (V.l.set j (.mp kt (.var V.n))) E (σ.put id (.map aB nL)):=by
 have bz:=hJ.up (gW:=aj P (ν++[.av l6])) (fun e y h=>SE.cR P e h)
 exact(bz.sK (R':=R) (bad:=fun _=>False) (jK:=.mp kt (.var V.n)) (eE:=.map aB nL) ky hj (fun _ _=>rfl)
  (fun m hm=>by rw[hR]at hm;cases hm) (fun m _ _ _ hm=>by rw[hR]at hm;cases hm) (fun m _ _ _ hm=>by rw[hR]at hm;cases hm)
  (fun _ h=>by cases h) (fun _ _ _=>by rename_i h;cases h;exact⟨_,rfl⟩) (fun _ _ _ _ _ h=>by cases h) (fun _ _ pv _=>pv.aU) (fun _ o _ _=>o.aU)
  (fun dw=>by rw[gB,if_neg dV];exact⟨id,aB,nL,l6,by simp[aj,SE.den,←hn],ky,hR,by rw[St.cS,if_pos rfl],he.1.mono fun _ _ ⟨z,h1,h2⟩=>⟨z,h1,h2.mono dw.grow⟩,he.2⟩)).2
theorem Il{t:TypeId}{m key x:Operand}(hJ:J (aj P ν) R φ V.g V.l E σ)(hn:ν.length=V.n)(ho:o.op=.mapUpdate t m key x∨o.op=.insert t m key x)(hs:(fU P d o V k).sat P C Q K ν):cY P C Q K ν E V.ln k (bF P E d o σ):=by
 have dw:(match P.underlying t with
  |some (.map kt et)=>JM kt (bI P d V t m) (bI P d V kt key) (bI P d V et x) V k
  |_=>.fail 66).sat P C Q K ν:=by
  rcases ho with ho|ho<;>(unfold fU at hs;rw[ho]at hs;exact hs)
 split at dw<;>first|(exact dw.elim)|skip
 rename_i kt et hu;unfold JM at dw;split at dw<;>first|(exact dw.elim)|skip
 rename_i j ke xe hm hk hx;split at dw<;>first|(exact dw.elim)|skip
 rename_i ly iA hj;split at dw<;>first|(exact dw.elim)|skip
 rename_i jE;rw[aqG,aru]at jE;obtain⟨jE,dV⟩:=jE;have xF:=aqO jE;subst xF;have dV:¬gp kt=true:=by rw[dV];simp
 obtain⟨z,hz,amR⟩:=dw;have o_:=aZ hJ d t m;have OY:=aZ hJ d kt key;obtain⟨xv,vN,hxr⟩:=Ab hJ (aZ hJ d et x) hx;rw[hm]at o_;obtain⟨id,lA,gK,g1,g2,g3⟩:=o_;rw[hj]at g2;cases g2;rw[if_neg dV]at g3;obtain⟨kv,a1,a2⟩:=Ab hJ OY hk;have dt:=hJ.obj j _ hj;rw[gB,if_neg dV]at dt;obtain⟨br,es,clock,ds,c1,c2,c3,c4,c5⟩:=dt;rw[g1]at c2;cases c2;have j2:iA.den P ν=some (.av ds):=c1;have vM:ke.den P ν=some kv:=a1;simp only[SE.den,j2,vM,vN,aqN]at hz
 have fin:∀{aB:List (Value×IV×Nat)} {nL:Nat} {l6:List IV},yp R σ aB l6∧Canon aB nL→z=.av l6→oK P 0 kt (aq (E d) m) (aq (E d) key) (aq (E d) x) σ=some (σ.put id (.map aB nL))→cY P C Q K ν E V.ln k (bF P E d o σ):=by
  intro aB nL l6 he Ig rz;subst Ig;have eQ:=adw (nL:=nL) hJ hn hj dV g1 c3 c4 he;refine⟨.undef,_,R,φ,.one .un,{V with n:=V.n+1,l:=V.l.set j (.mp kt (.var V.n))},[.av l6],?_,eQ,trivial,by simp[hn],rfl,amR⟩;rcases ho with ho|ho<;>simp[bF,ak,ho,hu,rz,ret]
 split at hz
 ·rename_i q hq;obtain⟨kk,e1,e2,e3,e4,e5⟩:=vg c5.1 hq false;have F4:=DM e1 a2;obtain⟨e,h6,h7⟩:=e5 q rfl;refine fin (aB:=es.set q (kk,aq (E d) x,e.2.2)) (nL:=clock) (l6:=ds.set q (.av [kv,xv])) ⟨All2.afu ⟨xv,by rw[e3],hxr⟩ c5.1,c5.2.set h6 _ _⟩ (by simpa using hz.symm) ?_;unfold oK;rw[g3,F4];simp only[e2,c4,e4,h6,h7,if_true,arw,not_true,if_false]
 ·rename_i hq;obtain⟨kk,e1,e2,e3,e4,e5⟩:=vg c5.1 hq false;have F4:=DM e1 a2;refine fin (aB:=es++[(kk,aq (E d) x,clock)]) (nL:=clock+1) (l6:=ds++[.av [kv,xv]]) ⟨c5.1.app ⟨⟨xv,by rw[e3],hxr⟩,trivial⟩,c5.2.app _ _⟩ (by simpa using hz.symm) ?_;unfold oK;rw[g3,F4];simp only[e2,c4,e4,arw,not_true,if_false]
 ·cases hz
theorem aau{t:TypeId}{e:SE}(h:ES P t=some e):∃v,cn P t=some v∧e.den P ν=some (.raw v)∧lift v=.raw v:=by
 unfold ES at h;split at h<;>first|(cases h;exact⟨_,‹_›,rfl,rfl⟩)|cases h
theorem afv{fr:Bool}{x:IV}(h:aY fr R σ x (.agg [])):x=.agg []:=by
 cases h with
 |agg cs _ hl _=>
  have h0:cs=[]:=arf (by simpa using hl);rw[h0]
 |pure=>rfl
theorem aav{t:TypeId}(h:MY P t=true):cn P t=some (.agg #[]):=by
 unfold MY at h;split at h
 ·rename_i cs hc;rw[hc];have:cs.toList=[]:=by simpa using h
  rw[show cs= #[]from by cases cs;simp at this;rw[this]]
 ·cases h
theorem RH{t:TypeId}{m key:Operand}{kt et:TypeId}(hJ:J (aj P ν) R φ V.g V.l E σ)(hn:ν.length=V.n)(ho:o.op=.lookup t m key true)(hu:P.underlying t=some (.map kt et))(hz:MY P et=true)
 (hs:(JO kt (bI P d V t m) (bI P d V kt key) V k).sat P C Q K ν):cY P C Q K ν E V.ln k (bF P E d o σ):=by
 have mG:=aav hz;unfold JO at hs;split at hs<;>first|(exact hs.elim)|skip
 rename_i j ke hm hk;split at hs<;>first|(exact hs.elim)|skip
 rename_i ly iA hj;split at hs<;>first|(exact hs.elim)|skip
 rename_i jE;rw[aqG,aru]at jE;obtain⟨jE,dV⟩:=jE;have xF:=aqO jE;subst xF;have dV:¬gp kt=true:=by rw[dV];simp
 obtain⟨⟨u,xG⟩,h,hh,hs⟩:=hs;have o_:=aZ hJ d t m;have OY:=aZ hJ d kt key;rw[hm]at o_;obtain⟨id,lA,gK,g1,g2,g3⟩:=o_;rw[hj]at g2;cases g2;rw[if_neg dV]at g3;obtain⟨kv,a1,a2⟩:=Ab hJ OY hk;have dt:=hJ.obj j _ hj;rw[gB,if_neg dV]at dt;obtain⟨br,es,clock,ds,c1,c2,c3,c4,c5⟩:=dt;rw[g1]at c2;cases c2;have j2:iA.den P ν=some (.av ds):=c1;have vM:ke.den P ν=some kv:=a1
 have hg:∃q,fa P kt ds kv=some q∧(q=none∨∃i a,q=some i∧ds[i]?=some (.av [a,.agg []])):=by
  simp only[SE.den,j2,vM,aqN]at xG;cases hq:fa P kt ds kv with
  |none=>rw[hq]at xG;simp at xG
  |some q=>
   refine⟨q,rfl,?_⟩;rw[hq]at xG;cases q with
   |none=>exact .inl rfl
   |some i=>
    refine .inr ?_;simp only at xG;split at xG
    ·rename_i a y hd;simp only[aqN]at xG;split at xG
     ·rename_i cs;split at xG
      ·rename_i hc;have:cs=[]:=arf hc.1;subst this;exact⟨i,a,rfl,hd⟩
      ·cases xG
     ·cases xG
    ·simp at xG
 obtain⟨q,hq,qB⟩:=hg;obtain⟨kk,e1,e2,e3,e4,e5⟩:=vg c5.1 hq es.isEmpty;have F4:=DM e1 a2;simp only[SE.den,j2,vM,aqN,hq,aq9,aqH]at hh;subst hh;have bz:=hJ.up (gW:=aj P (ν++[.bool q.isSome])) (fun e y h=>SE.cR P e h);have C2:entriesOf σ (aq (E d) m)=some es:=by rw[g3];simp[entriesOf,c4]
 have ej:ak P 0 (aq (E d)) o σ=some (.val (.av [.agg [],.raw (.bool q.isSome)]) σ):=by
  simp only[ak,ho,hu,C2,F4,e2,e4,mG];rcases qB with rfl|⟨i,a,rfl,hd⟩
  ·simp[ret,lift]
  ·obtain⟨e,h6,_⟩:=e5 i rfl;obtain⟨z',h8,h9⟩:=All2.get c5.1 h6 hd;simp only[IV.av.injEq,arF,and_true]at h8;obtain⟨_,rfl⟩:=h8;simp[ret,h6,afv h9]
 refine⟨.av [.agg [],.raw (.bool q.isSome)],σ,R,φ,.tu [(true,[]),(false,[.v (.var V.n)])],{V with n:=V.n+1},[.bool q.isSome],ej,bz,⟨_,rfl,⟨[],rfl,trivial⟩,⟨_,rfl,.raw (.bool q.isSome),?_,.raw _,rfl⟩,trivial⟩,by simp[hn],rfl,hs⟩;simp[aj,SE.den,←hn]
theorem RI{t:TypeId}{m key:Operand}{kt et:TypeId}{ok:Bool}(hJ:J (aj P ν) R φ V.g V.l E σ)(hn:ν.length=V.n)(ho:o.op=.lookup t m key ok)(hu:P.underlying t=some (.map kt et))
 (hs:(JN P kt et (bI P d V t m) (bI P d V kt key) ok V k).sat P C Q K ν):cY P C Q K ν E V.ln k (bF P E d o σ):=by
 unfold JN at hs;split at hs<;>first|(exact hs.elim)|skip
 rename_i j ke zs n hm hk ve Lz;split at ve<;>first|(cases ve;done)|skip
 rename_i arr mG;split at hs<;>first|(exact hs.elim)|skip
 rename_i ly iA hj;split at hs<;>first|(exact hs.elim)|skip
 rename_i jE;rw[aqG,aru]at jE;obtain⟨jE,dV⟩:=jE;have xF:=aqO jE;subst xF;have dV:¬gp kt=true:=by rw[dV];simp
 obtain⟨z,hz,hs⟩:=hs;have o_:=aZ hJ d t m;have OY:=aZ hJ d kt key;rw[hm]at o_;obtain⟨id,lA,gK,g1,g2,g3⟩:=o_;rw[hj]at g2;cases g2;rw[if_neg dV]at g3;obtain⟨kv,a1,a2⟩:=Ab hJ OY hk;have dt:=hJ.obj j _ hj;rw[gB,if_neg dV]at dt;obtain⟨br,es,clock,ds,c1,c2,c3,c4,c5⟩:=dt;rw[g1]at c2;cases c2;have j2:iA.den P ν=some (.av ds):=c1;have vM:ke.den P ν=some kv:=a1;obtain⟨zys,y1,y2⟩:=GX hJ ve (mv (R:=R) (φ:=φ) (L:=V.l) (σ:=σ) mG);have amS:=ew y1;simp only[Value.cells]at y2;have ai6:lift (.agg arr)=.agg (arr.toList.map .raw):=rfl
 have hg:∃q,fa P kt ds kv=some q∧∃cs,z=.agg cs∧cs.length=n∧cs.all Ev.af=true∧((q=none∧cs=zys)∨∃i a,q=some i∧ds[i]?=some (.av [a,.agg cs])):=by
  simp only[SE.den,j2,vM,amS,aqN]at hz;cases hq:fa P kt ds kv with
  |none=>rw[hq]at hz;simp at hz
  |some q=>
   refine⟨q,rfl,?_⟩;rw[hq]at hz;cases q with
   |none=>
    simp only[aqN]at hz;split at hz
    ·rename_i hc;cases hz;exact⟨zys,rfl,hc.1,hc.2,.inl ⟨rfl,rfl⟩⟩
    ·cases hz
   |some i=>
    simp only at hz;split at hz
    ·rename_i a y hd;simp only[aqN]at hz;split at hz<;>first|(cases hz;done)|skip
     rename_i cs;split at hz
     ·rename_i hc;cases hz;exact⟨cs,rfl,hc.1,hc.2,.inr ⟨i,a,rfl,hd⟩⟩
     ·cases hz
    ·simp at hz
 obtain⟨q,hq,cs,rfl,dU,vB,qB⟩:=hg;obtain⟨kk,e1,e2,e3,e4,e5⟩:=vg c5.1 hq es.isEmpty;have F4:=DM e1 a2;have bz:=hJ.up (gW:=aj P (ν++[.agg cs])) (fun e y h=>SE.cR P e h);have C2:entriesOf σ (aq (E d) m)=some es:=by rw[g3];simp[entriesOf,c4]
 have ej:∃xs,All2 (aY true R σ) xs cs∧ak P 0 (aq (E d)) o σ=some (.val (if ok then .av [.agg xs,.raw (.bool q.isSome)]else .agg xs) σ):=by
  rcases qB with⟨rfl,rfl⟩|⟨i,a,rfl,hd⟩
  ·refine⟨_,y2,?_⟩;simp only[ak,ho,hu,C2,F4,e2,e4,mG];cases ok<;>simp[ret,ai6]
  ·obtain⟨e,h6,_⟩:=e5 i rfl;obtain⟨z',h8,h9⟩:=All2.get c5.1 h6 hd;simp only[IV.av.injEq,arF,and_true]at h8;obtain⟨_,rfl⟩:=h8;obtain⟨xs,xZ,vH⟩:=By h9;refine⟨xs,vH,?_⟩;simp only[ak,ho,hu,C2,F4,e2,e4,mG];cases ok<;>simp[ret,h6,xZ]
 obtain⟨xs,iC,ej⟩:=ej
 have iz:∀(μ:List IV) (m0:Nat),ν.length=m0→All2 (cz (aj P (ν++(.agg cs::μ))) R φ V.l σ) xs ((List.range n).map fun j=>.w true (.bN (.var m0) j)):=by
  intro μ m0 Cc;refine .mk (by simp[iC.len,dU]) fun i a b h1 h2=>?_;have hi:=(aqF.1 h1).1;rw[iC.len]at hi;rw[aqU,atk (by omega)]at h2;simp only[aq9,aqH]at h2;subst h2;have LA:cs[i]?=some cs[i]:=aqE hi;have bo:Ev.af cs[i]=true:=(aqW.1 vB) _ (aqI hi);exact⟨cs[i],by simp[aj,SE.den,←Cc,LA,xx,bo],iC.get h1 LA,bo⟩
 cases ok with
 |false=>
  simp only[ara,if_false]at hs ej;exact⟨.agg xs,σ,R,φ,.ag _,{V with n:=V.n+1},[.agg cs],ej,bz,⟨xs,rfl,iz [] V.n hn⟩,by simp[hn],rfl,hs⟩
 |true=>
  simp only[if_true]at hs ej;obtain⟨h,hh,hs⟩:=hs;have aaw:=SE.cR P iA (μ:=[.agg cs]) j2;have aax:=SE.cR P ke (μ:=[.agg cs]) vM;simp only[SE.den,aaw,aax,aqN,hq,aq9,aqH]at hh;subst hh;rw[aq4]at hs;have eQ:=bz.up (gW:=aj P (ν++([.agg cs]++[.bool q.isSome]))) (fun e y h=>by rw[←aq4];exact SE.cR P e h);refine⟨.av [.agg xs,.raw (.bool q.isSome)],σ,R,φ,.tu [(true,_),(false,[.v (.var (V.n+1))])],{V with n:=V.n+1+1},[.agg cs]++[.bool q.isSome],ej,eQ,⟨_,rfl,⟨xs,rfl,iz [.bool q.isSome] V.n hn⟩,⟨_,rfl,.raw (.bool q.isSome),?_,.raw _,rfl⟩,trivial⟩,by simp[hn],rfl,hs⟩;simp[aj,SE.den,←hn]
theorem Vu{t:TypeId}{m key:Operand}{ok:Bool}(hJ:J (aj P ν) R φ V.g V.l E σ)(hn:ν.length=V.n)(ho:o.op=.lookup t m key ok)(hs:(fU P d o V k).sat P C Q K ν):cY P C Q K ν E V.ln k (bF P E d o σ):=by
 unfold fU at hs;rw[ho]at hs;simp only at hs;split at hs<;>first|(exact hs.elim)|skip
 rename_i kt et hu;split at hs
 ·rename_i bo;simp only[aqG]at bo;obtain⟨rfl,hz⟩:=bo;exact RH hJ hn ho hu hz hs
 split at hs
 ·exact RI hJ hn ho hu hs
 unfold Su at hs;split at hs<;>first|(exact hs.elim)|skip
 rename_i j ke z0 hm hk mG;split at hs<;>first|(exact hs.elim)|skip
 rename_i ly iA hj;split at hs<;>first|(exact hs.elim)|skip
 rename_i jE;rw[aqG,aru]at jE;obtain⟨jE,dV⟩:=jE;have xF:=aqO jE;subst xF;have dV:¬gp kt=true:=by rw[dV];simp
 obtain⟨z,hz,hs⟩:=hs;obtain⟨mA,J2⟩:=oY hz;have o_:=aZ hJ d t m;have OY:=aZ hJ d kt key;rw[hm]at o_;obtain⟨id,lA,gK,g1,g2,g3⟩:=o_;rw[hj]at g2;cases g2;rw[if_neg dV]at g3;obtain⟨kv,a1,a2⟩:=Ab hJ OY hk;have dt:=hJ.obj j _ hj;rw[gB,if_neg dV]at dt;obtain⟨br,es,clock,ds,c1,c2,c3,c4,c5⟩:=dt;rw[g1]at c2;cases c2;have j2:iA.den P ν=some (.av ds):=c1;have vM:ke.den P ν=some kv:=a1;obtain⟨v0,y1,y2,y3⟩:=aau (ν:=ν) mG
 have hg:∃q,fa P kt ds kv=some q∧∃u,z=.raw u∧((q=none∧u=v0)∨∃i a,q=some i∧ds[i]?=some (.av [a,.raw u])):=by
  simp only[SE.den,j2,vM,y2,aqN]at mA;cases hq:fa P kt ds kv with
  |none=>rw[hq]at mA;simp at mA
  |some q=>
   refine⟨q,rfl,?_⟩;rw[hq]at mA;cases q with
   |none=>
    simp only[aqN,aw,if_true,aqH]at mA;exact⟨v0,mA.symm,.inl ⟨rfl,rfl⟩⟩
   |some i=>
    simp only at mA;split at mA
    ·rename_i a y hd;simp only[aqN]at mA;split at mA
     ·rename_i hr;cases mA;cases z<;>simp only[aw]at hr<;>first|(cases hr;done)|skip
      rename_i u;exact⟨u,rfl,.inr ⟨i,a,rfl,hd⟩⟩
     ·cases mA
    ·simp at mA
 obtain⟨q,hq,u,rfl,qB⟩:=hg;obtain⟨kk,e1,e2,e3,e4,e5⟩:=vg c5.1 hq es.isEmpty;have F4:=DM e1 a2;have bz:=hJ.up (gW:=aj P (ν++[.raw u])) (fun e y h=>SE.cR P e h);have hZ:(SE.var V.n).den P (ν++[.raw u])=some (.raw u):=by simp[SE.den,←hn]
 have C2:entriesOf σ (aq (E d) m)=some es:=by rw[g3];simp[entriesOf,c4]
 have ej:ak P 0 (aq (E d)) o σ=some (.val (if ok then .av [.raw u,.raw (.bool q.isSome)]else .raw u) σ):=by
  simp only[ak,ho,hu,C2,F4,e2,e4,y1];rcases qB with⟨rfl,rfl⟩|⟨i,a,rfl,hd⟩
  ·cases ok<;>simp[ret,y3]
  ·obtain⟨e,h6,_⟩:=e5 i rfl;obtain⟨z',h8,h9⟩:=All2.get c5.1 h6 hd;simp only[IV.av.injEq,arF,and_true]at h8;obtain⟨_,rfl⟩:=h8;have:=bV h9;cases ok<;>simp[ret,h6,this]
 cases ok with
 |false=>
  simp only[ara,if_false]at hs ej;exact⟨.raw u,σ,R,φ,.one (.v (.var V.n)),{V with n:=V.n+1},[.raw u],ej,bz,⟨.raw u,hZ,.raw u,J2⟩,by simp[hn],rfl,hs⟩
 |true=>
  simp only[if_true]at hs ej;obtain⟨h,hh,hs⟩:=hs;have aaw:=SE.cR P iA (μ:=[.raw u]) j2;have aax:=SE.cR P ke (μ:=[.raw u]) vM;simp only[SE.den,aaw,aax,aqN,hq,aq9,aqH]at hh;subst hh;rw[aq4]at hs;have eQ:=bz.up (gW:=aj P (ν++([.raw u]++[.bool q.isSome]))) (fun e y h=>by rw[←aq4];exact SE.cR P e h);refine⟨.av [.raw u,.raw (.bool q.isSome)],σ,R,φ,.tu [(false,[.v (.var V.n)]),(false,[.v (.var (V.n+1))])],{V with n:=V.n+1+1},[.raw u]++[.bool q.isSome],ej,eQ,⟨_,rfl,⟨_,rfl,.raw u,?_,.raw u,J2⟩,⟨_,rfl,.raw (.bool q.isSome),?_,.raw _,rfl⟩,trivial⟩,by simp[hn],rfl,hs⟩
  ·simp[aj,SE.den,←hn]
  ·simp[aj,SE.den,←hn]
end Go.Ev
namespace Go.Ev
variable{P:Program}{N:Nat}{σ ah:St}{R R':Rs}{φ aG:Ph}{E:Nat→Env}{ν:List IV}
variable{C:Cr}{Q:IV→Prop}{K:List (List IV→Prop)}{V:SS}{d:Nat}{o:Oper}{k:PV SE→SS→ab}{L:List (LO SE)}{Γ:Gm SE}
theorem SH{s:Nat}{e lo hi:SE}{z:IV}(h:(SE.sub s e lo hi).den P ν=some z):∃es a b l m q r,e.den P ν=some (.tree s es)∧lo.den P ν=some a∧hi.den P ν=some b∧a=.raw (.int q (l:Nat))∧b=.raw (.int r (m:Nat))∧l≤m∧m≤es.length∧z=.tree s ((es.take m).drop l):=by
 simp only[SE.den,aqZ]at h;obtain⟨x,h1,a,h2,b,h3,h4⟩:=h;unfold mu at h4;split at h4<;>first|(cases h4;done)|skip
 rename_i s1 es;split at h4<;>first|(cases h4;done)|skip
 rename_i l m hl hm;split at h4<;>first|(cases h4;done)|skip
 rename_i hc;obtain⟨rfl,h5,h6,h7,h8⟩:=hc;cases h4;obtain⟨q,rfl⟩:=Bt hl;obtain⟨r,rfl⟩:=Bt hm;exact⟨es,_,_,l.toNat,m.toNat,q,r,h1,h2,h3,by rw[atg h5],by rw[atg h7],h6,h8,rfl⟩
theorem aY.part{fr:Bool}{x:IV}{s l m:Nat}{es:List IV}{t el:TypeId}(hu:P.underlying t=some (.slice el))(aL:aH P el=some s)(h:aY fr R σ x (.tree s es))(h1:l≤m)(h2:m≤es.length){lo hi:Option IV}
 (fw:∀id off len c ep s',x=.sl id off len (some c) ep s'→len≤c)
 (ye:gh lo=some (some l)∨(gh lo=some none∧l=0))(Wy:gh hi=some (some m)∨(gh hi=some none∧m=es.length)):
 ∃x',fg P t x lo hi none=some x'∧aY fr R σ x' (.tree s ((es.take m).drop l)):=by
 obtain⟨jK,J3,J4⟩:∃q:Option Nat,gh lo=some q∧q.getD 0=l:=by
  rcases ye with h|⟨h,rfl⟩
  ·exact⟨_,h,rfl⟩
  ·exact⟨_,h,rfl⟩
 obtain⟨cT,J5,aay⟩:∃q:Option Nat,gh hi=some q∧∀n,n=es.length∨q≠none→q.getD n=m:=by
  rcases Wy with h|⟨h,rfl⟩
  ·exact⟨_,h,fun n _=>rfl⟩
  ·exact⟨_,h,fun n hn=>by rcases hn with rfl|hn;·rfl
                          ·exact absurd rfl hn⟩
 have sq:gh none=some none:=rfl
 have hz:es.length=0→l=0∧m=0∧(es.take m).drop l=[]∧cT.getD 0=0:=by
  intro h;have:es=[]:=arf h;subst this;have Cc:m=0:=by simpa using h2
  refine⟨by omega,Cc,by simp,?_⟩;have:=aay 0 (.inl rfl);omega
 cases h with
 |nil _ hs=>
  obtain⟨z1,z2,z3,z4⟩:=hz rfl;refine⟨.raw (.slice none 0 0),?_,by rw[z3];exact .nil s hs⟩;simp[fg,J3,J5,sq,hu,aL,J4,z1,z4]
 |emp _ hs=>
  obtain⟨z1,z2,z3,z4⟩:=hz rfl;refine⟨.emp,?_,by rw[z3];exact .emp s hs⟩;simp[fg,J3,J5,sq,hu,aL,J4,z1,z4]
 |pure _ hf hp=>
  refine⟨.tree s ((es.take m).drop l),?_,.pure _ hf ?_⟩
  ·have:=aay es.length (.inl rfl);simp[fg,J3,J5,sq,hu,aL,J4,this,h1,h2]
  ·cases hp with
   |tree _ _ hh=>exact .tree s _ fun e he=>hh e (ar_ (atc he))
 |sl id off len cap ep _ m0 cs au mn _ hR aA h3 h4 hs hl hb hm bC hh=>
  have CP:=aay len (.inl hl.symm)
  have eY:∀GY:Option Nat,aY fr R σ (.sl id (off+l*s) (m- l) GY ep s) (.tree s ((es.take m).drop l)):=fun GY=>by
   refine .sl id (off+l*s) (m- l) GY ep s m0 cs au mn _ hR aA h3 h4 hs (by simp;omega) ?_ hm (fun e he=>bC e (ar_ (atc he))) fun i e j c d' he hd hc=>?_
   ·have:(m- l)*s+l*s≤len*s:=by rw[←are];exact Nat.mul_le_mul_right s (by omega)
    omega
   ·rw[List.getElem?_drop,ard]at he;split at he
    ·refine hh (l+i) e j c d' he hd ?_;rw[are];rw[show off+(l*s+i*s)+j=off+l*s+i*s+j by omega];exact hc
    ·cases he
  cases cap with
  |none=>
   refine⟨.sl id (off+l*s) (m- l) none ep s,?_,eY none⟩;have:cT.getD len=m:=CP;simp[fg,J3,J5,sq,hu,aL,J4,this,h1];omega
  |some c=>
   by_cases Sb:m≤c
   ·by_cases hc:c=l
    ·refine⟨.emp,?_,?_⟩
     ·simp[fg,J3,J5,sq,hu,aL,J4,CP,h1,Sb,hc];omega
     ·have:(es.take m).drop l=[]:=by
       apply arf;simp;omega
      rw[this];exact .emp s hs
    ·refine⟨.sl id (off+l*s) (m- l) (some (c- l)) ep s,?_,eY _⟩;simp[fg,J3,J5,sq,hu,aL,J4,CP,h1,Sb,hc]
   ·have:=fw _ _ _ _ _ _ rfl;omega
theorem OZ{q:IntKind}{n:Nat}:gh (some (.raw (.int q (n:Nat))))=some (some n):=by
 simp[gh]
theorem Im(hJ:J (aj P ν) R φ V.g V.l E σ){US e:SE}{x:Option Operand}(h:GJ P d V US x=some e){n:Nat}{q:IntKind}(he:e.den P ν=some (.raw (.int q (n:Nat)))):
 gh (x.map (aq (E d)))=some (some n)∨(gh (x.map (aq (E d)))=some none∧e=US):=by
 cases x with
 |none=>simp only[GJ,aqH]at h;exact .inr ⟨rfl,h.symm⟩
 |some x=>
  simp only[GJ]at h;split at h
  ·rename_i e' hx;cases h;have hv:=aZ hJ d 3 x;rw[hx]at hv;obtain⟨y,h1,h2,_⟩:=hv;have cW:e.den P ν=some y:=h1;rw[he]at cW;cases cW;rw[aq9,bV h2];exact .inl OZ
  ·cases h
theorem Xw{t:TypeId}{x:Operand}{lo hi mx:Option Operand}(hJ:J (aj P ν) R φ V.g V.l E σ)(hn:ν.length=V.n)(ho:o.op=.slice t x lo hi mx)(hs:(JP P d t (bI P d V t x) lo hi mx V k).sat P C Q K ν):cY P C Q K ν E V.ln k (bF P E d o σ):=by
 unfold JP at hs;split at hs<;>first|(exact hs.elim)|skip
 rename_i el c hu hx;have p5:=aZ hJ d t x;rw[hx]at p5;split at hs<;>first|(exact hs.elim)|skip
 rename_i s aL;split at hs
 ·rename_i j l _;split at hs<;>first|(exact hs.elim)|skip
  rename_i s' cut fr es e hj he;split at hs<;>first|(exact hs.elim)|skip
  rename_i ic;have ue:=aqO ic;subst ue;obtain⟨⟨z,hz⟩,hs⟩:=hs;obtain⟨eP,a,b,n,m,q,r,h1,h2,h3,rfl,rfl,h4,h5,rfl⟩:=SH hz
  have hm:m=eP.length:=by
   obtain⟨s0,iA,h6,h7⟩:=Fi h3;rw[h1]at h6;cases h6;simp at h7;omega
  subst hm;have hl:=aZ hJ d 3 l;rw[he]at hl;obtain⟨y,y1,y2,_⟩:=hl;have Lt:e.den P ν=some y:=y1;rw[h2]at Lt;cases Lt;have fK:=bV y2;obtain⟨s1,rS,ry,rT,z1,gK,b1,b2,b3⟩:=p5;rw[hj]at b1;cases b1;have pc:es.den P ν=some (.tree s gK):=b2;rw[h1]at pc;cases pc;have Lz:nat? (.raw (.int q (n:Nat)))=some n:=by simp[nat?]
  have O0:gh (some (aq (E d) l))=some (some n):=by rw[fK];exact OZ
  have sq:gh none=some none:=rfl
  have fin:∀x',fg P t (aq (E d) x) (some (aq (E d) l)) none none=some x'→(JE φ σ j s cut n eP.length x'∨(n=eP.length∧x'=.emp))→cY P C Q K ν E V.ln k (bF P E d o σ):=fun x' g1 g2=>by
   refine .at (x:=x') hs hJ hn rfl ⟨s,false,cut,fr,es,eP,_,n,hj,h1,h2,Lz,h4,g2⟩ ?_;simp[bF,ak,ho,g1,ret]
  rcases b3 with⟨c1,c2,c3⟩|⟨id,cs,au,mn,cap,c1,c2,c3,c4,c5,c6⟩
  ·have ko:n=0:=by omega
   subst ko;rcases c3 with c3|c3
   ·refine fin (.raw (.slice none 0 0)) ?_ (.inl (.inl ⟨c1,c2,.inl rfl⟩));rw[c3];simp[fg,O0,sq,hu,aL]
   ·refine fin .emp ?_ (.inl (.inl ⟨c1,c2,.inr rfl⟩));rw[c3];simp[fg,O0,sq,hu,aL]
  ·cases cap with
   |none=>
    refine fin (.sl id (n*s) (eP.length- n) none au s) ?_ (.inl (.inr ⟨id,cs,au,mn,none,c1,c2,rfl,h4,c5,fun c hc=>by cases hc⟩));rw[c3];simp[fg,O0,sq,hu,aL,h4]
   |some c=>
    obtain⟨d1,d2,d3⟩:=c6 c rfl;by_cases hc:c=n
    ·refine fin .emp ?_ (.inr ⟨by omega,rfl⟩);rw[c3];simp[fg,O0,sq,hu,aL,h4,hc];omega
    ·refine fin (.sl id (n*s) (eP.length- n) (some (c- n)) au s) ?_ (.inl (.inr ⟨id,cs,au,mn,some (c- n),c1,c2,rfl,h4,(fun h=>by simp at h),fun c' wY=>?_⟩))
     ·rw[c3];have:eP.length≤c:=by omega
      simp[fg,O0,sq,hu,aL,h4,hc,this]
     ·have amT:c- n=c':=by simpa using wY
      subst amT;refine⟨d1,?_,by omega⟩;have:n*s+(c- n)*s=c*s:=by rw[←are];congr 1;omega
      omega
 ·rename_i c lo hi c0 lo0 Cg b0 _;split at hs<;>first|(exact hs.elim)|skip
  rename_i fr z V2 jq;split at hs<;>first|(exact hs.elim)|skip
  rename_i le he hl hh
  have GU:vK V c=some (fr,z,V2):=by
   split at jq<;>first|exact jq|cases jq
  obtain⟨R',g1,g2,g3⟩:=Dy hJ GU;obtain⟨y,g4,g5,_⟩:=g3 _ p5;have xc:ν.length=V2.n:=by rw[g1.2.1];exact hn
  obtain⟨w,w1,w2,w3,w4,w5⟩:=pS g2 xc hs;obtain⟨eP,a,b,l,m,q,r,h1,h2,h3,rfl,rfl,h4,h5,rfl⟩:=SH w1;rw[g4]at h1;cases h1
  have fw:∀id off len c1 ep s',aq (E d) x=.sl id off len (some c1) ep s'→len≤c1:=by
   intro id off len c1 ep s' ib;split at jq<;>first|(cases jq;done)|skip
   ·obtain⟨y',_,q2,_⟩:=p5;rw[ib]at q2;cases q2 with
    |pure _ _ hp=>cases hp
    |sl _ _ _ _ _ _ _ _ _ _ _ hR=>cases hR
   ·obtain⟨_,q2⟩:=p5;rw[ib]at q2;split at q2<;>cases q2
   ·obtain⟨s1,rS,ry,rT,z1,gK,b1,b2,⟨_,_,b3|b3⟩|⟨br,cs,au,mn,cap,j2,c2,c3,c4,c5,c6⟩⟩:=p5
    ·rw[ib]at b3;cases b3
    ·rw[ib]at b3;cases b3
    ·rw[ib]at c3;cases c3;have:=(c6 c1 rfl).2.2;omega
  have ye:gh (lo.map (aq (E d)))=some (some l)∨(gh (lo.map (aq (E d)))=some none∧l=0):=by
   refine(Im hJ hl h2).imp_right fun⟨e1,e2⟩=>⟨e1,?_⟩;subst e2;simp only[SE.den,aqH,IV.raw.injEq,atZ]at h2;have:=h2.2;omega
  have Wy:gh (hi.map (aq (E d)))=some (some m)∨(gh (hi.map (aq (E d)))=some none∧m=eP.length):=by
   refine(Im hJ hh h3).imp_right fun⟨e1,e2⟩=>⟨e1,?_⟩;subst e2;obtain⟨s0,iA,h6,h7⟩:=Fi h3;rw[g4]at h6;cases h6;simp at h7;omega
  obtain⟨x',k1,k2⟩:=g5.part (t:=t) (el:=el) hu aL h4 h5 fw ye Wy;refine⟨x',σ,R',φ,.one (.w fr (.var V2.n)),{V2 with n:=V2.n+1},[.tree s ((eP.take m).drop l)],?_,w4,⟨_,w3,k2,rfl⟩,w5,g1.2.2.1,w2⟩;simp[bF,ak,ho,k1,ret]
end Go.Ev
namespace Go.Ev
variable{P:Program}{N:Nat}{σ ah:St}{R R':Rs}{φ aG:Ph}{E:Nat→Env}{ν:List IV}
variable{C:Cr}{Q:IV→Prop}{K:List (List IV→Prop)}{V:SS}{d:Nat}{o:Oper}{k:PV SE→SS→ab}{L:List (LO SE)}{Γ:Gm SE}
theorem adx{s:Nat}{e lo x:SE}{z:IV}(h:(SE.Oi s e lo x).den P ν=some z):∃(es:List IV) (a:IV) (n:Nat) (q:IntKind) (y:IV),e.den P ν=some (.tree s es)∧lo.den P ν=some a∧a=.raw (.int q n)∧x.den P ν=some y∧n≤es.length∧(cellsOf y).length=s∧z=.tree s (es.take n++aq1 (es.length- n) y):=by
 simp only[SE.den,aqZ]at h;obtain⟨x,h1,a,h2,b,h3,h4⟩:=h;unfold Xe at h4;split at h4<;>first|(cases h4;done)|skip
 rename_i s1 es;split at h4<;>first|(cases h4;done)|skip
 rename_i l hl;split at h4<;>first|(cases h4;done)|skip
 rename_i hc;obtain⟨rfl,h5,h6,h7⟩:=hc;cases h4;obtain⟨q,rfl⟩:=Bt hl;exact⟨es,_,l.toNat,q,b,h1,h2,by rw[atg h5],h3,h6,h7,rfl⟩
theorem J6{y:IV}(n:Nat):flat (aq1 n y)=(aq1 n (cellsOf y)).flatten:=by
 induction n with
 |zero=>rfl
 |succ n ih=>simp[flat,asO]at ih⊢;exact ih
theorem zp{α:Type}{c:List α}{s:Nat}(hl:c.length=s):∀{n i:Nat},i<n*s→∀x,((aq1 n c).flatten)[i]?=some x→c[i % s]?=some x
 |0,i,h,_,_=>by simp at h
 |n+1,i,h,x,hx=>by
  rw[asO,List.flatten_cons]at hx;by_cases hi:i<s
  ·rw[aqQ (by omega)]at hx;rw[Nat.mod_eq_of_lt hi];exact hx
  ·rw[aq_ (by omega),hl]at hx;rw[are]at h;have:=zp hl (n:=n) (i:=i- s) (by omega) x hx;rw[Nat.mod_eq_sub_mod (by omega)];exact this
theorem Xx(hJ:J (aj P ν) R φ V.g V.l E σ){c:Call}{pv:PV SE}(h:gX P d V c.args.toList c.argTypes.toList=[pv]):∃x,c.args.toList.map (aq (E d))=[x]∧VR (aj P ν) R φ V.l σ x pv:=by
 have ha:=fG hJ d c.args.toList c.argTypes.toList;rw[h]at ha;exact kD ha
theorem Xy{c:Call}(hJ:J (aj P ν) R φ V.g V.l E σ)(hn:ν.length=V.n)(ho:o.op=.call c)(hc:c.callee=.builtin .clear)(hs:(fU P d o V k).sat P C Q K ν):cY P C Q K ν E V.ln k (bF P E d o σ):=by
 unfold fU at hs;rw[ho]at hs;simp only[hc]at hs;unfold Xa at hs;split at hs<;>first|(exact hs.elim)|skip
 rename_i et j lo hu bc;split at hs<;>first|(exact hs.elim)|skip
 rename_i s cut fr es z0 hj mG;split at hs<;>first|(exact hs.elim)|skip
 rename_i bK;simp only[aqG,arl,ark]at bK;obtain⟨⟨⟨aL,Cv⟩,Xl⟩,Sw⟩:=bK;split at hs<;>first|(exact hs.elim)|skip
 rename_i f zs V2 jq;split at hs<;>first|(exact hs.elim)|skip
 rename_i jQ;have yg:=OK jQ;obtain⟨x,hx,p5⟩:=Xx hJ bc;obtain⟨R',cg,eQ,aqv,GU⟩:=ua hJ jq;have aam:=cg.Lf (x:=x) (c:=.sv j lo) p5;obtain⟨s',lr,tV,cX,z',aB,y,n,a1,a2,a3,a4,a5,a6⟩:=aam;rw[yg]at a1;cases a1;obtain⟨bA,gK,g1,g2,g3⟩:=eQ.obj j _ yg;have rV:es.den P ν=some (.tree s aB):=a2;have mM:es.den P ν=some (.tree s gK):=g1;rw[rV]at mM;cases mM;have FJ:=mv (P:=P) (ν:=ν) (R:=R) (φ:=φ) (L:=V.l) (σ:=σ) mG;obtain⟨ys,b1,b2,b3⟩:=GU _ FJ;have OL:(z0.cells.toList.map IV.raw).length=s:=by simp[aL]
 have F3:ys.length=s:=by rw[←b2.len];exact OL
 obtain⟨ze,Xm,amU⟩:∃ze,(if isAgg P et=true then dO zs else zs.headD .an).den P ν=some ze∧cellsOf ze=ys:=by
  split
  ·exact⟨_,ew b1,rfl⟩
  ·rename_i Wx;have dw:s=1:=Cv.resolve_left Wx;have OM:ys.length=1:=by omega
   obtain⟨y0,rfl⟩:=atF.1 OM;obtain⟨z1,rfl⟩:=atF.1 (b1.len.trans OM);refine⟨y0,b1.1,?_⟩;have:Ev.af y0=true:=by simpa using b3
   cases y0<;>first|rfl|(simp[Ev.af]at this;done)
 have xc:ν.length=V2.n:=by rw[cg.2.1];exact hn
 obtain⟨amK,Ie,hk,hZ,tN,ab3⟩:=pS eQ xc hs;obtain⟨Lq,a,n',q,y',c1,c2,rfl,c3,c4,c5,rfl⟩:=adx Ie;rw[rV]at c1;cases c1;rw[Xm]at c3;cases c3;have a3':lo.den P ν=some y:=a3;rw[c2]at a3';cases a3'
 have Lz:n'=n:=by
  simp[nat?]at a4;exact a4
 subst Lz
 let Ip:=aB.take n'++aq1 (aB.length- n') ze
 have hl4:Ip.length=aB.length:=by simp[Ip];omega
 have amV:∀e∈Ip,(cellsOf e).length=s:=fun e he=>by
  rcases List.mem_append.1 he with he|he
  ·exact g2 e (ar_ he)
  ·rw[arR he];exact c5
 have same:n'=aB.length→ak P 0 (aq (E d)) o σ=some (.val .undef σ)→cY P C Q K ν E V.ln k (bF P E d o σ):=by
  intro HA ef;have h4:Ip=aB:=by simp[Ip,HA]
  obtain⟨_,Xn⟩:=tN.reZ (cX:=fr||f) (k:=j) yg (SE.cR P es rV) (by rw[hZ];show some (IV.tree s Ip)=_;rw[h4]) (fun h=>by simp[h]);exact⟨.undef,σ,R',φ,.one .un,({V2 with n:=V2.n+1}:SS).setObj j (.row s false cut (fr||f) (.var V2.n)),[.tree s Ip],ef,Xn,trivial,ab3,cg.2.2.1,hk⟩
 have Xz:∀x0,x=x0→(x0=.raw (.slice none 0 0)∨x0=.emp)→ak P 0 (aq (E d)) o σ=some (.val .undef σ):=by
  intro x0 h1 h2;subst h1;simp only[ak,ho,hc,hx];rcases h2 with rfl|rfl<;>simp[dv,sa,hu,ret]
 rcases a6 with(⟨e1,e2,e3⟩|⟨id,cs,au,mn,cap,e1,e2,e3,e4,e5,e6⟩)|⟨e1,e2⟩
 ·exact same (by omega) (Xz _ rfl e3)
 ·by_cases hz:aB.length- n'=0
  ·refine same (by omega) ?_;simp only[ak,ho,hc,hx,e3];simp[dv,sa,hu,ret,hz]
  ·rcases g3 with⟨g3,_⟩|⟨br,cq,ik,oS,g3,g4,g5,g6,g7,g8,g9⟩
   ·rw[e1]at g3;cases g3
   rw[e1]at g3;cases g3;rw[e2]at g4;cases g4;have OW:gx (z0.cells.toList.map IV.raw) ((aB.length- n')*s)=(aq1 (aB.length- n') (z0.cells.toList.map IV.raw)).flatten:=Bx OL bA _;have dU:(gx (z0.cells.toList.map IV.raw) ((aB.length- n')*s)).length=(aB.length- n')*s:=by rw[OW];exact uQ OL _
   have vB:(z0.cells.toList.map IV.raw).all Ev.af=true:=pK FJ Xl
   have bp:(gx (z0.cells.toList.map IV.raw) ((aB.length- n')*s)).all Ev.af=true:=by
    rw[OW,aqW];intro u x_;obtain⟨l,qz,eN⟩:=atd.1 x_;rw[arR qz]at eN;exact aqW.1 vB u eN
   have Ug:n'*s+(aB.length- n')*s=aB.length*s:=by rw[←are];congr 1;omega
   have Vv:flat Ip=(flat aB).take (n'*s)++(aq1 (aB.length- n') ys).flatten:=by
    show flat (aB.take n'++_)=_;rw[Bu,J6,amU]
    congr 1
    have h1:flat aB=flat (aB.take n')++flat (aB.drop n'):=by rw[←Bu,List.take_append_drop]
    have h2:(flat (aB.take n')).length=n'*s:=by rw[na (s:=s) fun e he=>g2 e (ar_ he),ar9,Nat.min_eq_left (by omega)]
    rw[h1,←h2,List.take_left'];rfl
   have Xn:=tN.Xk (cX:=fr||f) (z':=.var V2.n) (cq:=dp cs (n'*s) (gx (z0.cells.toList.map IV.raw) ((aB.length- n')*s))) e1 yg e2 (tA (by rw[dU];omega)) (SE.cR P es rV) hZ hl4 amV
    (wu g8 bp)
    (fun p u v hu hv=>by
     rw[mz (α:=IV) (by omega)]at hu;rw[dU]at hu;rw[Vv]at hv
     have vf:((flat aB).take (n'*s)).length=n'*s:=by
      rw[ar9,na g2];omega
     by_cases hp:n'*s≤p∧p<n'*s+(aB.length- n')*s
     ·rw[if_pos hp,OW]at hu;rw[aq_ (by omega),vf]at hv;have q1:=zp OL (by omega) _ hu;have q2:=zp F3 (by omega) _ hv;exact(b2.get q1 q2).wide (fun h=>by simp[h])
     ·rw[if_neg hp]at hu
      have qw:p<n'*s:=by
       by_cases h:p<n'*s
       ·exact h
       ·exfalso;have h1:=(aqF.1 hv).1;rw[List.length_append,vf,uQ F3]at h1;omega
      rw[aqQ (by omega),ard,if_pos qw]at hv;exact(g9 p u v hu hv).wide (fun h=>by simp[h]))
   refine⟨.undef,σ.put id (.cells (dp cs (n'*s) (gx (z0.cells.toList.map IV.raw) ((aB.length- n')*s))) au au),R',φ,.one .un,({V2 with n:=V2.n+1}:SS).setObj j (.row s false cut (fr||f) (.var V2.n)),[.tree s Ip],?_,Xn,trivial,ab3,cg.2.2.1,hk⟩;simp only[bF,ak,ho,hc,hx,e3];simp only[dv,sa,hu,mG,e2,if_neg hz];rw[if_pos ⟨by omega,aL,bp,arw _,trivial,by omega⟩];rfl
 ·exact same e1 (Xz _ rfl (.inr e2))
theorem wM(hJ:J (aj P ν) R φ V.g V.l E σ){x:IV}{pv:PV SE}{e:SE}(h:tW pv=some e)(hx:VR (aj P ν) R φ L σ x pv):∀y,e.den P ν=some y→aY true R σ x y:=by
 intro y hy;unfold tW at h;split at h<;>cases h
 ·obtain⟨u,h1,h2,_⟩:=hx;have cW:e.den P ν=some u:=h1;rw[hy]at cW;cases cW;exact h2.mono hJ.z8
 ·obtain⟨u,h1,h2,_⟩:=hx;have cW:e.den P ν=some u:=h1;rw[hy]at cW;cases cW;exact h2.cC
theorem XA{t:TypeId}{x ix:Operand}(hJ:J (aj P ν) R φ V.g V.l E σ)(hn:ν.length=V.n)(ho:o.op=.index t x ix)(hs:(fU P d o V k).sat P C Q K ν):cY P C Q K ν E V.ln k (bF P E d o σ):=by
 unfold fU at hs;rw[ho]at hs;simp only at hs;split at hs<;>first|(exact hs.elim)|skip
 rename_i a b hu ha hb;have O1:=wM hJ ha (aZ hJ d t x);have hxb:=wM hJ hb (aZ hJ d 0 ix);obtain⟨⟨z,hz⟩,hk⟩:=hs;have mG:=hz;simp only[SE.den,aqZ]at hz;obtain⟨u,h1,v,h2,h3⟩:=hz;split at h3<;>first|(cases h3;done)|skip
 rename_i q kd n;split at h3<;>first|(cases h3;done)|skip
 rename_i ko;rw[aqL]at h3;obtain⟨c,h4,rfl⟩:=h3;exact .at (x:=.raw (.int .u8 c.toNat)) hk hJ hn rfl ⟨_,mG,.raw _,rfl⟩ (by unfold bF ak;rw[ho];simp only[hu,bV (O1 _ h1),bV (hxb _ h2),if_pos ko,h4];rfl)
theorem DN{a b:IV}{vs:List Value}(h:gg [a,b]=some vs):∃u v,a=.raw u∧b=.raw v:=by
 cases a<;>simp[gg]at h;cases b<;>simp at h;exact⟨_,_,rfl,rfl⟩
theorem XB{c:Call}{Ds:Bool}{bi:Builtin}(hb:(bi=.max∧Ds=true)∨(bi=.min∧Ds=false))(hJ:J (aj P ν) R φ V.g V.l E σ)(hn:ν.length=V.n)(ho:o.op=.call c)(hc:c.callee=.builtin bi)(hs:(mxS Ds (gX P d V c.args.toList c.argTypes.toList) V k).sat P C Q K ν):cY P C Q K ν E V.ln k (bF P E d o σ):=by
 unfold mxS at hs;split at hs<;>first|(exact hs.elim)|skip
 rename_i pa pb bc;split at hs<;>first|(exact hs.elim)|skip
 rename_i a b ha pY;have bp:=fG hJ d c.args.toList c.argTypes.toList;rw[bc]at bp;obtain⟨x,y,SI,hx,hy⟩:=GV bp;have O1:=wM hJ ha hx;have hxb:=wM hJ pY hy;obtain⟨⟨z,hz⟩,hk⟩:=hs;obtain⟨h1,bo⟩:=oY hz;simp only[SE.den,aqZ]at h1;obtain⟨w,⟨u,h2,v,h3,h4⟩,h5⟩:=h1;split at h5<;>cases h5;rename_i dJ
 have ai7:∃u' v',u=.raw u'∧v=.raw v':=by
  cases Ds with
  |true=>
   simp only[if_true]at h4;unfold Jm at h4;split at h4
   ·exact DN ‹_›
   ·cases h4
  |false=>
   simp only[ara,if_false]at h4;unfold Ng at h4;split at h4
   ·exact DN ‹_›
   ·cases h4
 obtain⟨u',v',rfl,rfl⟩:=ai7;have ib:=bV (O1 _ h2);have hy':=bV (hxb _ h3);subst ib hy'
 have hzr:il z z:=by
  cases z<;>simp only[aw]at dJ<;>first|(cases dJ;done)|skip
  exact .raw _
 refine .here (pv:=.one (.v (.ok (.rw (.mx Ds a b))))) (x:=z) ?_ hJ ⟨z,hz,hzr,bo⟩ hn rfl hk;rcases hb with⟨rfl,rfl⟩|⟨rfl,rfl⟩
 ·simp only[if_true]at h4;simp[bF,ak,ho,hc,dv,SI,h4]
 ·simp only[ara,if_false]at h4;simp[bF,ak,ho,hc,dv,SI,h4]
theorem aaz{t:TypeId}(h:isStr P t=true):P.underlying t=some .string:=by
 unfold isStr at h;split at h
 ·assumption
 ·cases h
theorem Vw{t:TypeId}{x:Operand}{lo hi mx:Option Operand}(hJ:J (aj P ν) R φ V.g V.l E σ)(hn:ν.length=V.n)(ho:o.op=.slice t x lo hi mx)(hu:P.underlying t=some .string)(hs:(GK P d (bI P d V t x) lo hi mx V k).sat P C Q K ν):cY P C Q K ν E V.ln k (bF P E d o σ):=by
 unfold GK at hs;split at hs<;>first|(exact hs.elim)|skip
 rename_i a ha;split at hs<;>first|(exact hs.elim)|skip
 rename_i l h hl hh;obtain⟨z,hz,hs⟩:=hs;have O1:=wM hJ ha (aZ hJ d t x);have mG:=hz;simp only[SE.den,aqZ]at hz;obtain⟨u,h1,b,h2,c,h3,h4⟩:=hz;split at h4<;>first|(cases h4;done)|skip
 rename_i q lv hv e1 e2;split at h4<;>first|(cases h4;done)|skip
 rename_i hc;cases h4
 have hint:∀{w:IV} {n:Int},gC w=some n→0≤n→∃k,w=.raw (.int k (n.toNat:Nat)):=by
  intro w n h h0;unfold gC at h;split at h
  ·cases h;exact⟨_,by rw[atg h0]⟩
  ·cases h
 obtain⟨k1,rfl⟩:=hint e1 hc.1;obtain⟨k2,rfl⟩:=hint e2 hc.2.2.1
 have n1:gh (lo.map (aq (E d)))=some (some lv.toNat)∨(gh (lo.map (aq (E d)))=some none∧lv.toNat=0):=by
  rcases Im hJ hl h2 with g|⟨g,rfl⟩
  ·exact .inl g
  ·refine .inr ⟨g,?_⟩;simp only[SE.den,aqH,IV.raw.injEq,atZ]at h2;omega
 have n2:gh (hi.map (aq (E d)))=some (some hv.toNat)∨(gh (hi.map (aq (E d)))=some none∧hv.toNat=q.size):=by
  rcases Im hJ hh h3 with g|⟨g,rfl⟩
  ·exact .inl g
  ·refine .inr ⟨g,?_⟩;simp only[SE.den,h1,aqN,wK,IV.int,aqH,IV.raw.injEq,atZ]at h3;omega
 have hx:=bV (O1 _ h1);have sq:gh none=some none:=rfl;have bz:=hJ.up (gW:=aj P (ν++[.raw (.string ⟨((q.data.toList.drop lv.toNat).take (hv.toNat- lv.toNat)).toArray⟩)])) (fun e y h=>SE.cR P e h);refine⟨.raw (.string ⟨((q.data.toList.drop lv.toNat).take (hv.toNat- lv.toNat)).toArray⟩),σ,R,φ,.one (.v (.var V.n)),{V with n:=V.n+1},[_],?_,bz,⟨_,by simp[aj,SE.den,←hn],.raw _,rfl⟩,by simp[hn],rfl,hs⟩
 have aL:fg P t (.raw (.string q)) (lo.map (aq (E d))) (hi.map (aq (E d))) none=some (.raw (.string ⟨((q.data.toList.drop lv.toNat).take (hv.toNat- lv.toNat)).toArray⟩)):=by
  rcases n1 with g1|⟨g1,g2⟩<;>rcases n2 with g3|⟨g3,g4⟩
  ·simp[fg,g1,g3,sq,hu,hc.2.1,hc.2.2.2]
  ·simp[fg,g1,g3,sq,hu,g4];rw[←g4];have:=hc.2.1;omega
  ·simp[fg,g1,g3,sq,hu,g2,hc.2.2.2]
  ·simp[fg,g1,g3,sq,hu,g2,g4]
 simp[bF,ak,ho,hx,aL,ret]
theorem XC{t:TypeId}{x:Operand}(hJ:J (aj P ν) R φ V.g V.l E σ)(hn:ν.length=V.n)(ho:o.op=.range t x)(hs:(fU P d o V k).sat P C Q K ν):cY P C Q K ν E V.ln k (bF P E d o σ):=by
 unfold fU at hs;rw[ho]at hs;simp only at hs;split at hs<;>first|(exact hs.elim)|skip
 ·rename_i a hu ha;have O1:=wM hJ ha (aZ hJ d t x);obtain⟨⟨z,hz⟩,hk⟩:=hs;simp only[SE.den,aqZ]at hz;obtain⟨u,h1,h2⟩:=hz
  have hb:∃ba,u=.raw (.string ba):=by
   unfold wK at h2;split at h2
   ·exact⟨_,rfl⟩
   ·cases h2
  obtain⟨ba,rfl⟩:=hb;have hv:=bV (O1 _ h1);have bz:=hJ.xm (.pD ba 0) (.mp 0 (.tp (.ac a (.ac (.i 0) .an)))) (by rw[gB,if_pos (show gp 0=true from rfl)];exact .inl ⟨rfl,σ.n,ba,0,by simp[aj,SE.den,h1],by simp[bQ],hJ.qF,by simp⟩);refine .at (x:=.ptr σ.n 0 0 1) (V1:={V with l:=V.l++[.mp 0 (.tp (.ac a (.ac (.i 0) .an)))]}) hk bz hn rfl ⟨σ.n,0,SE.tp (.ac a (.ac (.i 0) .an)),by simp[bQ],by simp,rfl⟩ ?_;simp[bF,ak,ho,hu,hv,ret]
 ·rename_i _ _ _ _ hu;have o_:=aZ hJ d t x;split at hs<;>first|(exact hs.elim)|skip
  rename_i m hm;rw[hm]at o_;split at hs<;>first|(exact hs.elim)|skip
  rename_i kt iA hj;split at hs
  ·exact hs.elim
  rename_i jE;simp only[arl,aru,not_or,Bool.not_eq_false]at jE;obtain⟨dV,aa⟩:=jE;have aa:m<1000000:=by simpa using aa
  obtain⟨_,hk⟩:=hs;obtain⟨id,lA,gK,g1,g2,g3⟩:=o_;rw[hj]at g2;cases g2;rw[if_neg dV]at g3;have dt:=hJ.obj m _ hj;rw[gB,if_neg dV]at dt;obtain⟨br,es,clock,ds,c1,c2,c3,c4,c5,c6⟩:=dt;rw[g1]at c2;cases c2;have j2:iA.den P ν=some (.av ds):=c1;have hlen:es.length=ds.length:=All2.len c5;have afw:((t+1)*1000000+m) % 1000000=m:=aeX t m aa;have hit:gp ((t+1)*1000000+m)=true:=Dm (abM t m);have CP:m<V.l.length:=(aqF.1 hj).1
  have bz:=hJ.xm (.jm (some id) clock [] clock) (.mp ((t+1)*1000000+m) (.tp (.ac iA (.ac iA .an)))) (by
   rw[gB,if_pos hit];refine .inr ⟨abM t m,σ.n,id,ds,[],ds,[],by simp[aj,SE.den,j2],by simp[bQ],hJ.qF,⟨kt,iA,by rw[afw,aqQ CP];exact hj⟩,by rw[afw];simp[bQ,show m≠V.l.length by omega,g1],?_,by simp,Left.init ds,.inl rfl⟩;have:=c6.1;simp[this,hlen])
  refine .at (x:=.ptr σ.n 0 0 1) (V1:={V with l:=V.l++[.mp ((t+1)*1000000+m) (.tp (.ac iA (.ac iA .an)))]}) hk bz hn rfl ⟨σ.n,(t+1)*1000000+m,SE.tp (.ac iA (.ac iA .an)),by simp[bQ],by simp,(if_pos hit).symm⟩ ?_;simp[bF,ak,ho,hu,g3,c4,ret]
theorem SJ(hJ:J (aj P ν) R φ V.g V.l E σ){t:TypeId}{e:SE}{x y:IV}(hy:e.den P ν=some y)(hx:aY true R σ x y){k:ab}(hs:(HV P t e k).sat P C Q K ν):sJ (aj P ν) R φ V.l σ x (UU P t e)∧k.sat P C Q K ν:=by
 unfold HV at hs;unfold UU;split at hs
 ·rename_i ha;rw[if_pos ha];obtain⟨⟨z,hz⟩,hk⟩:=hs;refine⟨?_,hk⟩;simp only[SE.den,hy,aqN]at hz;split at hz<;>first|(cases hz;done)|skip
  rename_i cs;split at hz
  ·rename_i hc;obtain⟨xs,rfl,iC⟩:=By hx;refine⟨xs,rfl,.mk (by simp[iC.len,hc.1]) fun i a b h1 h2=>?_⟩;have hi:=(aqF.1 h1).1;rw[iC.len]at hi;rw[aqU,atk (by rw[←hc.1];exact hi)]at h2;simp only[aq9,aqH]at h2;subst h2;have LA:cs[i]?=some cs[i]:=aqE hi;have bo:Ev.af cs[i]=true:=(aqW.1 hc.2) _ (aqI hi);exact⟨cs[i],by simp[aj,SE.den,hy,LA,xx,bo],iC.get h1 LA,bo⟩
  ·cases hz
 ·rename_i ha;rw[if_neg ha];split at hs
  ·rename_i p_;rw[if_pos p_];obtain⟨⟨z,hz⟩,hk⟩:=hs;refine⟨?_,hk⟩;obtain⟨mA,J2⟩:=oY hz;simp only[SE.den,hy,aqN]at mA;split at mA
   ·rename_i hr;cases mA;cases y<;>simp only[aw]at hr<;>first|(cases hr;done)|skip
    rename_i u;have:=bV hx;subst this;exact⟨_,rfl,.raw u,hz,.raw u,J2⟩
   ·cases mA
  ·rename_i p_;rw[if_neg p_];obtain⟨⟨z,hz⟩,hk⟩:=hs;refine⟨?_,hk⟩;obtain⟨mA,J2⟩:=oY hz;rw[hy]at mA;cases mA;exact⟨_,rfl,_,hz,hx,J2⟩
theorem aaA(v:Value):aY true R σ (lift v) (lift v):=by
 unfold lift;split
 ·exact .pure _ rfl (.agg _ fun c hc=>by obtain⟨v,_,rfl⟩:=List.mem_map.1 hc;exact .raw v)
 all_goals exact .raw _
theorem XD{it:Operand}(hJ:J (aj P ν) R φ V.g V.l E σ)(hn:ν.length=V.n)(ho:o.op=.entry it)(hs:(fU P d o V k).sat P C Q K ν):cY P C Q K ν E V.ln k (bF P E d o σ):=by
 unfold fU at hs;rw[ho]at hs;simp only at hs;unfold Xb at hs;have o_:=aZ hJ d 0 it;split at hs<;>first|(exact hs.elim)|skip
 rename_i j hm;rw[hm]at o_;split at hs<;>first|(exact hs.elim)|skip
 rename_i kt x hj;split at hs
 rotate_left
 ·exact hs.elim
 rename_i hle;have hle:1000000≤kt:=by simpa using hle
 split at hs<;>first|(exact hs.elim)|skip
 rename_i lA iA kt1 et XE hu;split at hs
 ·exact hs.elim
 rename_i dV;obtain⟨l6,r,d1,d2,hs⟩:=hs;have hit:gp kt=true:=Dm hle;obtain⟨id,kt3,x3,g1,g2,g3⟩:=o_;rw[hj]at g2;cases g2;rw[if_pos hit]at g3;have dt:=hJ.obj j _ hj;rw[gB,if_pos hit]at dt;rcases dt with⟨h0,_⟩|⟨_,br,m,ds,seen,rem,rest,e1,e2,e3,e4,e5,e6,e7,e8,e9⟩
 ·exact(abN hle h0).elim
 rw[g1]at e2;cases e2;have cV:x.den P ν=some (.av (.av ds::.av rem::rest)):=e1;rw[cV]at d2;have Iq:ds=l6:=by simp only[aqH,IV.av.injEq,arF]at d2;exact d2.1
 subst Iq;have O2:=hJ.obj _ _ XE;rw[gB,if_neg dV]at O2;obtain⟨id2,es,clock,SK,c1,c2,c3,c4,c5,c6⟩:=O2;rw[e5]at c2;cases c2;have j2:iA.den P ν=some (.av SK):=c1;rw[j2]at d1;have Iq:ds=SK:=by simp only[aqH,IV.av.injEq]at d1;exact d1.symm
 subst Iq;have hlen:es.length=ds.length:=All2.len c5;rcases e9 with rfl|⟨i,last,rfl,f1,f2⟩
 ·unfold HV at hs;exfalso;have hp:(SE.proj (.proj x 2) 0).den P ν=none:=by simp[SE.den,cV]
  split at hs
  ·obtain⟨⟨z,hz⟩,_⟩:=hs;simp[SE.den,cV]at hz
  ·split at hs
   ·obtain⟨⟨z,hz⟩,_⟩:=hs;simp[SE.den,cV]at hz
   ·obtain⟨⟨z,hz⟩,_⟩:=hs;simp[SE.den,cV]at hz
 ·have hi:i<es.length:=by rw[hlen];exact(aqF.1 f2).1
  have su:es[i]?=some es[i]:=aqE hi;obtain⟨z,h1,h2⟩:=All2.get c5 su f2;subst h1;have hp0:(SE.proj (.proj x 2) 0).den P ν=some (lift es[i].1):=by simp[SE.den,cV]
  have lp:(SE.proj (.proj x 2) 1).den P ν=some z:=by simp[SE.den,cV]
  obtain⟨v1,hs⟩:=SJ hJ hp0 (aaA _) hs;obtain⟨v2,hs⟩:=SJ hJ lp h2 hs;refine .here (pv:=.tu [_,_]) (x:=.av [lift es[i].1,es[i].2.1]) ?_ hJ ⟨_,rfl,v1,v2,trivial⟩ hn rfl hs
  have hf:es.find? (fun e=>e.2.2==i)=some es[i]:=by
   rw[List.find?_eq_some_iff_getElem];refine⟨by simp[c6.2 i _ su],i,hi,rfl,fun q hq=>?_⟩;have:=c6.2 q es[q] (aqE (by omega));simp[this];omega
  have dU:clock=ds.length:=by rw[←hlen];exact c6.1
  simp[bF,ak,ho,g3,e6,c4,f1,hf,dU,ret]
theorem XF(hJ:J (aj P ν) R φ V.g V.l E σ)(hn:ν.length=V.n){j id:Nat}{iA:SE}(hj:V.l[j]?=some (.mp 0 iA)){ba:ByteArray}{p p':Nat}(ky:φ j=some id)(hR:R id=none)(aA:σ.at id=some (.pD ba p)):
 J (aj P (ν++[.av [.raw (.string ba),.raw (.int .i64 (p':Nat))]])) R φ V.g (V.l.set j (.mp 0 (.var V.n))) E (σ.put id (.pD ba p')):=by
 have bz:=hJ.up (gW:=aj P (ν++[.av [.raw (.string ba),.raw (.int .i64 (p':Nat))]])) (fun e y h=>SE.cR P e h)
 exact(bz.sK (R':=R) (bad:=fun _=>False) (jK:=.mp 0 (.var V.n)) (eE:=.pD ba p') ky hj (fun _ _=>rfl)
  (fun m hm=>by rw[hR]at hm;cases hm) (fun m _ _ _ hm=>by rw[hR]at hm;cases hm) (fun m _ _ _ hm=>by rw[hR]at hm;cases hm)
  (fun _ h=>by cases h) (fun _ _ _=>by rename_i h;cases h;exact⟨_,rfl⟩) (fun _ _ _ _ _ h=>by cases h) (fun _ _ pv _=>pv.aU) (fun _ o _ _=>o.aU)
  (fun dw=>by rw[gB,if_pos (show gp 0=true from rfl)];exact .inl ⟨rfl,id,ba,p',by simp[aj,SE.den,←hn],ky,hR,by rw[St.cS,if_pos rfl]⟩)).2
theorem aaB{it:Operand}(hJ:J (aj P ν) R φ V.g V.l E σ)(hn:ν.length=V.n)(ho:o.op=.next it true)(hs:(fU P d o V k).sat P C Q K ν):cY P C Q K ν E V.ln k (bF P E d o σ):=by
 unfold fU at hs;rw[ho]at hs;simp only at hs;split at hs<;>first|(exact hs.elim)|skip
 rename_i j hm;split at hs<;>first|(exact hs.elim)|skip
 rename_i kt es hj;split at hs<;>first|(exact hs.elim)|skip
 rename_i jE;have xF:=aqO jE;subst xF;have o_:=aZ hJ d 0 it;rw[hm]at o_;obtain⟨id,lA,gK,g1,g2,g3⟩:=o_;rw[hj]at g2;cases g2;rw[if_pos (show gp 0=true from rfl)]at g3;have dt:=hJ.obj j _ hj;rw[gB,if_pos (show gp 0=true from rfl)]at dt;rcases dt with⟨_,br,ba,p,c1,c2,c3,c4⟩|⟨h0,_⟩
 rotate_left
 ·exact absurd h0 (by decide)
 rw[g1]at c2;cases c2;have j2:es.den P ν=some (.av [.raw (.string ba),.raw (.int .i64 (p:Nat))]):=c1
 have hd:∀w,(SE.dec w (.proj es 0) (.proj es 1)).den P ν=lL w (.raw (.string ba)) (.raw (.int .i64 (p:Nat))):=by
  intro w;simp[SE.den,j2]
 rcases hs with⟨h0,hs⟩|⟨h0,hs⟩
 ·rw[hd]at h0;simp[lL]at h0;obtain⟨z,hz,hs⟩:=hs
  have oX:z=.av [.raw (.string ba),.raw (.int .i64 ((p+(ass ba p).2:Nat):Nat))]:=by
   have:=hd 2;simp only[SE.den]at this hz;rw[this]at hz;simp[j2,lL]at hz;rw[←hz];simp
  subst oX;have eQ:=XF (p':=p+(ass ba p).2) hJ hn hj g1 c3 c4;have e1:(SE.proj es 1).den P (ν++[.av [.raw (.string ba),.raw (.int .i64 ((p+(ass ba p).2:Nat):Nat))]])=some (.raw (.int .i64 (p:Nat))):=SE.cR P _ (by simp[SE.den,j2]);have e2:(SE.dec 1 (.proj es 0) (.proj es 1)).den P (ν++[.av [.raw (.string ba),.raw (.int .i64 ((p+(ass ba p).2:Nat):Nat))]])=some (.raw (.int .i32 (ass ba p).1)):=SE.cR P _ (by rw[hd];simp[lL]);refine⟨.av [.bool true,.raw (.int .i64 (p:Nat)),.raw (.int .i32 (ass ba p).1)],_,R,φ,.tu [(false,[.v (.b true)]),(false,[.v (.proj es 1)]),(false,[.v (.dec 1 (.proj es 0) (.proj es 1))])],{V with n:=V.n+1,l:=V.l.set j (.mp 0 (.var V.n))},[_],?_,eQ,⟨_,rfl,⟨_,rfl,.raw (.bool true),rfl,.raw _,rfl⟩,⟨_,rfl,_,e1,.raw _,rfl⟩,⟨_,rfl,_,e2,.raw _,rfl⟩,trivial⟩,by simp[hn],rfl,hs⟩;simp[bF,ak,ho,g3,c4,h0,ret]
 ·rw[hd]at h0;simp[lL]at h0;refine .here (pv:=.tu [(false,[.v (.b false)])]) (x:=.av [.bool false]) ?_ hJ ⟨_,rfl,⟨_,rfl,.raw (.bool false),rfl,.raw _,rfl⟩,trivial⟩ hn rfl hs;have:¬p<ba.size:=by omega
  simp[bF,ak,ho,g3,c4,this,ret]
theorem ai8{x z:IV}{b:Bool}(h:lL 7 x (.raw (.bool b))=some z):∃q c,x=.raw (.int q c)∧0≤c∧c≤1000000:=by
 unfold lL at h;split at h
 ·rename_i heq;exact absurd heq (by simp)
 ·split at h
  ·rename_i hc;exact⟨_,_,rfl,hc.2⟩
  ·cases h
 ·simp at h
 ·cases h
theorem O3(hJ:J (aj P ν) R φ V.g V.l E σ){x:IV}{pv:PV SE}{e:SE}(hx:VR (aj P ν) R φ V.l σ x pv)(h:tW pv=some e):∃y,e.den P ν=some y∧aY true R σ x y:=by
 unfold tW at h;split at h<;>first|(cases h;done)|skip
 ·cases h;obtain⟨y,h1,h2,_⟩:=hx;exact⟨y,h1,h2.mono hJ.z8⟩
 ·cases h;obtain⟨y,h1,h2,_⟩:=hx;exact⟨y,h1,h2.cC⟩
theorem XG{t:TypeId}{l c:Operand}(hJ:J (aj P ν) R φ V.g V.l E σ)(hn:ν.length=V.n)(ho:o.op=.makeSlice t l c)(hs:(UT P d t l c V k).sat P C Q K ν):cY P C Q K ν E V.ln k (bF P E d o σ):=by
 unfold UT at hs;split at hs<;>first|(exact hs.elim)|skip
 rename_i el ce hu hl hc;split at hs<;>first|(exact hs.elim)|skip
 rename_i s z bytes aL ve Ls;split at hs<;>first|(exact hs.elim)|skip
 rename_i bK;simp only[aqG,aru]at bK;obtain⟨⟨⟨h1,h2⟩,h3⟩,h4⟩:=bK;have yl:=aqO h2;have Ib:bytes≤1000000:=by simpa using h3
 have bA:0<s:=by
  rcases Nat.eq_zero_or_pos s with h|h
  ·subst h;simp at h1
  ·exact h
 obtain⟨⟨u,xG⟩,hk⟩:=hs;have fK:=aZ hJ d 0 l;rw[hl]at fK;obtain⟨y0,b1,b2,_⟩:=fK
 have vN:y0=.raw (.int .i64 0):=by
  have:(SE.i 0).den P ν=some y0:=b1;simp only[SE.den,aqH]at this;exact this.symm
 subst vN;have hle:=bV b2;obtain⟨y,c1,c2⟩:=O3 hJ (aZ hJ d 0 c) hc;simp only[SE.den,c1,aqN]at xG;obtain⟨q,n,rfl,d1,d2⟩:=ai8 xG;have qx:=bV c2;have o9:(SE.tr s SE.an).den P ν=some (.tree s []):=by simp[SE.den,bA]
 have jo:(V.l++[LO.row s false false false (SE.tr s SE.an)])[V.l.length]?=some (.row s false false false (SE.tr s SE.an)):=by simp
 by_cases ko:n=0
 ·subst ko;refine .at (x:=.emp) (V1:={V with l:=V.l++[.row s false false false (.tr s .an)]}) hk (hJ.Aa (fr:=false) bA o9).2 hn rfl ⟨s,false,false,false,_,[],jo,o9,.inl ⟨wL hJ (aqK _),rfl,.inr rfl⟩⟩ ?_;simp only[bF,ak,ho,hu,hle,qx,aL,ve,Ls];rw[if_neg (by omega),if_pos trivial];rfl
 ·have Lu:gx (z.cells.toList.map .raw) (n.toNat*s)=(aq1 n.toNat (z.cells.toList.map IV.raw)).flatten:=Bx (by simp[yl]) bA _
  have hlen:(gx (z.cells.toList.map .raw) (n.toNat*s)).length=n.toNat*s:=by
   rw[Lu];simp[yl,Function.comp_def]
  have gS:(gx (z.cells.toList.map .raw) (n.toNat*s)).all Ev.af=true:=by
   rw[Lu];refine aqW.2 fun x hx=>?_;obtain⟨l',cd,ib⟩:=atd.1 hx;have:=arR cd;subst this;exact(aqW.1 h4) x ib
  refine .at (x:=.sl σ.n 0 0 (some n.toNat) 0 s) (V1:={V with l:=V.l++[.row s false false false (.tr s .an)]}) hk (hJ.xm (.cells (gx (z.cells.toList.map .raw) (n.toNat*s)) 0 0) _ ⟨bA,[],o9,fun e he=>(by cases he),.inr ⟨σ.n,(gx (z.cells.toList.map .raw) (n.toNat*s)),0,0,by simp[bQ],by simp,aqK _,by simp,hJ.qF,gS,fun j x d hx hd=>by simp[flat]at hd⟩⟩) hn rfl ⟨s,false,false,false,_,[],jo,o9,.inr ⟨σ.n,(gx (z.cells.toList.map .raw) (n.toNat*s)),0,0,some n.toNat,by simp[bQ],by simp,by simp,aqK _,fun h=>(by cases h),fun c hc=>?_⟩⟩ ?_
  ·cases hc;exact⟨rfl,by rw[hlen];simp,arw _⟩
  ·simp only[bF,ak,ho,hu,hle,qx,aL,ve,Ls];rw[if_neg (by omega),if_neg ko];rfl
theorem aaC(hJ:J (aj P ν) R φ V.g V.l E σ){id:Nat}{ob:Ob}(h:σ.at id=some ob):σ.put id ob=σ:=by
 have:(σ.put id ob).t=σ.t:=Go.Ev.T.WF.ext (hJ.wf.set _ _) hJ.wf fun i=>by
  show(σ.put id ob).at i=σ.at i;rw[St.cS];split
  ·rename_i hh;rw[←hh,h]
  ·rfl
 cases σ;simp only[St.put]at this⊢;rw[this]
theorem Vx{t:TypeId}{x:Operand}{lo hi mx:Option Operand}{f:ab}(hJ:J (aj P ν) R φ V.g V.l E σ)(hn:ν.length=V.n)(ho:o.op=.slice t x lo hi mx)(hz:Oo P d t (bI P d V t x) lo hi mx V k=some f)(hs:f.sat P C Q K ν):cY P C Q K ν E V.ln k (bF P E d o σ):=by
 unfold Oo at hz;split at hz<;>first|(cases hz;done)|skip
 rename_i el c jK cT h hu hx;have p5:=aZ hJ d t x;rw[hx]at p5;split at hz<;>first|(cases hz;done)|skip
 ·rename_i s s' hh aL;split at hz<;>first|(cases hz;done)|skip
  rename_i ic;have:=aqO ic;subst this;cases hz;have XH:=aZ hJ d 3 h;rw[hh]at XH;obtain⟨y,y1,y2,_⟩:=XH;simp only[aj,SE.den,aqH]at y1;subst y1;have Hz:=bV y2;obtain⟨h0,h1⟩:=p5;simp only[if_true]at h1;refine .at (x:=.raw (.slice none 0 0)) hs hJ hn rfl ⟨h0,rfl⟩ ?_;simp[bF,ak,ho,h1,Hz,fg,gh,hu,aL,ret]
 ·rename_i s j hh aL;split at hz<;>first|(cases hz;done)|skip
  rename_i s' cut fr es hj;split at hz<;>first|(cases hz;done)|skip
  rename_i ic;have:=aqO ic;subst this;cases hz;have XH:=aZ hJ d 3 h;rw[hh]at XH;obtain⟨y,y1,y2,_⟩:=XH;simp only[aj,SE.den,aqH]at y1;subst y1;have Hz:=bV y2;obtain⟨⟨z,hz⟩,hk⟩:=hs;obtain⟨s1,rS,ry,rT,z1,eP,b1,b2,b3⟩:=p5;rw[hj]at b1;cases b1;have pc:es.den P ν=some (.tree s eP):=b2
  have aT:eP≠[]:=by
   rintro rfl;simp[SE.den,pc,dx,gC]at hz
  have hlen:1≤eP.length:=by
   cases eP with
   |nil=>exact absurd rfl aT
   |cons=>simp
  rcases b3 with⟨_,c2,_⟩|⟨id,cs,au,mn,cap,c1,c2,c3,c4,c5,c6⟩
  ·omega
  obtain⟨bA,gK,d1,d2,d3⟩:=hJ.obj j _ hj;have XI:es.den P ν=some (.tree s gK):=d1;rw[pc]at XI;cases XI;rcases d3 with⟨_,d3⟩|⟨br,cq,ik,oS,g1,g2,g3,g4,g5,g6,g7⟩
  ·exact absurd d3 aT
  rw[c1]at g1;cases g1;rw[c2]at g2;cases g2;have hR:R id=none:=by simpa using g5
  have o9:(SE.tr s SE.an).den P ν=some (.tree s []):=by simp[SE.den,bA]
  have Xs:(V.l.map (LO.drop j))[j]?=some (.row s false cut fr es):=by simp[hj,LO.drop]
  have bz:=(hJ.UK j).sK (R':=R) (bad:=(·=j)) (jK:=.row s false true fr (.tr s .an)) (eE:=.cells cs au mn) c1 Xs (fun _ _=>rfl) (fun m hm=>by rw[hR]at hm;cases hm) (fun m _ _ _ hm=>by rw[hR]at hm;cases hm) (fun m _ _ _ hm=>by rw[hR]at hm;cases hm)
   (fun _ h=>by cases h) (fun _ _ h=>by cases h) (fun _ _ _ _ _ _=>rfl) (fun d t pv hg=>by obtain⟨q,_,rfl⟩:=Dk _ hg;exact q.me j) (fun i o hi _=>by
    rw[aqU]at hi;obtain⟨o',_,rfl⟩:=aqL.1 hi;exact o'.me j)
   (fun _=>⟨bA,[],o9,fun e he=>(by cases he),.inr ⟨id,cs,au,mn,c1,by rw[St.cS,if_pos rfl],g3,by simp,hR,g6,fun j x d hx hd=>by simp[flat]at hd⟩⟩)
  have eQ:=bz.2;rw[aaC hJ c2]at eQ
  have jo:((V.l.map (LO.drop j)).set j (LO.row s false true fr (SE.tr s SE.an)))[j]?=some (.row s false true fr (SE.tr s SE.an)):=by
   rw[List.getElem?_set,if_pos rfl,if_pos (by have:=(aqF.1 hj).1;simpa using this)]
  cases cap with
  |none=>
   refine .at (x:=.sl id 0 0 none au s) (V1:=(V.rO j).setObj j (.row s false true fr (.tr s .an))) hk eQ hn rfl ⟨s,false,true,fr,_,[],jo,o9,.inr ⟨id,cs,au,mn,none,c1,c2,by simp,arw _,(fun _ h=>(by cases h)),fun c hc=>by cases hc⟩⟩ ?_;simp[bF,ak,ho,c3,Hz,fg,gh,hu,aL,ret]
  |some m=>
   obtain⟨f1,f2,f3⟩:=c6 m rfl;have Cc:m≠0:=by omega
   refine .at (x:=.sl id 0 0 (some m) au s) (V1:=(V.rO j).setObj j (.row s false true fr (.tr s .an))) hk eQ hn rfl ⟨s,false,true,fr,_,[],jo,o9,.inr ⟨id,cs,au,mn,some m,c1,c2,by simp,arw _,(fun h=>(by cases h)),fun c hc=>by cases hc;exact⟨f1,by omega,arw _⟩⟩⟩ ?_;simp[bF,ak,ho,c3,Hz,fg,gh,hu,aL,ret,Cc]
theorem aaD{c:Call}(hJ:J (aj P ν) R φ V.g V.l E σ)(hn:ν.length=V.n)(ho:o.op=.call c)(hc:c.callee=.builtin .cap)(hs:(fU P d o V k).sat P C Q K ν):cY P C Q K ν E V.ln k (bF P E d o σ):=by
 unfold fU at hs;rw[ho]at hs;simp only[hc]at hs;have bc:=fG hJ d c.args.toList c.argTypes.toList;split at hs<;>first|(exact hs.elim)|skip
 rename_i s et hh hu;rw[hh]at bc;obtain⟨x,hx,hr⟩:=kD bc;obtain⟨_,h1⟩:=hr;simp only[if_true]at h1;refine .at (x:=.raw (.int .i64 0)) hs hJ hn rfl ⟨_,rfl,.raw _,rfl⟩ ?_;simp[bF,ak,ho,hc,dv,hx,h1,Ue,hu]
theorem SL(hJ:J (aj P ν) R φ V.g V.l E σ)(hn:ν.length=V.n)(hs:(fU P d o V k).sat P C Q K ν):cY P C Q K ν E V.ln k (bF P E d o σ):=by
 cases ho:o.op with
 |makeFunc f first cap=>
  cases f with
  |func f=>exact OX hJ hn ho hs
  |_=>unfold fU at hs;rw[ho]at hs;exact hs.elim
 |makeMap t r=>exact RG hJ hn ho hs
 |makeSlice t l c=>unfold fU at hs;rw[ho]at hs;exact XG hJ hn ho hs
 |mapUpdate t m key x=>exact Il hJ hn (.inl ho) hs
 |insert t m key x=>exact Il hJ hn (.inr ho) hs
 |lookup t m key ok=>exact Vu hJ hn ho hs
 |slice t x lo hi mx=>
  unfold fU at hs;rw[ho]at hs;simp only at hs;split at hs
  ·exact Vx hJ hn ho ‹_› hs
  split at hs
  ·exact Vw hJ hn ho (aaz ‹_›) hs
  ·exact Xw hJ hn ho hs
 |index t x ix=>exact XA hJ hn ho hs
 |range t x=>exact XC hJ hn ho hs
 |next it str=>
  cases str with
  |true=>exact aaB hJ hn ho hs
  |false=>unfold fU at hs;rw[ho]at hs;exact hs.elim
 |entry it=>exact XD hJ hn ho hs
 |call c=>
  cases hc:c.callee with
  |builtin b=>
   cases b with
   |clear=>exact Xy hJ hn ho hc hs
   |cap=>exact aaD hJ hn ho hc hs
   |max=>unfold fU at hs;rw[ho]at hs;simp only[hc]at hs;exact XB (.inl ⟨rfl,rfl⟩) hJ hn ho hc hs
   |min=>unfold fU at hs;rw[ho]at hs;simp only[hc]at hs;exact XB (.inr ⟨rfl,rfl⟩) hJ hn ho hc hs
   |_=>unfold fU at hs;rw[ho]at hs;simp only[hc]at hs;exact hs.elim
  |_=>unfold fU at hs;rw[ho]at hs;simp only[hc]at hs;exact hs.elim
 |_=>unfold fU at hs;rw[ho]at hs;exact hs.elim
end Go.Ev
namespace Go.Ev
variable{P:Program}{N:Nat}{σ ah:St}{R R':Rs}{φ aG:Ph}{E:Nat→Env}{ν:List IV}
variable{C:Cr}{Q:IV→Prop}{K:List (List IV→Prop)}{V:SS}{d:Nat}{o:Oper}{k:PV SE→SS→ab}{L:List (LO SE)}{Γ:Gm SE}
theorem ady(hJ:J (aj P ν) R φ V.g V.l E σ)(hn:ν.length=V.n){op:BinOp}{t yt:TypeId}{x y:Operand}(ho:o.op=.binOp op t x y yt)(hs:(fE P d o V k).sat P C Q K ν):cY P C Q K ν E V.ln k (bF P E d o σ):=by
 unfold fE at hs;rw[ho]at hs;simp only at hs;have hx:=aZ hJ d t x;have hy:=aZ hJ d t y
 have rdv:∀{xv:IV} {a:SE},VR (aj P ν) R φ V.l σ xv (.one (.v a))→∀z,a.den P ν=some z→aY true R σ xv z:=by
  intro xv a ⟨u,h1,h2,_⟩ z hz;have cW:a.den P ν=some u:=h1;rw[hz]at cW;cases cW;exact h2.mono hJ.z8
 have rdw:∀{xv:IV} {f:Bool} {a:SE},VR (aj P ν) R φ V.l σ xv (.one (.w f a))→∀z,a.den P ν=some z→aY true R σ xv z:=by
  intro xv f a ⟨u,h1,h2,_⟩ z hz;have cW:a.den P ν=some u:=h1;rw[hz]at cW;cases cW;exact h2.cC
 split at hs
 ·rename_i cs ds xf sw;rw[xf]at hx;rw[sw]at hy;split at hs
  ·rename_i f1 a V1 f2 b V2 h1 h2;obtain⟨R1,a1,a2,_,a3⟩:=ua hJ h1;obtain⟨R2,b1,b2,_,b3⟩:=ua hJ h2;obtain⟨xs,xZ,vH⟩:=hx;obtain⟨ys,zR,HO⟩:=hy;obtain⟨us,c1,c2,_⟩:=a3 xs vH;obtain⟨vs,d1,d2,_⟩:=b3 ys HO;obtain⟨⟨z,hz⟩,hk⟩:=hs;obtain⟨h3,h4⟩:=oY hz;simp only[SE.den,ew c1,ew d1,aqN]at h3;have ha:aY f1 R1 σ (aq (E d) x) (.agg us):=by rw[xZ];exact .agg xs us c2.len fun i c e h1 h2=>c2.get h1 h2
   have hb:aY f2 R2 σ (aq (E d) y) (.agg vs):=by rw[zR];exact .agg ys vs d2.len fun i c e h1 h2=>d2.get h1 h2
   have h6:oL P op t x y (aq (E d) x) (aq (E d) y)=some z:=by
    unfold c_ at h3;split at h3
    ·cases h3
    ·rename_i u v aT hu hv;rw[Bs ha hu,Bs hb hv,OO (x':=.func 0) (y':=.func 0) hu hv (fun hc=>aT hc)];exact h3
    ·cases h3
   exact .at (x:=z) hk hJ hn rfl ⟨z,hz,OQ h6,h4⟩ (by simp[bF,ak,ho,h6,ret])
  ·exact hs.elim
 ·rename_i a b xf sw;rw[xf]at hx;rw[sw]at hy;exact Ih hJ hn ho (rdv hx) (rdv hy) hs
 ·rename_i f a b xf sw;rw[xf]at hx;rw[sw]at hy;exact Ih hJ hn ho (rdw hx) (rdv hy) hs
 ·rename_i a f b xf sw;rw[xf]at hx;rw[sw]at hy;exact Ih hJ hn ho (rdv hx) (rdw hy) hs
 ·rename_i f a g b xf sw;rw[xf]at hx;rw[sw]at hy;exact Ih hJ hn ho (rdw hx) (rdw hy) hs
 ·exact hs.elim
theorem XJ(hJ:J (aj P ν) R φ V.g V.l E σ)(hn:ν.length=V.n)(hs:(fE P d o V k).sat P C Q K ν):cY P C Q K ν E V.ln k (bF P E d o σ):=by
 cases ho:o.op with
 |move x=>exact Xi hJ hn (.inl ho) hs
 |assign x=>exact Xi hJ hn (.inr ho) hs
 |pick c a b=>exact aah hJ hn ho hs
 |alloc t=>exact Xj hJ hn ho hs
 |box t x=>exact ads hJ hn ho hs
 |load t a=>exact aak hJ hn ho hs
 |store t a x=>exact Xo hJ hn ho hs
 |nilCheck x=>exact OI hJ hn ho hs
 |binOp op t x y yt=>exact ady hJ hn ho hs
 |unOp op t x=>exact afl hJ hn ho hs
 |convert a b x=>exact afm hJ hn ho hs
 |build t p=>exact Xv hJ hn ho hs
 |buildSlice t l p=>exact J1 hJ hn ho hs
 |fieldAddr s x f=>exact MN hJ hn ho hs
 |field t x f=>exact Xr hJ hn ho hs
 |indexAddr t x i=>exact MO hJ hn ho hs
 |extract x i=>exact RF hJ hn ho hs
 |call c=>
  cases hc:c.callee with
  |builtin b=>
   by_cases hl:b=.len
   ·subst hl;exact adv hJ hn ho hc hs
   ·by_cases ha:b=.append
    ·subst ha;exact Vs hJ hn ho hc hs
    ·unfold fE at hs;rw[ho]at hs;simp only[hc]at hs;split at hs<;>first|exact absurd rfl hl|exact absurd rfl ha|exact hs.elim|exact SL hJ hn hs
  |value f=>unfold fE at hs;rw[ho]at hs;simp only[hc]at hs;exact hs.elim
  |invoke x n=>unfold fE at hs;rw[ho]at hs;simp only[hc]at hs;exact hs.elim
 |_=>unfold fE at hs;rw[ho]at hs;exact SL hJ hn hs
end Go.Ev
namespace Go.Ev
variable{P:Program}{N:Nat}{σ ah:St}{ι:Io}{w:World}
namespace T
variable{α:Type}
def of(f:Nat→Option α):Nat→T α
 |0=>.lf
 |n+1=>match f n with
  |some x=>(of f n).set n x
  |none=>of f n
theorem Fj(f:Nat→Option α):∀n,(of f n).WF
 |0=>WF.lf
 |n+1=>by
  unfold of;split
  ·exact(Fj f n).set _ _
  ·exact Fj f n
theorem Ir(f:Nat→Option α):∀(n i:Nat),(of f n).get i=if i<n then f i else none
 |0,i=>by simp[of,get]
 |n+1,i=>by
  unfold of;split
  ·rename_i x hx;rw[fQ];split
   ·rename_i h;subst h;rw[if_pos (by omega),hx]
   ·rw[Ir f n i];by_cases h:i<n
    ·rw[if_pos h,if_pos (by omega)]
    ·rw[if_neg h,if_neg (by omega)]
  ·rename_i hx;rw[Ir f n i];by_cases h:i<n
   ·rw[if_pos h,if_pos (by omega)]
   ·rw[if_neg h];by_cases h2:i=n
    ·subst h2;rw[if_pos (by omega),hx]
    ·rw[if_neg (by omega)]
end T
def St.only(σ:St)(c9:Nat→Bool):St:=⟨σ.n,T.of (fun i=>if c9 i then σ.at i else none) σ.n⟩
theorem J7(c9:Nat→Bool)(Gw:∀id,σ.n≤id→σ.at id=none)(i:Nat):(σ.only c9).at i=if c9 i then σ.at i else none:=by
 unfold St.only St.at;simp only[T.Ir];split
 ·rfl
 ·rename_i h;have:=Gw i (by omega);unfold St.at at this;rw[this];simp
def St.back(σ ai:St)(c9:Nat→Bool):St:=⟨ai.n,T.of (fun i=>if i<σ.n∧c9 i=false then σ.at i else ai.at i) ai.n⟩
theorem J8{ai:St}(c9:Nat→Bool)(hn:σ.n≤ai.n)(Gw:∀id,ai.n≤id→ai.at id=none)(i:Nat):(σ.back ai c9).at i=if i<σ.n∧c9 i=false then σ.at i else ai.at i:=by
 unfold St.back St.at;simp only[T.Ir];split
 ·rfl
 ·rename_i h;rw[if_neg (by omega)];have:=Gw i (by omega);unfold St.at at this;rw[this]
theorem dF.frame{f:FuncId}{args:List IV}{RW:IV→St→Prop}(c9:Nat→Bool)(Gw:∀id,σ.n≤id→σ.at id=none)(h:dF P N f args (σ.only c9) RW):
 dF P N f args σ (fun v ah=>∃ai,RW v ai∧ah=σ.back ai c9∧σ.n≤ai.n∧(∀id,ai.n≤id→ai.at id=none)∧∀id,id<σ.n→c9 id=false→ai.at id=none):=by
 intro ι us w hi hr;have aA:=J7 c9 Gw
 have Cg:Inv N ι (σ.only c9) w:=by
  refine⟨hi.mem,hi.sep,hi.iw,hi.fresh,hi.inj,fun id o ho=>?_,fun id hid=>?_⟩
  ·rw[aA]at ho;split at ho
   ·exact hi.obj id o ho
   ·cases ho
  ·rw[aA];split
   ·exact hi.wf id hid
   ·rfl
 refine(h ι us w Cg hr).mono fun ed w' hR=>?_;obtain⟨v,ai,qG,hR⟩:=hR;cases ed with
 |returned u=>
  obtain⟨aC,h1,h2,h3⟩:=hR;have hn:σ.n≤ai.n:=h3.zf
  have Bz:∀id,id<σ.n→c9 id=false→ai.at id=none:=fun id hid hv=>by
   refine h3.dead id ?_ (.inl hid);rw[aA,hv];simp
  have xH:=J8 (σ:=σ) (ai:=ai) c9 hn h2.wf;refine⟨v,σ.back ai c9,⟨ai,qG,rfl,hn,h2.wf,Bz⟩,aC,h1,⟨h2.mem,h2.sep,h2.iw,h2.fresh,h2.inj,fun id o ho=>?_,fun id hid=>?_⟩,?_⟩
  ·rw[xH]at ho;split at ho
   ·rename_i hc;refine(hi.obj id o ho).keep h3.ext (h3.zD id (by rw[aA,hc.2];simp) (.inl hc.1)) fun b hb=>h3.frame b (hi.iw id b hb) fun br pY=>.inr ?_;have:=hi.inj id br b hb pY;subst this;rw[aA,hc.2];simp
   ·exact h2.obj id o ho
  ·rw[xH];have iH:ai.n≤id:=hid;rw[if_neg (by omega)];exact h2.wf id iH
  ·refine⟨h3.ext,h3.own,fun id hid hr=>h3.zD id (by rw[aA,hid];simp) hr,fun id hid hr=>?_,fun id hr=>absurd hr (Nat.not_lt_zero _),hn,h3.os,h3.tape,h3.output,h3.size,fun b hb hc=>h3.frame b hb fun id ho=>?_,h3.wR⟩
   ·rw[xH];split
    ·exact hid
    ·exact h3.dead id (by rw[aA,hid];simp) hr
   ·rcases hc id ho with h|h
    ·exact .inl h
    ·exact .inr (by rw[aA,h];simp)
 |outgrown=>exact hR.elim
 |panicked chain=>exact hR.elim
end Go.Ev
namespace Go.Ev
variable{P:Program}{N:Nat}{σ ah:St}{R R':Rs}{φ aG:Ph}{E:Nat→Env}{ν:List IV}{L:List (LO SE)}{Γ:Gm SE}
abbrev Vy(s:Nat)(es:List IV)(R:Rs)(φ:Ph)(E:Nat→Env)(σ:St):Prop:=J (α:=Unit) (fun _=>some (.tree s es)) R φ [] [.row s false false false ()] E σ
abbrev Vz(s:Nat)(es:List IV)(R:Rs)(φ:Ph)(σ:St)(x:IV):Prop:=cz (α:=Unit) (fun _=>some (.tree s es)) R φ [.row s false false false ()] σ x (.sr 0)
def BA(P:Program)(s:Nat)(f:FuncId)(es:List IV)(xs:List IV)(aB:List IV):Prop:=
 ∀R φ E σ x args,Vy s es R φ E σ→Vz s es R φ σ x→All2 il args xs→∀KW:Nat→IV→St→Prop,(∀R' aG ah v,Vy s aB R' aG E ah→Vz s aB R' aG ah v→∃b,∀N,b≤N→KW N v ah)→
  ∃b,∀N,b≤N→dF P N f (x::args) σ (KW N)
theorem aY.move{fr:Bool}{x y:IV}(hm:∀i ob,σ.at i=some ob→ah.at i=some ob∧R' i=R i)(h:aY fr R σ x y):aY fr R' ah x y:=by
 induction h with
 |raw v=>exact .raw v
 |nil s hs=>exact .nil s hs
 |emp s hs=>exact .emp s hs
 |da t x y _ ih=>exact .da t x y ih
 |agg cs ds hl _ ih=>exact .agg cs ds hl ih
 |av cs ds hl _ ih=>exact .av cs ds hl ih
 |pure x hf hp=>exact .pure x hf hp
 |sl id off len cap ep s m cs au mn es hR aA h1 h2 hs hl hb hm' bC _ ih=>
  obtain⟨g1,g2⟩:=hm id _ aA;exact .sl id off len cap ep s m cs au mn es (by rw[g2];exact hR) g1 h1 h2 hs hl hb hm' bC ih
theorem XK{k s:Nat}{f:FuncId}{fr:Bool}{z z':SE}{es aB xs args:List IV}{x:IV}(h:J (aj P ν) R φ Γ L E σ)(hk:L[k]?=some (.row s false false fr z))(hz:z.den P ν=some (.tree s es))(oX:z'.den P ν=some (.tree s aB))
 (dJ:∀e∈es,∀c∈cellsOf e,aw c=true)(hx:cz (aj P ν) R φ L σ x (.sr k))(bc:All2 il args xs)
 (Lb:∀d t pv,ct d t Γ=some pv→pv.ok (·=k))(hL:∀j o,L[j]?=some o→j≠k→o.ok (·=k))(hr:BA P s f es xs aB)
 (KW:Nat→IV→St→Prop)(O4:∀R' aG ah v,J (aj P ν) R' aG Γ (L.set k (.row s false false false z')) E ah→cz (aj P ν) R' aG (L.set k (.row s false false false z')) ah v (.sr k)→∃b,∀N,b≤N→KW N v ah):
 ∃b,∀N,b≤N→dF P N f (x::args) σ (KW N):=by
 obtain⟨bA,gK,g1,g2,g3⟩:=h.obj k _ hk;have mM:z.den P ν=some (.tree s gK):=g1;rw[hz]at mM;cases mM;have ot:=c7 hk
 let c9:Nat→Bool:=fun i=>match φ k with
  |some id=>Nat.beq i id
  |none=>false
 have DO:∀i,c9 i=true↔φ k=some i:=fun i=>by
  simp only[c9];cases φ k with
  |none=>simp
  |some id=>simp only[ark,aqH];exact eq_comm
 have aA:=J7 c9 h.top
 have Vv:∀d∈flat es,aw d=true:=fun d hd=>by
  obtain⟨e,he,hc⟩:=List.mem_flatMap.1 hd;exact dJ e he d hc
 have j8:Vy s es (fun _=>none) (fun j=>if j=0 then φ k else none) E (σ.only c9):=by
  refine⟨fun d t pv hg=>(by cases hg),fun j ob hj=>?_,fun j j' id h1 h2=>?_,fun j id hj=>?_,fun id m hm=>(by cases hm),fun id m cs au mn hm=>(by cases hm),T.Fj _ _,fun id hid=>?_⟩
  ·cases j with
   |succ j=>simp at hj
   |zero=>
    simp at hj;subst hj;refine⟨bA,es,rfl,g2,?_⟩;rcases g3 with⟨a,b⟩|⟨id,cs,au,mn,a1,a2,a3,a4,a5,a6,a7⟩
    ·exact .inl ⟨by simp[a],b⟩
    ·refine .inr ⟨id,cs,au,mn,by simp[a1],?_,a3,a4,rfl,a6,fun j u v hu hv=>?_⟩
     ·rw[aA,(DO id).2 a1];simpa using a2
     ·have hd:=Vv v (List.mem_of_getElem? hv);have:=a7 j u v hu hv;cases v<;>simp only[aw]at hd<;>first|(cases hd;done)|skip
      rw[bV this];exact .raw _
  ·split at h1<;>first|(cases h1;done)|skip
   split at h2<;>first|(cases h2;done)|skip
   omega
  ·split at hj<;>first|(cases hj;done)|skip
   rename_i XL;subst XL;exact⟨by simp,(h.lt k id hj).2⟩
  ·rw[aA];split
   ·exact h.top id hid
   ·rfl
 have hX0:Vz s es (fun _=>none) (fun j=>if j=0 then φ k else none) (σ.only c9) x:=by
  obtain⟨s1,rS,ry,rT,z1,eP,b1,b2,b3⟩:=hx;rw[hk]at b1;cases b1;have pc:z.den P ν=some (.tree s eP):=b2;rw[hz]at pc;cases pc;refine⟨s,false,false,false,(),es,rfl,rfl,?_⟩;rcases b3 with⟨c1,c2,c3⟩|⟨id,cs,au,mn,cap,c1,c2,c3,c4,c5,c6⟩
  ·exact .inl ⟨by simp[c1],c2,c3⟩
  ·exact .inr ⟨id,cs,au,mn,cap,by simp[c1],by rw[aA,(DO id).2 c1];simpa using c2,c3,c4,c5,c6⟩
 suffices VA:∀R1 du ai v,Vy s aB R1 du E ai→Vz s aB R1 du ai v→σ.n≤ai.n→(∀id,id<σ.n→c9 id=false→ai.at id=none)→∃b,∀N,b≤N→KW N v (σ.back ai c9) by
  obtain⟨b,hb⟩:=hr _ _ _ _ x args j8 hX0 bc (fun N v ai=>σ.n≤ai.n→(∀id,id<σ.n→c9 id=false→ai.at id=none)→KW N v (σ.back ai c9)) fun R1 du ai v h1 h2=>by
   by_cases hc:σ.n≤ai.n∧∀id,id<σ.n→c9 id=false→ai.at id=none
   ·obtain⟨b,hb⟩:=VA R1 du ai v h1 h2 hc.1 hc.2;exact⟨b,fun N hN _ _=>hb N hN⟩
   ·exact⟨0,fun N _ h3 h4=>absurd ⟨h3,h4⟩ hc⟩
  refine⟨b,fun N hN ι us w hi lq=>((hb N hN).frame c9 h.top ι us w hi lq).mono fun ed w' hR=>?_⟩;obtain⟨v,ah,⟨ai,iU,rfl,hle,_,Bz⟩,aaE⟩:=hR;exact⟨v,σ.back ai c9,iU hle Bz,aaE⟩
 intro R1 du ai v bz hX1 hle Bz;have Is:=bz.top;have xH:=J8 (σ:=σ) (ai:=ai) c9 hle Is;have hold:∀id,id<σ.n→c9 id=false→(σ.back ai c9).at id=σ.at id:=fun id h1 h2=>by rw[xH,if_pos ⟨h1,h2⟩]
 have eR:∀id ob,ai.at id=some ob→¬(id<σ.n∧c9 id=false):=fun id ob ho hc=>by rw[Bz id hc.1 hc.2]at ho;cases ho
 have It:∀id ob,ai.at id=some ob→(σ.back ai c9).at id=some ob:=fun id ob ho=>by rw[xH,if_neg (eR id ob ho)];exact ho
 let R2:Rs:=fun i=>if i<σ.n∧c9 i=false then R i else R1 i
 let Cs:Ph:=fun i=>if i=k then du 0 else φ i
 have hRk:∀id,φ k=some id→R id=none:=fun id hid=>by
  rcases g3 with⟨a,_⟩|⟨br,cs,au,mn,a1,_,_,_,a5,_⟩
  ·rw[hid]at a;cases a
  ·rw[hid]at a1;cases a1;simpa using a5
 have xI:∀id m,R id=some m→id<σ.n∧c9 id=false:=fun id m hm=>by
  refine⟨h.p6 id m hm,?_⟩;cases hv:c9 id with
  |false=>rfl
  |true=>rw[hRk id ((DO id).1 hv)]at hm;cases hm
 have q9:∀j id,j≠k→φ j=some id→id<σ.n∧c9 id=false:=fun j id hj hid=>by
  refine⟨(h.lt j id hid).2,?_⟩;cases hv:c9 id with
  |false=>rfl
  |true=>exact absurd (h.inj j k id hid ((DO id).1 hv)) hj
 have vU:∀id m cs au mn,R2 id=some m→(σ.back ai c9).at id=some (.cells cs au mn)→m≤cs.length:=fun id m cs au mn hm ha=>by
  simp only[R2]at hm;rw[xH]at ha;split at hm
  ·rename_i hc;rw[if_pos hc]at ha;exact h.fits id m cs au mn hm ha
  ·rename_i hc;rw[if_neg hc]at ha;exact bz.fits id m cs au mn hm ha
 have pI:iv R σ R2 (σ.back ai c9):=by
  refine⟨fun id m hm=>⟨m,by simp only[R2];rw[if_pos (xI id m hm)];exact hm,aqK _⟩,fun id m cs au mn hm ha=>⟨cs,au,?_,aqK _,fun _ _=>rfl⟩,vU⟩;rw[hold id (xI id m hm).1 (xI id m hm).2];exact ha
 have aT:∀j,j≠k→(L.set k (.row s false false false z'))[j]?=L[j]? :=fun j hj=>List.getElem?_set_ne (fun hc=>hj hc.symm);have aW:(L.set k (.row s false false false z'))[k]?=some (.row s false false false z'):=by simp[ot]
 have BB:∀j,j≠k→Cs j=φ j:=fun j hj=>by simp only[Cs];rw[if_neg hj]
 have tB:Cs k=du 0:=by simp[Cs]
 have hs:jZ (aj P ν) (aj P ν) R φ L σ R2 Cs (L.set k (.row s false false false z')) (σ.back ai c9) (·=k):=by
  refine⟨fun _ _ h=>h,pI,fun j cs hj=>?_,fun j kt eP hj=>?_,fun j s1 rS ry rT z1 hj hb=>?_⟩
  ·have bD:j≠k:=fun hc=>by subst hc;rw[hk]at hj;cases hj
   exact⟨⟨cs,by rw[aT j bD];exact hj⟩,BB j bD⟩
  ·have bD:j≠k:=fun hc=>by subst hc;rw[hk]at hj;cases hj
   exact⟨⟨eP,by rw[aT j bD];exact hj⟩,BB j bD⟩
  ·exact⟨⟨rS,rT,z1,by rw[aT j hb];exact hj,fun e he=>⟨e,he,rfl⟩⟩,BB j hb,fun id cs au mn hid ha=>⟨cs,mn,by rw[hold id (q9 j id hb hid).1 (q9 j id hb hid).2];exact ha,rfl,fun h=>h⟩⟩
 obtain⟨dw,Lq,k1,k2,k3⟩:=bz.obj 0 _ rfl;have LB:some (IV.tree s aB)=some (.tree s Lq):=k1;cases LB
 have J9:∀id,du 0=some id→∃ob,ai.at id=some ob:=fun id hid=>by
  rcases k3 with⟨a,_⟩|⟨br,cs,au,mn,a1,a2,_⟩
  ·rw[hid]at a;cases a
  ·rw[hid]at a1;cases a1;exact⟨_,a2⟩
 refine O4 R2 Cs (σ.back ai c9) v ⟨fun d t pv hg=>(h.slot d t pv hg).step hs (Lb d t pv hg),fun j ob hj=>?_,fun j j' id h1 h2=>?_,fun j id hj=>?_,fun id m hm=>?_,vU,T.Fj _ _,fun id hid=>?_⟩ ?_
 ·by_cases bD:j=k
  ·subst bD;rw[aW]at hj;cases hj;refine⟨dw,aB,oX,k2,?_⟩;rcases k3 with⟨a,b⟩|⟨id,cs,au,mn,a1,a2,a3,a4,a5,a6,a7⟩
   ·exact .inl ⟨by rw[tB];exact a,b⟩
   ·refine .inr ⟨id,cs,au,mn,by rw[tB];exact a1,It id _ a2,a3,a4,?_,a6,fun q u v hu hv=>?_⟩
    ·simp only[R2];rw[if_neg (eR id _ a2)];exact a5
    ·refine(a7 q u v hu hv).move fun i ob ho=>⟨It i ob ho,?_⟩;simp only[R2];rw[if_neg (eR i ob ho)]
  ·rw[aT j bD]at hj;exact(h.obj j ob hj).step hs (BB j bD) (fun id hid=>⟨hold id (q9 j id bD hid).1 (q9 j id bD hid).2,by simp only[R2];rw[if_pos (q9 j id bD hid)]⟩) (hL j ob hj bD)
 ·by_cases hj:j=k
  ·by_cases fJ:j'=k
   ·rw[hj,fJ]
   ·exfalso;rw[hj,tB]at h1;rw[BB j' fJ]at h2;obtain⟨ob,ho⟩:=J9 id h1;exact eR id ob ho (q9 j' id fJ h2)
  ·by_cases fJ:j'=k
   ·exfalso;rw[fJ,tB]at h2;rw[BB j hj]at h1;obtain⟨ob,ho⟩:=J9 id h2;exact eR id ob ho (q9 j id hj h1)
   ·rw[BB j hj]at h1;rw[BB j' fJ]at h2;exact h.inj j j' id h1 h2
 ·by_cases bD:j=k
  ·subst bD;rw[tB]at hj;exact⟨by simpa using ot,(bz.lt 0 id hj).2⟩
  ·rw[BB j bD]at hj;have:=h.lt j id hj;exact⟨by simpa using this.1,as4 this.2 hle⟩
 ·simp only[R2]at hm;split at hm
  ·exact as4 (h.p6 id m hm) hle
  ·exact bz.p6 id m hm
 ·have iH:ai.n≤id:=hid;rw[xH,if_neg (by omega)];exact Is id iH
 ·obtain⟨s1,rS,ry,rT,z1,eP,b1,b2,b3⟩:=hX1;have vN:some (LO.row s false false false ())=some (.row s1 rS ry rT z1):=b1;cases vN;have pc:some (IV.tree s aB)=some (.tree s eP):=b2;cases pc;refine⟨s,false,false,false,z',aB,aW,oX,?_⟩;rcases b3 with⟨c1,c2,c3⟩|⟨id,cs,au,mn,cap,c1,c2,c3,c4,c5,c6⟩
  ·exact .inl ⟨by rw[tB];exact c1,c2,c3⟩
  ·exact .inr ⟨id,cs,au,mn,cap,by rw[tB];exact c1,It id _ c2,c3,c4,c5,c6⟩
end Go.Ev
