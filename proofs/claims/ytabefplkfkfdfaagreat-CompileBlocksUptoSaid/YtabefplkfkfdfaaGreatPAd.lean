/- Lemmas over the model, without conditions of their own: the ideal machine, and code run on expressions. -/
import Derived.Test.YtabefplkfkfdfaaGreatPAc
open Nat renaming beq_eq->azc,eq_of_beq_eq_true->ayH,add_mul->azd,le_refl->ayA,le_trans->ayU,ble_eq->az7,mul_le_mul_right->ay4,zero_mul->aA_,zero_add->azP,one_mul->aD3,zero_le->azi,sub_zero->aBW
open List renaming getElem?_map->ayR,mem_cons->ayN,all_eq_true->ayP,getElem?_of_mem->azO,getElem?_eq_some_iff->ayw,getElem?_eq_getElem->ayv,mem_of_getElem?->ayM,flatMap_cons->aAm,getElem?_append_left->ayK,getElem?_append_right->ay0,length_append->ayC,getElem?_set_ne->aAo,eq_nil_of_length_eq_zero->ayZ,append_nil->ayO,getElem?_take->aza,getElem?_drop->azW,take_take->aBA,getElem_mem->ayy,range->azR,getElem?_range->aAO,drop_of_length_le->ay3,append_assoc->ayJ,mem_append->ayS,mem_of_mem_take->azI,mem_of_mem_drop->aAE,length_eq_one_iff->aBp,mem_flatMap->azJ,all_append->aCa,replicate->ayX,eq_of_mem_replicate->azx,map_cons->azs,replicate_succ->aA4,flatten_cons->aAl,map_nil->aCb,map_map->aB3
open Option renaming map_eq_some_iff->ayG,bind_eq_some_iff->ayV,bind_some->ayx,getD_some->azh,map_some->ay_
open Option.some renaming injEq->ayB
open Prod.mk renaming injEq->ay7
open Bool renaming and_eq_true->ayz,or_eq_true->azf,not_eq_true'->azn,not_eq_true->aA0,not_eq_false->aBb,false_eq_true->ayW
open Go.Builtin renaming len->aDz,append->aC1
open Go.Instr renaming findNow->azT,sameNow->aBD,findAsking->azF,findKey->azZ,sameBits->aA7,checkKey->aBr
open Go renaming undef->azk
open List.cons renaming injEq->aAa
open Int renaming toNat_of_nonneg->aBE
open Go.Value.int renaming injEq->aBP
open Go.Utf8 renaming decode->az_
open Option renaming some->aa,none->ah
open Bool renaming true->ab,false->af
set_option linter.all false
namespace Go.Ev
section
variable{Cx:Cs}
variable{P:Program}{N:Nat}{Y al:St}{R R':Rs}{X aN:Ph}{E:Nat->Env}{G:List IV}
abbrev ay(P:Program)(G:List IV):SE->Option IV:=λe=>e.den P G
theorem bytes_eta(b:ByteArray):(⟨b.data.toList.toArray⟩:ByteArray)=b:=by cases b;simp
variable{L:List (LO SE)}{Γ:Gm SE}
theorem PU(t:TypeId)(v:Value):cZ (ay P G) R X L Y (.raw v) (AF P t v):=by
 have raw:∀u:Value,(∀c,u≠.agg c)->(∀c,u≠.tuple c)->cZ (ay P G) R X L Y (.raw u) (.v (.raw u)):=λu h1 h2=>by
  refine⟨.raw u,rfl,.raw u,?_⟩;cases u<;>first|rfl|exact absurd rfl (h1 _)|exact absurd rfl (h2 _)
 unfold AF;split
 .exact⟨_,rfl,.raw _,rfl⟩
 .exact⟨_,rfl,.raw _,rfl⟩
 .exact⟨_,rfl,.raw _,rfl⟩
 .rename_i b;refine⟨.raw (.string b),?_,.raw _,rfl⟩;show aa (IV.raw (.string ⟨b.data.toList.toArray⟩))=_;rw[bytes_eta]
 .split
  .rename_i s hs;split
   .exact raw _ ax ax
   .rename_i h;have:s≠0:=by simpa[azc]using h
    exact⟨by omega,rfl⟩
  .exact raw _ ax ax
 .trivial
 .trivial
 .exact raw _ (λc hc=>by subst hc;simp_all) (λc hc=>by subst hc;simp_all)
theorem Fc:∀(ts:List TypeId) (vs:List Value),ts.length=vs.length->All2 (cZ (ay P G) R X L Y) (vs.map .raw) (ZP (AF P) ts vs)
 |[],[],_=>trivial
 |t::ts,v::vs,h=>⟨PU t v,Fc ts vs (by simpa using h)⟩
 |[],_::_,h=>by simp at h
 |_::_,[],h=>by simp at h
theorem ZZ(t:TypeId)(v:Value):VR (ay P G) R X L Y (lift v) (NB P t v):=by
 have key:cZ (ay P G) R X L Y (.raw v) (AF P t v):=PU t v;cases v with
 |agg cs=>
  simp only[NB,lift];split
  .rename_i h;exact⟨_,rfl,Fc _ _ (ayH h)⟩
  .trivial
 |_=>exact key
theorem qR{t:TypeId}{z:Value}(h:dj P t=aa z):All2 (cZ (ay P G) R X L Y) (z.cells.toList.map .raw) (zeroCells P t):=by
 unfold zeroCells;rw[h];simp only;split
 .rename_i hh;exact Fc _ _ (ayH hh)
 .refine .mk ax λi a b h1 h2=>?_;rw[ayR]at h2;obtain⟨_,_,rfl⟩:=ayG.1 h2;trivial
theorem bF{V:SS}(h:J Cx (ay P G) R X V.g V.l E Y)(d:Nat)(t:TypeId)(x:Operand):VR (ay P G) R X V.l Y (aC (E d) x) (cg P d V t x):=by
 cases x with
 |tmp y=>
  show VR _ _ _ _ _ ((E d).at y) ((cN d y V.g).getD (.one .un));cases hg:cN d y V.g with
  |none=>trivial
  |some pv=>exact h.slot d y pv hg
 |const v=>exact ZZ t v
 |func f=>exact .inl ⟨rfl,rfl⟩
 |global g=>trivial
theorem bD.ao{fr:Bool}{x y:IV}(h:bD fr R Y x y)(hy:Ev.ao y=ab):Ev.ao x=ab:=by
 cases h<;>first|exact hy|rfl|(simp[Ev.ao]at hy;done)
theorem bD.ait{fr:Bool}{x y:IV}(h:bD fr R Y x y)(hx:Ev.ao x=ab):Ev.ao y=ab:=by
 cases h<;>first|exact hx|rfl|(simp[Ev.ao]at hx;done)
theorem cZ.ao{x:IV}{c:Cl SE}(h:cZ (ay P G) R X L Y x c)(hn:c≠.un):Ev.ao x=ab:=by
 cases c with
 |un=>exact absurd rfl hn
 |v z=>obtain⟨y,_,h1,h2⟩:=h;exact h1.ao h2
 |w fr z=>obtain⟨y,_,h1,h2⟩:=h;exact h1.ao h2
 |pt k off ext=>obtain⟨id,cs,_,_,rfl⟩:=h;rfl
 |tp cs=>obtain⟨ds,rfl,_⟩:=h;rfl
 |tw fr cs=>obtain⟨_,⟨_,ds,rfl,_⟩|⟨id,off,ep,m,c7,aB,mn,_,_,_,_,rfl,_⟩⟩:=h<;>rfl
 |sr k=>obtain⟨s,st,cut,fr,z,es,_,_,⟨_,_,rfl|rfl⟩|⟨id,cs,aB,mn,cap,_,_,rfl,_⟩⟩:=h<;>rfl
 |sv k lo=>obtain⟨s,st,cut,fr,z,es,y,n,_,_,_,_,_,(⟨_,_,rfl|rfl⟩|⟨id,cs,aB,mn,cap,_,_,rfl,_⟩)|⟨_,rfl⟩⟩:=h<;>rfl
 |pr k i off ext=>obtain⟨s,st,cut,fr,z,es,y,n,id,cs,aB,mn,_,_,_,_,_,_,_,_,rfl⟩:=h;rfl
 |mp k=>obtain⟨id,kt,es,_,_,rfl⟩:=h;split<;>rfl
 |yl k=>obtain⟨id,c,st,sn,_,_,rfl⟩:=h;rfl
 |nl b s=>obtain⟨_,rfl⟩:=h;cases b<;>rfl
 |fn f bs=>obtain⟨_,rfl⟩|⟨ys,rfl,_⟩:=h<;>rfl
theorem KC:∀{cs:List (Cl SE)},vw cs=ab->∀c∈cs,c≠.un
 |[],_,c,hc=>by cases hc
 |d::cs,h,c,hc=>by
  have hd:d≠.un/\vw cs=ab:=by
   cases d<;>simp_all[vw]
  rcases ayN.1 hc with rfl|hc
  .exact hd.1
  .exact KC hd.2 c hc
theorem vB{xs:List IV}{cs:List (Cl SE)}(h:All2 (cZ (ay P G) R X L Y) xs cs)(hn:vw cs=ab):xs.all Ev.ao=ab:=by
 rw[ayP];intro x hx;obtain⟨i,hi⟩:=azO hx;have hl:i<cs.length:=by rw[<-h.len];exact(ayw.1 hi).1
 have hc:cs[i]?=aa cs[i]:=ayv hl;exact(h.get hi hc).ao (KC hn _ (ayM hc))
theorem BF{x:IV}{pv:PV SE}(h:VR (ay P G) R X L Y x pv)(hn:vw (ft pv)=ab):All2 (cZ (ay P G) R X L Y) (cellsOf x) (ft pv):=by
 cases pv with
 |one c=>
  have bu:=cZ.ao (c:=c) h (KC hn c (by simp[ft]))
  have:cellsOf x=[x]:=by
   cases x<;>first|rfl|(simp[Ev.ao]at bu;done)
  rw[this];exact⟨h,trivial⟩
 |ag cs=>obtain⟨xs,rfl,h2⟩:=h;exact h2
 |tu vs=>simp[ft,vw]at hn
theorem KD{s:Nat}:∀{es:List IV} (_:∀e∈es,(cellsOf e).length=s) {i j:Nat} {e d:IV},es[i]?=aa e->(cellsOf e)[j]?=aa d->(flat es)[i*s+j]?=aa d:=by
 intro es;induction es with
 |nil=>intro _ i j e d h;simp at h
 |cons a es ih=>
  intro bQ i j e d he hd;have ha:(cellsOf a).length=s:=bQ a ax;unfold flat;rw[aAm];cases i with
  |zero=>
   simp at he;subst he;rw[ayK (by have:=(ayw.1 hd).1;omega)];simpa using hd
  |succ i=>
   simp at he;rw[azd,ay0 ai,ha];have:=ih (λe he=>bQ e (by simp[he])) he hd;rw[show i*s+1*s+j- s=i*s+j by omega];exact this
theorem ug{s:Nat}:∀{es:List IV} (_:∀e∈es,(cellsOf e).length=s),(flat es).length=es.length*s:=by
 intro es;induction es with
 |nil=>intro _;simp[flat]
 |cons a es ih=>
  intro bQ;have:=ih (λe he=>bQ e (by simp[he]));unfold flat at this⊢;rw[aAm,ayC,this,bQ a ax,List.length_cons,azd];omega
theorem Z0(V:SS)(k:Nat)(o:LO SE):(V.setObj k o).l=V.l.set k o:=rfl
theorem aeB{V:SS}{k s:Nat}{cut fr:Bool}{z:SE}(h:J Cx (ay P G) R X V.g V.l E Y)(hk:V.l[k]?=aa (.row s af cut fr z)):
 ∃R',la (ay P G) (ay P G) R X V.l Y R' X (V.l.set k (.row s ab cut fr z)) Y (λ_=>False)/\J Cx (ay P G) R' X V.g (V.l.set k (.row s ab cut fr z)) E Y:=by
 obtain⟨cm,es,he,bQ,PX⟩:=h.obj k _ hk;have lH:=du hk;have bG:(V.l.set k (.row s ab cut fr z))[k]?=aa (.row s ab cut fr z):=by simp[lH]
 have bt:∀j,j≠k->(V.l.set k (.row s ab cut fr z))[j]?=V.l[j]? :=λj hj=>aAo (λhc=>hj hc.symm)
 have agy:∀R',ji R Y R' Y->la (ay P G) (ay P G) R X V.l Y R' X (V.l.set k (.row s ab cut fr z)) Y (λ_=>False):=λR' hg=>by
  refine .mk' (λ_ _ h=>h) hg (λj cs hj=>?_) (λj kt es hj=>?_) (λj s' st yM dF z' hj _=>?_) (λj c st snap hj=>?_)
  .by_cases bB:j=k
   .subst bB;rw[hk]at hj;cases hj
   .exact⟨⟨cs,by rw[bt j bB];exact hj⟩,rfl⟩
  .by_cases bB:j=k
   .subst bB;rw[hk]at hj;cases hj
   .exact⟨⟨es,by rw[bt j bB];exact hj⟩,rfl⟩
  .by_cases bB:j=k
   .subst bB;rw[hk]at hj;cases hj;exact⟨⟨ab,bG⟩,rfl,λ_ _=>rfl⟩
   .exact⟨⟨st,by rw[bt j bB];exact hj⟩,rfl,λ_ _=>rfl⟩
  .have bB:j≠k:=λhc=>by subst hc;rw[hk]at hj;cases hj
   exact⟨⟨c,st,snap,by rw[bt j bB];exact hj⟩,rfl⟩
 rcases PX with⟨h1,h2⟩|⟨id,cs,aB,mn,h1,h2,h3,h4,h5,h6,h7⟩
 .have hs:=agy R (ji.refl h.fits);refine⟨R,hs,{h with slot:=λd t pv hg=>(h.slot d t pv hg).step hs pv.a_,obj:=λj o hj=>?_,lt:=λj id hj=>by simpa using h.lt j id hj}⟩;by_cases bB:j=k
  .subst bB;rw[bG]at hj;cases hj;exact⟨cm,es,he,bQ,.inl ⟨h1,h2⟩⟩
  .rw[bt j bB]at hj;exact(h.obj j o hj).step hs rfl (λ_ _=>⟨rfl,rfl⟩) o.a_
 .let R':Rs:=λi=>if i=id then aa (es.length*s)else R i
  have Fe:R id=ah:=by simpa using h5
  have hg:ji R Y R' Y:=by
   refine⟨λi m hm=>⟨m,?_,ayA _⟩,λi m cY kg si hm aK=>⟨cY,kg,aK,ayA _,λ_ _=>rfl⟩,λi m cY kg si hm aK=>?_⟩
   .have:i≠id:=λhc=>by rw[hc,Fe]at hm;cases hm
    simp[R',this,hm]
   .simp only[R']at hm;split at hm
    .rename_i hc;subst hc;cases hm;rw[h2]at aK;cases aK;exact h4
    .exact h.fits i m cY kg si hm aK
  have hs:=agy R' hg;refine⟨R',hs,{h with slot:=λd t pv Se=>(h.slot d t pv Se).step hs pv.a_,obj:=λj o hj=>?_,lt:=λj id hj=>by simpa using h.lt j id hj,qO:=λi m hm=>?_,fits:=hg.fits}⟩
  .by_cases bB:j=k
   .subst bB;rw[bG]at hj;cases hj;exact⟨cm,es,he,bQ,.inr ⟨id,cs,aB,mn,h1,h2,h3,h4,by simp[R'],h6,λj x d hx hd=>(h7 j x d hx hd).mono hg⟩⟩
   .rw[bt j bB]at hj;refine(h.obj j o hj).step hs rfl (λi hi=>⟨rfl,?_⟩) o.a_;have:i≠id:=λhc=>bB (h.inj j k id (by rw[<-hc];exact hi) h1);simp[R',this]
  .simp only[R']at hm;split at hm
   .rename_i hc;subst hc;exact(h.lt _ _ h1).2
   .exact h.qO i m hm
theorem Tb{x:IV}{k s:Nat}{cut fr:Bool}{z:SE}(h:J Cx (ay P G) R X Γ L E Y)(hk:L[k]?=aa (.row s ab cut fr z))(hx:cZ (ay P G) R X L Y x (.sr k)):
 ∃y,z.den P G=aa y/\bD fr R Y x y/\ao y=ab:=by
 obtain⟨cm,es,he,bQ,PX⟩:=h.obj k _ hk;obtain⟨s',dE,yM,dF,z',aQ,h1,h2,pW⟩:=hx;rw[hk]at h1;cases h1;rw[he]at h2;cases h2;refine⟨_,he,?_,rfl⟩;rcases pW with⟨h3,h4,h5⟩|⟨id,cs,aB,mn,cap,h3,h4,rfl,h5,h6,h7⟩
 .have:es=[]:=ayZ h4;subst this;rcases h5 with rfl|rfl
  .exact .nil s cm
  .exact .emp s cm
 .rcases PX with⟨h8,_⟩|⟨bz,cY,kg,si,h8,h9,Hi,Hj,JF,Xf,Xg⟩
  .rw[h3]at h8;cases h8
  .rw[h3]at h8;cases h8;rw[h4]at h9;cases h9;refine .sl id (0*s) (es.length- 0) cap aB s (es.length*s) cs aB mn es (by simpa using JF) h4 Hi (ayA _) cm rfl ax Hj bQ λi e j c d he hd hc=>?_;refine Xg (i*s+j) c d (by simpa using hc) (KD bQ he hd)
def jO(P:Program)(G:List IV)(R:Rs)(X:Ph)(V:SS)(Y:St)(R':Rs)(V':SS):Prop:=
 V'.g=V.g/\V'.n=V.n/\V'.ln=V.ln/\la (ay P G) (ay P G) R X V.l Y R' X V'.l Y (λ_=>False)
theorem la.trans{O:Type}{ev:O->Option IV}{R1 R2 R3:Rs}{dV BG φ3:Ph}{L1 L2 L3:List (LO O)}{au cU l6:St}(h:la ev ev R1 dV L1 au R2 BG L2 cU (λ_=>False))(k:la ev ev R2 BG L2 cU R3 φ3 L3 l6 (λ_=>False)):
 la ev ev R1 dV L1 au R3 φ3 L3 l6 (λ_=>False):=by
 refine⟨λ_ _ h=>h,⟨λid m hm=>?_,λid m cs aB mn hm aK=>?_,k.grow.fits⟩,λj cs hj=>?_,λj kt es hj=>?_,λj s st cut fr z hj hb=>?_,λj c st snap hj=>?_⟩
 .obtain⟨m1,h1,h2⟩:=h.grow.le id m hm;obtain⟨m2,h3,h4⟩:=k.grow.le id m1 h1;exact⟨m2,h3,ayU h2 h4⟩
 .obtain⟨uP,Ff,h1,h2,h3⟩:=h.grow.tV id m cs aB mn hm aK;obtain⟨m1,h4,h5⟩:=h.grow.le id m hm;obtain⟨LX,vC,h6,h7,h8⟩:=k.grow.tV id m1 uP Ff mn h4 h1;exact⟨LX,vC,h6,ayU h2 h7,λj hj=>by rw[h8 j ai,h3 j hj]⟩
 .obtain⟨⟨cY,h1⟩,h2⟩:=h.var j cs hj;obtain⟨h3,h4⟩:=k.var j cY h1;exact⟨h3,h4.trans h2⟩
 .obtain⟨⟨aQ,h1⟩,h2⟩:=h.map j kt es hj;obtain⟨h3,h4⟩:=k.map j kt aQ h1;exact⟨h3,h4.trans h2⟩
 .obtain⟨⟨mX,vD,z1,h1,dk⟩,h2,h3⟩:=h.row j _ _ _ _ _ hj hb;obtain⟨⟨st2,fr2,z2,h4,h4'⟩,h5,h6⟩:=k.row j _ _ _ _ _ h1 hb;refine⟨⟨st2,fr2,z2,h4,λes he=>?_⟩,h5.trans h2,λid cs aB mn hid aK=>?_⟩
  .obtain⟨gg,a1,a2⟩:=dk es he;obtain⟨lk,b1,b2⟩:=h4' gg a1;exact⟨lk,b1,b2.trans a2⟩
  .obtain⟨uP,Eb,a1,a2,a3⟩:=h3 id cs aB mn hid aK;obtain⟨LX,GO,b1,b2,b3⟩:=h6 id uP aB Eb (by rw[h2];exact hid) a1;exact⟨LX,GO,b1,b2.trans a2,λh=>b3 (a3 h)⟩
 .obtain⟨⟨c1,mX,axL,h1⟩,h2⟩:=h.lp j c st snap hj;obtain⟨h3,h4⟩:=k.lp j _ _ _ h1;exact⟨h3,h4.trans h2⟩
theorem jO.refl{V:SS}(h:J Cx (ay P G) R X V.g V.l E Y):jO P G R X V Y R V:=
 ⟨rfl,rfl,rfl,.mk' (λ_ _ h=>h) (ji.refl h.fits) (λk cs hk=>⟨⟨cs,hk⟩,rfl⟩) (λk kt es hk=>⟨⟨es,hk⟩,rfl⟩) (λk s st cut fr z hk _=>⟨⟨st,hk⟩,rfl,λ_ _=>rfl⟩) (λk c st snap hk=>⟨⟨c,st,snap,hk⟩,rfl⟩)⟩
theorem jO.trans{V V1 V2:SS}{R1 R2:Rs}(h:jO P G R X V Y R1 V1)(k:jO P G R1 X V1 Y R2 V2):jO P G R X V Y R2 V2:=
 ⟨k.1.trans h.1,k.2.1.trans h.2.1,k.2.2.1.trans h.2.2.1,h.2.2.2.trans k.2.2.2⟩
theorem jO.Tc{V V1:SS}{R1:Rs}(h:jO P G R X V Y R1 V1){x:IV}{c:Cl SE}(hx:cZ (ay P G) R X V.l Y x c):cZ (ay P G) R1 X V1.l Y x c:=hx.step h.2.2.2 c.a_
theorem jO.vr{V V1:SS}{R1:Rs}(h:jO P G R X V Y R1 V1){x:IV}{c:PV SE}(hx:VR (ay P G) R X V.l Y x c):VR (ay P G) R1 X V1.l Y x c:=hx.step h.2.2.2 c.a_
theorem xn{V:SS}(h:J Cx (ay P G) R X V.g V.l E Y)(k:Nat):∃R',jO P G R X V Y R' (nV k V)/\J Cx (ay P G) R' X (nV k V).g (nV k V).l E Y/\
 (∀s st cut fr z,V.l[k]?=aa (.row s st cut fr z)->(nV k V).l[k]?=aa (.row s ab cut fr z)):=by
 unfold nV;split
 .rename_i s cut fr es hk;obtain⟨R',h1,h2⟩:=aeB h hk;refine⟨R',⟨rfl,rfl,rfl,h1⟩,h2,λs' dE yM dF z' dq=>?_⟩;rw[hk]at dq;cases dq;simp[Z0,du hk]
 .rename_i hn;refine⟨R,.refl h,h,λs st cut fr z hk=>?_⟩;cases st with
  |true=>exact hk
  |false=>exact absurd hk (hn _ _ _ _)
theorem HB{V V':SS}{c:Cl SE}{fr:Bool}{z:SE}(h:J Cx (ay P G) R X V.g V.l E Y)(hr:yZ V c=aa (fr,z,V')):
 ∃R',jO P G R X V Y R' V'/\J Cx (ay P G) R' X V'.g V'.l E Y/\∀x,cZ (ay P G) R X V.l Y x c->∃y,z.den P G=aa y/\bD fr R' Y x y/\ao y=ab:=by
 cases c with
 |v z'=>
  simp only[yZ,ayB,ay7]at hr;obtain⟨rfl,rfl,rfl⟩:=hr;refine⟨R,.refl h,h,λx ⟨y,h1,h2,h3⟩=>⟨y,h1,?_,h3⟩⟩;have hg:ji (λ_=>ah) ⟨0,.lf⟩ R Y:=⟨λ_ _ h=>(by cases h),λ_ _ _ _ _ h=>(by cases h),h.fits⟩;exact h2.mono hg
 |w f z'=>
  simp only[yZ,ayB,ay7]at hr;obtain⟨rfl,rfl,rfl⟩:=hr;exact⟨R,.refl h,h,λx hx=>hx⟩
 |nl b s=>
  simp only[yZ,ayB,ay7]at hr;obtain⟨rfl,rfl,rfl⟩:=hr;refine⟨R,.refl h,h,λx ⟨h1,h2⟩=>⟨.tree s [],?_,?_,rfl⟩⟩
  .simp[SE.den,h1]
  .subst h2;cases b
   .exact .emp s h1
   .exact .nil s h1
 |sr k=>
  simp only[yZ]at hr;split at hr
  .rename_i s st cut dF es hk;simp only[ayB,ay7]at hr;obtain⟨rfl,rfl,rfl⟩:=hr;obtain⟨R',h1,h2,h3⟩:=xn h k;exact⟨R',h1,h2,λx hx=>Tb h2 (h3 _ _ _ _ _ hk) (h1.Tc hx)⟩
  .cases hr
 |un|pt|tp|tw|sv|pr|mp|fn|yl=>simp[yZ]at hr
theorem z_:∀{cs:List (Cl SE)} {V V':SS} {R:Rs} {fr:Bool} {zs:List SE},J Cx (ay P G) R X V.g V.l E Y->wP V cs=aa (fr,zs,V')->
 ∃R',jO P G R X V Y R' V'/\J Cx (ay P G) R' X V'.g V'.l E Y/\zs.length=cs.length/\∀xs,All2 (cZ (ay P G) R X V.l Y) xs cs->∃ys,All2 (λ(z:SE) y=>z.den P G=aa y) zs ys/\All2 (bD fr R' Y) xs ys/\ys.all Ev.ao=ab
 |[],V,V',R,fr,zs,h,hr=>by
  simp only[wP,ayB,ay7]at hr;obtain⟨rfl,rfl,rfl⟩:=hr;refine⟨R,.refl h,h,rfl,λxs hx=>⟨[],trivial,?_,rfl⟩⟩;cases xs with
  |nil=>trivial
  |cons=>exact hx.elim
 |c::cs,V,V',R,fr,zs,h,hr=>by
  simp only[wP]at hr;split at hr
  .rename_i f1 z V1 h1;split at hr
   .rename_i f2 zs' V2 h2;simp only[ayB,ay7]at hr;obtain⟨rfl,rfl,rfl⟩:=hr;obtain⟨R1,a1,a2,a3⟩:=HB h h1;obtain⟨R2,b1,b2,bl,b3⟩:=z_ a2 h2;refine⟨R2,a1.trans b1,b2,by simp[bl],λxs hx=>?_⟩;cases xs with
    |nil=>exact hx.elim
    |cons x xs=>
     obtain⟨y,c1,c2,c3⟩:=a3 x hx.1;obtain⟨ys,d1,d2,d3⟩:=b3 xs (hx.2.mono λ_ _ cn=>a1.Tc cn);exact⟨y::ys,⟨c1,d1⟩,⟨(c2.mono b1.2.2.2.grow).wide (λh=>by simp[h]),d2.mono λ_ _ cn=>cn.wide (λh=>by simp[h])⟩,by simp[c3,d3]⟩
   .cases hr
  .cases hr
theorem fJ:∀{zs:List SE} {ys:List IV},All2 (λ(z:SE) y=>z.den P G=aa y) zs ys->(fa zs).den P G=aa (.agg ys)
 |[],[],_=>rfl
 |z::zs,y::ys,h=>by simp[fa,SE.den,h.1,fJ h.2]
 |[],_::_,h=>h.elim
 |_::_,[],h=>h.elim
end
section
variable{Cx:Cs}
variable{P:Program}{N:Nat}{Y al:St}{R R':Rs}{X aN:Ph}{E:Nat->Env}{G:List IV}{L:List (LO SE)}{Γ:Gm SE}
variable{C:Cr}{Q:IV->Prop}{K:List (List IV->Prop)}{V:SS}{d:Nat}{o:Oper}{k:PV SE->SS->ak}
theorem cQ{fr:Bool}{x:IV}{v:Value}(h:bD fr R Y x (.raw v)):x=.raw v:=by cases h<;>rfl
theorem Td{fr:Bool}:∀{cs ds:List IV} {us:List Value},lu ds=aa us->cs.length=ds.length->(∀(i:Nat) c e,cs[i]?=aa c->ds[i]?=aa e->bD fr R Y c e)->cs=ds
 |[],[],_,_,_,_=>rfl
 |c::cs,e::ds,us,hr,hl,h=>by
  simp only[lu]at hr;split at hr
  .rename_i v;split at hr
   .rename_i vs db;have h0:=cQ (h 0 c (.raw v) rfl rfl);have h1:cs=ds:=Td db (by simpa using hl) λi c e h1 h2=>h (i+1) c e (by simpa using h1) (by simpa using h2);rw[h0,h1]
   .cases hr
  .cases hr
 |[],_::_,_,_,hl,_=>by simp at hl
 |_::_,[],_,_,hl,_=>by simp at hl
theorem PY{fr:Bool}{x a:IV}{u:Value}(h:bD fr R Y x a)(ha:sJ a=aa u):x=a:=by
 cases h with
 |raw v=>rfl
 |agg cs ds hl hh=>
  simp only[sJ]at ha;split at ha
  .rename_i vs db;rw[Td db hl hh]
  .cases ha
 |pure x hf hp=>rfl
 |nil|emp|dR|aL|sl=>simp[sJ]at ha
theorem Fg{fr:Bool}{x a:IV}{u:Value}(h:bD fr R Y x a)(ha:nc a=aa u):x=a:=by
 cases h with
 |dR t x y hh=>
  simp only[nc]at ha;split at ha
  .rename_i hu;rw[PY hh hu]
  .cases ha
 |raw v=>rfl
 |agg cs ds hl hh=>exact PY (.agg cs ds hl hh) ha
 |pure x hf hp=>rfl
 |nil|emp|aL|sl=>simp[nc,sJ]at ha
theorem KE{y:IV}{n:Int}(h:ie y=aa n):∃q,y=.raw (.int q n):=by
 unfold ie at h;split at h
 .cases h;exact⟨_,rfl⟩
 .cases h
theorem J.BH(h:J Cx (ay P G) R X Γ L E Y):ji (λ_=>ah) ⟨0,.lf⟩ R Y:=⟨λ_ _ h=>(by cases h),λ_ _ _ _ _ h=>(by cases h),h.fits⟩
def dK(Cx:Cs)(P:Program)(C:Cr)(Q:IV->Prop)(K:List (List IV->Prop))(G:List IV)(E:Nat->Env)(lv:Nat×Nat)(k:PV SE->SS->ak)(res:IV->St->Prop):Prop:=
 ∃x au R1 dV pv V1 I,res x au/\J Cx (ay P (G++I)) R1 dV V1.g V1.l E au/\VR (ay P (G++I)) R1 dV V1.l au x pv/\(G++I).length=V1.n/\V1.ln=lv/\(k pv V1).sat P C Q K (G++I)
theorem dK.here{x:IV}{au:St}{pv:PV SE}{V1:SS}{lv:Nat×Nat}{res:IV->St->Prop}(h1:res x au)(h2:J Cx (ay P G) R X V1.g V1.l E au)(h3:VR (ay P G) R X V1.l au x pv)(h4:G.length=V1.n)(h5:V1.ln=lv)
 (h6:(k pv V1).sat P C Q K G):dK Cx P C Q K G E lv k res:=
 ⟨x,au,R,X,pv,V1,[],h1,by rw[ayO];exact h2,by rw[ayO];exact h3,by rw[ayO];exact h4,h5,by rw[ayO];exact h6⟩
theorem dK.at{x:IV}{au:St}{c:Cl SE}{V1:SS}{lv:Nat×Nat}{res:IV->St->Prop}(h6:(k (.one c) V1).sat P C Q K G)(h2:J Cx (ay P G) R X V1.g V1.l E au)(h4:G.length=V1.n)(h5:V1.ln=lv)(h3:cZ (ay P G) R X V1.l au x c)(h1:res x au):
 dK Cx P C Q K G E lv k res:=.here (pv:=.one c) h1 h2 h3 h4 h5 h6
abbrev cq(P:Program)(E:Nat->Env)(d:Nat)(o:Oper)(Y:St):IV->St->Prop:=λx au=>aA P 0 (aC (E d)) o Y=aa (.val x au)
variable(hJ:J Cx (ay P G) R X V.g V.l E Y)(hn:G.length=V.n)
include hJ hn
theorem ab3{x:Operand}(ho:o.op=.move x\/o.op=.assign x)(hs:(gF P d o V k).sat P C Q K G):dK Cx P C Q K G E V.ln k (cq P E d o Y):=by
 have br:(k (cg P d V o.type x) V).sat P C Q K G:=by
  rcases ho with ho|ho<;>(unfold gF at hs;rw[ho]at hs;exact hs)
 refine .here (x:=aC (E d) x) (au:=Y) ?_ hJ (bF hJ d o.type x) hn rfl br;rcases ho with ho|ho<;>simp[cq,aA,ho,ret]
theorem Te{x:IV}{t:Bool}(hx:VR (ay P G) R X V.l Y x (.one (.v (.b t)))):x=.raw (.bool t):=by
 obtain⟨y,h1,h2,_⟩:=hx;simp only[ay,SE.den,ayB]at h1;subst h1;exact cQ h2
theorem aeC{c a b:Operand}(ho:o.op=.pick c a b)(hs:(gF P d o V k).sat P C Q K G):dK Cx P C Q K G E V.ln k (cq P E d o Y):=by
 unfold gF at hs;rw[ho]at hs;simp only at hs;have hc:=bF hJ d 0 c;split at hs
 .rename_i hh;rw[hh]at hc;have:=Te hJ hn hc;refine .here (x:=aC (E d) a) (au:=Y) ?_ hJ (bF hJ d o.type a) hn rfl hs;simp[cq,aA,ho,this,ret]
 .rename_i hh;rw[hh]at hc;have:=Te hJ hn hc;refine .here (x:=aC (E d) b) (au:=Y) ?_ hJ (bF hJ d o.type b) hn rfl hs;simp[cq,aA,ho,this,ret]
 .exact hs.elim
theorem PZ{cs:List (Cl SE)}{c7:List IV}(hc:All2 (cZ (ay P G) R X V.l Y) c7 cs):
 J Cx (ay P G) R (cA X V.l.length Y.n) V.g (V.l++[.var cs]) E (Y.add (.cells c7 0 0))/\VR (ay P G) R (cA X V.l.length Y.n) (V.l++[.var cs]) (Y.add (.cells c7 0 0)) (.ptr Y.n 0 0 c7.length) (.one (.pt V.l.length 0 cs.length)):=by
 have hs:=D3 hJ (.cells c7 0 0) (.var cs);refine⟨hJ.AB (.cells c7 0 0) (.var cs) ⟨Y.n,c7,by simp[cA],hJ.sV,by simp,hc.mono λ_ _ cn=>cn.step hs (Cl.a_ _)⟩,⟨Y.n,cs,by simp[cA],by simp,by rw[hc.len]⟩⟩
theorem ab4{t:TypeId}(ho:o.op=.alloc t)(hs:(gF P d o V k).sat P C Q K G):dK Cx P C Q K G E V.ln k (cq P E d o Y):=by
 unfold gF at hs;rw[ho]at hs;simp only at hs;split at hs
 .exact hs.elim
 .rename_i hz;cases sZ:dj P t with
  |none=>rw[sZ]at hz;simp at hz
  |some z=>
   have hc:=qR (G:=G) (R:=R) (X:=X) (L:=V.l) (Y:=Y) sZ;obtain⟨h1,h2⟩:=PZ hJ hn hc;refine .here (V1:={V with l:=V.l++[.var (zeroCells P t)]}) ?_ h1 h2 hn rfl hs;simp[cq,aA,ho,sZ,ret]
theorem aiu{t:TypeId}{x:Operand}(ho:o.op=.box t x)(hs:(gF P d o V k).sat P C Q K G):dK Cx P C Q K G E V.ln k (cq P E d o Y):=by
 unfold gF at hs;rw[ho]at hs;simp only at hs;split at hs
 .exact hs.elim
 .rename_i hu;have GA:vw (ft (cg P d V t x))=ab:=by simpa using hu
  have hc:=BF (bF hJ d t x) GA;obtain⟨h1,h2⟩:=PZ hJ hn hc;refine .here (V1:={V with l:=V.l++[.var (ft (cg P d V t x))]}) ?_ h1 h2 hn rfl hs;have:=vB hc GA;simp only[cq,aA,ho,ret,this,if_true]
theorem Tf{x:Operand}(ho:o.op=.nilCheck x)(hs:(gF P d o V k).sat P C Q K G):dK Cx P C Q K G E V.ln k (cq P E d o Y):=by
 unfold gF at hs;rw[ho]at hs;simp only at hs;have hc:=bF hJ d 0 x;split at hs
 .rename_i hh;rw[hh]at hc;refine .here (x:=aC (E d) x) (au:=Y) ?_ hJ hc hn rfl hs;obtain⟨id,cs,_,_,h3⟩:=hc;simp[cq,aA,ho,h3,ret]
 .rename_i hh;exact hs.elim
 .rename_i hh;rw[hh]at hc;refine .here (x:=aC (E d) x) (au:=Y) ?_ hJ hc hn rfl hs;obtain⟨ds,h3,_⟩:=hc;simp[cq,aA,ho,h3,ret]
 .exact hs.elim
end
section
variable{Cx:Cs}
variable{P:Program}{N:Nat}{Y al:St}{R R':Rs}{X aN:Ph}{E:Nat->Env}{G:List IV}
variable{C:Cr}{Q:IV->Prop}{K:List (List IV->Prop)}{V:SS}{d:Nat}{o:Oper}{k:PV SE->SS->ak}
theorem Z1{t:TypeId}(h:isAgg P t=ab):sx P t=aa ab:=by simpa[isAgg]using h
theorem Wr{t:TypeId}{b:Bool}(h:isAgg P t=af)(hb:sx P t=aa b):sx P t=aa af:=by
 cases b
 .exact hb
 .simp[isAgg,hb]at h
theorem Ec{t:TypeId}{s off:Nat}{cs:List IV}(hs:aS P t=aa s)(hg:sx P t=aa ab)(hle:off+s<=cs.length):partOf P t cs off=aa (.agg ((cs.drop off).take s)):=by
 simp[partOf,hs,hg,hle]
theorem NN{t:TypeId}{off:Nat}{cs:List IV}(hs:aS P t=aa 1)(hg:sx P t=aa af):partOf P t cs off=cs[off]? :=by
 simp[partOf,hs,hg]
theorem uQ{L:List (LO SE)}{t:TypeId}{s off:Nat}{b:Bool}{c7:List IV}{cs:List (Cl SE)}{pv:PV SE}(hs:aS P t=aa s)(hb:sx P t=aa b)(hc:All2 (cZ (ay P G) R X L Y) c7 cs)(hle:off+s<=cs.length)
 (sj:if isAgg P t=ab then pv=.ag ((cs.drop off).take s)else∃c,(cs.drop off).take s=[c]/\pv=.one c):∃x,partOf P t c7 off=aa x/\VR (ay P G) R X L Y x pv:=by
 have hl:=hc.len;split at sj
 .rename_i ha;subst sj;exact⟨_,Ec hs (Z1 ha) ai,_,rfl,(hc.drop off).take s⟩
 .rename_i ha;obtain⟨c,h1,rfl⟩:=sj
  have hlen:s=1:=by
   have:=congrArg List.length h1;simp at this;omega
  subst hlen
  have h2:cs[off]?=aa c:=by
   have:((cs.drop off).take 1)[0]?=aa c:=by rw[h1];rfl
   simpa using this
  obtain⟨x,hx,hr⟩:=hc.Db h2;exact⟨x,by rw[NN hs (Wr (by simpa using ha) hb),hx],hr⟩
theorem LY{t:TypeId}{s:Nat}{cs:List (Cl SE)}(hs:((if isAgg P t=ab then(if Nat.beq cs.length s=ab then k (.ag cs) V else .fail 2)else match cs with|[c]=>k (.one c) V|_=>.fail 3):ak).sat P C Q K G):
 ∃pv,(k pv V).sat P C Q K G/\if isAgg P t=ab then pv=.ag cs else∃c,cs=[c]/\pv=.one c:=by
 split at hs
 .rename_i ha;split at hs
  .exact⟨_,hs,by rw[if_pos ha]⟩
  .exact hs.elim
 .rename_i ha;split at hs
  .exact⟨_,hs,by rw[if_neg ha];exact⟨_,rfl,rfl⟩⟩
  .exact hs.elim
variable(hJ:J Cx (ay P G) R X V.g V.l E Y)(hn:G.length=V.n)
include hJ hn
theorem aeD{t:TypeId}{pa:PV SE}{x:IV}(hx:VR (ay P G) R X V.l Y x pa)(hs:(ZR P t pa V k).sat P C Q K G):
 dK Cx P C Q K G E V.ln k (λv au=>au=Y/\(∀d a,aC (E d) a=x->∀o:Oper,o.op=.load t a->aA P 0 (aC (E d)) o Y=aa (.val v Y))):=by
 unfold ZR at hs;split at hs
 .exact hs.elim
 .exact hs.elim
 .rename_i s b bf wY;simp only at hs;split at hs
  .rename_i j off ext;obtain⟨id,sc,h1,h2,rfl⟩:=hx;split at hs
   .rename_i cs hj;rw[hj]at h2;cases h2;split at hs
    .rename_i hle;simp only[ayz,az7]at hle;obtain⟨pv,hk,sj⟩:=LY hs;obtain⟨bz,c7,h3,h4,h5,h6⟩:=hJ.obj j _ hj;rw[h1]at h3;cases h3;obtain⟨v,hv,hr⟩:=uQ bf wY h6 hle.2 sj;refine .here (x:=v) (au:=Y) ⟨rfl,λd a ha o ho=>?_⟩ hJ hr hn rfl hk;simp[aA,ho,ha,bf,h5,hle.1,hv,ret]
    .exact hs.elim
   .exact hs.elim
  .rename_i cs;obtain⟨ds,rfl,h1⟩:=hx;split at hs
   .rename_i hle;rw[az7]at hle;obtain⟨pv,hk,sj⟩:=LY hs;have hc:All2 (cZ (ay P G) R X V.l Y) ds (cs.map .v):=h1.map (f:=Cl.v) λ_ _ cn=>cn;obtain⟨v,hv,hr⟩:=uQ (off:=0) bf wY hc (by simpa using hle) sj;refine .here (x:=v) (au:=Y) ⟨rfl,λd a ha o ho=>?_⟩ hJ hr hn rfl hk;simp[aA,ho,ha,hv,ret]
   .exact hs.elim
  .rename_i fr cs;split at hs
   .rename_i hle;rw[az7]at hle;obtain⟨pv,hk,sj⟩:=LY hs;obtain⟨bu,⟨hf,ds,rfl,h1⟩|⟨id,off,ep,m,c7,aB,mn,h1,h2,h3,h4,rfl,h6,h7,h8⟩⟩:=hx
    .have hc:All2 (cZ (ay P G) R X V.l Y) ds (cs.map (.w fr)):=by
      refine(h1.zX (r':=λd c=>cZ (ay P G) R X V.l Y d (.w fr c)) λd c hc ⟨y,AA,sU⟩=>?_).map (f:=Cl.w fr) λ_ _ cn=>cn;obtain⟨y',P0,Tg⟩:=bu c hc;rw[AA]at P0;cases P0;exact⟨y,AA,hf▸sU.mono hJ.BH,Tg⟩
     obtain⟨v,hv,hr⟩:=uQ (off:=0) bf wY hc (by simpa using hle) sj;refine .here (x:=v) (au:=Y) ⟨rfl,λd a ha o ho=>?_⟩ hJ hr hn rfl hk;simp[aA,ho,ha,hv,ret]
    .have hc:All2 (cZ (ay P G) R X V.l Y) ((c7.drop off).take cs.length) (cs.map (.w fr)):=by
      refine .mk (by simp;omega) λi a b ha hb=>?_;rw[ayR]at hb;obtain⟨c,hc,rfl⟩:=ayG.1 hb;have hi:=(ayw.1 hc).1;rw[aza,if_pos hi,azW]at ha;obtain⟨y,AA,sU⟩:=h8 i a c hc ha;obtain⟨y',P0,Tg⟩:=bu c (ayM hc);have aeE:c.den P G=aa y:=AA;have akE:c.den P G=aa y':=P0;rw[aeE]at akE;cases akE;exact⟨y,AA,sU,Tg⟩
     obtain⟨v,hv,hr⟩:=uQ (off:=0) bf wY hc (by simpa using hle) sj
     have hv':partOf P t c7 off=aa v:=by
      have hlen:s<=((c7.drop off).take cs.length).length:=by simp;omega
      cases b with
      |true=>
       rw[Ec bf wY (by simpa using hlen)]at hv;rw[Ec bf wY ai,<-hv];simp[aBA,hle]
      |false=>
       have h1s:s=1:=by
        unfold partOf at hv;rw[wY,bf]at hv;simp only at hv;split at hv
        .assumption
        .cases hv
       subst h1s;rw[NN bf wY]at hv⊢;rw[aza,if_pos ai,azW]at hv;exact hv
     refine .here (x:=v) (au:=Y) ⟨rfl,λd a ha o ho=>?_⟩ hJ hr hn rfl hk;simp[aA,ho,ha,bf,h2,hle,h3,h4,hv',ret]
   .exact hs.elim
  .rename_i j i off ext;split at hs
   .rename_i sz st cut fr es hj;split at hs
    .rename_i hle;rw[az7]at hle;obtain⟨pv,hk,sj⟩:=LY hs;obtain⟨s',dE,yM,dF,z',aQ,y,n,id,cs,aB,mn,h1,h2,h3,h4,h5,h6,h7,h8,rfl⟩:=hx;rw[hj]at h1;cases h1;obtain⟨cm,lk,g1,g2,g3⟩:=hJ.obj j _ hj;have yg:es.den P G=aa (.tree sz aQ):=h2;have qS:es.den P G=aa (.tree sz lk):=g1;rw[yg]at qS;cases qS;rcases g3 with⟨g3,_⟩|⟨bz,cY,kg,si,g3,g4,g5,g6,g7,g8,g9⟩
     .rw[h7]at g3;cases g3
     .rw[h7]at g3;cases g3;rw[h8]at g4;cases g4;have he:aQ[n]?=aa aQ[n]:=ayv h5;have ot:=g2 _ (ayy h5)
      have at4:cz sz (.tree sz aQ) y=aa aQ[n]:=by
       have hy:ie y=aa (n:Int):=by
        unfold nat? at h4;split at h4
        .split at h4
         .rename_i hq;cases h4;simp[ie];omega
         .cases h4
        .cases h4
       simp[cz,hy,he,ot]
      have GF:n*sz+sz<=aQ.length*sz:=by
       have:(n+1)*sz<=aQ.length*sz:=ay4 sz h5;rw[azd]at this;omega
      have hc:All2 (cZ (ay P G) R X V.l Y) ((cs.drop (n*sz)).take sz) ((azR sz).map λq=>.w fr (.JD sz es i q)):=by
       refine .mk (by simp;omega) λq a b ha hb=>?_;rw[ayR]at hb;obtain⟨q',hq,rfl⟩:=ayG.1 hb;have Bi:q<sz:=by have:=(ayw.1 hq).1;simpa using this
       have:q'=q:=by rw[aAO Bi]at hq;cases hq;rfl
       subst this;rw[aza,if_pos Bi,azW]at ha;have hd:(cellsOf aQ[n])[q']?=aa (cellsOf aQ[n])[q']:=ayv ai;have hr:=g9 (n*sz+q') a _ ha (KD g2 he hd)
       have HC:Ev.ao a=ab:=by
        rw[ayP]at g8;exact g8 a (ayM ha)
       have bu:=hr.ait HC;refine⟨_,?_,hr,bu⟩;have JG:i.den P G=aa y:=h3;simp[ay,SE.den,yg,JG,at4,hd,yr,bu]
      obtain⟨v,hv,hr⟩:=uQ (off:=off) bf wY hc (by simp;omega) sj
      have hv':partOf P t cs (n*sz+off)=aa v:=by
       cases b with
       |true=>
        rw[Ec bf wY (by simp;omega)]at hv;rw[Ec bf wY ai,<-hv]
        congr 2
        rw[List.drop_take,List.drop_drop,aBA]
        congr 1;omega
       |false=>
        have h1s:s=1:=by
         unfold partOf at hv;rw[wY,bf]at hv;simp only at hv;split at hv
         .assumption
         .cases hv
        subst h1s;rw[NN bf wY]at hv⊢;rw[aza,if_pos ai,azW]at hv;exact hv
      refine .here (x:=v) (au:=Y) ⟨rfl,λd a ha o ho=>?_⟩ hJ hr hn rfl hk;simp[aA,ho,ha,bf,h8,hle,g5,hv',ret]
    .exact hs.elim
   .exact hs.elim
  .exact hs.elim
theorem aeF{t:TypeId}{a:Operand}(ho:o.op=.load t a)(hs:(gF P d o V k).sat P C Q K G):dK Cx P C Q K G E V.ln k (cq P E d o Y):=by
 unfold gF at hs;rw[ho]at hs;simp only at hs;obtain⟨x,au,R1,dV,pv,V1,I,h0,h2⟩:=aeD hJ hn (bF hJ d 0 a) hs;obtain⟨e0,h1⟩:=h0;subst e0;exact⟨x,au,R1,dV,pv,V1,I,h1 d a rfl o ho,h2⟩
end
section
variable{Cx:Cs}
variable{P:Program}{N:Nat}{Y al:St}{R R':Rs}{X aN:Ph}{E:Nat->Env}{G:List IV}
variable{C:Cr}{Q:IV->Prop}{K:List (List IV->Prop)}{V:SS}{d:Nat}{o:Oper}{k:PV SE->SS->ak}
theorem P1{r:IV->Cl SE->Prop}{c7 xs:List IV}{cs new:List (Cl SE)}(off:Nat)(h:All2 r c7 cs)(k:All2 r xs new):All2 r (eX c7 off xs) (D5 cs off new):=by
 unfold eX D5;rw[k.len];exact((h.take off).app k).app (h.drop _)
theorem J.akF{L:List (LO SE)}{Γ:Gm SE}(h:J Cx (ay P G) R X Γ L E Y){k id s aB mn:Nat}{cut fr dF:Bool}{z z':SE}{cs cY es aQ:List IV}(hid:X k=aa id)(hk:L[k]?=aa (.row s af cut fr z))(aK:Y.at id=aa (.cells cs aB mn))
 (hl:cY.length=cs.length)(hz:z.den P G=aa (.tree s es))(qT:z'.den P G=aa (.tree s aQ))(hle:aQ.length=es.length)(bQ:∀e∈aQ,(cellsOf e).length=s)(bu:cY.all Ev.ao=ab)
 (hc:∀(j:Nat) x d,cY[j]?=aa x->(flat aQ)[j]?=aa d->bD dF R Y x d):
 J Cx (ay P G) R X Γ (L.set k (.row s af cut dF z')) E (Y.put id (.cells cY aB aB)):=by
 have lH:=du hk;have bt:∀j,j≠k->(L.set k (.row s af cut dF z'))[j]?=L[j]? :=λj hj=>aAo (λhc=>hj hc.symm);have bG:(L.set k (.row s af cut dF z'))[k]?=aa (.row s af cut dF z'):=by simp[lH]
 have Nx:∀j bz,j≠k->X j=aa bz->bz≠id:=λj bz hj ni hc=>hj (h.inj j k id (by rw[<-hc];exact ni) hid);obtain⟨cm,lk,g1,g2,g3⟩:=h.obj k _ hk
 have Fe:R id=ah/\es.length*s<=cs.length/\mn<=aB:=by
  rcases g3 with⟨g3,_⟩|⟨bz,LX,vC,GO,g3,g4,g5,g6,g7,_⟩
  .rw[hid]at g3;cases g3
  .rw[hid]at g3;cases g3;rw[aK]at g4;cases g4;have qS:z.den P G=aa (.tree s lk):=g1;rw[hz]at qS;cases qS;exact⟨by simpa using g7,g6,g5⟩
 have rm:ji R Y R (Y.put id (.cells cY aB aB)):=by
  refine⟨λ_ m hm=>⟨m,hm,ayA _⟩,λbz m uP Ff Eb hm po=>?_,λbz m uP Ff Eb hm po=>?_⟩
  .have:id≠bz:=λhc=>by rw[<-hc,Fe.1]at hm;cases hm
   exact⟨uP,Ff,by rw[St.dv,if_neg this];exact po,ayA _,λ_ _=>rfl⟩
  .have:id≠bz:=λhc=>by rw[<-hc,Fe.1]at hm;cases hm
   rw[St.dv,if_neg this]at po;exact h.fits bz m uP Ff Eb hm po
 have hs:la (ay P G) (ay P G) R X L Y R X (L.set k (.row s af cut dF z')) (Y.put id (.cells cY aB aB)) (λ_=>False):=by
  refine⟨λ_ _ h=>h,rm,λj uP hj=>?_,λj kt gg hj=>?_,λj s1 mX vE vD z1 hj _=>?_,λj c mX snap hj=>?_⟩
  .by_cases bB:j=k
   .subst bB;rw[hk]at hj;cases hj
   .exact⟨⟨uP,by rw[bt j bB];exact hj⟩,rfl⟩
  .by_cases bB:j=k
   .subst bB;rw[hk]at hj;cases hj
   .exact⟨⟨gg,by rw[bt j bB];exact hj⟩,rfl⟩
  .by_cases bB:j=k
   .subst bB;rw[hk]at hj;cases hj;refine⟨⟨af,dF,z',bG,λgg lF=>⟨aQ,qT,?_⟩⟩,rfl,λid1 uP Ff Eb Z2 po=>?_⟩
    .have Th:z.den P G=aa (.tree s gg):=lF;rw[hz]at Th;cases Th;exact hle
    .rw[hid]at Z2;cases Z2;rw[aK]at po;cases po;exact⟨cY,aB,by rw[St.dv,if_pos rfl],hl,λ_=>rfl⟩
   .refine⟨⟨mX,vD,z1,by rw[bt j bB];exact hj,λgg lF=>⟨gg,lF,rfl⟩⟩,rfl,λid1 uP Ff Eb Z2 po=>⟨uP,Eb,?_,rfl,λh=>h⟩⟩;rw[St.dv,if_neg (λhc=>Nx j id1 bB Z2 hc.symm)];exact po
  .have bB:j≠k:=λhc=>by subst hc;rw[hk]at hj;cases hj
   exact⟨⟨c,mX,snap,by rw[bt j bB];exact hj⟩,rfl⟩
 refine⟨λd t pv hg=>(h.slot d t pv hg).step hs pv.a_,λj o hj=>?_,h.inj,λj bz hj=>by simpa[St.put]using h.lt j bz hj,h.qO,rm.fits,h.wf.set _ _,λbz gX=>?_⟩
 .by_cases bB:j=k
  .subst bB;rw[bG]at hj;cases hj;refine⟨cm,aQ,qT,bQ,.inr ⟨id,cY,aB,aB,hid,by rw[St.dv,if_pos rfl],ayA _,by rw[hl,hle];exact Fe.2.1,by simpa using Fe.1,bu,λj x d hx hd=>(hc j x d hx hd).mono rm⟩⟩
  .rw[bt j bB]at hj;exact(h.obj j o hj).step hs rfl (λbz gX=>⟨by rw[St.dv,if_neg (λhc=>Nx j bz bB gX hc.symm)],rfl⟩) o.a_
 .have:=(h.lt _ _ hid).2;have Rf:Y.n<=bz:=gX;rw[St.dv,if_neg ai];exact h.top bz Rf
theorem aeG{s:Nat}{x:IV}:∀{es:List IV} (_:∀e∈es,(cellsOf e).length=s) {n:Nat},n<es.length->(cellsOf x).length=s->flat (es.set n x)=eX (flat es) (n*s) (cellsOf x):=by
 intro es;induction es with
 |nil=>intro _ n hn;simp at hn
 |cons a es ih=>
  intro bQ n hn hx;have ha:(cellsOf a).length=s:=bQ a ax;unfold eX;cases n with
  |zero=>
   simp only[List.set_cons_zero,flat,aAm,aA_,List.take_zero,List.nil_append,azP];rw[hx,List.drop_append_of_le_length ai,ay3 (by omega:(cellsOf a).length<=s)];simp
  |succ n=>
   have:=ih (λe he=>bQ e (by simp[he])) (n:=n) (by simpa using hn) hx;simp only[List.set_cons_succ];unfold flat at this⊢;rw[aAm,this];unfold eX
   rw[aAm,hx,azd,aD3,List.take_append,List.drop_append,ha,
    List.take_of_length_le (by omega:(cellsOf a).length<=n*s+s),ay3 (by omega:(cellsOf a).length<=n*s+s+s),
    show n*s+s- s=n*s by omega,show n*s+s+s- s=n*s+s by omega]
   simp
theorem ry{O:Type}{cs new:List IV}{off j:Nat}(h:off+new.length<=cs.length):(eX cs off new)[j]?=if off<=j/\j<off+new.length then new[j- off]? else cs[j]? :=by
 unfold eX;have h1:(cs.take off).length=off:=by simp;omega
 rw[ayJ];by_cases ha:j<off
 .rw[ayK ai,aza,if_pos ha,if_neg ai]
 .rw[ay0 ai,h1];by_cases hb:j<off+new.length
  .rw[ayK ai,if_pos ⟨by omega,hb⟩]
  .rw[ay0 ai,if_neg ai,azW]
   congr 1;omega
theorem zm{cs new:List IV}{off:Nat}(h:off+new.length<=cs.length):(eX cs off new).length=cs.length:=by
 unfold eX;simp;omega
theorem Fh{cs new:List IV}{off:Nat}{f:IV->Bool}(h1:cs.all f=ab)(h2:new.all f=ab):(eX cs off new).all f=ab:=by
 rw[ayP]at h1 h2⊢;intro x hx;unfold eX at hx;rcases ayS.1 hx with hx|hx
 .rcases ayS.1 hx with hx|hx
  .exact h1 x (azI hx)
  .exact h2 x hx
 .exact h1 x (aAE hx)
variable(hJ:J Cx (ay P G) R X V.g V.l E Y)(hn:G.length=V.n)
include hJ hn
theorem Z3{t:TypeId}{a x:Operand}{j off ext:Nat}{cs:List (Cl SE)}(ho:o.op=.store t a x)(ha:cg P d V 0 a=.one (.pt j off ext))(hj:V.l[j]?=aa (.var cs))
 (h1:vw (ft (cg P d V t x))=ab)(h2:(ft (cg P d V t x)).length<=ext)(h3:off+(ft (cg P d V t x)).length<=cs.length)(h4:aS P t=aa (ft (cg P d V t x)).length)
 (hs:(k (.one .un) (V.setObj j (.var (D5 cs off (ft (cg P d V t x)))))).sat P C Q K G):dK Cx P C Q K G E V.ln k (cq P E d o Y):=by
 have kR:=bF hJ d 0 a;rw[ha]at kR;obtain⟨id,sc,g1,g2,g3⟩:=kR;obtain⟨bz,c7,g4,g5,g6,g7⟩:=hJ.obj j _ hj;rw[g1]at g4;cases g4;have hc:=BF (bF hJ d t x) h1;have jf:=hc.len;have wz:=g7.len
 obtain⟨fq,bR⟩:=hJ.vu (R':=R) (bad:=λ_=>False) (lg:=.var (D5 cs off (ft (cg P d V t x)))) (fK:=.cells (eX c7 off (cellsOf (aC (E d) x))) 0 0) g1 hj (λ_ _=>rfl)
  (λm hm=>by rw[g5]at hm;cases hm) (λm _ _ _ hm=>by rw[g5]at hm;cases hm) (λm _ _ _ hm=>by rw[g5]at hm;cases hm)
  (λ_ _=>⟨_,rfl⟩) (λ_ _ h=>by cases h) (λ_ _ _ _ _ h=>by cases h) (λ_ _ pv _=>pv.a_) (λ_ o _ _=>o.a_)
  (λfq=>⟨id,_,g1,g5,by rw[St.dv,if_pos rfl],(P1 off g7 hc).mono λ_ _ cn=>cn.step fq (Cl.a_ _)⟩)
 refine .here (x:=.undef) (V1:=V.setObj j _) (pv:=.one .un) ?_ bR trivial hn rfl hs;have gN:=vB hc h1;simp only[cq,aA,ho,g3,h4,g6,jf,ret];rw[if_pos ⟨azi _,trivial,h2,trivial,by omega,gN⟩]
end
section
variable{Cx:Cs}
variable{P:Program}{N:Nat}{Y al:St}{R R':Rs}{X aN:Ph}{E:Nat->Env}{G:List IV}
variable{C:Cr}{Q:IV->Prop}{K:List (List IV->Prop)}{V:SS}{d:Nat}{o:Oper}{k:PV SE->SS->ak}
theorem aiv{y:IV}{n:Nat}(h:nat? y=aa n):∃q,y=.raw (.int q n):=by
 unfold nat? at h;split at h
 .split at h
  .rename_i q m hq;cases h;exact⟨q,by simp;omega⟩
  .cases h
 .cases h
theorem JH{s:TypeId}{f off sz:Nat}(h:fieldAt P s f=aa (off,sz)):∃fields fd,P.underlying s=aa (.struct fields)/\fields[f]?=aa fd/\aS P fd.type=aa sz/\fd.offset=off:=by
 unfold fieldAt at h;split at h
 .rename_i fields hu;split at h
  .rename_i fd hf;split at h
   .rename_i sz' hs;cases h;exact⟨fields,fd,hu,hf,hs,rfl⟩
   .cases h
  .cases h
 .cases h
theorem P2{O:Type}{f:O->O->Bool}(h:∀a b,f a b=ab->a=b):∀{as bs:List O},kQ f as bs=ab->as=bs
 |[],[],_=>rfl
 |a::as,b::bs,hh=>by
  simp only[kQ,ayz]at hh;rw[h a b hh.1,P2 h hh.2]
 |[],_::_,hh=>by cases hh
 |_::_,[],hh=>by cases hh
theorem SE.eq_eq:∀{a b:SE},a.eq b=ab->a=b:=by
 intro a;induction a with
 |var x=>intro c h;cases c<;>simp_all[SE.eq]
 |i x=>intro c h;cases c<;>simp_all[SE.eq]
 |k q x=>intro c h;cases c<;>simp_all[SE.eq,akt]
 |b x=>intro c h;cases c<;>simp_all[SE.eq]
 |s x=>intro c h;cases c<;>first|(simp[SE.eq]at h;done)|(simp only[SE.eq]at h;rw[P2 (λa b h=>by simpa using h) h])
 |an=>intro c h;cases c<;>simp_all[SE.eq]
 |raw v=>intro c h;cases c<;>simp[SE.eq]at h
 |ok e ih=>intro c h;cases c<;>first|(simp[SE.eq]at h;done)|(simp only[SE.eq]at h;rw[ih h])
 |len e ih=>intro c h;cases c<;>first|(simp[SE.eq]at h;done)|(simp only[SE.eq]at h;rw[ih h])
 |ud e ih=>intro c h;cases c<;>first|(simp[SE.eq]at h;done)|(simp only[SE.eq]at h;rw[ih h])
 |tp e ih=>intro c h;cases c<;>first|(simp[SE.eq]at h;done)|(simp only[SE.eq]at h;rw[ih h])
 |rw e ih=>intro c h;cases c<;>first|(simp[SE.eq]at h;done)|(simp only[SE.eq]at h;rw[ih h])
 |bC e j ih=>intro c h;cases c<;>first|(simp[SE.eq]at h;done)|(simp only[SE.eq,ayz,azc]at h;rw[h.1,ih h.2])
 |proj e j ih=>intro c h;cases c<;>first|(simp[SE.eq]at h;done)|(simp only[SE.eq,ayz,azc]at h;rw[h.1,ih h.2])
 |tr q e ih=>intro c h;cases c<;>first|(simp[SE.eq]at h;done)|(simp only[SE.eq,ayz,azc]at h;rw[h.1,ih h.2])
 |un op e ih=>intro c h;cases c<;>first|(simp[SE.eq]at h;done)|(simp only[SE.eq,ayz,beq_iff_eq]at h;rw[h.1,ih h.2])
 |cv p q e ih=>intro c h;cases c<;>first|(simp[SE.eq]at h;done)|(simp only[SE.eq,ayz,azc]at h;rw[h.1.1,h.1.2,ih h.2])
 |idx q e x gG fS=>intro c h;cases c<;>first|(simp[SE.eq]at h;done)|(simp only[SE.eq,ayz,azc]at h;rw[h.1.1,gG h.1.2,fS h.2])
 |JD q e x j gG fS=>intro c h;cases c<;>first|(simp[SE.eq]at h;done)|(simp only[SE.eq,ayz,azc]at h;rw[h.1.1.1,h.1.1.2,gG h.1.2,fS h.2])
 |ac e x gG fS=>intro c h;cases c<;>first|(simp[SE.eq]at h;done)|(simp only[SE.eq,ayz]at h;rw[gG h.1,fS h.2])
 |bin op t e x gG fS=>intro c h;cases c<;>first|(simp[SE.eq]at h;done)|(simp only[SE.eq,ayz,azc,beq_iff_eq]at h;rw[h.1.1.1,h.1.1.2,gG h.1.2,fS h.2])
 |mx q e x gG fS=>intro c h;cases c<;>first|(simp[SE.eq]at h;done)|(simp only[SE.eq,ayz,beq_iff_eq]at h;rw[h.1.1,gG h.1.2,fS h.2])
 |JE e x gG fS=>intro c h;cases c<;>first|(simp[SE.eq]at h;done)|(simp only[SE.eq,ayz]at h;rw[gG h.1,fS h.2])
 |dec q e x gG fS=>intro c h;cases c<;>first|(simp[SE.eq]at h;done)|(simp only[SE.eq,ayz,azc]at h;rw[h.1.1,gG h.1.2,fS h.2])
 |uM|rws|cat|has|E8|sub|Ks|ins|get=>intro c h;cases c<;>simp[SE.eq]at h
theorem aeH{o:Option (LO SE)}{s:Nat}{cut fr:Bool}{es:SE}(h:ZS o s cut fr es=ab):o=aa (.row s af cut fr es):=by
 unfold ZS at h;split at h
 .simp only[ayz,azc,beq_iff_eq]at h;rw[h.1.1.1,h.1.1.2,h.1.2,SE.eq_eq h.2]
 .cases h
theorem vF{e:SE}{z:IV}(h:(SE.ok e).den P G=aa z):e.den P G=aa z/\Ev.ao z=ab:=by
 simp only[SE.den,ayV]at h;obtain⟨y,h1,h2⟩:=h;unfold yr at h2;split at h2
 .cases h2;exact⟨h1,by assumption⟩
 .cases h2
variable(hJ:J Cx (ay P G) R X V.g V.l E Y)(hn:G.length=V.n)
include hJ hn
theorem Z4{t:TypeId}{a x:Operand}{j s off ext:Nat}{i es:SE}{cut fr f:Bool}{zs:List SE}{V2:SS}(ho:o.op=.store t a x)(ha:cg P d V 0 a=.one (.pr j i off ext))(hj:V.l[j]?=aa (.row s af cut fr es))
 (h0:off=0)(h2:(ft (cg P d V t x)).length=s)(h3:s=ext)(bf:aS P t=aa s)(hnu:vw (ft (cg P d V t x))=ab)(fg:wP V (ft (cg P d V t x))=aa (f,zs,V2))(Bm:V2.l[j]?=aa (.row s af cut fr es))
 (JI:isAgg P t=ab\/s=1)
 (hs:(newVar V2 (.E8 s es i (if isAgg P t then fa zs else zs.headD .an)) λz V=>k (.one .un) (V.setObj j (.row s af cut (fr||f) z))).sat P C Q K G):dK Cx P C Q K G E V.ln k (cq P E d o Y):=by
 subst h0 h3;obtain⟨R',bI,fE,hzl,Ti⟩:=z_ hJ fg;have kR:=bF hJ d 0 a;rw[ha]at kR;have at5:=bI.Tc (x:=aC (E d) a) (c:=.pr j i 0 s) kR;obtain⟨s',dE,yM,dF,z',aQ,y,n,id,cs,aB,mn,a1,a2,a3,a4,a5,a6,a7,a8,a9⟩:=at5;rw[Bm]at a1;cases a1;obtain⟨cm,lk,g1,g2,g3⟩:=fE.obj j _ Bm;have AL:es.den P G=aa (.tree s aQ):=a2;have qS:es.den P G=aa (.tree s lk):=g1;rw[AL]at qS;cases qS;rcases g3 with⟨g3,_⟩|⟨bz,cY,kg,si,g3,g4,g5,g6,g7,g8,g9⟩
 .rw[a7]at g3;cases g3
 rw[a7]at g3;cases g3;rw[a8]at g4;cases g4;have hc:=BF (bF hJ d t x) hnu;obtain⟨ys,b1,b2,b3⟩:=Ti _ hc;have hxl:(cellsOf (aC (E d) x)).length=s:=by rw[hc.len,h2]
 have GP:ys.length=s:=by rw[<-b1.len,hzl,h2]
 obtain⟨ze,hze,hzc⟩:∃ze,(if isAgg P t=ab then fa zs else zs.headD .an).den P G=aa ze/\cellsOf ze=ys:=by
  split
  .exact⟨_,fJ b1,rfl⟩
  .rename_i hna;have fq:s=1:=JI.resolve_left hna;have akG:ys.length=1:=ai;obtain⟨y0,rfl⟩:=aBp.1 akG;obtain⟨z0,rfl⟩:=aBp.1 (b1.len.trans akG);refine⟨y0,b1.1,?_⟩;have:Ev.ao y0=ab:=by simpa using b3
   cases y0<;>first|rfl|(simp[Ev.ao]at this;done)
 obtain⟨ayj,Z5,hk⟩:=hs
 have Dh:(SE.E8 s es i (if isAgg P t=ab then fa zs else zs.headD .an)).den P G=aa (.tree s (aQ.set n ze)):=by
  simp only[SE.den,ayV]at Z5⊢;have a3':i.den P G=aa y:=a3;refine⟨_,AL,y,a3',ze,hze,?_⟩;obtain⟨q,rfl⟩:=aiv a4;simp[AK,ie,a5,hzc,GP]
 rw[Dh]at Z5;cases Z5
 have ad2:n*s+s<=aQ.length*s:=by
  have:(n+1)*s<=aQ.length*s:=ay4 s a5;rw[azd]at this;omega
 have vG:=fE.up (jX:=ay P (G++[.tree s (aQ.set n ze)])) (λe z h=>SE.dN P e h)
 have mz:(SE.var V2.n).den P (G++[.tree s (aQ.set n ze)])=aa (.tree s (aQ.set n ze)):=by
  have:V2.n=G.length:=by rw[hn];exact bI.2.1
  simp[SE.den,this]
 have hJ4:=vG.akF (dF:=fr||f) (z':=.var V2.n) (cY:=eX cs (n*s) (cellsOf (aC (E d) x))) a7 Bm a8 (zm ai) (SE.dN P es AL) mz ax
  (λe he=>by
   rcases List.mem_or_eq_of_mem_set he with he|rfl
   .exact g2 e he
   .rw[hzc,GP])
  (Fh g8 (vB hc hnu))
  (λq u v hu hv=>by
   rw[aeG g2 a5 (by rw[hzc,GP])]at hv;rw[ry (O:=IV) ai]at hu;rw[ry (O:=IV) (by rw[ug g2,hzc,GP];exact ad2)]at hv;rw[hxl]at hu;rw[hzc,GP]at hv;by_cases hq:n*s<=q/\q<n*s+s
   .rw[if_pos hq]at hu hv;exact(b2.get hu hv).wide (λh=>by simp[h])
   .rw[if_neg hq]at hu hv;exact(g9 q u v hu hv).wide (λh=>by simp[h]))
 refine⟨.undef,Y.put id (.cells (eX cs (n*s) (cellsOf (aC (E d) x))) aB aB),R',X,.one .un,({V2 with n:=V2.n+1}:SS).setObj j (.row s af cut (fr||f) (.var V2.n)),[.tree s (aQ.set n ze)],?_,hJ4,trivial,?_,bI.2.2.1,hk⟩
 .have gN:=vB hc hnu;simp only[cq,aA,ho,a9,bf,a8,hxl,ret,Nat.add_zero];rw[if_pos ⟨azi _,trivial,ayA _,trivial,by omega,gN⟩]
 .show(G++[_]).length=V2.n+1;simp[hn,bI.2.1]
theorem ab5{t:TypeId}{a x:Operand}(ho:o.op=.store t a x)(hs:(gF P d o V k).sat P C Q K G):dK Cx P C Q K G E V.ln k (cq P E d o Y):=by
 unfold gF at hs;rw[ho]at hs;simp only at hs;split at hs
 .rename_i j off ext ha;split at hs
  .rename_i cs hj;split at hs
   .rename_i hc;simp only[ayz,az7,beq_iff_eq]at hc;exact Z3 hJ hn ho ha hj hc.1.1.1 hc.1.1.2 hc.1.2 hc.2 hs
   .exact hs.elim
  .exact hs.elim
 .rename_i j i off ext ha;split at hs
  .rename_i s cut fr es hj;split at hs
   .rename_i hc;simp only[ayz,azc,beq_iff_eq,azf]at hc;split at hs
    .rename_i f zs V2 fg;split at hs
     .rename_i Bm;obtain⟨⟨⟨⟨⟨c1,c2⟩,c3⟩,c4⟩,c5⟩,c6⟩:=hc;exact Z4 hJ hn ho ha hj c1 c2 c3 c4 c5 fg (aeH Bm) c6 hs
     .exact hs.elim
    .exact hs.elim
   .exact hs.elim
  .exact hs.elim
 .exact hs.elim
theorem Q6{s:TypeId}{x:Operand}{f:Nat}(ho:o.op=.fieldAddr s x f)(hs:(gF P d o V k).sat P C Q K G):dK Cx P C Q K G E V.ln k (cq P E d o Y):=by
 unfold gF at hs;rw[ho]at hs;simp only at hs;have hx:=bF hJ d 0 x;split at hs
 .rename_i fo sz hf;obtain⟨fields,fd,h1,h2,h3,rfl⟩:=JH hf;split at hs
  .exact hs.elim
  .rename_i hz;have qT:sz≠0:=by simpa[azc]using hz
   split at hs
   .rename_i j off ext hh;split at hs
    .rename_i hle;rw[az7]at hle;rw[hh]at hx;obtain⟨id,cs,g1,g2,g3⟩:=hx;exact .at hs hJ hn rfl ⟨id,cs,g1,g2,rfl⟩ (by simp[cq,aA,ho,g3,h1,h2,h3,qT,hle,ret])
    .exact hs.elim
   .rename_i cs hh;split at hs
    .rename_i hle;rw[az7]at hle;rw[hh]at hx;obtain⟨ds,g1,g2⟩:=hx;have hl:=g2.len;exact .at hs hJ hn rfl ⟨_,rfl,(g2.drop _).take _⟩ (by simp[cq,aA,ho,g1,h1,h2,h3,qT,hl,hle,ret])
    .exact hs.elim
   .rename_i fr cs hh;split at hs
    .rename_i hle;rw[az7]at hle;rw[hh]at hx;obtain⟨g0,⟨hf1,ds,g1,g2⟩|⟨id,off,ep,m,c7,aB,mn,a1,a2,a3,a4,a5,a6,a7,a8⟩⟩:=hx
     .have hl:=g2.len;exact .at hs hJ hn rfl ⟨λc hc=>g0 c (aAE (azI hc)),.inl ⟨hf1,_,rfl,(g2.drop _).take _⟩⟩ (by simp[cq,aA,ho,g1,h1,h2,h3,qT,hl,hle,ret])
     .have hlen:((cs.drop fd.offset).take sz).length=sz:=by simp;omega
      refine .at (x:=.ptr id (off+fd.offset) ep sz) hs hJ hn rfl ⟨λc hc=>g0 c (aAE (azI hc)),.inr ⟨id,off+fd.offset,ep,m,c7,aB,mn,a1,a2,a3,a4,by rw[hlen],by rw[hlen];omega,a7,λj c e he hc=>?_⟩⟩ (by simp[cq,aA,ho,a5,h1,h2,h3,qT,hle,ret]);rw[aza]at he;split at he
      .rw[azW]at he;exact a8 _ c e he (by rw[show off+(fd.offset+j)=off+fd.offset+j by omega];exact hc)
      .cases he
    .exact hs.elim
   .rename_i j i off ext hh;split at hs
    .rename_i hle;rw[az7]at hle;rw[hh]at hx;obtain⟨s',dE,yM,dF,z',aQ,y,n,id,cs,aB,mn,a1,a2,a3,a4,a5,a6,a7,a8,a9⟩:=hx;exact .at hs hJ hn rfl ⟨s',dE,yM,dF,z',aQ,y,n,id,cs,aB,mn,a1,a2,a3,a4,a5,by omega,a7,a8,rfl⟩ (by simp[cq,aA,ho,a9,h1,h2,h3,qT,hle,ret,Nat.add_assoc])
    .exact hs.elim
   .exact hs.elim
 .exact hs.elim
end
section
variable{Cx:Cs}
variable{P:Program}{N:Nat}{Y al:St}{R R':Rs}{X aN:Ph}{E:Nat->Env}{G:List IV}
variable{C:Cr}{Q:IV->Prop}{K:List (List IV->Prop)}{V:SS}{d:Nat}{o:Oper}{k:PV SE->SS->ak}
def AM(P:Program)(t:TypeId)(s:Nat)(e:SE):List (SE):=if isAgg P t then(azR s).map (λj=>.bC e j)else[.ok e]
theorem Di{z:IV}(h:Ev.ao z=ab):cellsOf z=[z]:=by
 cases z<;>first|rfl|(simp[Ev.ao]at h;done)
theorem Tj{t:TypeId}{s:Nat}{e:SE}{z:IV}{f:ak}(bf:aS P t=aa s)(hz:e.den P G=aa z)(hs:(tj P t e f).sat P C Q K G):
 f.sat P C Q K G/\All2 (λy (c:SE)=>c.den P G=aa y/\Ev.ao y=ab) (cellsOf z) (AM P t s e)/\(isAgg P t=ab->∃ys,z=.agg ys):=by
 unfold tj at hs;unfold AM;split at hs
 .rename_i ha;rw[if_pos ha];obtain⟨⟨y,hy⟩,hk⟩:=hs;refine⟨hk,?_⟩;simp only[SE.den,hz,bf,ayx,azh]at hy;split at hy
  .rename_i cs;split at hy
   .rename_i hc;refine⟨.mk (by simp[cellsOf,hc.1]) λi a b h1 h2=>?_,λ_=>⟨cs,rfl⟩⟩;have hi:=(ayw.1 h1).1;have cX:i<cs.length:=hi;rw[ayR,aAO ai]at h2;simp only[ay_,ayB]at h2;subst h2;have bu:Ev.ao a=ab:=(ayP.1 hc.2) a (ayM h1);have dk:cs[i]?=aa a:=h1;exact⟨by simp[SE.den,hz,dk,yr,bu],bu⟩
   .cases hy
  .cases hy
 .rename_i ha;rw[if_neg ha];obtain⟨⟨y,hy⟩,hk⟩:=hs;obtain⟨h1,h2⟩:=vF hy;rw[hz]at h1;cases h1;rw[Di h2];exact⟨hk,⟨⟨hy,h2⟩,trivial⟩,λh=>absurd h ha⟩
theorem NO{s:Nat}{z i:SE}{e:IV}(h:(SE.idx s z i).den P G=aa e):∃es y n,z.den P G=aa (.tree s es)/\i.den P G=aa y/\(∃q,y=.raw (.int q (n:Nat)))/\es[n]?=aa e/\(cellsOf e).length=s:=by
 simp only[SE.den,ayV]at h;obtain⟨a,h1,b,h2,h3⟩:=h;unfold cz at h3;split at h3
 .rename_i s' es;split at h3
  .rename_i n hn;split at h3
   .rename_i hc;split at h3
    .rename_i x hx;split at h3
     .rename_i hl;cases h3;obtain⟨rfl,h0⟩:=hc;obtain⟨q,rfl⟩:=KE hn;exact⟨es,_,n.toNat,h1,h2,⟨q,by simp;omega⟩,hx,hl⟩
     .cases h3
    .cases h3
   .cases h3
  .cases h3
 .cases h3
theorem ab6{x:IV}{s:Nat}{es:List IV}(h:jj x (.tree s es))(bt:es≠[]):x=.tree s es/\Pure x:=by
 cases h with
 |nil=>exact absurd rfl bt
 |emp=>exact absurd rfl bt
 |pure _ _ hp=>exact⟨rfl,hp⟩
 |sl _ _ _ _ _ _ _ _ _ _ _ hR=>cases hR
theorem akH{O:Type}{l:List O}{i:Nat}{a:O}(h:l[i]?=aa a):l≠[]:=by intro hl;rw[hl]at h;simp at h
theorem P3{O β:Type}{r:O->β->Prop}{q:O->β->Prop}{as:List O}{bs:List β}(h:All2 r as bs)(hq:∀a b,a∈as->r a b->q a b):All2 q as bs:=
 .mk h.len λ_ a b h1 h2=>hq a b (ayM h1) (h.get h1 h2)
theorem aiw(hJ:J Cx (ay P G) R X V.g V.l E Y){x:IV}{pv:PV SE}{e:SE}(hx:VR (ay P G) R X V.l Y x pv)(h:ue pv=aa e):∃y,e.den P G=aa y/\bD ab R Y x y/\True:=by
 unfold ue at h;split at h<;>try (cases h;done)
 .cases h;obtain⟨y,h1,h2,_⟩:=hx;exact⟨y,h1,h2.mono hJ.BH,trivial⟩
 .cases h;obtain⟨y,h1,h2,_⟩:=hx;exact⟨y,h1,h2.cP,trivial⟩
variable(hJ:J Cx (ay P G) R X V.g V.l E Y)(hn:G.length=V.n)
include hJ hn
theorem vH{e:SE}{f:SE->SS->ak}(hs:(newVar V e f).sat P C Q K G):∃z,e.den P G=aa z/\(f (.var V.n) {V with n:=V.n+1}).sat P C Q K (G++[z])/\(SE.var V.n).den P (G++[z])=aa z/\J Cx (ay P (G++[z])) R X V.g V.l E Y/\(G++[z]).length=V.n+1:=by
 obtain⟨z,h1,h2⟩:=hs;exact⟨z,h1,h2,by simp[SE.den,<-hn],hJ.up λe z h=>SE.dN P e h,by simp[hn]⟩
theorem Q7{t:TypeId}{x ix:Operand}(ho:o.op=.indexAddr t x ix)(hs:(gF P d o V k).sat P C Q K G):dK Cx P C Q K G E V.ln k (cq P E d o Y):=by
 unfold gF at hs;rw[ho]at hs;simp only at hs;have hx:=bF hJ d t x;have hi:=bF hJ d 3 ix;split at hs
 .rename_i et i hu P4;replace hi:=aiw hJ hi P4;split at hs
  .rename_i s bf;split at hs
   .rename_i z hh;rw[hh]at hx;obtain⟨e,h1,h2,hv,JJ,oO⟩:=vH hJ hn hs;obtain⟨es,y,n,g1,g2,⟨q,rfl⟩,g4,g5⟩:=NO h1;obtain⟨y',a1,a2,a3⟩:=hx;have y7:z.den P G=aa y':=a1;rw[g1]at y7;cases y7;obtain⟨hxe,hp⟩:=ab6 a2 (akH g4);obtain⟨yi,b1,b2,b3⟩:=hi;have y8:i.den P G=aa yi:=b1;rw[g2]at y8;cases y8;have GQ:=cQ b2;obtain⟨hk,jU,_⟩:=Tj bf hv h2
    have ye:∀c∈cellsOf e,Pure c:=by
     rw[hxe]at hp;cases hp with|tree _ _ hh=>exact hh e (ayM g4)
    refine⟨.m5 (cellsOf e),Y,R,X,.one (.tp (AM P et s (.var V.n))),{V with n:=V.n+1},[e],?_,JJ,⟨_,rfl,P3 jU λa b ha cn=>⟨a,cn.1,.pure a rfl (ye a ha),cn.2⟩⟩,oO,rfl,hk⟩;simp[cq,aA,ho,hu,hxe,GQ,bf,g4,g5,ret]
   .rename_i fr z hh;rw[hh]at hx;obtain⟨e,h1,h2,hv,JJ,oO⟩:=vH hJ hn hs;obtain⟨es,y,n,g1,g2,⟨q,rfl⟩,g4,g5⟩:=NO h1;obtain⟨y',a1,a2,a3⟩:=hx;have y7:z.den P G=aa y':=a1;rw[g1]at y7;cases y7;obtain⟨yi,b1,b2,b3⟩:=hi;have y8:i.den P G=aa yi:=b1;rw[g2]at y8;cases y8;have GQ:=cQ b2;obtain⟨hk,jU,_⟩:=Tj bf hv h2
    have hg0:∀c∈AM P et s (.var V.n),∃y,c.den P (G++[e])=aa y/\Ev.ao y=ab:=by
     intro c hc;obtain⟨j,hj⟩:=azO hc;obtain⟨a,_,cn⟩:=jU.Db hj;exact⟨a,cn⟩
    generalize hex:aC (E d) x=xv at a2;generalize P5:IV.tree s es=zt at a2;cases a2 with
    |nil s' br=>injection P5 with h1 h2;subst h2;simp at g4
    |emp s' br=>injection P5 with h1 h2;subst h2;simp at g4
    |pure _ hf hp=>
     subst P5
     have ye:∀c∈cellsOf e,Pure c:=by
      cases hp with|tree _ _ hh=>exact hh e (ayM g4)
     refine⟨.m5 (cellsOf e),Y,R,X,.one (.tw fr (AM P et s (.var V.n))),{V with n:=V.n+1},[e],?_,JJ,⟨hg0,.inl ⟨hf,_,rfl,P3 jU λa b ha cn=>⟨a,cn.1,.pure a rfl (ye a ha)⟩⟩⟩,oO,rfl,hk⟩;simp[cq,aA,ho,hu,hex,GQ,bf,g4,g5,ret]
    |sl id off len cap ep s' m cs aB mn aQ hR aK dk yg br hl hb hm bQ hh=>
     injection P5 with vI LZ
     subst vI LZ hl;have aj:=(ayw.1 g4).1;have hlen:(AM P et s (.var V.n)).length=s:=by rw[<-jU.len,g5]
     have eR:n*s+s<=es.length*s:=by
      have:(n+1)*s<=es.length*s:=ay4 s aj;rw[azd]at this;omega
     refine⟨.ptr id (off+n*s) ep s,Y,R,X,.one (.tw fr (AM P et s (.var V.n))),{V with n:=V.n+1},[e],?_,JJ,⟨hg0,.inr ⟨id,off+n*s,ep,m,cs,aB,mn,hR,aK,dk,yg,by rw[hlen],by rw[hlen];omega,hm,λj c ce sM hc=>?_⟩⟩,oO,rfl,hk⟩
     .simp[cq,aA,ho,hu,hex,GQ,bf,aj,ret]
     .obtain⟨a,ha,cn⟩:=jU.Db sM;exact⟨a,cn.1,hh n e j c a g4 ha (by rw[show off+n*s+j=off+(n*s)+j by omega]at hc;exact hc)⟩
    |raw v=>cases P5
    |dR=>cases P5
    |agg=>cases P5
    |aL=>cases P5
   .rename_i j hh;rw[hh]at hx;split at hs
    .rename_i s' st cut fr aQ hj;split at hs
     .rename_i je;have wZ:=ayH je;subst wZ;obtain⟨⟨e,h1⟩,hk⟩:=hs;obtain⟨es,y,n,g1,g2,⟨q,rfl⟩,g4,g5⟩:=NO h1;obtain⟨yi,b1,b2,b3⟩:=hi;have y8:i.den P G=aa yi:=b1;rw[g2]at y8;cases y8;have GQ:=cQ b2;have aj:=(ayw.1 g4).1;obtain⟨s2,st2,aeI,fr2,z2,lk,a1,a2,a3⟩:=hx;rw[hj]at a1;cases a1;have AL:aQ.den P G=aa (.tree s lk):=a2;rw[g1]at AL;cases AL;rcases a3 with⟨_,c2,_⟩|⟨id,cs,aB,mn,cap,c1,c2,c3,c4,c5,c6⟩
      .omega
      .refine .at (x:=.ptr id (n*s+0) aB s) hk hJ hn rfl ⟨s,st,cut,fr,aQ,es,_,n,id,cs,aB,mn,hj,g1,g2,by simp[nat?],aj,by omega,c1,c2,rfl⟩ ?_;simp[cq,aA,ho,hu,c3,GQ,bf,aj,ret]
     .exact hs.elim
    .exact hs.elim
   .exact hs.elim
  .exact hs.elim
 .rename_i n et i hu P4;rw[P4]at hi
  have GQ:aC (E d) ix=.raw (.int .i64 i):=by
   obtain⟨y,h1,h2,_⟩:=hi;simp only[ay,SE.den,ayB]at h1;subst h1;exact cQ h2
  split at hs
  .rename_i s j off ext bf hh;rw[hh]at hx;obtain⟨id,cs,g1,g2,g3⟩:=hx;split at hs
   .rename_i hc;simp only[ayz,azn,decide_eq_true_eq,Nat.blt_eq,az7]at hc;obtain⟨⟨⟨c1,c2⟩,c3⟩,c4⟩:=hc;have vJ:s≠0:=by intro h;subst h;simp at c1
    refine .at (x:=.ptr id (off+i.toNat*s) 0 s) hs hJ hn rfl ⟨id,cs,g1,g2,rfl⟩ ?_;have:i<n:=ai;simp[cq,aA,ho,hu,g3,GQ,bf,vJ,c2,this,c4,ret]
   .exact hs.elim
  .exact hs.elim
  .exact hs.elim
 .exact hs.elim
end
section
variable{Cx:Cs}
variable{P:Program}{N:Nat}{Y al:St}{R R':Rs}{X aN:Ph}{E:Nat->Env}{G:List IV}
variable{C:Cr}{Q:IV->Prop}{K:List (List IV->Prop)}{V:SS}{d:Nat}{o:Oper}{k:PV SE->SS->ak}
theorem Ws{op:BinOp}{t:TypeId}{x y x' y':Operand}{u v:Value}(h:u≠.nilIface):eqGuard op t x y u v=eqGuard op t x' y' u v:=by
 unfold eqGuard;cases u<;>first|exact absurd rfl h|rfl|(cases v<;>rfl)
theorem Tk{op:BinOp}{t:TypeId}{x y x' y':Operand}{a b:IV}{u v:Value}(ha:nc a=aa u)(hb:nc b=aa v)(h:u≠.nilIface):tU P op t x y a b=tU P op t x' y' a b:=by
 unfold tU;split<;>first|rfl|skip
 rw[ha,hb];simp only;rw[Ws (x:=x) (y:=y) (x':=x') (y':=y') h]
theorem ab7{op:BinOp}{t:TypeId}{a b z:IV}(h:cO P op t a b=aa z){f g:Bool}{xa xb:IV}(ha:bD f R Y xa a)(hb:bD g R Y xb b)(ox oy:Operand):tU P op t ox oy xa xb=aa z:=by
 unfold cO at h;split at h
 .cases h
 .rename_i u v bt hu hv;rw[Fg ha hu,Fg hb hv,Tk (x':=.func 0) (y':=.func 0) hu hv (λhc=>bt hc)];exact h
 .cases h
variable(hJ:J Cx (ay P G) R X V.g V.l E Y)(hn:G.length=V.n)
include hJ hn
theorem Tl(v:Value):jj (lift v) (lift v):=by
 unfold lift;split
 .refine .agg _ _ rfl λi c e h1 h2=>?_;rw[h1]at h2;cases h2;rw[ayR]at h1;obtain⟨u,_,rfl⟩:=ayG.1 h1;exact .raw u
 .exact .raw _
omit hJ hn in
theorem Tn{op:BinOp}{t:TypeId}{x y:Operand}{a b z:IV}(h:tU P op t x y a b=aa z):jj z z:=by
 unfold tU at h;split at h<;>first|(cases h;exact .raw _)|skip
 .split at h
  .cases h;exact .raw _
  .cases h
 .split at h
  .obtain⟨v,_,rfl⟩:=ayG.1 h;unfold lift;split
   .refine .agg _ _ rfl λi c e h1 h2=>?_;rw[h1]at h2;cases h2;rw[ayR]at h1;obtain⟨u,_,rfl⟩:=ayG.1 h1;exact .raw u
   .exact .raw _
  .split at h
   .split at h
    .cases h;exact .raw _
    .cases h;exact .raw _
    .cases h
   .split at h
    .cases h;exact .raw _
    .cases h;exact .raw _
    .cases h
theorem L0{op:BinOp}{t yt:TypeId}{x y:Operand}{a b:SE}(ho:o.op=.binOp op t x y yt){f g:Bool}(ha:∀z,a.den P G=aa z->bD f R Y (aC (E d) x) z)(hb:∀z,b.den P G=aa z->bD g R Y (aC (E d) y) z)
 (hs:(vk (.ok (.bin op t a b)) V k).sat P C Q K G):dK Cx P C Q K G E V.ln k (cq P E d o Y):=by
 obtain⟨⟨z,hz⟩,hk⟩:=hs;obtain⟨h1,h2⟩:=vF hz;simp only[SE.den,ayV]at h1;obtain⟨u,h3,v,h4,h5⟩:=h1;have h6:=ab7 h5 (ha u h3) (hb v h4) x y;exact .at (x:=z) hk hJ hn rfl ⟨z,hz,Tn h6,h2⟩ (by simp[cq,aA,ho,h6,ret])
theorem akI{op:UnOp}{t:TypeId}{x:Operand}(ho:o.op=.unOp op t x)(hs:(gF P d o V k).sat P C Q K G):dK Cx P C Q K G E V.ln k (cq P E d o Y):=by
 unfold gF at hs;rw[ho]at hs;simp only at hs;have hx:=bF hJ d 0 x
 have main:∀a:SE,(∀z,a.den P G=aa z->bD ab R Y (aC (E d) x) z)->(vk (.ok (.un op a)) V k).sat P C Q K G->dK Cx P C Q K G E V.ln k (cq P E d o Y):=by
  intro a ha hs;obtain⟨⟨z,hz⟩,hk⟩:=hs;obtain⟨h1,h2⟩:=vF hz;simp only[SE.den,ayV]at h1;obtain⟨u,h3,h4⟩:=h1;unfold Rp at h4;split at h4
  .rename_i v;have hv:=cQ (ha _ h3);obtain⟨r,hr,rfl⟩:=ayG.1 h4;exact .at (x:=lift r) hk hJ hn rfl ⟨_,hz,Tl hJ hn r,h2⟩ (by simp[cq,aA,ho,hv,hr,ret])
  .cases h4
 split at hs
 .rename_i t' hh;rw[hh]at hx;have hb:=Te hJ hn hx;split at hs
  .refine .at (x:=.raw (.bool (!t'))) hs hJ hn rfl ⟨_,rfl,.raw _,rfl⟩ ?_;simp[cq,aA,ho,hb,ret,Op.unary,aP,lift,pure]
  .exact hs.elim
 .rename_i a _ hh;rw[hh]at hx;obtain⟨y,h1,h2,_⟩:=hx;exact main a (λz hz=>by have dk:a.den P G=aa y:=h1;rw[hz]at dk;cases dk;exact h2.mono hJ.BH) hs
 .rename_i f a hh;rw[hh]at hx;obtain⟨y,h1,h2,_⟩:=hx;exact main a (λz hz=>by have dk:a.den P G=aa y:=h1;rw[hz]at dk;cases dk;exact h2.cP) hs
 .exact hs.elim
theorem akJ{src dst:TypeId}{x:Operand}(ho:o.op=.convert src dst x)(hs:(gF P d o V k).sat P C Q K G):dK Cx P C Q K G E V.ln k (cq P E d o Y):=by
 unfold gF at hs;rw[ho]at hs;simp only at hs;have hx:=bF hJ d src x
 have main:∀a:SE,(∀z,a.den P G=aa z->bD ab R Y (aC (E d) x) z)->(vk (.ok (.cv src dst a)) V k).sat P C Q K G->dK Cx P C Q K G E V.ln k (cq P E d o Y):=by
  intro a ha hs;obtain⟨⟨z,hz⟩,hk⟩:=hs;obtain⟨h1,h2⟩:=vF hz;simp only[SE.den,ayV]at h1;obtain⟨u,h3,h4⟩:=h1;unfold Fb at h4;split at h4
  .rename_i b;have hv:=cQ (ha _ h3);split at h4
   .rename_i q Bi Jn;cases h4;exact .at (x:=.raw (.string b)) hk hJ hn rfl ⟨_,hz,.raw _,h2⟩ (by simp[cq,aA,ho,hv,Bi,Jn,ret])
   .cases h4
  .rename_i v hnv;have hv:=cQ (ha _ h3);obtain⟨r,hr,rfl⟩:=ayG.1 h4;refine .at (x:=lift r) hk hJ hn rfl ⟨_,hz,Tl hJ hn r,h2⟩ ?_;unfold cq aA;rw[ho];simp only[hv,hr,ret]
  .cases h4
 split at hs
 .rename_i a hh;rw[hh]at hx;obtain⟨y,h1,h2,_⟩:=hx;exact main a (λz hz=>by have dk:a.den P G=aa y:=h1;rw[hz]at dk;cases dk;exact h2.mono hJ.BH) hs
 .rename_i f a hh;rw[hh]at hx;obtain⟨y,h1,h2,_⟩:=hx;exact main a (λz hz=>by have dk:a.den P G=aa y:=h1;rw[hz]at dk;cases dk;exact h2.cP) hs
 .exact hs.elim
theorem Wt{x:Operand}{i:Nat}(ho:o.op=.extract x i)(hs:(gF P d o V k).sat P C Q K G):dK Cx P C Q K G E V.ln k (cq P E d o Y):=by
 unfold gF at hs;rw[ho]at hs;simp only at hs;have hx:=bF hJ d 0 x;split at hs
 .rename_i vs hh;rw[hh]at hx;obtain⟨xs,h1,h2⟩:=hx;split at hs
  .rename_i cs hi;obtain⟨a,ha,hr⟩:=h2.Db hi;refine .here (x:=a) (pv:=.ag cs) (au:=Y) (by simp[cq,aA,ho,h1,ha,ret]) hJ ?_ hn rfl hs;simpa[wA,VR]using hr
  .rename_i c hi;obtain⟨a,ha,hr⟩:=h2.Db hi;refine .at (x:=a) hs hJ hn rfl ?_ (by simp[cq,aA,ho,h1,ha,ret]);simpa[wA]using hr
  .exact hs.elim
 .exact hs.elim
theorem ab8{t:TypeId}{x:Operand}{f:Nat}(ho:o.op=.field t x f)(hs:(gF P d o V k).sat P C Q K G):dK Cx P C Q K G E V.ln k (cq P E d o Y):=by
 unfold gF at hs;rw[ho]at hs;simp only at hs;have hx:=bF hJ d t x;split at hs
 .rename_i cs fo sz hh hf;rw[hh]at hx;obtain⟨xs,h1,h2⟩:=hx;obtain⟨fields,fd,g1,g2,g3,rfl⟩:=JH hf;rw[g1]at hs;simp only at hs;split at hs
  .rename_i hc;simp only[ayz,az7,Option.isSome_iff_exists]at hc;obtain⟨hle,b,hb⟩:=hc;rw[g2]at hs hb;simp only[ay_,azh]at hs hb
   obtain⟨pv,hk,sj⟩:∃pv,(k pv V).sat P C Q K G/\(if isAgg P fd.type=ab then pv=.ag ((cs.drop fd.offset).take sz)else∃c,(cs.drop fd.offset).take sz=[c]/\pv=.one c):=by
    split at hs
    .rename_i ha;split at hs
     .exact⟨_,hs,by rw[if_pos ha]⟩
     .exact hs.elim
    .rename_i ha;split at hs
     .rename_i c jh;exact⟨_,hs,by rw[if_neg ha];exact⟨c,jh,rfl⟩⟩
     .exact hs.elim
   obtain⟨v,hv,hr⟩:=uQ g3 hb h2 hle sj;exact .here (x:=v) (pv:=pv) (au:=Y) (by simp[cq,aA,ho,h1,g1,g2,hv,ret]) hJ hr hn rfl hk
  .exact hs.elim
 .exact hs.elim
end
section
variable{Cx:Cs}
variable{P:Program}{N:Nat}{Y al:St}{R R':Rs}{X aN:Ph}{E:Nat->Env}{G:List IV}
variable{C:Cr}{Q:IV->Prop}{K:List (List IV->Prop)}{V:SS}{d:Nat}{o:Oper}{k:PV SE->SS->ak}
theorem Dj{s:Nat}{es:List IV}(h:iz s es=ab):(∀e∈es,(cellsOf e).length=s)/\∀c∈flat es,Ev.ao c=ab:=by
 unfold iz at h;rw[ayP]at h;refine⟨λe he=>?_,λc hc=>?_⟩
 .have:=h e he;simp only[ayz,beq_iff_eq]at this;exact this.1
 .obtain⟨e,he,sM⟩:=azJ.1 hc;have:=h e he;simp only[ayz,ayP]at this;exact this.2 c sM
theorem To(a b:List IV):flat (a++b)=flat a++flat b:=by simp[flat]
def qU(fr:Bool)(R:Rs)(Y:St)(cs ds:List IV):Prop:=∀(j:Nat) x d,cs[j]?=aa x->ds[j]?=aa d->bD fr R Y x d
theorem NP{fr:Bool}{x:IV}{s:Nat}{es:List IV}(cm:0<s)(h:bD fr R Y x (.tree s es))(bu:iz s es=ab):
 qi x=aa es.length/\∃new,fQ s es.length Y x=aa new/\new.length=es.length*s/\qU fr R Y new (flat es)/\new.all Ev.ao=ab:=by
 obtain⟨h1,h2⟩:=Dj bu;generalize hz:IV.tree s es=z at h;cases h with
 |nil s' br=>injection hz with a b;subst a b;exact⟨rfl,[],by simp[fQ],by simp,λj x d h=>by simp at h,rfl⟩
 |emp s' br=>injection hz with a b;subst a b;exact⟨rfl,[],by simp[fQ],by simp,λj x d h=>by simp at h,rfl⟩
 |pure _ hf hp=>
  subst hz;refine⟨rfl,flat es,by simp[fQ,flat],ug h1,λj x d hx hd=>?_,ayP.2 h2⟩;rw[hx]at hd;cases hd;refine .pure x hf ?_;obtain⟨e,he,sM⟩:=azJ.1 (ayM hx);cases hp with|tree _ _ hh=>exact hh e he x sM
 |sl id off len cap ep s' m cs aB mn aQ hR aK a1 a2 br hl hb hm bQ hh=>
  injection hz with a b
  subst a b hl
  have agz:qU fr R Y ((cs.drop off).take (es.length*s)) (flat es):=by
   intro j x d hx hd;have hj:j<es.length*s:=by have:=(ayw.1 hd).1;rw[ug h1]at this;exact this
   rw[aza,if_pos hj,azW]at hx
   have hi:j/s<es.length:=by
    rw[Nat.div_lt_iff_lt_mul cm];exact hj
   have he:es[j/s]?=aa es[j/s]:=ayv hi;have om:j % s<(cellsOf es[j/s]).length:=by rw[h1 _ (ayy hi)];exact Nat.mod_lt _ cm
   have sM:(cellsOf es[j/s])[j % s]?=aa (cellsOf es[j/s])[j % s]:=ayv om;have hjj:j/s*s+j % s=j:=Nat.div_add_mod' j s;have hf:=KD h1 he sM;rw[hjj,hd]at hf;cases hf;exact hh _ _ _ x _ he sM (by rw[show off+j/s*s+j % s=off+j by omega];exact hx)
  refine⟨rfl,(cs.drop off).take (es.length*s),?_,by simp;omega,agz,?_⟩
  .simp only[fQ];rw[if_pos ⟨trivial,ayA _⟩,aK];simp only;rw[if_pos ⟨a1,a2,by omega⟩]
  .rw[ayP];intro c hc;obtain⟨j,hj⟩:=azO hc;have aj:=(ayw.1 hj).1;have bJ:j<(flat es).length:=by rw[ug h1];simp at aj;omega
   exact(agz j c _ hj (ayv bJ)).ao (h2 _ (ayy bJ))
 |raw v=>cases hz
 |dR=>cases hz
 |agg=>cases hz
 |aL=>cases hz
theorem Tp{L:List (LO SE)}{Γ:Gm SE}(h:J Cx (ay P G) R X Γ L E Y){k s:Nat}{st cut fr:Bool}{z:SE}{x:IV}{es:List IV}(hk:L[k]?=aa (.row s st cut fr z))(hz:z.den P G=aa (.tree s es))(hx:cZ (ay P G) R X L Y x (.sr k)):
 qi x=aa es.length/\∃new,fQ s es.length Y x=aa new/\new.length=es.length*s/\qU fr R Y new (flat es)/\new.all Ev.ao=ab:=by
 obtain⟨cm,lk,g1,g2,g3⟩:=h.obj k _ hk;have qS:z.den P G=aa (.tree s lk):=g1;rw[hz]at qS;cases qS;obtain⟨s2,st2,aeI,fr2,z2,Tq,a1,a2,a3⟩:=hx;rw[hk]at a1;cases a1;have AL:z.den P G=aa (.tree s Tq):=a2;rw[hz]at AL;cases AL;rcases a3 with⟨_,b2,b3⟩|⟨id,cs,aB,mn,cap,b1,b2,rfl,b4,b5,b6⟩
 .have:es=[]:=ayZ b2;subst this;rcases b3 with rfl|rfl
  .exact⟨rfl,[],by simp[fQ],by simp,λj x d h=>by simp at h,rfl⟩
  .exact⟨rfl,[],by simp[fQ],by simp,λj x d h=>by simp at h,rfl⟩
 .rcases g3 with⟨g3,_⟩|⟨bz,cY,kg,si,g3,g4,g5,g6,g7,g8,g9⟩
  .rw[b1]at g3;cases g3
  .rw[b1]at g3;cases g3;rw[b2]at g4;cases g4;refine⟨by simp[qi],cs.take (es.length*s),?_,by simp;omega,λj x d hx hd=>?_,?_⟩
   .simp only[fQ];rw[if_pos ⟨trivial,by simp⟩,b2];simp only;rw[if_pos ⟨g5,ayA _,by omega⟩];simp
   .rw[aza]at hx;split at hx
    .exact g9 j x d hx hd
    .cases hx
   .rw[ayP]at g8⊢;exactλc hc=>g8 c (azI hc)
theorem Z6{fr dF:Bool}{cs ds cY sg:List IV}(h:qU fr R Y cs ds)(hl:cs.length=ds.length)(h':qU dF R Y cY sg):qU (fr||dF) R Y (cs++cY) (ds++sg):=by
 intro j x d hx hd;by_cases hj:j<cs.length
 .rw[ayK hj]at hx;rw[ayK ai]at hd;exact(h j x d hx hd).wide (λh=>by simp[h])
 .rw[ay0 ai]at hx;rw[ay0 ai,<-hl]at hd;exact(h' _ x d hx hd).wide (λh=>by simp[h])
end
section
variable{Cx:Cs}
variable{P:Program}{N:Nat}{Y al:St}{R R':Rs}{X aN:Ph}{E:Nat->Env}{G:List IV}
variable{C:Cr}{Q:IV->Prop}{K:List (List IV->Prop)}{V:SS}{d:Nat}{o:Oper}{k:PV SE->SS->ak}{L:List (LO SE)}{Γ:Gm SE}
theorem J.reZ(h:J Cx (ay P G) R X Γ L E Y){k s:Nat}{st cut fr dF:Bool}{z z':SE}{es:List IV}(hk:L[k]?=aa (.row s st cut fr z))(hz:z.den P G=aa (.tree s es))(qT:z'.den P G=aa (.tree s es))(hf:fr=ab->dF=ab):
 la (ay P G) (ay P G) R X L Y R X (L.set k (.row s st cut dF z')) Y (λ_=>False)/\J Cx (ay P G) R X Γ (L.set k (.row s st cut dF z')) E Y:=by
 have lH:=du hk;have bt:∀j,j≠k->(L.set k (.row s st cut dF z'))[j]?=L[j]? :=λj hj=>aAo (λhc=>hj hc.symm);have bG:(L.set k (.row s st cut dF z'))[k]?=aa (.row s st cut dF z'):=by simp[lH]
 have hs:la (ay P G) (ay P G) R X L Y R X (L.set k (.row s st cut dF z')) Y (λ_=>False):=by
  refine⟨λ_ _ h=>h,ji.refl h.fits,λj uP hj=>?_,λj kt gg hj=>?_,λj s1 mX vE vD z1 hj _=>?_,λj c mX snap hj=>?_⟩
  .by_cases bB:j=k
   .subst bB;rw[hk]at hj;cases hj
   .exact⟨⟨uP,by rw[bt j bB];exact hj⟩,rfl⟩
  .by_cases bB:j=k
   .subst bB;rw[hk]at hj;cases hj
   .exact⟨⟨gg,by rw[bt j bB];exact hj⟩,rfl⟩
  .by_cases bB:j=k
   .subst bB;rw[hk]at hj;cases hj;refine⟨⟨st,dF,z',bG,λgg lF=>⟨es,qT,?_⟩⟩,rfl,λ_ uP _ Eb _ po=>⟨uP,Eb,po,rfl,λh=>h⟩⟩;have Th:z.den P G=aa (.tree s gg):=lF;rw[hz]at Th;cases Th;rfl
   .exact⟨⟨mX,vD,z1,by rw[bt j bB];exact hj,λgg lF=>⟨gg,lF,rfl⟩⟩,rfl,λ_ uP _ Eb _ po=>⟨uP,Eb,po,rfl,λh=>h⟩⟩
  .have bB:j≠k:=λhc=>by subst hc;rw[hk]at hj;cases hj
   exact⟨⟨c,mX,snap,by rw[bt j bB];exact hj⟩,rfl⟩
 refine⟨hs,{h with slot:=λd t pv hg=>(h.slot d t pv hg).step hs pv.a_,obj:=λj o hj=>?_,lt:=λj id hj=>by simpa using h.lt j id hj}⟩;by_cases bB:j=k
 .subst bB;rw[bG]at hj;cases hj;obtain⟨cm,lk,g1,g2,g3⟩:=h.obj j _ hk;have qS:z.den P G=aa (.tree s lk):=g1;rw[hz]at qS;cases qS;refine⟨cm,es,qT,g2,?_⟩;rcases g3 with g3|⟨bz,cY,kg,si,g3,g4,g5,g6,g7,g8,g9⟩
  .exact .inl g3
  .exact .inr ⟨bz,cY,kg,si,g3,g4,g5,g6,g7,g8,λj x d hx hd=>(g9 j x d hx hd).wide hf⟩
 .rw[bt j bB]at hj;exact(h.obj j o hj).step hs rfl (λ_ _=>⟨rfl,rfl⟩) o.a_
theorem Xh{Y:St}(hw:Y.t.WF)(id:Nat)(a b:Ob):(Y.put id a).put id b=Y.put id b:=by
 unfold St.put
 congr 1
 refine T.WF.ext ((hw.set _ _).set _ _) (hw.set _ _) λi=>?_;simp only[T.gV];split<;>rfl
theorem AN{s len n:Nat}{new cP:List IV}{x:IV}(h:fQ s len Y x=aa cP)(hl:cP.length=len*s):f_ s len n new x Y=ret (.sl Y.n 0 (len+n) ah 0 s) (Y.add (.cells (cP++new) 0 0)):=by
 simp[f_,h,hl]
theorem L4(h:J Cx (ay P G) R X Γ L E Y){k s:Nat}{st cut fr dF:Bool}{z z':SE}{es fs new:List IV}{x:IV}(hk:L[k]?=aa (.row s st cut fr z))(hz:z.den P G=aa (.tree s es))(qT:z'.den P G=aa (.tree s (es++fs)))
 (hx:cZ (ay P G) R X L Y x (.sr k))(GF:new.length=fs.length*s)(LI:qU dF R Y new (flat fs))(hnc:new.all Ev.ao=ab)(hfs:∀e∈fs,(cellsOf e).length=s)(uR:(st&&cut)=af)
 (PS:∀d t pv,cN d t Γ=aa pv->pv.ok (·=k))(hL:∀j o,L[j]?=aa o->j≠k->o.ok (·=k)):
 ∃x' al R' aN,fw 0 s es.length fs.length new x Y=aa (.val x' al)/\J Cx (ay P G) R' aN Γ (L.set k (.row s st cut (dF||fr) z')) E al/\cZ (ay P G) R' aN (L.set k (.row s st cut (dF||fr) z')) al x' (.sr k):=by
 obtain⟨cm,lk,g1,g2,g3⟩:=h.obj k _ hk;have qS:z.den P G=aa (.tree s lk):=g1;rw[hz]at qS;cases qS;have lH:=du hk;have bG:(L.set k (.row s st cut (dF||fr) z'))[k]?=aa (.row s st cut (dF||fr) z'):=by simp[lH]
 have akK:∀e∈es++fs,(cellsOf e).length=s:=λe he=>(ayS.1 he).elim (g2 e) (hfs e);have mA:=hx;obtain⟨s2,st2,aeI,fr2,z2,Tq,a1,a2,a3⟩:=hx;rw[hk]at a1;cases a1;have AL:z.den P G=aa (.tree s Tq):=a2;rw[hz]at AL;cases AL;by_cases kM:fs.length=0
 .have at6:fs=[]:=ayZ kM;subst at6;rw[ayO]at qT;obtain⟨hs,hJ⟩:=h.reZ (dF:=dF||fr) hk hz qT (λh=>by simp[h]);refine⟨x,Y,R,X,?_,hJ,mA.step hs (Cl.a_ _)⟩;rcases a3 with⟨_,_,rfl|rfl⟩|⟨id,cs,aB,mn,cap,_,_,rfl,_⟩<;>simp[fw,ret]
 have fresh:∀cP:List IV,cP.length=es.length*s->(∀(j:Nat) x d,cP[j]?=aa x->(flat es)[j]?=aa d->bD fr R Y x d)->cP.all Ev.ao=ab->
  ∃R' aN,J Cx (ay P G) R' aN Γ (L.set k (.row s st cut (dF||fr) z')) E (Y.add (.cells (cP++new) 0 0))/\cZ (ay P G) R' aN (L.set k (.row s st cut (dF||fr) z')) (Y.add (.cells (cP++new) 0 0)) (.sl Y.n 0 (es.length+fs.length) ah 0 s) (.sr k):=by
  intro cP P6 ho2 ho3
  let R':Rs:=λi=>if i=Y.n then(if st then aa ((es++fs).length*s)else ah)else R i
  have hlen:(cP++new).length=(es++fs).length*s:=by simp[P6,GF,azd]
  obtain⟨hs,hJ⟩:=h.akm (R':=R') (bad:=(·=k)) (lg:=.row s st cut (dF||fr) z') (fK:=.cells (cP++new) 0 0) hk (λj hj=>by simp[R',hj])
   (λm cs aB mn hm ho=>by
    injection ho with P6 ho2 ho3
    subst P6;simp only[R',if_true]at hm;split at hm
    .cases hm;rw[hlen];exact ayA _
    .cases hm)
   ⟨_,_,_,_,_,rfl⟩ rfl PS hL
   (λhs=>⟨cm,es++fs,qT,akK,.inr ⟨Y.n,cP++new,0,0,by simp[cA],by simp,ayA _,by rw[hlen];exact ayA _,by simp[R'],by rw[aCa,ho3,hnc];rfl,λj x d hx hd=>by
    rw[To]at hd;have hc:=Z6 ho2 (by rw[P6,ug g2]) LI j x d hx hd;rw[Bool.or_comm]at hc;exact hc.mono hs.grow⟩⟩)
  refine⟨R',cA X k Y.n,hJ,s,st,cut,dF||fr,z',es++fs,bG,qT,.inr ⟨Y.n,cP++new,0,0,ah,by simp[cA],by simp,by simp,azi _,λ_ _=>hlen.symm,λc hc=>by cases hc⟩⟩
 rcases a3 with⟨b1,b2,b3⟩|⟨id,cs,aB,mn,cap,b1,b2,rfl,b4,b5,b6⟩
 .have he0:es=[]:=ayZ b2;subst he0;obtain⟨R',aN,hJ,hV⟩:=fresh [] ax (λj x d h=>by simp at h) rfl;refine⟨_,_,R',aN,?_,hJ,hV⟩;rcases b3 with rfl|rfl
  .simp only[fw];rw[if_pos ⟨trivial,trivial⟩,if_neg kM,AN (cP:=[]) (by simp[fQ]) ax];rfl
  .simp only[fw];rw[if_neg kM,AN (cP:=[]) (by simp[fQ]) ax];rfl
 .rcases g3 with⟨g3,_⟩|⟨bz,cY,kg,si,g3,g4,g5,g6,g7,g8,g9⟩
  .rw[b1]at g3;cases g3
  rw[b1]at g3;cases g3;rw[b2]at g4;cases g4
  have hold:fQ s es.length Y (.sl id (0*s) (es.length- 0) cap aB s)=aa (cs.take (es.length*s)):=by
   simp only[fQ];rw[if_pos ⟨trivial,by simp⟩,b2];simp only;rw[if_pos ⟨g5,ayA _,by omega⟩];simp
  have Rq:(cs.take (es.length*s)).length=es.length*s:=by simp;omega
  have aoS:∀(j:Nat) x d,(cs.take (es.length*s))[j]?=aa x->(flat es)[j]?=aa d->bD fr R Y x d:=λj x d hx hd=>by
   rw[aza]at hx;split at hx
   .exact g9 j x d hx hd
   .cases hx
  have agA:(cs.take (es.length*s)).all Ev.ao=ab:=by
   rw[ayP]at g8⊢;exactλc hc=>g8 c (azI hc)
  have NQ:∀(ob:List IV) (vC GO:Nat),(R id=ah\/(GO=mn/\aB<=vC))->GO<=vC->(∀j,j<es.length*s->ob[j]?=cs[j]?)->(∀j,j<new.length->ob[es.length*s+j]?=new[j]?)->(es++fs).length*s<=ob.length->ob.all Ev.ao=ab->
   ∀Ts,(Ts=ah->cut=af->(es++fs).length*s=ob.length)->(∀c,Ts=aa c->GO=vC/\c*s<=ob.length/\(es++fs).length<=c)->
   ∃R',J Cx (ay P G) R' X Γ (L.set k (.row s st cut (dF||fr) z')) E (Y.put id (.cells ob vC GO))/\cZ (ay P G) R' X (L.set k (.row s st cut (dF||fr) z')) (Y.put id (.cells ob vC GO)) (.sl id 0 (es.length+fs.length) Ts vC s) (.sr k):=by
   intro ob vC GO hRm hmc akL at7 akM aua Ts aoT Z7
   let R':Rs:=λi=>if i=id then(if st then aa ((es++fs).length*s)else ah)else R i
   have Fe:R id=if st then aa (es.length*s)else ah:=g7
   obtain⟨hs,hJ⟩:=h.vu (R':=R') (bad:=(·=k)) (lg:=.row s st cut (dF||fr) z') (fK:=.cells ob vC GO) b1 hk (λj hj=>by simp[R',hj])
    (λm hm=>by
     rw[Fe]at hm;split at hm
     .rename_i bI;cases hm;exact⟨(es++fs).length*s,by simp[R',bI],ay4 s ax⟩
     .cases hm)
    (λm uP Ff Eb hm aK=>by
     rw[b2]at aK;cases aK;rcases hRm with hRm|⟨rfl,hle⟩
     .rw[hRm]at hm;cases hm
     .rw[Fe]at hm;split at hm
      .cases hm;exact⟨ob,vC,rfl,hle,akL⟩
      .cases hm)
    (λm uP Ff Eb hm ho=>by
     injection ho with P6 _ _
     subst P6;simp only[R',if_true]at hm;split at hm
     .cases hm;exact akM
     .cases hm)
    (λcs h=>by cases h) (λkt es h=>by cases h) (λ_ _ _ _ _ _=>rfl) PS hL
    (λhs=>⟨cm,es++fs,qT,akK,.inr ⟨id,ob,vC,GO,b1,by rw[St.dv,if_pos rfl],hmc,akM,by simp[R'],aua,λj x d hx hd=>by
     rw[To]at hd;have hfl:=ug g2;by_cases hj:j<es.length*s
     .rw[ayK ai]at hd;rw[akL j hj]at hx;exact((g9 j x d hx hd).wide (λh=>by simp[h])).mono hs.grow
     .rw[ay0 ai,hfl]at hd
      have Bm:j- es.length*s<new.length:=by
       have:=(ayw.1 hd).1;rw[ug hfs]at this;omega
      rw[show j=es.length*s+(j- es.length*s) by omega,at7 _ Bm]at hx;exact((LI _ x d hx hd).wide (λh=>by simp[h])).mono hs.grow⟩⟩)
   exact⟨R',hJ,s,st,cut,dF||fr,z',es++fs,bG,qT,.inr ⟨id,ob,vC,GO,Ts,b1,by rw[St.dv,if_pos rfl],by simp,azi _,aoT,λc hc=>⟨(Z7 c hc).1,by simpa using(Z7 c hc).2.1,by simpa using(Z7 c hc).2.2⟩⟩⟩
  have Z8:(es++fs).length*s=es.length*s+fs.length*s:=by simp[azd]
  cases cap with
  |some c=>
   obtain⟨e1,e2,e3⟩:=b6 c rfl;by_cases vc:es.length+fs.length<=c
   .have ayk:es.length*s+fs.length*s<=cs.length:=by
     have:(es.length+fs.length)*s<=c*s:=ay4 s vc;rw[azd]at this;omega
    obtain⟨R',hJ,hV⟩:=NQ (eX cs (es.length*s) new) aB aB (.inr ⟨e1.symm,ayA _⟩) (ayA _)
     (λj hj=>by rw[ry (O:=IV) ai,if_neg ai])
     (λj hj=>by rw[ry (O:=IV) ai,if_pos ai];congr 1;omega)
     (by rw[zm ai];omega) (Fh g8 hnc) (aa c) (λh=>by cases h) (λc' DN=>by cases DN;exact⟨rfl,by rw[zm ai];omega,by simpa using vc⟩)
    refine⟨_,_,R',X,?_,hJ,hV⟩;simp only[fw];rw[if_neg ax,if_neg kM];simp only[b2,aBW,aA_,azP];rw[if_pos vc,if_pos ⟨azi _,trivial,by rw[azd];omega⟩];rfl
   .obtain⟨R',aN,hJ,hV⟩:=fresh _ Rq aoS agA;refine⟨_,_,R',aN,?_,hJ,hV⟩;simp only[fw];rw[if_neg ax,if_neg kM];simp only[aBW];rw[if_neg vc,AN (by simpa using hold) Rq];rfl
  |none=>
   by_cases Tt:es.length*s=cs.length
   .obtain⟨R',hJ,hV⟩:=NQ (cs++new) (aB+1) mn (.inr ⟨rfl,by omega⟩) ai
     (λj hj=>by rw[ayK ai])
     (λj hj=>by rw[ay0 ai];congr 1;omega)
     (by rw[Z8,ayC];omega) (by rw[aCa,g8,hnc];rfl) ah (λ_ _=>by rw[Z8,ayC];omega) (λc h=>by cases h)
    refine⟨_,_,R',X,?_,hJ,hV⟩;simp only[fw];rw[if_neg ax,if_neg kM];simp only[b2,aBW,aA_];rw[if_pos ⟨azi _,trivial,trivial,Tt⟩];rfl
   .have Tu:cut=ab:=by
     cases hc:cut with
     |true=>rfl
     |false=>exact absurd (b5 rfl hc) Tt
    have bI:st=af:=by rw[Tu]at uR;simpa using uR
    obtain⟨R',hJ,hV⟩:=NQ (cs.take (es.length*s)++new) (aB+1+1) (aB+1) (.inl (by rw[g7,bI];rfl)) ai
     (λj hj=>by rw[ayK ai,aza,if_pos hj])
     (λj hj=>by rw[ay0 ai,Rq];congr 1;omega)
     (by rw[Z8,ayC,Rq];omega) (by rw[aCa,agA,hnc];rfl) ah (λ_ h=>by rw[Tu]at h;cases h) (λc h=>by cases h)
    refine⟨.sl id 0 (es.length+fs.length) ah (aB+1+1) s,(Y.put id (.cells (cs.take (es.length*s)) (aB+1) (aB+1))).put id (.cells (cs.take (es.length*s)++new) (aB+1+1) (aB+1)),R',X,?_,?_,?_⟩
    .simp only[fw];rw[if_neg ax,if_neg kM];simp only[b2,aBW,aA_];rw[if_neg (λhc=>Tt hc.2.2.2),if_pos ⟨azi _,trivial,trivial,g6⟩];rfl
    .rw[Xh h.wf];exact hJ
    .rw[Xh h.wf];exact hV
end
section
variable{Cx:Cs}
variable{P:Program}{N:Nat}{Y al:St}{R R':Rs}{X aN:Ph}{E:Nat->Env}{G:List IV}
variable{C:Cr}{Q:IV->Prop}{K:List (List IV->Prop)}{V:SS}{d:Nat}{o:Oper}{k:PV SE->SS->ak}{L:List (LO SE)}{Γ:Gm SE}
theorem jm(h:J Cx (ay P G) R X V.g V.l E Y)(d:Nat):∀(ops:List Operand) (ts:List TypeId),All2 (VR (ay P G) R X V.l Y) (ops.map (aC (E d))) (kF P d V ops ts)
 |[],_=>trivial
 |x::xs,t::ts=>⟨bF h d t x,jm h d xs ts⟩
 |x::xs,[]=>⟨bF h d 0 x,jm h d xs []⟩
theorem px{O β:Type}{r:O->β->Prop}{as:List O}{b:β}(h:All2 r as [b]):∃a,as=[a]/\r a b:=by
 cases as with
 |nil=>exact h.elim
 |cons a as=>
  cases as with
  |nil=>exact⟨a,rfl,h.1⟩
  |cons a' as=>exact h.2.elim
theorem KF{O β:Type}{r:O->β->Prop}{as:List O}{b c:β}(h:All2 r as [b,c]):∃a a',as=[a,a']/\r a b/\r a' c:=by
 cases as with
 |nil=>exact h.elim
 |cons a as=>
  obtain⟨a',rfl,h'⟩:=px h.2;exact⟨a,a',rfl,h.1,h'⟩
theorem Cl.AO{x:IV}{c:Cl SE}(h:cZ (ay P G) R X L Y x c):c.ok (·=L.length):=by
 cases c with
 |sr k=>obtain⟨_,_,_,_,_,_,h1,_⟩:=h;exactλhc=>by have:=du h1;omega
 |sv k lo=>obtain⟨_,_,_,_,_,_,_,_,h1,_⟩:=h;exactλhc=>by have:=du h1;omega
 |pr k i off ext=>obtain⟨_,_,_,_,_,_,_,_,_,_,_,_,h1,_⟩:=h;exactλhc=>by have:=du h1;omega
 |_=>trivial
theorem Fi{xs:List IV}{cs:List (Cl SE)}(h:All2 (cZ (ay P G) R X L Y) xs cs):∀c∈cs,c.ok (·=L.length):=by
 intro c hc;obtain⟨i,hi⟩:=azO hc;obtain⟨a,_,ha⟩:=h.Db hi;exact Cl.AO ha
theorem PV.AO{x:IV}{pv:PV SE}(h:VR (ay P G) R X L Y x pv):pv.ok (·=L.length):=by
 cases pv with
 |one c=>exact Cl.AO (c:=c) h
 |ag cs=>obtain⟨xs,_,h2⟩:=h;exact Fi h2
 |tu vs=>
  obtain⟨xs,_,h2⟩:=h;intro p hp c hc;obtain⟨i,hi⟩:=azO hp;obtain⟨a,_,ha⟩:=h2.Db hi;unfold wA at ha;split at ha
  .obtain⟨ys,_,h3⟩:=ha;exact Fi h3 c hc
  .obtain⟨c',h3,h4⟩:=ha;rw[h3]at hc;simp at hc;subst hc;exact Cl.AO h4
theorem OR.AO{j:Nat}{ob:LO SE}(h:OR Cx (ay P G) R X L Y j ob):ob.ok (·=L.length):=by
 cases ob with
 |var cs=>obtain⟨_,_,_,_,_,h4⟩:=h;exact Fi h4
 |_=>trivial
theorem w6(h:J Cx (ay P G) R X Γ L E Y){j:Nat}(hj:L.length<=j):X j=ah:=by
 cases hf:X j with
 |none=>rfl
 |some id=>have:=(h.lt _ _ hf).1;omega
theorem J.Aa(h:J Cx (ay P G) R X Γ L E Y){s:Nat}{fr:Bool}{z:SE}(hs:0<s)(hz:z.den P G=aa (.tree s [])):la (ay P G) (ay P G) R X L Y R X (L++[.row s af af fr z]) Y (λ_=>False)/\J Cx (ay P G) R X Γ (L++[.row s af af fr z]) E Y:=by
 have hL:∀j o,L[j]?=aa o->(L++[.row s af af fr z])[j]?=aa o:=λj o hj=>by rw[ayK (du hj)];exact hj
 have hc:la (ay P G) (ay P G) R X L Y R X (L++[.row s af af fr z]) Y (λ_=>False):=
  .mk' (λ_ _ h=>h) (ji.refl h.fits) (λj cs hj=>⟨⟨cs,hL j _ hj⟩,rfl⟩) (λj kt es hj=>⟨⟨es,hL j _ hj⟩,rfl⟩) (λj s st cut fr z hj _=>⟨⟨st,hL j _ hj⟩,rfl,λ_ _=>rfl⟩) (λj c st snap hj=>⟨⟨c,st,snap,hL j _ hj⟩,rfl⟩)
 refine⟨hc,{h with slot:=λd t pv hg=>(h.slot d t pv hg).step hc pv.a_,obj:=λj o hj=>?_,lt:=λj id hj=>by have:=h.lt j id hj;simp;omega}⟩;by_cases jB:j<L.length
 .rw[ayK jB]at hj;exact(h.obj j o hj).step hc rfl (λ_ _=>⟨rfl,rfl⟩) o.a_
 .have:j=L.length:=by have:=du hj;simp at this;omega
  subst this;simp at hj;subst hj;exact⟨hs,[],hz,λe he=>(by cases he),.inl ⟨w6 h (ayA _),rfl⟩⟩
theorem Xi{s bytes:Nat}{e f:SE}{z:IV}(h:(SE.cat s bytes e f).den P G=aa z):∃es fs,e.den P G=aa (.tree s es)/\f.den P G=aa (.tree s fs)/\0<s/\iz s fs=ab/\(4*(es.length+fs.length)+4096)*bytes<=2 ^47/\es.length+fs.length<=2 ^40/\z=.tree s (es++fs):=by
 simp only[SE.den,ayV]at h;obtain⟨a,h1,b,h2,h3⟩:=h;unfold dz at h3;split at h3
 .split at h3
  .rename_i hc;obtain⟨rfl,rfl,c1,c2,c3,c4⟩:=hc;cases h3;exact⟨_,_,h1,h2,c1,c2,c3,c4,rfl⟩
  .cases h3
 .cases h3
theorem Z9{fr:Bool}{new ds:List IV}(h:qU ab R Y new ds)(hd:∀d∈ds,aF d=ab):qU af R Y new ds:=by
 intro j x e hx he;have hr:=hd e (ayM he);have:=h j x e hx he;unfold aF at hr;split at hr
 .rw[cQ this];exact .raw _
 .cases hr
theorem HD(hJ:J Cx (ay P G) R X V.g V.l E Y){et:TypeId}{s:Nat}{base c:Cl SE}{fr raw:Bool}{es:SE}{x:IV}{fs:List IV}(ha:rq P V et s base c=aa (fr,es,raw))(hx:cZ (ay P G) R X V.l Y x c)(jV:es.den P G=aa (.tree s fs))(cm:0<s)(bu:iz s fs=ab)
 (ki:raw=ab->(∃z,(SE.rws es).den P G=aa z)):
 qi x=aa fs.length/\∃new,fQ s fs.length Y x=aa new/\new.length=fs.length*s/\qU fr R Y new (flat fs)/\new.all Ev.ao=ab:=by
 cases c with
 |sr j=>
  simp only[rq]at ha;split at ha
  .rename_i s' st cut dF aQ hj;split at ha
   .rename_i hc;simp only[ayz,azc]at hc;simp only[ayB,ay7]at ha;obtain⟨rfl,rfl,rfl⟩:=ha;obtain⟨rfl,_⟩:=hc;exact Tp hJ hj jV hx
   .cases ha
  .cases ha
 |nl b s'=>
  simp only[rq,ayB,ay7]at ha;obtain⟨rfl,rfl,rfl⟩:=ha
  have:fs=[]:=by
   simp only[SE.den,ayx]at jV;split at jV<;>cases jV;rfl
  subst this;obtain⟨_,rfl⟩:=hx;refine⟨by cases b<;>rfl,[],?_,by simp,λj x d h=>by simp at h,rfl⟩;cases b<;>simp[fQ]
 |w f z=>
  simp only[rq,ayB,ay7]at ha;obtain⟨rfl,rfl,rfl⟩:=ha;obtain⟨y,h1,h2,_⟩:=hx;have dk:z.den P G=aa y:=h1;rw[jV]at dk;cases dk;exact NP cm h2 bu
 |v z=>
  obtain⟨y,h1,h2,_⟩:=hx;have dk:z.den P G=aa y:=h1;simp only[rq]at ha;split at ha
  .simp only[ayB,ay7]at ha;obtain⟨rfl,rfl,rfl⟩:=ha;rw[jV]at dk;cases dk;obtain⟨a1,new,a2,a3,a4,a5⟩:=NP cm (h2.mono hJ.BH) bu;refine⟨a1,new,a2,a3,Z9 (fr:=ab) a4 λe he=>?_,a5⟩;obtain⟨q,hq⟩:=ki rfl;simp only[SE.den,jV,ayx]at hq;split at hq
   .rename_i cb;rw[ayP]at cb;obtain⟨el,ot,aub⟩:=azJ.1 he;exact ayP.1 (cb el ot) e aub
   .cases hq
  .simp only[ayB,ay7]at ha;obtain⟨rfl,rfl,rfl⟩:=ha;rw[jV]at dk;cases dk;exact NP cm (h2.mono hJ.BH) bu
 |un|pt|tp|tw|sv|pr|mp|fn|yl=>simp[rq]at ha
theorem L5{d t k:Nat}{pv:PV SE}{g:Gm SE}(h:cN d t (LN k g)=aa pv):pv.ok (·=k):=by
 obtain⟨q,_,rfl⟩:=Hl g h;exact q.oP k
variable(hJ:J Cx (ay P G) R X V.g V.l E Y)(hn:G.length=V.n)
include hJ hn
theorem Z_{et:TypeId}{bytes s:Nat}{base c:Cl SE}{fr raw:Bool}{es:SE}{x0 x1:IV}(hb:cZ (ay P G) R X V.l Y x0 base)(hc:cZ (ay P G) R X V.l Y x1 c)(ha:rq P V et s base c=aa (fr,es,raw))(ki:raw=ab->(∃z,(SE.rws es).den P G=aa z))
 (hs:(D6 bytes s base fr es V k).sat P C Q K G):
 dK Cx P C Q K G E V.ln k (λv au=>∃m n new,qi x0=aa m/\qi x1=aa n/\fQ s n Y x1=aa new/\new.length=n*s/\new.all Ev.ao=ab/\(4*(m+n)+4096)*bytes<=2 ^47/\m+n<=2 ^40/\fw 0 s m n new x0 Y=aa (.val v au)):=by
 unfold D6 at hs;split at hs
 .rename_i b s';split at hs
  .rename_i je;have wZ:=ayH je;subst wZ;obtain⟨z,h1,h2,hv,bR,eC⟩:=vH hJ hn hs;obtain⟨e0,fs,c1,c2,c3,c4,c5,c6,rfl⟩:=Xi h1
   have he0:e0=[]:=by
    simp only[SE.den,ayx]at c1;split at c1<;>cases c1;rfl
   subst he0;obtain⟨a1,new,a2,a3,a4,a5⟩:=HD hJ ha hc c2 c3 c4 ki;obtain⟨_,mA⟩:=hb;have qJ:(SE.tr s SE.an).den P (G++[IV.tree s ([]++fs)])=aa (.tree s []):=by simp[SE.den,c3]
   obtain⟨Gz,fE⟩:=bR.Aa (fr:=af) c3 qJ;have oA:(V.l++[LO.row s af af af (SE.tr s SE.an)])[V.l.length]?=aa (.row s af af af (SE.tr s SE.an)):=by simp
   obtain⟨x',al,R',aN,b1,b2,b3⟩:=L4 fE (dF:=fr) (z':=.var V.n) (x:=x0) oA qJ hv ⟨s,af,af,af,_,[],oA,qJ,.inl ⟨w6 hJ (ayA _),rfl,by subst mA;cases b<;>simp⟩⟩
    a3 a4 a5 (Dj c4).1 rfl (λd t pv hg=>PV.AO (bR.slot d t pv hg)) (λj o hj bt=>by
     have jB:j<V.l.length:=by have:=du hj;simp at this;omega
     rw[ayK jB]at hj;exact OR.AO (bR.obj j o hj))
   have Dh:(V.l++[LO.row s af af af (SE.tr s SE.an)]).set V.l.length (.row s af af (fr||af) (.var V.n))=V.l++[LO.row s af af fr (.var V.n)]:=by simp
   rw[Dh]at b2 b3;refine⟨x',al,R',aN,.one (.sr V.l.length),{V with n:=V.n+1,l:=V.l++[.row s af af fr (.var V.n)]},[.tree s ([]++fs)],⟨0,fs.length,new,by subst mA;cases b<;>rfl,a1,a2,a3,a5,c5,c6,b1⟩,b2,b3,eC,rfl,h2⟩
  .exact hs.elim
 .rename_i j;split at hs
  .rename_i s' st cut dF aQ hj;split at hs
   .rename_i cF;simp only[ayz,azc,azn]at cF;obtain⟨rfl,uR⟩:=cF;obtain⟨z,h1,h2,hv,bR,eC⟩:=vH hJ hn hs;obtain⟨e0,fs,c1,c2,c3,c4,c5,c6,rfl⟩:=Xi h1;obtain⟨a1,new,a2,a3,a4,a5⟩:=HD hJ ha hc c2 c3 c4 ki
    have hm:qi x0=aa e0.length:=by
     have:=Tp hJ hj c1 hb;exact this.1
    have da:cZ (ay P (G++[.tree s (e0++fs)])) R X V.l Y x0 (.sr j):=by
     have hbv:VR (ay P G) R X V.l Y x0 (.one (.sr j)):=hb;exact VR.up hJ hbv (λe z h=>SE.dN P e h)
    have fE:=bR.ZF j;have hjd:(V.l.map (LO.drop j))[j]?=aa (.row s st cut dF aQ):=by simp[ayR,hj,LO.drop]
    have eR:cZ (ay P (G++[.tree s (e0++fs)])) R X (V.l.map (LO.drop j)) Y x0 (.sr j):=da.step (Kn bR j) (Cl.a_ _)
    obtain⟨x',al,R',aN,b1,b2,b3⟩:=L4 fE (dF:=fr) (z':=.var V.n) (x:=x0) hjd (SE.dN P aQ c1) hv eR a3 a4 a5 (Dj c4).1 uR (λd t pv hg=>L5 hg) (λi o hi bt=>by
     rw[ayR]at hi;obtain⟨o',_,rfl⟩:=ayG.1 hi;exact o'.oP j)
    refine⟨x',al,R',aN,.one (.sr j),((({V with n:=V.n+1}:SS).uN j).setObj j (.row s st cut (fr||dF) (.var V.n))),[.tree s (e0++fs)],⟨e0.length,fs.length,new,hm,a1,a2,a3,a5,c5,c6,b1⟩,b2,b3,eC,rfl,h2⟩
   .exact hs.elim
  .exact hs.elim
 .exact hs.elim
end
section
variable{Cx:Cs}
variable{P:Program}{N:Nat}{Y al:St}{R R':Rs}{X aN:Ph}{E:Nat->Env}{G:List IV}
variable{C:Cr}{Q:IV->Prop}{K:List (List IV->Prop)}{V:SS}{d:Nat}{o:Oper}{k:PV SE->SS->ak}{L:List (LO SE)}{Γ:Gm SE}
theorem qf{t et:TypeId}(h:elemOf P t=aa et):P.underlying t=aa (.slice et):=by
 unfold elemOf at h;split at h
 .rename_i e he;cases h;exact he
 .cases h
theorem IM{e:SE}{z:IV}(h:(SE.len e).den P G=aa z):∃s es,e.den P G=aa (.tree s es)/\z=.int es.length:=by
 simp only[SE.den,ayV]at h;obtain⟨a,h1,h2⟩:=h;unfold Hy at h2;split at h2
 .cases h2;exact⟨_,_,h1,rfl⟩
 .cases h2
theorem aeJ{e:SE}{z:IV}(h:(SE.ud e).den P G=aa z):∃b,e.den P G=aa (.raw (.string b))/\z=.int b.size:=by
 simp only[SE.den,ayV]at h;obtain⟨a,h1,h2⟩:=h;unfold z8 at h2;split at h2
 .cases h2;exact⟨_,h1,rfl⟩
 .cases h2
theorem aix{fr:Bool}{x:IV}{s:Nat}{es:List IV}{ts:Array TypeId}{el:TypeId}(hu:(ts[0]?).bind P.underlying=aa (.slice el))(h:bD fr R Y x (.tree s es)):qj P ts x Y=aa (.int es.length):=by
 generalize hz:IV.tree s es=z at h;cases h with
 |nil s' br=>injection hz with a b;subst a b;simp[qj,hu]
 |emp s' br=>injection hz with a b;subst a b;simp[qj,hu]
 |pure _ hf hp=>subst hz;simp[qj,hu]
 |sl id off len cap ep s' m cs aB mn aQ hR aK a1 a2 br hl hb hm bQ hh=>injection hz with a b;subst a b hl;simp[qj,hu]
 |raw v=>cases hz
 |dR=>cases hz
 |agg=>cases hz
 |aL=>cases hz
variable(hJ:J Cx (ay P G) R X V.g V.l E Y)(hn:G.length=V.n)
include hJ hn
theorem aiy{c:Call}(ho:o.op=.call c)(hc:c.callee=.builtin .len)(hs:(gF P d o V k).sat P C Q K G):dK Cx P C Q K G E V.ln k (cq P E d o Y):=by
 unfold gF at hs;rw[ho]at hs;simp only[hc]at hs;have bE:=jm hJ d c.args.toList c.argTypes.toList;split at hs<;>first|(exact hs.elim)|(exact(‹aDz=aDz->False› rfl).elim)|skip
 all_goals first|(rename_i hb _;cases hb;done)|skip
 rename_i pv _ hh;rw[hh]at bE;obtain⟨x,hx,hr⟩:=px bE
 have fD:∀v,qj P c.argTypes x Y=aa v->aA P 0 (aC (E d)) o Y=aa (.val v Y):=by
  intro v hv;simp[aA,ho,hc,fx,hx,hv]
 split at hs
 .rename_i hu
  have main:∀a:SE,(∀y,a.den P G=aa y->bD ab R Y x y)->(vk (.ud a) V k).sat P C Q K G->dK Cx P C Q K G E V.ln k (cq P E d o Y):=by
   intro a ha hs;obtain⟨⟨z,hz⟩,hk⟩:=hs;obtain⟨b,h1,rfl⟩:=aeJ hz;have:=cQ (ha _ h1);exact .at (x:=.int b.size) hk hJ hn rfl ⟨_,hz,.raw _,rfl⟩ (fD _ (by simp[qj,hu,this]))
  split at hs
  .rename_i z;obtain⟨y,h1,h2,_⟩:=hr;exact main z (λy' hy=>by have dk:z.den P G=aa y:=h1;rw[hy]at dk;cases dk;exact h2.mono hJ.BH) hs
  .rename_i f z;obtain⟨y,h1,h2,_⟩:=hr;exact main z (λy' hy=>by have dk:z.den P G=aa y:=h1;rw[hy]at dk;cases dk;exact h2.cP) hs
  .exact hs.elim
 .rename_i el hu
  have main:∀a:SE,(∀y,a.den P G=aa y->bD ab R Y x y)->(vk (.len a) V k).sat P C Q K G->dK Cx P C Q K G E V.ln k (cq P E d o Y):=by
   intro a ha hs;obtain⟨⟨z,hz⟩,hk⟩:=hs;obtain⟨s,es,h1,rfl⟩:=IM hz;exact .at (x:=.int es.length) hk hJ hn rfl ⟨_,hz,.raw _,rfl⟩ (fD _ (aix hu (ha _ h1)))
  split at hs
  .rename_i z;obtain⟨y,h1,h2,_⟩:=hr;exact main z (λy' hy=>by have dk:z.den P G=aa y:=h1;rw[hy]at dk;cases dk;exact h2.mono hJ.BH) hs
  .rename_i f z;obtain⟨y,h1,h2,_⟩:=hr;exact main z (λy' hy=>by have dk:z.den P G=aa y:=h1;rw[hy]at dk;cases dk;exact h2.cP) hs
  .rename_i b s;obtain⟨_,h2⟩:=hr;exact .at (x:=.int 0) hs hJ hn rfl ⟨_,rfl,.raw _,rfl⟩ (fD _ (by subst h2;cases b<;>simp[qj,hu]))
  .rename_i j;split at hs
   .rename_i s st cut fr es hj;obtain⟨⟨z,hz⟩,hk⟩:=hs;obtain⟨s',aQ,h1,rfl⟩:=IM hz
    have je:s'=s:=by
     obtain⟨_,lk,g1,_⟩:=hJ.obj j _ hj;have qS:es.den P G=aa (.tree s lk):=g1;rw[h1]at qS;cases qS;rfl
    subst je;obtain⟨hl,_⟩:=Tp hJ hj h1 hr;refine .at (x:=.int aQ.length) hk hJ hn rfl ⟨_,hz,.raw _,rfl⟩ (fD _ ?_);obtain⟨s2,st2,aeI,fr2,z2,Tq,a1,a2,a3⟩:=hr;rw[hj]at a1;cases a1;have AL:es.den P G=aa (.tree s' Tq):=a2;rw[h1]at AL;cases AL;rcases a3 with⟨_,b2,rfl|rfl⟩|⟨id,cs,aB,mn,cap,_,_,rfl,_⟩
    .simp[qj,hu,b2]
    .simp[qj,hu,b2]
    .simp[qj,hu]
   .exact hs.elim
  .exact hs.elim
 .rename_i kt0 et0 hu;split at hs<;>try exact hs.elim
  rename_i j;split at hs<;>try exact hs.elim
  rename_i kt so hj;split at hs
  .exact hs.elim
  rename_i hk;have jD:¬sS kt=ab:=hk;obtain⟨⟨z,hz⟩,qu⟩:=hs;obtain⟨id,kt2,lk,g1,g2,g3⟩:=hr;rw[hj]at g2;cases g2;rw[if_neg jD]at g3;have fT:=hJ.obj j _ hj;rw[ti,if_neg jD]at fT;obtain⟨bz,es,clock,ds,c1,c2,c3,c4,c5,c6⟩:=fT;rw[g1]at c2;cases c2;have vJ:so.den P G=aa (.aL ds):=c1
  have LZ:z=.int ds.length:=by
   simp only[SE.den,vJ,ayx,iO,if_true,ayB]at hz;exact hz.symm
  subst LZ;have hlen:es.length=ds.length:=All2.len c5;exact .at (x:=.int es.length) qu hJ hn rfl ⟨_,hz,by rw[hlen];exact .raw _,rfl⟩ (fD _ (by subst g3;simp[qj,hu,c4]))
 .exact hs.elim
omit hJ hn in
theorem ab9{t:TypeId}{e:SE}(h:E9 P t=aa e):∃v,dj P t=aa v/\e.den P G=aa (.raw v)/\v.cells= #[v]:=by
 unfold E9 at h;split at h<;>first|(cases h;exact⟨_,‹_›,rfl,rfl⟩)|cases h
theorem aeK{c:Call}{x0 x1:IV}{t0 t1 et:TypeId}{base ca:Cl SE}(ho:o.op=.call c)(hc:c.callee=.builtin .append)(hx:c.args.toList.map (aC (E d))=[x0,x1])(Xj:c.argTypes[0]?=aa t0)(Xk:c.argTypes[1]?=aa t1)(het:elemOf P t0=aa et)
 (vo:VR (ay P G) R X V.l Y x0 (.one base))(vK:VR (ay P G) R X V.l Y x1 (.one ca))(hs:(ZV P et t1 base ca V k).sat P C Q K G):dK Cx P C Q K G E V.ln k (cq P E d o Y):=by
 unfold ZV at hs;split at hs<;>try exact hs.elim
 rename_i qk s n As;split at hs<;>try exact hs.elim
 rename_i s' z ze bytes bf sZ hze HE;split at hs<;>try exact hs.elim
 rename_i cF;simp only[ayz]at cF;obtain⟨⟨⟨⟨h1,h2⟩,h3⟩,h4⟩,h5⟩:=cF;have dk:=ayH h1;have yg:=ayH h2;subst dk yg;have JG:bytes<=1000000:=by simpa using h3
 obtain⟨v,e1,e2,e3⟩:=ab9 (G:=G) hze;rw[sZ]at e1;cases e1;obtain⟨y,hy,hk⟩:=hs;simp only[SE.den,ayV]at hy;obtain⟨nv,n1,zv,n2,n3⟩:=hy;rw[e2]at n2;cases n2;obtain⟨y',y1,y2,_⟩:=vK;have P7:n.den P G=aa y':=y1;rw[n1]at P7;cases P7
 obtain⟨q,m,rfl,m1,m2,hq,rfl⟩:∃q m,nv=.raw (.int q m)/\1<=m/\m<=1000000/\(q==IntKind.i64)=ab/\y=.tree 1 (ayX m.toNat (.raw z)):=by
  unfold iO at n3;split at n3
  .split at n3<;>cases n3
  .rw[if_neg (λh=>absurd h.1 (by decide))]at n3;split at n3
   .rename_i hh;cases n3;exact⟨_,_,rfl,hh.2.1,hh.2.2.1,hh.2.2.2.1,rfl⟩
   .rw[if_neg (λh=>absurd h.1 (by decide))]at n3;cases n3
  .rw[if_neg (by decide)]at n3;cases n3
  .rw[if_neg (by decide)]at n3;cases n3
  .cases n3
 have GN:q=.i64:=by simpa using hq
 subst GN;have Bt:=cQ y2;obtain⟨_,mA⟩:=vo;simp only[if_true]at mA
 have P8:lN (z.cells.toList.map .raw) (m.toNat*1)=ayX m.toNat (.raw z):=by
  simp[lN,e3]
 have bu:Ev.ao (.raw z)=ab:=by simpa[e3]using h5
 have nX:(SE.var V.n).den P (G++[.tree 1 (ayX m.toNat (.raw z))])=aa (.tree 1 (ayX m.toNat (.raw z))):=by simp[SE.den,<-hn]
 have bR:=hJ.up (jX:=ay P (G++[.tree 1 (ayX m.toNat (.raw z))])) (λe y h=>SE.dN P e h)
 have fE:=bR.AB (.cells (ayX m.toNat (.raw z)) 0 0) (.row 1 af af af (.var V.n)) ⟨by omega,_,nX,λe he=>(by rw[azx he];rfl),.inr ⟨Y.n,(ayX m.toNat (.raw z)),0,0,by simp[cA],by simp,ayA _,by simp,hJ.sV,ayP.2 λx hx=>(by rw[azx hx];exact bu),λj x d hx hd=>by
  have ky:=azx (ayM hx)
  have Hc:d=.raw z:=by
   have hm:=ayM hd;unfold flat at hm;obtain⟨e,he,hde⟩:=azJ.1 hm;rw[azx he]at hde;simpa[cellsOf]using hde
  rw[ky,Hc];exact .raw _⟩⟩
 refine⟨.sl Y.n 0 m.toNat ah 0 1,_,R,_,.one (.sr V.l.length),{V with n:=V.n+1,l:=V.l++[.row 1 af af af (.var V.n)]},[.tree 1 (ayX m.toNat (.raw z))],?_,fE,
  ⟨1,af,af,af,_,_,by simp,nX,.inr ⟨Y.n,(ayX m.toNat (.raw z)),0,0,ah,by simp[cA],by simp,by simp,azi _,λ_ _=>by simp,λc hc=>by cases hc⟩⟩,by simp[hn],rfl,hk⟩
 have An:m.toNat≠0:=ai;simp only[cq,aA,ho,hc,fx,hx,mh,Xj,Xk,qf het,As,bf,sZ,HE,uB,Bt,mA];rw[if_neg (by simp[e3]),if_pos ⟨by omega,by omega⟩];simp only[qi];rw[P8];simp only[if_true]
 rw[if_pos ⟨by simp,ayP.2 λx hx=>(by rw[azx hx];exact bu),by
    have:(4*(0+m.toNat)+4096)*bytes<=4004096*1000000:=Nat.mul_le_mul ai JG;omega,by omega⟩]
 simp only[fw,f_,fQ];simp[An,ret]
theorem aaa{c:Call}(ho:o.op=.call c)(hc:c.callee=.builtin .append)(hs:(gF P d o V k).sat P C Q K G):dK Cx P C Q K G E V.ln k (cq P E d o Y):=by
 unfold gF at hs;rw[ho]at hs;simp only[hc]at hs;have bE:=jm hJ d c.args.toList c.argTypes.toList;split at hs<;>first|(exact hs.elim)|(exact(‹aC1=aC1->False› rfl).elim)|skip
 all_goals first|(rename_i hb _;cases hb;done)|skip
 rename_i base ca _ hh;rw[hh]at bE;obtain⟨x0,x1,hx,vo,vK⟩:=KF bE;split at hs<;>try exact hs.elim
 rename_i t0 t1 Xj Xk;split at hs<;>try exact hs.elim
 rotate_left
 .rename_i et het _;exact aeK hJ hn ho hc hx Xj Xk het vo vK hs
 rename_i et et1 het aeL;split at hs<;>try exact hs.elim
 rename_i s z bytes bf sZ HE;split at hs<;>try exact hs.elim
 rename_i cF
 have ab_:s≠0/\z.cells.size=s:=by
  simp only[azf,azn,not_or,aA0,aBb]at cF;refine⟨λh=>?_,ayH cF.2⟩;have:=cF.1;subst h;simp at this
 split at hs<;>try exact hs.elim
 rename_i fr es raw aeM
 have main:(raw=ab->∃z,(SE.rws es).den P G=aa z)->(D6 bytes s base fr es V k).sat P C Q K G->dK Cx P C Q K G E V.ln k (cq P E d o Y):=by
  intro ki hs;obtain⟨v,au,R1,dV,pv,V1,I,⟨m,n,new,h1,h2,h3,h4,h5,h6,h7,h8⟩,ia⟩:=Z_ hJ hn vo vK aeM ki hs;refine⟨v,au,R1,dV,pv,V1,I,?_,ia⟩;simp only[cq,aA,ho,hc,fx,hx,mh,Xj,Xk,qf het,qf aeL,bf,sZ,HE,uB,h2,h3,h1];rw[if_neg (by rintro(h|h);exact ab_.1 h;exact h ab_.2),if_pos ⟨h4,h5,h6,h7⟩,h8]
 split at hs
 .rename_i hr;obtain⟨hz,hk⟩:=hs;exact main (λ_=>hz) hk
 .rename_i hr;exact main (λh=>absurd h hr) hs
end
section
variable{Cx:Cs}
variable{P:Program}{N:Nat}{Y al:St}{R R':Rs}{X aN:Ph}{E:Nat->Env}{G:List IV}
variable{C:Cr}{Q:IV->Prop}{K:List (List IV->Prop)}{V:SS}{d:Nat}{o:Oper}{k:PV SE->SS->ak}{L:List (LO SE)}{Γ:Gm SE}
theorem Fj(hJ:J Cx (ay P G) R X V.g V.l E Y){ty:Nat->TypeId}{place:Nat->Option (Nat×Nat)}:∀{parts:List (Nat×Operand)} {cells:List IV} {cs out:List (Cl SE)},All2 (cZ (ay P G) R X V.l Y) cells cs->
 pw (λj x=>ft (cg P d V (ty j) x)) place parts cs=aa out->∃iA,rj place cells (parts.map λ(i,x)=>(i,aC (E d) x))=aa iA/\All2 (cZ (ay P G) R X V.l Y) iA out/\iA.length=cells.length/\(cells.all Ev.ao=ab->iA.all Ev.ao=ab)
 |[],cells,cs,out,h,hp=>by
  simp only[pw,ayB]at hp;subst hp;exact⟨cells,rfl,h,rfl,λh=>h⟩
 |(j,x)::ps,cells,cs,out,h,hp=>by
  simp only[pw]at hp;split at hp
  .rename_i off sz ir;split at hp
   .rename_i hc;simp only[ayz,azc,az7]at hc;obtain⟨⟨c1,c2⟩,c3⟩:=hc;have gN:=BF (bF hJ d (ty j) x) c1;have bu:=vB gN c1;have hl:=gN.len;have sL:=h.len;obtain⟨iA,h1,h2,h3,h4⟩:=Fj hJ (P1 off h gN) hp;refine⟨iA,?_,h2,by rw[h3,zm ai],λha=>h4 (Fh ha bu)⟩;simp only[azs,rj,ir];rw[if_pos ⟨by omega,by omega,bu⟩];exact h1
   .cases hp
  .cases hp
theorem KH{zero:List IV}{s:Nat}(hl:zero.length=s)(hs:0<s)(n:Nat):lN zero (n*s)=(ayX n zero).flatten:=by
 unfold lN;split
 .rename_i z;simp at hl;subst hl;rw[Nat.mul_one];induction n with
  |zero=>rfl
  |succ n ih=>simp[aA4]
 .rw[hl,Nat.mul_div_cancel _ hs]
theorem P9{zero:List IV}{zc:List (Cl SE)}(h:All2 (cZ (ay P G) R X L Y) zero zc):∀n,All2 (cZ (ay P G) R X L Y) (ayX n zero).flatten (S1 zc n)
 |0=>trivial
 |n+1=>by
  rw[aA4,aAl];exact h.app (P9 h n)
theorem JK{zero:List IV}{s:Nat}(hl:zero.length=s):∀n,(ayX n zero).flatten.length=n*s
 |0=>by simp
 |n+1=>by rw[aA4,aAl,ayC,JK hl n,hl,azd];omega
theorem aca{z:SE}(h:LR z=ab){y:IV}(hy:z.den P G=aa y):aF y=ab:=by
 cases z<;>simp[LR]at h<;>(simp only[SE.den,ayB]at hy;subst hy;rfl)
theorem akN{V':SS}{c:Cl SE}{t:TypeId}{fr:Bool}{z:SE}{u9:List SE}(h:J Cx (ay P G) R X V.g V.l E Y)(hr:rdT P V c t=aa (fr,z,V',u9)):
 ∃R',jO P G R X V Y R' V'/\J Cx (ay P G) R' X V'.g V'.l E Y/\∀x,cZ (ay P G) R X V.l Y x c->∃y,z.den P G=aa y/\bD ab R' Y x y/\Ev.ao y=ab/\((∀e∈u9,∃q,(SE.rw e).den P G=aa q)->bD fr R' Y x y):=by
 unfold rdT at hr;split at hr
 .rename_i z';have vn:=HB (c:=.v z') h rfl;obtain⟨R',h1,h2,h3⟩:=vn;split at hr
  .simp only[ayB,ay7]at hr;obtain⟨rfl,rfl,rfl,rfl⟩:=hr;refine⟨R',h1,h2,λx hx=>?_⟩;obtain⟨y,a1,a2,a3⟩:=h3 x hx;refine⟨y,a1,a2,a3,λki=>?_⟩
   have hy:aF y=ab:=by
    by_cases hl:LR z'=ab
    .exact aca hl a1
    .rw[if_neg hl]at ki;obtain⟨q,hq⟩:=ki z' ax;simp only[SE.den,a1,ayx]at hq;split at hq
     .assumption
     .cases hq
   unfold aF at hy;split at hy
   .rw[cQ a2];exact .raw _
   .cases hy
  .simp only[ayB,ay7]at hr;obtain⟨rfl,rfl,rfl,rfl⟩:=hr;refine⟨R',h1,h2,λx hx=>?_⟩;obtain⟨y,a1,a2,a3⟩:=h3 x hx;exact⟨y,a1,a2,a3,λ_=>a2⟩
 .split at hr
  .rename_i dF z' V1 fg;simp only[ayB,ay7]at hr;obtain⟨rfl,rfl,rfl,rfl⟩:=hr;obtain⟨R',h1,h2,h3⟩:=HB h fg;refine⟨R',h1,h2,λx hx=>?_⟩;obtain⟨y,a1,a2,a3⟩:=h3 x hx;exact⟨y,a1,a2.cP,a3,λ_=>a2⟩
  .cases hr
theorem Xl:∀{cs:List (Cl SE)} {ts:List TypeId} {V V':SS} {R:Rs} {fr:Bool} {zs u9:List SE},J Cx (ay P G) R X V.g V.l E Y->ND P V cs ts=aa (fr,zs,V',u9)->
 ∃R',jO P G R X V Y R' V'/\J Cx (ay P G) R' X V'.g V'.l E Y/\zs.length=cs.length/\∀xs,All2 (cZ (ay P G) R X V.l Y) xs cs->∃ys,All2 (λ(z:SE) y=>z.den P G=aa y) zs ys/\All2 (bD ab R' Y) xs ys/\ys.all Ev.ao=ab/\
  ((∀e∈u9,∃q,(SE.rw e).den P G=aa q)->All2 (bD fr R' Y) xs ys)
 |[],_,V,V',R,fr,zs,u9,h,hr=>by
  simp only[ND,ayB,ay7]at hr;obtain⟨rfl,rfl,rfl,rfl⟩:=hr;refine⟨R,.refl h,h,rfl,λxs hx=>⟨[],trivial,?_,rfl,λ_=>?_⟩⟩<;>
  .cases xs with
   |nil=>trivial
   |cons=>exact hx.elim
 |c::cs,[],V,V',R,fr,zs,u9,h,hr=>by simp[ND]at hr
 |c::cs,t::ts,V,V',R,fr,zs,u9,h,hr=>by
  simp only[ND]at hr;split at hr
  .rename_i f1 z V1 r1 h1;split at hr
   .rename_i f2 zs' V2 r2 h2;simp only[ayB,ay7]at hr;obtain⟨rfl,rfl,rfl,rfl⟩:=hr;obtain⟨R1,a1,a2,a3⟩:=akN h h1;obtain⟨R2,b1,b2,bl,b3⟩:=Xl a2 h2;refine⟨R2,a1.trans b1,b2,by simp[bl],λxs hx=>?_⟩;cases xs with
    |nil=>exact hx.elim
    |cons x xs=>
     obtain⟨y,c1,c2,c3,c4⟩:=a3 x hx.1;obtain⟨ys,d1,d2,d3,d4⟩:=b3 xs (hx.2.mono λ_ _ cn=>a1.Tc cn);refine⟨y::ys,⟨c1,d1⟩,⟨c2.mono b1.2.2.2.grow,d2⟩,by simp[c3,d3],λki=>⟨((c4 λe he=>ki e (by simp[he])).mono b1.2.2.2.grow).wide (λh=>by simp[h]),(d4 λe he=>ki e (by simp[he])).mono λ_ _ cn=>cn.wide (λh=>by simp[h])⟩⟩
   .cases hr
  .cases hr
theorem P_{f:ak}:∀{es:List SE},(ZQ es f).sat P C Q K G->(∀e∈es,∃q,(SE.rw e).den P G=aa q)/\f.sat P C Q K G
 |[],h=>⟨λe he=>(by cases he),h⟩
 |e::es,h=>by
  obtain⟨h1,h2⟩:=h;obtain⟨h3,h4⟩:=P_ h2;exact⟨λx hx=>(by rcases ayN.1 hx with rfl|hx;exact h1;exact h3 x hx),h4⟩
theorem Qa{s:Nat}:∀(n:Nat) {zs:List SE} {ys:List IV},All2 (λ(z:SE) y=>z.den P G=aa y) zs ys->ys.length=n*s->∃es:List IV,All2 (λ(z:SE) y=>z.den P G=aa y) (AG s n zs) es/\es.length=n/\(∀e∈es,(cellsOf e).length=s)/\flat es=ys
 |0,zs,ys,h,hl=>by
  have:ys=[]:=ayZ (by simpa using hl);subst this;exact⟨[],trivial,rfl,λe he=>(by cases he),rfl⟩
 |n+1,zs,ys,h,hl=>by
  rw[azd,aD3]at hl;obtain⟨es,h1,h2,h3,h4⟩:=Qa (s:=s) n (h.drop s) (by simp;omega);refine⟨.agg (ys.take s)::es,⟨fJ (h.take s),h1⟩,by simp[h2],λe he=>?_,?_⟩
  .rcases ayN.1 he with rfl|he
   .simp[cellsOf];omega
   .exact h3 e he
  .show cellsOf (.agg (ys.take s))++flat es=ys;rw[h4];exact List.take_append_drop s ys
theorem Qb:∀{ys:List IV},ys.all Ev.ao=ab->(∀e∈ys,(cellsOf e).length=1)/\flat ys=ys
 |[],_=>⟨λe he=>(by cases he),rfl⟩
 |y::ys,h=>by
  simp only[List.all_cons,ayz]at h;obtain⟨h1,h2⟩:=Qb h.2;refine⟨λe he=>?_,?_⟩
  .rcases ayN.1 he with rfl|he
   .rw[Di h.1];rfl
   .exact h1 e he
  .show cellsOf y++flat ys=y::ys;rw[h2,Di h.1];rfl
variable(hJ:J Cx (ay P G) R X V.g V.l E Y)(hn:G.length=V.n)
include hJ hn
theorem acb{t:TypeId}{parts:Array (Nat×Operand)}(ho:o.op=.build t parts)(hs:(gF P d o V k).sat P C Q K G):dK Cx P C Q K G E V.ln k (cq P E d o Y):=by
 unfold gF at hs;rw[ho]at hs;simp only at hs;split at hs
 .rename_i fields hu;split at hs
  .exact hs.elim
  .rename_i hc;simp only[azf,azn,not_or,aA0,aBb]at hc;split at hs
   .rename_i cs hp;cases hz:dj P t with
    |none=>rw[hz]at hc;simp at hc
    |some z=>
     obtain⟨iA,h1,h2,_⟩:=Fj (ty:=aku fields) hJ (qR (P:=P) (G:=G) (R:=R) (X:=X) (L:=V.l) (Y:=Y) hz) hp;refine .here (x:=.agg iA) (pv:=.ag cs) (au:=Y) ?_ hJ ⟨_,rfl,h2⟩ hn rfl hs;have dk:rj (λi=>(fields[i]?).bind λf=>(aS P f.type).map λs=>(f.offset,s)) (z.cells.toList.map IV.raw) (parts.toList.map λ(i,x)=>(i,aC (E d) x))=aa iA:=h1;simp only[cq,aA,ho,hz,hu,dk,hc.1,ret,if_true]
   .exact hs.elim
 .rename_i len et hu;split at hs
  .rename_i s bf;split at hs
   .exact hs.elim
   .rename_i hc;split at hs
    .rename_i cs hp;cases hz:dj P t with
     |none=>rw[hz]at hc;simp at hc
     |some z=>
      obtain⟨iA,h1,h2,_⟩:=Fj (ty:=λ_=>et) hJ (qR (P:=P) (G:=G) (R:=R) (X:=X) (L:=V.l) (Y:=Y) hz) hp;refine .here (x:=.agg iA) (pv:=.ag cs) (au:=Y) ?_ hJ ⟨_,rfl,h2⟩ hn rfl hs;have dk:rj (λi=>aa (i*s,s)) (z.cells.toList.map IV.raw) (parts.toList.map λ(i,x)=>(i,aC (E d) x))=aa iA:=h1;simp only[cq,aA,ho,hz,hu,bf,dk,ret]
    .exact hs.elim
  .exact hs.elim
 .exact hs.elim
theorem NR{t:TypeId}{len:Nat}{parts:Array (Nat×Operand)}(ho:o.op=.buildSlice t len parts)(hs:(gF P d o V k).sat P C Q K G):dK Cx P C Q K G E V.ln k (cq P E d o Y):=by
 unfold gF at hs;rw[ho]at hs;simp only at hs;split at hs<;>try exact hs.elim
 rename_i et het;have hu:=qf het;split at hs<;>try exact hs.elim
 rename_i s z bf hz;split at hs<;>try exact hs.elim
 rename_i hc;simp only[azf,azn,not_or,aA0,aBb,az7]at hc;obtain⟨⟨c1,c2⟩,c3⟩:=hc;have cm:s≠0:=by intro h;subst h;simp at c1
 have DJ:z.cells.size=s:=ayH c2;have hzl:(z.cells.toList.map IV.raw).length=s:=by simp[DJ]
 split at hs
 .rename_i iW;have aeN:=ayH iW;subst aeN;split at hs
  .rename_i ye;have auc:parts.toList=[]:=by simpa using ye
   refine .at (x:=.emp) hs hJ hn rfl ⟨by omega,rfl⟩ ?_
   have P8:lN (z.cells.toList.map IV.raw) 0=[]:=by
    have:=KH hzl ai 0;simpa using this
   simp only[cq,aA,ho,hu,bf,hz,auc,aCb,rj,aA_,P8];rw[if_neg (by rintro(h|h|h);exact cm h;exact h DJ;simp at h)];simp[ret]
  .exact hs.elim
 .rename_i iW;have aeN:len≠0:=by intro h;subst h;simp at iW
  split at hs<;>try exact hs.elim
  rename_i cs hp;split at hs<;>try exact hs.elim
  rename_i fr zs V2 rws fg;split at hs<;>try exact hs.elim
  rename_i JI;obtain⟨ki,hk⟩:=P_ hs;have aud:=P9 (qR (P:=P) (G:=G) (R:=R) (X:=X) (L:=V.l) (Y:=Y) hz) len;obtain⟨iA,h1,h2,h3,h4⟩:=Fj (ty:=λ_=>et) hJ aud hp;obtain⟨R',bI,fE,ayl,Ti⟩:=Xl hJ fg;obtain⟨ys,b1,b2,b3,b4⟩:=Ti _ h2;have jf:iA.length=len*s:=by rw[h3,JK hzl]
  have GP:ys.length=len*s:=by rw[<-b2.len,jf]
  have HC:iA.all Ev.ao=ab:=by
   rw[ayP];intro c hc;obtain⟨i,hi⟩:=azO hc;have aj:i<ys.length:=by rw[<-b2.len];exact(ayw.1 hi).1
   exact(b2.get hi (ayv aj)).ao (ayP.1 b3 _ (ayy aj))
  obtain⟨es,jV,akO,akP,aue⟩:∃es:List IV,(fa (if isAgg P et=ab then AG s len zs else zs)).den P G=aa (.agg es)/\es.length=len/\(∀e∈es,(cellsOf e).length=s)/\flat es=ys:=by
   by_cases ha:isAgg P et=ab
   .rw[if_pos ha];obtain⟨es,e1,e2,e3,e4⟩:=Qa (s:=s) len b1 GP;exact⟨es,fJ e1,e2,e3,e4⟩
   .rw[if_neg ha]
    have fq:s=1:=by
     simp only[azn,Bool.or_eq_false_iff,not_and,aBb]at JI;exact ayH (JI (by simpa using ha))
    subst fq;obtain⟨e1,e2⟩:=Qb b3;exact⟨ys,fJ b1,by omega,e1,e2⟩
  have hcr:qU fr R' Y iA (flat es):=by
   rw[aue];intro j x y hx hy;cases fr with
   |true=>exact b2.get hx hy
   |false=>exact(b4 ki).get hx hy
  have nX:(SE.tr s (fa (if isAgg P et=ab then AG s len zs else zs))).den P G=aa (.tree s es):=by
   simp only[SE.den,jV,ayx];rw[if_pos ⟨by omega,by rw[ayP];intro e he;simp[akP e he]⟩]
  have yb:G.length=V2.n:=by rw[hn];exact bI.2.1.symm
  have vG:=fE.AB (.cells iA 0 0) (.row s af af fr (.tr s (fa (if isAgg P et then AG s len zs else zs))))
   ⟨by omega,es,nX,akP,.inr ⟨Y.n,iA,0,0,by simp[cA],by simp,ayA _,by rw[jf,akO];exact ayA _,fE.sV,HC,λj x y hx hy=>(hcr j x y hx hy).mono (PR fE _)⟩⟩
  refine .at (x:=.sl Y.n 0 len (aa len) 0 s) (V1:={V2 with l:=V2.l++[.row s af af fr (.tr s (fa (if isAgg P et then AG s len zs else zs)))]}) hk vG yb bI.2.2.1
   ⟨s,af,af,fr,_,es,by simp,nX,.inr ⟨Y.n,iA,0,0,aa len,by simp[cA],by simp,by simp[akO],azi _,λh=>(by cases h),λc hc=>(by cases hc;exact⟨rfl,by omega,by omega⟩)⟩⟩ ?_
  have dk:rj (λi=>aa (i*s,s)) (ayX len (z.cells.toList.map IV.raw)).flatten (parts.toList.map λ(i,x)=>(i,aC (E d) x))=aa iA:=h1;simp only[cq,aA,ho,hu,bf,hz,KH hzl ai,dk,ret];rw[if_neg (by rintro(h|h|h);exact cm h;exact h DJ;omega),if_pos ⟨jf,HC⟩,if_neg aeN]
end
section
variable{Cx:Cs}
variable{P:Program}{N:Nat}{Y al:St}{R R':Rs}{X aN:Ph}{E:Nat->Env}{G:List IV}
variable{C:Cr}{Q:IV->Prop}{K:List (List IV->Prop)}{V:SS}{d:Nat}{o:Oper}{k:PV SE->SS->ak}{L:List (LO SE)}{Γ:Gm SE}
variable(hJ:J Cx (ay P G) R X V.g V.l E Y)(hn:G.length=V.n)
include hJ
theorem Xm:∀{xs:List Operand} {bs:List (Nat×Nat)},S0 P d V xs=aa bs->All2 (λy (p:Nat×Nat)=>∃id cs,X p.1=aa id/\V.l[p.1]?=aa (.var cs)/\y=.ptr id 0 0 p.2) (xs.map (aC (E d))) bs
 |[],bs,h=>by
  simp only[S0,ayB]at h;subst h;trivial
 |x::xs,bs,h=>by
  simp only[S0]at h;split at h
  .rename_i j ext hx;split at h
   .rename_i l hl;simp only[ayB]at h;subst h;have hv:=bF hJ d 0 x;rw[hx]at hv;exact⟨hv,Xm hl⟩
   .cases h
  .cases h
include hn
theorem Tv{f:FuncId}{first cap:Array Operand}(ho:o.op=.makeFunc (.func f) first cap)(hs:(kh P d o V k).sat P C Q K G):dK Cx P C Q K G E V.ln k (cq P E d o Y):=by
 unfold kh at hs;rw[ho]at hs;simp only at hs;split at hs
 .rename_i hf;split at hs
  .rename_i bs hb;refine .at (x:=.fn (.func f) [] (cap.toList.map (aC (E d)))) hs hJ hn rfl (.inr ⟨_,rfl,Xm hJ hb⟩) ?_;simp only[List.isEmpty_iff]at hf;simp[cq,aA,ho,ret,hf]
  .exact hs.elim
 .exact hs.elim
theorem Wu{t:TypeId}{r:Option Operand}(ho:o.op=.makeMap t r)(hs:(kh P d o V k).sat P C Q K G):dK Cx P C Q K G E V.ln k (cq P E d o Y):=by
 unfold kh at hs;rw[ho]at hs;simp only at hs;split at hs
 .rename_i kt et hu;split at hs
  .exact hs.elim
  rename_i jD;have jD:¬sS kt=ab:=jD;have h1:=hJ.AB (.map [] 0) (.mp kt (.tp .an)) (by rw[ti,if_neg jD];exact⟨Y.n,[],0,[],by simp[ay,SE.den],by simp[cA],hJ.sV,by simp,trivial,rfl,λi e h=>by simp at h⟩);refine .at (x:=.map Y.n) (V1:={V with l:=V.l++[.mp kt (.tp .an)]}) hs h1 hn rfl ⟨Y.n,kt,SE.tp .an,by simp[cA],by simp,(if_neg jD).symm⟩ ?_;simp[cq,aA,ho,ret]
 .exact hs.elim
end
section
variable{P:Program}{N:Nat}{Y al:St}{R R':Rs}{X aN:Ph}{E:Nat->Env}{G:List IV}
variable{C:Cr}{Q:IV->Prop}{K:List (List IV->Prop)}{V:SS}{d:Nat}{o:Oper}{k:PV SE->SS->ak}{L:List (LO SE)}{Γ:Gm SE}
theorem AP:∀{cs:List IV} {vs:List Value},wX cs=aa vs->cs=vs.map .raw
 |[],vs,h=>by simp only[wX,ayB]at h;subst h;rfl
 |c::cs,vs,h=>by
  unfold wX at h;split at h<;>try (cases h;done)
  all_goals
   obtain⟨ws,h1,rfl⟩:=ayG.1 h;rw[AP h1];rfl
theorem AQ:∀vs:List Value,lu (vs.map .raw)=aa vs
 |[]=>rfl
 |v::vs=>by simp only[azs,lu,AQ vs]
theorem HF{x:IV}{v:Value}(h:keyOf x=aa v):nc x=aa v/\lift v=x:=by
 unfold keyOf at h;split at h<;>first|(cases h;exact⟨rfl,rfl⟩)|(cases h;done)|skip
 rename_i cs;obtain⟨vs,h1,rfl⟩:=ayG.1 h;have:=AP h1;subst this;refine⟨?_,by simp[lift]⟩;simp only[nc,sJ,AQ]
theorem Tw{fr:Bool}{x:IV}{cs:List IV}(h:bD fr R Y x (.agg cs)):∃xs,x=.agg xs/\All2 (bD fr R Y) xs cs:=by
 cases h with
 |agg sc _ hl hh=>exact⟨sc,rfl,.mk hl hh⟩
 |pure _ hf hp=>
  refine⟨cs,rfl,.mk rfl λi a b h1 h2=>?_⟩;rw[h1]at h2;cases h2;cases hp with
  |agg _ hh=>exact .pure a hf (hh a (ayM h1))
theorem HG{fr:Bool}{x u:IV}{v:Value}(h:keyOf x=aa v)(hc:bD fr R Y u x):u=x:=by
 unfold keyOf at h;split at h<;>first|(exact cQ hc)|(cases h;done)|skip
 rename_i cs;obtain⟨vs,h1,rfl⟩:=ayG.1 h;have:=AP h1;subst this;obtain⟨xs,rfl,pc⟩:=Tw hc
 congr 1
 apply List.ext_getElem?;intro i;cases hi:xs[i]? with
 |none=>
  have:(vs.map IV.raw)[i]?=ah:=by
   rw[List.getElem?_eq_none_iff]at hi⊢;rw[<-pc.len];exact hi
  rw[this]
 |some a=>
  have aj:=(ayw.1 hi).1;rw[pc.len]at aj;have hb:=ayv aj;have:=pc.get hi hb;rw[hb];simp only[List.getElem_map]at this⊢;rw[cQ this]
theorem aeO{u v:Value}(h:keyOf (lift u)=aa v):u=v:=by
 obtain⟨h1,_⟩:=HF h;unfold lift at h1;split at h1
 .rename_i cs;simp only[nc,sJ,AQ,ayB]at h1;rw[<-h1]
 .cases h1;rfl
theorem Xn{es:List (Value×IV×Nat)}{ds:List IV}{ks:List Value}(he:E3 R Y es ds)(h:qQ ds=aa ks):es.map (·.1)=ks:=by
 unfold E3 at he;induction ds generalizing es ks with
 |nil=>
  cases es with
  |nil=>simp only[qQ,ayB]at h;subst h;rfl
  |cons=>exact he.elim
 |cons d ds ih=>
  cases es with
  |nil=>exact he.elim
  |cons e es=>
   obtain⟨⟨z,rfl,_⟩,h2⟩:=he;simp only[qQ]at h;split at h
   .rename_i v vs h3 h4;simp only[ayB]at h;subst h;simp only[azs,aeO h3,ih h2 h4]
   .cases h
theorem L6{kd:TypeDesc}{key:Value}:∀{es:List (Value×IV×Nat)} {n:Nat} {q:Option Nat},nowAt kd key (es.map (·.1)) n=aa q->
 ∃r,azT kd key (es.map λe=>{key:=e.1,val:=azk,born:=e.2.2}) n=aa r/\(q=ah->r=ah)/\(∀j,q=aa j->(∃v,r=aa (j,v))/\n<=j/\∃e,es[j- n]?=aa e/\aBD kd key e.1=aa ab)
 |[],n,q,h=>by
  simp only[aCb,nowAt,ayB]at h;subst h;exact⟨ah,rfl,λ_=>rfl,λj hj=>by cases hj⟩
 |e::es,n,q,h=>by
  simp only[azs,nowAt]at h;simp only[azs,azT];split at h
  .rename_i hs;simp only[ayB]at h;subst h;refine⟨aa (n,azk),by rw[hs],(λh=>by cases h),λj hj=>?_⟩;cases hj;exact⟨⟨_,rfl⟩,ayA _,e,by simp,hs⟩
  .rename_i hs;obtain⟨r,h1,h2,h3⟩:=L6 h;refine⟨r,by rw[hs];exact h1,h2,λj hj=>?_⟩;obtain⟨h4,h5,e',h6,h7⟩:=h3 j hj;refine⟨h4,by omega,e',?_,h7⟩;rw[show j- n=(j-(n+1))+1 by omega];simpa using h6
  .cases h
theorem run_underlying{t:TypeId}{kd:TypeDesc}(h:P.underlying t=aa kd):aP P (underlying t)=aa kd:=by
 unfold underlying;rw[bj];show(aP P (.program λp=>.pure p)).bind _=_;simp only[aP,ayx,h];rfl
theorem GR{kd:TypeDesc}{k:Value}:∀(es aQ:List MapEntry) (n:Nat),es.map (λe=>(e.key,e.val))=aQ.map (λe=>(e.key,e.val))->azT kd k es n=azT kd k aQ n
 |[],[],_,_=>rfl
 |[],e'::aQ,_,h=>by simp at h
 |e::es,[],_,h=>by simp at h
 |e::es,e'::aQ,n,h=>by
  simp only[azs,aAa,ay7]at h;simp only[azT];rw[h.1.1,h.1.2,GR es aQ (n+1) h.2]
theorem AR{kt:TypeId}{k:Value}:∀(es aQ:List MapEntry) (n:Nat),es.map (λe=>(e.key,e.val))=aQ.map (λe=>(e.key,e.val))->azF kt k es n=azF kt k aQ n
 |[],[],_,_=>rfl
 |[],e'::aQ,_,h=>by simp at h
 |e::es,[],_,h=>by simp at h
 |e::es,e'::aQ,n,h=>by
  simp only[azs,aAa,ay7]at h;simp only[azF];rw[h.1.1,h.1.2,AR es aQ (n+1) h.2]
theorem aab{b:Bool}{kt:TypeId}{k:Value}{es aQ:List (Value×IV×Nat)}(h:es.map (·.1)=aQ.map (·.1)):kA P b kt k es=kA P b kt k aQ:=by
 have hm:(es.map λe=>({key:=e.1,val:=azk,born:=e.2.2}:MapEntry)).map (λe=>(e.key,e.val))=(aQ.map λe=>({key:=e.1,val:=azk,born:=e.2.2}:MapEntry)).map (λe=>(e.key,e.val)):=by
  simp only[aB3]
  have:∀l:List (Value×IV×Nat),l.map ((λe:MapEntry=>(e.key,e.val))∘λe=>({key:=e.1,val:=azk,born:=e.2.2}:MapEntry))=(l.map (·.1)).map λk=>(k,azk):=λl=>by
   rw[aB3];rfl
  rw[this,this,h]
 unfold kA
 have hf:azZ kt k (es.map λe=>{key:=e.1,val:=azk,born:=e.2.2})=azZ kt k (aQ.map λe=>{key:=e.1,val:=azk,born:=e.2.2}):=by
  unfold azZ
  congr 1
  funext d;rw[GR _ _ 0 hm,AR _ _ 0 hm]
 rw[hf]
theorem yu{kt:TypeId}{ds:List IV}{x:IV}{q:Option Nat}{es:List (Value×IV×Nat)}(he:E3 R Y es ds)(h:jl P kt ds x=aa q)(b:Bool):
 ∃key,keyOf x=aa key/\nc x=aa key/\lift key=x/\kA P b kt key es=aa q/\∀j,q=aa j->∃e,es[j]?=aa e/\aA7 10000 e.1 key=ab:=by
 unfold jl at h;split at h
 .rename_i kd ks key hk eh sA;have h1:=sA;obtain⟨h2,h3⟩:=HF sA;have jV:=Xn he eh;rw[<-jV]at h;obtain⟨r,g1,g2,g3⟩:=L6 h;refine⟨key,h1,h2,h3,?_,λj hj=>?_⟩
  .have hu:P.underlying kt=aa kd/\((∃q,kd=.int q)\/kd=.string):=by
    unfold Ea at hk;split at hk
    .rename_i q hq;cases hk;exact⟨hq,.inl ⟨_,rfl⟩⟩
    .rename_i hq;cases hk;exact⟨hq,.inr rfl⟩
    .cases hk
   have hck:aP P (aBr b 10000 kt key)=aa ():=by
    show aP P (aBr b (9999+1) kt key)=aa ();unfold aBr;rw[bj,run_underlying hu.1,ayx];rcases hu.2 with⟨q,rfl⟩|rfl<;>rfl
   have hfk:aP P (azZ kt key (es.map λe=>{key:=e.1,val:=azk,born:=e.2.2}))=aa r:=by
    unfold azZ;rw[bj,run_underlying hu.1,ayx,g1];rfl
   unfold kA;rw[bj,hck,ayx,hfk];cases q with
   |none=>rw[g2 rfl]
   |some j=>obtain⟨⟨v,rfl⟩,_⟩:=g3 j rfl;rfl
  .obtain⟨_,_,e,g4,g5⟩:=g3 j hj;refine⟨e,by simpa using g4,?_⟩;unfold aBD at g5;split at g5
   .rename_i hh;split at g5
    .rename_i hq;simp only[ayB]at g5;rw[‹e.1=_›];simp[aA7,hq,eq_of_beq g5]
    .cases g5
   .rename_i a b lF;rw[lF];simp only[ayB]at g5;have hd:a.data=b.data:=eq_of_beq (show(a.data==b.data)=ab from g5);show(b.data==a.data)=ab;simp[hd]
   .rw[‹e.1=_›];simp only[ayB]at g5;simp[aA7,eq_of_beq g5]
   .cases g5
 .rename_i ks key hk eh sA;obtain⟨h2,h3⟩:=HF sA;have jV:=Xn he eh;have qu:∀b',kA P b' kt key es=kA P b' kt key (ks.map λe=>(e,.undef,0)):=λb'=>aab (by rw[jV];simp[Function.comp_def]);unfold LW at h;split at h<;>try (cases h;done)
  rename_i q1 q2 Bi Jn;split at h<;>try (cases h;done)
  rename_i Xo;subst Xo
  have hkb:kA P b kt key es=aa q1:=by
   rw[qu];cases b
   .exact Jn
   .exact Bi
  split at h
  .cases h;exact⟨key,sA,h2,h3,hkb,λj hj=>by cases hj⟩
  .rename_i j;split at h<;>try (cases h;done)
   rename_i e hj;split at h<;>try (cases h;done)
   rename_i hsb;cases h;refine⟨key,sA,h2,h3,hkb,λj' ni=>?_⟩;cases ni;rw[<-jV,ayR]at hj;obtain⟨e',h5,h6⟩:=ayG.1 hj;exact⟨e',h5,by rw[h6];exact hsb⟩
 .cases h
end
section
variable{Cx:Cs}
variable{P:Program}{N:Nat}{Y al:St}{R R':Rs}{X aN:Ph}{E:Nat->Env}{G:List IV}
variable{C:Cr}{Q:IV->Prop}{K:List (List IV->Prop)}{V:SS}{d:Nat}{o:Oper}{k:PV SE->SS->ak}{L:List (LO SE)}{Γ:Gm SE}
theorem KI:∀{ds:List (Cl SE)} {es:List SE},IC ds=aa es->ds=es.map .v
 |[],es,h=>by simp only[IC,ayB]at h;subst h;rfl
 |c::ds,es,h=>by
  cases c<;>simp only[IC]at h<;>try (cases h;done)
  split at h
  .rename_i aQ he;simp only[ayB]at h;subst h;rw[KI he];rfl
  .cases h
theorem KJ(hJ:J Cx (ay P G) R X V.g V.l E Y):∀{cs:List (Cl SE)} {es:List SE} {xs:List IV},yo cs=aa es->All2 (cZ (ay P G) R X V.l Y) xs cs->
 ∃ys:List IV,All2 (λ(z:SE) y=>z.den P G=aa y) es ys/\All2 (bD ab R Y) xs ys
 |[],es,[],h,_=>by simp only[yo,ayB]at h;subst h;exact⟨[],trivial,trivial⟩
 |[],es,_::_,_,hx=>hx.elim
 |c::cs,es,[],_,hx=>hx.elim
 |c::cs,es,x::xs,h,hx=>by
  have next:∀{e:SE} {y:IV},(yo cs).map (e::·)=aa es->e.den P G=aa y->bD ab R Y x y->∃ys:List IV,All2 (λ(z:SE) y=>z.den P G=aa y) es ys/\All2 (bD ab R Y) (x::xs) ys:=by
   intro e y h h1 h2;obtain⟨aQ,h3,rfl⟩:=ayG.1 h;obtain⟨ys,h4,h5⟩:=KJ hJ h3 hx.2;exact⟨y::ys,⟨h1,h4⟩,⟨h2,h5⟩⟩
  simp only[yo]at h;split at h
  .obtain⟨y,h1,h2,_⟩:=hx.1;exact next h h1 (h2.mono hJ.BH)
  .obtain⟨y,h1,h2,_⟩:=hx.1;exact next h h1 h2.cP
  .rename_i b s;obtain⟨h1,h2⟩:=hx.1;refine next (y:=.tree s []) h (by simp[SE.den,h1]) ?_
   subst h2;cases b
   .exact .emp s h1
   .exact .nil s h1
  .cases h
theorem Ed(hJ:J Cx (ay P G) R X V.g V.l E Y){pv:PV SE}{ke:SE}{x:IV}(hx:VR (ay P G) R X V.l Y x pv)(h:Kt pv=aa ke):∃kv,ke.den P G=aa kv/\bD ab R Y x kv:=by
 unfold Kt at h;split at h<;>try (cases h;done)
 .cases h;obtain⟨y,h1,h2,_⟩:=hx;exact⟨y,h1,h2.mono hJ.BH⟩
 .cases h;obtain⟨y,h1,h2,_⟩:=hx;exact⟨y,h1,h2.cP⟩
 .rename_i cs;obtain⟨es,h1,rfl⟩:=ayG.1 h;obtain⟨xs,rfl,pc⟩:=hx;obtain⟨ys,g1,g2⟩:=KJ hJ h1 pc;exact⟨.agg ys,fJ g1,.agg xs ys g2.len λi c e h1 h2=>g2.get h1 h2⟩
theorem All2.akQ{O β:Type}{r:O->β->Prop}{a:O}{b:β}(hr:r a b):∀{as:List O} {bs:List β} {i:Nat},All2 r as bs->All2 r (as.set i a) (bs.set i b)
 |[],[],i,_=>by simp;trivial
 |_::_,_::_,0,h=>⟨hr,h.2⟩
 |_::_,_::_,i+1,h=>⟨h.1,All2.akQ hr h.2⟩
 |[],_::_,_,h=>h.elim
 |_::_,[],_,h=>h.elim
theorem aiz(hJ:J Cx (ay P G) R X V.g V.l E Y)(hn:G.length=V.n){j id:Nat}{kt:TypeId}{so:SE}(hj:V.l[j]?=aa (.mp kt so)){es aQ:List (Value×IV×Nat)}{clock p7:Nat}{sg:List IV}(jD:¬sS kt=ab)(my:X j=aa id)(hR:R id=ah)(aK:Y.at id=aa (.map es clock))
 (he:E3 R Y aQ sg/\Canon aQ p7):J Cx (ay P (G++[.aL sg])) R X V.g (V.l.set j (.mp kt (.var V.n))) E (Y.put id (.map aQ p7)):=by
 have bR:=hJ.up (jX:=ay P (G++[.aL sg])) (λe y h=>SE.dN P e h)
 exact(bR.vu (R':=R) (bad:=λ_=>False) (lg:=.mp kt (.var V.n)) (fK:=.map aQ p7) my hj (λ_ _=>rfl)
  (λm hm=>by rw[hR]at hm;cases hm) (λm _ _ _ hm=>by rw[hR]at hm;cases hm) (λm _ _ _ hm=>by rw[hR]at hm;cases hm)
  (λ_ h=>by cases h) (λ_ _ _=>by rename_i h;cases h;exact⟨_,rfl⟩) (λ_ _ _ _ _ h=>by cases h) (λ_ _ pv _=>pv.a_) (λ_ o _ _=>o.a_)
  (λfq=>by rw[ti,if_neg jD];exact⟨id,aQ,p7,sg,by simp[ay,SE.den,<-hn],my,hR,by rw[St.dv,if_pos rfl],he.1.mono λ_ _ ⟨z,h1,h2⟩=>⟨z,h1,h2.mono fq.grow⟩,he.2⟩)).2
theorem L7{t:TypeId}{m key x:Operand}(hJ:J Cx (ay P G) R X V.g V.l E Y)(hn:G.length=V.n)(ho:o.op=.mapUpdate t m key x\/o.op=.insert t m key x)(hs:(kh P d o V k).sat P C Q K G):dK Cx P C Q K G E V.ln k (cq P E d o Y):=by
 have fq:(match P.underlying t with
  |some (.map kt et)=>NF kt (cg P d V t m) (cg P d V kt key) (cg P d V et x) V k
  |_=>.fail 66).sat P C Q K G:=by
  rcases ho with ho|ho<;>(unfold kh at hs;rw[ho]at hs;exact hs)
 split at fq<;>try exact fq.elim
 rename_i kt et hu;unfold NF at fq;split at fq<;>try exact fq.elim
 rename_i j ke xe hm hk hx;split at fq<;>try exact fq.elim
 rename_i AH so hj;split at fq<;>try exact fq.elim
 rename_i oV;rw[ayz,azn]at oV;obtain⟨oV,jD⟩:=oV;have Fk:=ayH oV;subst Fk;have jD:¬sS kt=ab:=by rw[jD];simp
 obtain⟨z,hz,auf⟩:=fq;have BI:=bF hJ d t m;have Tx:=bF hJ d kt key;obtain⟨xv,y8,hxr⟩:=Ed hJ (bF hJ d et x) hx;rw[hm]at BI;obtain⟨id,kt2,lk,g1,g2,g3⟩:=BI;rw[hj]at g2;cases g2;rw[if_neg jD]at g3;obtain⟨kv,a1,a2⟩:=Ed hJ Tx hk;have fT:=hJ.obj j _ hj;rw[ti,if_neg jD]at fT;obtain⟨bz,es,clock,ds,c1,c2,c3,c4,c5⟩:=fT;rw[g1]at c2;cases c2;have vJ:so.den P G=aa (.aL ds):=c1;have y7:ke.den P G=aa kv:=a1;simp only[SE.den,vJ,y7,y8,ayx]at hz
 have fin:∀{aQ:List (Value×IV×Nat)} {p7:Nat} {sg:List IV},E3 R Y aQ sg/\Canon aQ p7->z=.aL sg->qI P 0 kt (aC (E d) m) (aC (E d) key) (aC (E d) x) Y=aa (Y.put id (.map aQ p7))->dK Cx P C Q K G E V.ln k (cq P E d o Y):=by
  intro aQ p7 sg he LZ Dh;subst LZ;have fE:=aiz (p7:=p7) hJ hn hj jD g1 c3 c4 he;refine⟨.undef,_,R,X,.one .un,{V with n:=V.n+1,l:=V.l.set j (.mp kt (.var V.n))},[.aL sg],?_,fE,trivial,by simp[hn],rfl,auf⟩;rcases ho with ho|ho<;>simp[cq,aA,ho,hu,Dh,ret]
 split at hz
 .rename_i q hq;obtain⟨kk,e1,e2,e3,e4,e5⟩:=yu c5.1 hq af;have JL:=HG e1 a2;obtain⟨e,h6,h7⟩:=e5 q rfl;refine fin (aQ:=es.set q (kk,aC (E d) x,e.2.2)) (p7:=clock) (sg:=ds.set q (.aL [kv,xv])) ⟨All2.akQ ⟨xv,by rw[e3],hxr⟩ c5.1,c5.2.set h6 _ _⟩ (by simpa using hz.symm) ?_;unfold qI;rw[g3,JL];simp only[e2,c4,e4,h6,h7,if_true,azi,not_true,if_false]
 .rename_i hq;obtain⟨kk,e1,e2,e3,e4,e5⟩:=yu c5.1 hq af;have JL:=HG e1 a2;refine fin (aQ:=es++[(kk,aC (E d) x,clock)]) (p7:=clock+1) (sg:=ds++[.aL [kv,xv]]) ⟨c5.1.app ⟨⟨xv,by rw[e3],hxr⟩,trivial⟩,c5.2.app _ _⟩ (by simpa using hz.symm) ?_;unfold qI;rw[g3,JL];simp only[e2,c4,e4,azi,not_true,if_false]
 .cases hz
theorem aeP{t:TypeId}{e:SE}(h:E9 P t=aa e):∃v,dj P t=aa v/\e.den P G=aa (.raw v)/\lift v=.raw v:=by
 unfold E9 at h;split at h<;>first|(cases h;exact⟨_,‹_›,rfl,rfl⟩)|cases h
theorem akR{fr:Bool}{x:IV}(h:bD fr R Y x (.agg [])):x=.agg []:=by
 cases h with
 |agg cs _ hl _=>
  have h0:cs=[]:=ayZ (by simpa using hl);rw[h0]
 |pure=>rfl
theorem aeQ{t:TypeId}(h:Ri P t=ab):dj P t=aa (.agg #[]):=by
 unfold Ri at h;split at h
 .rename_i cs hc;rw[hc];have:cs.toList=[]:=by simpa using h
  rw[show cs= #[]from by cases cs;simp at this;rw[this]]
 .cases h
theorem Wv{t:TypeId}{m key:Operand}{kt et:TypeId}(hJ:J Cx (ay P G) R X V.g V.l E Y)(hn:G.length=V.n)(ho:o.op=.lookup t m key ab)(hu:P.underlying t=aa (.map kt et))(hz:Ri P et=ab)
 (hs:(NH kt (cg P d V t m) (cg P d V kt key) V k).sat P C Q K G):dK Cx P C Q K G E V.ln k (cq P E d o Y):=by
 have qJ:=aeQ hz;unfold NH at hs;split at hs<;>try exact hs.elim
 rename_i j ke hm hk;split at hs<;>try exact hs.elim
 rename_i AH so hj;split at hs<;>try exact hs.elim
 rename_i oV;rw[ayz,azn]at oV;obtain⟨oV,jD⟩:=oV;have Fk:=ayH oV;subst Fk;have jD:¬sS kt=ab:=by rw[jD];simp
 obtain⟨⟨u,AS⟩,h,hh,hs⟩:=hs;have BI:=bF hJ d t m;have Tx:=bF hJ d kt key;rw[hm]at BI;obtain⟨id,kt2,lk,g1,g2,g3⟩:=BI;rw[hj]at g2;cases g2;rw[if_neg jD]at g3;obtain⟨kv,a1,a2⟩:=Ed hJ Tx hk;have fT:=hJ.obj j _ hj;rw[ti,if_neg jD]at fT;obtain⟨bz,es,clock,ds,c1,c2,c3,c4,c5⟩:=fT;rw[g1]at c2;cases c2;have vJ:so.den P G=aa (.aL ds):=c1;have y7:ke.den P G=aa kv:=a1
 have hg:∃q,jl P kt ds kv=aa q/\(q=ah\/∃i a,q=aa i/\ds[i]?=aa (.aL [a,.agg []])):=by
  simp only[SE.den,vJ,y7,ayx]at AS;cases hq:jl P kt ds kv with
  |none=>rw[hq]at AS;simp at AS
  |some q=>
   refine⟨q,rfl,?_⟩;rw[hq]at AS;cases q with
   |none=>exact .inl rfl
   |some i=>
    refine .inr ?_;simp only at AS;split at AS
    .rename_i a y hd;simp only[ayx]at AS;split at AS
     .rename_i cs;split at AS
      .rename_i hc;have:cs=[]:=ayZ hc.1;subst this;exact⟨i,a,rfl,hd⟩
      .cases AS
     .cases AS
    .simp at AS
 obtain⟨q,hq,Au⟩:=hg;obtain⟨kk,e1,e2,e3,e4,e5⟩:=yu c5.1 hq es.isEmpty;have JL:=HG e1 a2;simp only[SE.den,vJ,y7,ayx,hq,ay_,ayB]at hh;subst hh;have bR:=hJ.up (jX:=ay P (G++[.bool q.isSome])) (λe y h=>SE.dN P e h);have C8:entriesOf Y (aC (E d) m)=aa es:=by rw[g3];simp[entriesOf,c4]
 have gr:aA P 0 (aC (E d)) o Y=aa (.val (.aL [.agg [],.raw (.bool q.isSome)]) Y):=by
  simp only[aA,ho,hu,C8,JL,e2,e4,qJ];rcases Au with rfl|⟨i,a,rfl,hd⟩
  .simp[ret,lift]
  .obtain⟨e,h6,_⟩:=e5 i rfl;obtain⟨z',h8,h9⟩:=All2.get c5.1 h6 hd;simp only[IV.aL.injEq,aAa,and_true]at h8;obtain⟨_,rfl⟩:=h8;simp[ret,h6,akR h9]
 refine⟨.aL [.agg [],.raw (.bool q.isSome)],Y,R,X,.tu [(ab,[]),(af,[.v (.var V.n)])],{V with n:=V.n+1},[.bool q.isSome],gr,bR,⟨_,rfl,⟨[],rfl,trivial⟩,⟨_,rfl,.raw (.bool q.isSome),?_,.raw _,rfl⟩,trivial⟩,by simp[hn],rfl,hs⟩;simp[ay,SE.den,<-hn]
theorem Ww{t:TypeId}{m key:Operand}{kt et:TypeId}{ok:Bool}(hJ:J Cx (ay P G) R X V.g V.l E Y)(hn:G.length=V.n)(ho:o.op=.lookup t m key ok)(hu:P.underlying t=aa (.map kt et))
 (hs:(NG P kt et (cg P d V t m) (cg P d V kt key) ok V k).sat P C Q K G):dK Cx P C Q K G E V.ln k (cq P E d o Y):=by
 unfold NG at hs;split at hs<;>try exact hs.elim
 rename_i j ke zs n hm hk sZ Xp;split at sZ<;>try (cases sZ;done)
 rename_i arr qJ;split at hs<;>try exact hs.elim
 rename_i AH so hj;split at hs<;>try exact hs.elim
 rename_i oV;rw[ayz,azn]at oV;obtain⟨oV,jD⟩:=oV;have Fk:=ayH oV;subst Fk;have jD:¬sS kt=ab:=by rw[jD];simp
 obtain⟨z,hz,hs⟩:=hs;have BI:=bF hJ d t m;have Tx:=bF hJ d kt key;rw[hm]at BI;obtain⟨id,kt2,lk,g1,g2,g3⟩:=BI;rw[hj]at g2;cases g2;rw[if_neg jD]at g3;obtain⟨kv,a1,a2⟩:=Ed hJ Tx hk;have fT:=hJ.obj j _ hj;rw[ti,if_neg jD]at fT;obtain⟨bz,es,clock,ds,c1,c2,c3,c4,c5⟩:=fT;rw[g1]at c2;cases c2;have vJ:so.den P G=aa (.aL ds):=c1;have y7:ke.den P G=aa kv:=a1;obtain⟨zys,y1,y2⟩:=KJ hJ sZ (qR (R:=R) (X:=X) (L:=V.l) (Y:=Y) qJ);have aug:=fJ y1;simp only[Value.cells]at y2;have aoU:lift (.agg arr)=.agg (arr.toList.map .raw):=rfl
 have hg:∃q,jl P kt ds kv=aa q/\∃cs,z=.agg cs/\cs.length=n/\cs.all Ev.ao=ab/\((q=ah/\cs=zys)\/∃i a,q=aa i/\ds[i]?=aa (.aL [a,.agg cs])):=by
  simp only[SE.den,vJ,y7,aug,ayx]at hz;cases hq:jl P kt ds kv with
  |none=>rw[hq]at hz;simp at hz
  |some q=>
   refine⟨q,rfl,?_⟩;rw[hq]at hz;cases q with
   |none=>
    simp only[ayx]at hz;split at hz
    .rename_i hc;cases hz;exact⟨zys,rfl,hc.1,hc.2,.inl ⟨rfl,rfl⟩⟩
    .cases hz
   |some i=>
    simp only at hz;split at hz
    .rename_i a y hd;simp only[ayx]at hz;split at hz<;>try (cases hz;done)
     rename_i cs;split at hz
     .rename_i hc;cases hz;exact⟨cs,rfl,hc.1,hc.2,.inr ⟨i,a,rfl,hd⟩⟩
     .cases hz
    .simp at hz
 obtain⟨q,hq,cs,rfl,jf,HC,Au⟩:=hg;obtain⟨kk,e1,e2,e3,e4,e5⟩:=yu c5.1 hq es.isEmpty;have JL:=HG e1 a2;have bR:=hJ.up (jX:=ay P (G++[.agg cs])) (λe y h=>SE.dN P e h);have C8:entriesOf Y (aC (E d) m)=aa es:=by rw[g3];simp[entriesOf,c4]
 have gr:∃xs,All2 (bD ab R Y) xs cs/\aA P 0 (aC (E d)) o Y=aa (.val (if ok then .aL [.agg xs,.raw (.bool q.isSome)]else .agg xs) Y):=by
  rcases Au with⟨rfl,rfl⟩|⟨i,a,rfl,hd⟩
  .refine⟨_,y2,?_⟩;simp only[aA,ho,hu,C8,JL,e2,e4,qJ];cases ok<;>simp[ret,aoU]
  .obtain⟨e,h6,_⟩:=e5 i rfl;obtain⟨z',h8,h9⟩:=All2.get c5.1 h6 hd;simp only[IV.aL.injEq,aAa,and_true]at h8;obtain⟨_,rfl⟩:=h8;obtain⟨xs,yV,sb⟩:=Tw h9;refine⟨xs,sb,?_⟩;simp only[aA,ho,hu,C8,JL,e2,e4,qJ];cases ok<;>simp[ret,h6,yV]
 obtain⟨xs,pc,gr⟩:=gr
 have jU:∀(I:List IV) (m0:Nat),G.length=m0->All2 (cZ (ay P (G++(.agg cs::I))) R X V.l Y) xs ((azR n).map λj=>.w ab (.bC (.var m0) j)):=by
  intro I m0 An;refine .mk (by simp[pc.len,jf]) λi a b h1 h2=>?_;have hi:=(ayw.1 h1).1;rw[pc.len]at hi;rw[ayR,aAO ai]at h2;simp only[ay_,ayB]at h2;subst h2;have hci:cs[i]?=aa cs[i]:=ayv hi;have bu:Ev.ao cs[i]=ab:=(ayP.1 HC) _ (ayy hi);exact⟨cs[i],by simp[ay,SE.den,<-An,hci,yr,bu],pc.get h1 hci,bu⟩
 cases ok with
 |false=>
  simp only[ayW,if_false]at hs gr;exact⟨.agg xs,Y,R,X,.ag _,{V with n:=V.n+1},[.agg cs],gr,bR,⟨xs,rfl,jU [] V.n hn⟩,by simp[hn],rfl,hs⟩
 |true=>
  simp only[if_true]at hs gr;obtain⟨h,hh,hs⟩:=hs;have aeR:=SE.dN P so (I:=[.agg cs]) vJ;have aeS:=SE.dN P ke (I:=[.agg cs]) y7;simp only[SE.den,aeR,aeS,ayx,hq,ay_,ayB]at hh;subst hh;rw[ayJ]at hs;have fE:=bR.up (jX:=ay P (G++([.agg cs]++[.bool q.isSome]))) (λe y h=>by rw[<-ayJ];exact SE.dN P e h);refine⟨.aL [.agg xs,.raw (.bool q.isSome)],Y,R,X,.tu [(ab,_),(af,[.v (.var (V.n+1))])],{V with n:=V.n+1+1},[.agg cs]++[.bool q.isSome],gr,fE,⟨_,rfl,⟨xs,rfl,jU [.bool q.isSome] V.n hn⟩,⟨_,rfl,.raw (.bool q.isSome),?_,.raw _,rfl⟩,trivial⟩,by simp[hn],rfl,hs⟩;simp[ay,SE.den,<-hn]
theorem aac{t:TypeId}{m key:Operand}{ok:Bool}(hJ:J Cx (ay P G) R X V.g V.l E Y)(hn:G.length=V.n)(ho:o.op=.lookup t m key ok)(hs:(kh P d o V k).sat P C Q K G):dK Cx P C Q K G E V.ln k (cq P E d o Y):=by
 unfold kh at hs;rw[ho]at hs;simp only at hs;split at hs<;>try exact hs.elim
 rename_i kt et hu;split at hs
 .rename_i bu;simp only[ayz]at bu;obtain⟨rfl,hz⟩:=bu;exact Wv hJ hn ho hu hz hs
 split at hs
 .exact Ww hJ hn ho hu hs
 unfold Xe at hs;split at hs<;>try exact hs.elim
 rename_i j ke z0 hm hk qJ;split at hs<;>try exact hs.elim
 rename_i AH so hj;split at hs<;>try exact hs.elim
 rename_i oV;rw[ayz,azn]at oV;obtain⟨oV,jD⟩:=oV;have Fk:=ayH oV;subst Fk;have jD:¬sS kt=ab:=by rw[jD];simp
 obtain⟨z,hz,hs⟩:=hs;obtain⟨vI,akS⟩:=vF hz;have BI:=bF hJ d t m;have Tx:=bF hJ d kt key;rw[hm]at BI;obtain⟨id,kt2,lk,g1,g2,g3⟩:=BI;rw[hj]at g2;cases g2;rw[if_neg jD]at g3;obtain⟨kv,a1,a2⟩:=Ed hJ Tx hk;have fT:=hJ.obj j _ hj;rw[ti,if_neg jD]at fT;obtain⟨bz,es,clock,ds,c1,c2,c3,c4,c5⟩:=fT;rw[g1]at c2;cases c2;have vJ:so.den P G=aa (.aL ds):=c1;have y7:ke.den P G=aa kv:=a1;obtain⟨v0,y1,y2,y3⟩:=aeP (G:=G) qJ
 have hg:∃q,jl P kt ds kv=aa q/\∃u,z=.raw u/\((q=ah/\u=v0)\/∃i a,q=aa i/\ds[i]?=aa (.aL [a,.raw u])):=by
  simp only[SE.den,vJ,y7,y2,ayx]at vI;cases hq:jl P kt ds kv with
  |none=>rw[hq]at vI;simp at vI
  |some q=>
   refine⟨q,rfl,?_⟩;rw[hq]at vI;cases q with
   |none=>
    simp only[ayx,aF,if_true,ayB]at vI;exact⟨v0,vI.symm,.inl ⟨rfl,rfl⟩⟩
   |some i=>
    simp only at vI;split at vI
    .rename_i a y hd;simp only[ayx]at vI;split at vI
     .rename_i hr;cases vI;cases z<;>simp only[aF]at hr<;>try (cases hr;done)
      rename_i u;exact⟨u,rfl,.inr ⟨i,a,rfl,hd⟩⟩
     .cases vI
    .simp at vI
 obtain⟨q,hq,u,rfl,Au⟩:=hg;obtain⟨kk,e1,e2,e3,e4,e5⟩:=yu c5.1 hq es.isEmpty;have JL:=HG e1 a2;have bR:=hJ.up (jX:=ay P (G++[.raw u])) (λe y h=>SE.dN P e h);have mz:(SE.var V.n).den P (G++[.raw u])=aa (.raw u):=by simp[SE.den,<-hn]
 have C8:entriesOf Y (aC (E d) m)=aa es:=by rw[g3];simp[entriesOf,c4]
 have gr:aA P 0 (aC (E d)) o Y=aa (.val (if ok then .aL [.raw u,.raw (.bool q.isSome)]else .raw u) Y):=by
  simp only[aA,ho,hu,C8,JL,e2,e4,y1];rcases Au with⟨rfl,rfl⟩|⟨i,a,rfl,hd⟩
  .cases ok<;>simp[ret,y3]
  .obtain⟨e,h6,_⟩:=e5 i rfl;obtain⟨z',h8,h9⟩:=All2.get c5.1 h6 hd;simp only[IV.aL.injEq,aAa,and_true]at h8;obtain⟨_,rfl⟩:=h8;have:=cQ h9;cases ok<;>simp[ret,h6,this]
 cases ok with
 |false=>
  simp only[ayW,if_false]at hs gr;exact⟨.raw u,Y,R,X,.one (.v (.var V.n)),{V with n:=V.n+1},[.raw u],gr,bR,⟨.raw u,mz,.raw u,akS⟩,by simp[hn],rfl,hs⟩
 |true=>
  simp only[if_true]at hs gr;obtain⟨h,hh,hs⟩:=hs;have aeR:=SE.dN P so (I:=[.raw u]) vJ;have aeS:=SE.dN P ke (I:=[.raw u]) y7;simp only[SE.den,aeR,aeS,ayx,hq,ay_,ayB]at hh;subst hh;rw[ayJ]at hs;have fE:=bR.up (jX:=ay P (G++([.raw u]++[.bool q.isSome]))) (λe y h=>by rw[<-ayJ];exact SE.dN P e h);refine⟨.aL [.raw u,.raw (.bool q.isSome)],Y,R,X,.tu [(af,[.v (.var V.n)]),(af,[.v (.var (V.n+1))])],{V with n:=V.n+1+1},[.raw u]++[.bool q.isSome],gr,fE,⟨_,rfl,⟨_,rfl,.raw u,?_,.raw u,akS⟩,⟨_,rfl,.raw (.bool q.isSome),?_,.raw _,rfl⟩,trivial⟩,by simp[hn],rfl,hs⟩
  .simp[ay,SE.den,<-hn]
  .simp[ay,SE.den,<-hn]
end
section
variable{Cx:Cs}
variable{P:Program}{N:Nat}{Y al:St}{R R':Rs}{X aN:Ph}{E:Nat->Env}{G:List IV}
variable{C:Cr}{Q:IV->Prop}{K:List (List IV->Prop)}{V:SS}{d:Nat}{o:Oper}{k:PV SE->SS->ak}{L:List (LO SE)}{Γ:Gm SE}
theorem Xq{s:Nat}{e lo hi:SE}{z:IV}(h:(SE.sub s e lo hi).den P G=aa z):∃es a b l m q r,e.den P G=aa (.tree s es)/\lo.den P G=aa a/\hi.den P G=aa b/\a=.raw (.int q (l:Nat))/\b=.raw (.int r (m:Nat))/\l<=m/\m<=es.length/\z=.tree s ((es.take m).drop l):=by
 simp only[SE.den,ayV]at h;obtain⟨x,h1,a,h2,b,h3,h4⟩:=h;unfold p6 at h4;split at h4<;>try (cases h4;done)
 rename_i s1 es;split at h4<;>try (cases h4;done)
 rename_i l m hl hm;split at h4<;>try (cases h4;done)
 rename_i hc;obtain⟨rfl,h5,h6,h7,h8⟩:=hc;cases h4;obtain⟨q,rfl⟩:=KE hl;obtain⟨r,rfl⟩:=KE hm;exact⟨es,_,_,l.toNat,m.toNat,q,r,h1,h2,h3,by rw[aBE h5],by rw[aBE h7],h6,h8,rfl⟩
theorem bD.part{fr:Bool}{x:IV}{s l m:Nat}{es:List IV}{t el:TypeId}(hu:P.underlying t=aa (.slice el))(bf:aS P el=aa s)(h:bD fr R Y x (.tree s es))(h1:l<=m)(h2:m<=es.length){lo hi:Option IV}
 (i_:∀id off len c ep s',x=.sl id off len (aa c) ep s'->len<=c)
 (Lw:iu lo=aa (aa l)\/(iu lo=aa ah/\l=0))(hhi:iu hi=aa (aa m)\/(iu hi=aa ah/\m=es.length)):
 ∃x',ga P t x lo hi ah=aa x'/\bD fr R Y x' (.tree s ((es.take m).drop l)):=by
 obtain⟨lg,NS,NT⟩:∃q:Option Nat,iu lo=aa q/\q.getD 0=l:=by
  rcases Lw with h|⟨h,rfl⟩
  .exact⟨_,h,rfl⟩
  .exact⟨_,h,rfl⟩
 obtain⟨cX,NU,aeT⟩:∃q:Option Nat,iu hi=aa q/\∀n,n=es.length\/q≠ah->q.getD n=m:=by
  rcases hhi with h|⟨h,rfl⟩
  .exact⟨_,h,λn _=>rfl⟩
  .exact⟨_,h,λn hn=>by rcases hn with rfl|hn;·rfl
                       .exact absurd rfl hn⟩
 have ve:iu ah=aa ah:=rfl
 have hz:es.length=0->l=0/\m=0/\(es.take m).drop l=[]/\cX.getD 0=0:=by
  intro h;have:es=[]:=ayZ h;subst this;have An:m=0:=by simpa using h2
  refine⟨by omega,An,by simp,?_⟩;have:=aeT 0 (.inl rfl);omega
 cases h with
 |nil _ hs=>
  obtain⟨z1,z2,z3,z4⟩:=hz rfl;refine⟨.raw (.slice ah 0 0),?_,by rw[z3];exact .nil s hs⟩;simp[ga,NS,NU,ve,hu,bf,NT,z1,z4]
 |emp _ hs=>
  obtain⟨z1,z2,z3,z4⟩:=hz rfl;refine⟨.emp,?_,by rw[z3];exact .emp s hs⟩;simp[ga,NS,NU,ve,hu,bf,NT,z1,z4]
 |pure _ hf hp=>
  refine⟨.tree s ((es.take m).drop l),?_,.pure _ hf ?_⟩
  .have:=aeT es.length (.inl rfl);simp[ga,NS,NU,ve,hu,bf,NT,this,h1,h2]
  .cases hp with
   |tree _ _ hh=>exact .tree s _ λe he=>hh e (azI (aAE he))
 |sl id off len cap ep _ m0 cs aB mn _ hR aK h3 h4 hs hl hb hm bQ hh=>
  have Bk:=aeT len (.inl hl.symm)
  have jJ:∀Fl:Option Nat,bD fr R Y (.sl id (off+l*s) (m- l) Fl ep s) (.tree s ((es.take m).drop l)):=λFl=>by
   refine .sl id (off+l*s) (m- l) Fl ep s m0 cs aB mn _ hR aK h3 h4 hs (by simp;omega) ?_ hm (λe he=>bQ e (azI (aAE he))) λi e j c d' he hd hc=>?_
   .have:(m- l)*s+l*s<=len*s:=by rw[<-azd];exact ay4 s ai
    omega
   .rw[azW,aza]at he;split at he
    .refine hh (l+i) e j c d' he hd ?_;rw[azd];rw[show off+(l*s+i*s)+j=off+l*s+i*s+j by omega];exact hc
    .cases he
  cases cap with
  |none=>
   refine⟨.sl id (off+l*s) (m- l) ah ep s,?_,jJ ah⟩;have:cX.getD len=m:=Bk;simp[ga,NS,NU,ve,hu,bf,NT,this,h1];omega
  |some c=>
   by_cases hmc:m<=c
   .by_cases hc:c=l
    .refine⟨.emp,?_,?_⟩
     .simp[ga,NS,NU,ve,hu,bf,NT,Bk,h1,hc];omega
     .have:(es.take m).drop l=[]:=by
       apply ayZ;simp;omega
      rw[this];exact .emp s hs
    .refine⟨.sl id (off+l*s) (m- l) (aa (c- l)) ep s,?_,jJ _⟩;simp[ga,NS,NU,ve,hu,bf,NT,Bk,h1,hmc,hc]
   .have:=i_ _ _ _ _ _ _ rfl;omega
theorem Ty{q:IntKind}{n:Nat}:iu (aa (.raw (.int q (n:Nat))))=aa (aa n):=by
 simp[iu]
theorem L8(hJ:J Cx (ay P G) R X V.g V.l E Y){ZT e:SE}{x:Option Operand}(h:Ku P d V ZT x=aa e){n:Nat}{q:IntKind}(he:e.den P G=aa (.raw (.int q (n:Nat)))):
 iu (x.map (aC (E d)))=aa (aa n)\/(iu (x.map (aC (E d)))=aa ah/\e=ZT):=by
 cases x with
 |none=>simp only[Ku,ayB]at h;exact .inr ⟨rfl,h.symm⟩
 |some x=>
  simp only[Ku]at h;split at h
  .rename_i e' hx;cases h;have hv:=bF hJ d 3 x;rw[hx]at hv;obtain⟨y,h1,h2,_⟩:=hv;have dk:e.den P G=aa y:=h1;rw[he]at dk;cases dk;rw[ay_,cQ h2];exact .inl Ty
  .cases h
theorem acd{t:TypeId}{x:Operand}{lo hi mx:Option Operand}(hJ:J Cx (ay P G) R X V.g V.l E Y)(hn:G.length=V.n)(ho:o.op=.slice t x lo hi mx)(hs:(NI P d t (cg P d V t x) lo hi mx V k).sat P C Q K G):dK Cx P C Q K G E V.ln k (cq P E d o Y):=by
 unfold NI at hs;split at hs<;>try exact hs.elim
 rename_i el c hu hx;have Bt:=bF hJ d t x;rw[hx]at Bt;split at hs<;>try exact hs.elim
 rename_i s bf;split at hs
 .rename_i j l _;split at hs<;>try exact hs.elim
  rename_i s' cut fr es e hj he;split at hs<;>try exact hs.elim
  rename_i je;have wZ:=ayH je;subst wZ;obtain⟨⟨z,hz⟩,hs⟩:=hs;obtain⟨gg,a,b,n,m,q,r,h1,h2,h3,rfl,rfl,h4,h5,rfl⟩:=Xq hz
  have hm:m=gg.length:=by
   obtain⟨s0,so,h6,h7⟩:=IM h3;rw[h1]at h6;cases h6;simp at h7;omega
  subst hm;have hl:=bF hJ d 3 l;rw[he]at hl;obtain⟨y,y1,y2,_⟩:=hl;have P7:e.den P G=aa y:=y1;rw[h2]at P7;cases P7;have fX:=cQ y2;obtain⟨s1,mX,vE,vD,z1,lk,b1,b2,b3⟩:=Bt;rw[hj]at b1;cases b1;have s5:es.den P G=aa (.tree s lk):=b2;rw[h1]at s5;cases s5;have Xp:nat? (.raw (.int q (n:Nat)))=aa n:=by simp[nat?]
  have Tz:iu (aa (aC (E d) l))=aa (aa n):=by rw[fX];exact Ty
  have ve:iu ah=aa ah:=rfl
  have fin:∀x',ga P t (aC (E d) x) (aa (aC (E d) l)) ah ah=aa x'->(Nv X Y j s cut n gg.length x'\/(n=gg.length/\x'=.emp))->dK Cx P C Q K G E V.ln k (cq P E d o Y):=λx' g1 g2=>by
   refine .at (x:=x') hs hJ hn rfl ⟨s,af,cut,fr,es,gg,_,n,hj,h1,h2,Xp,h4,g2⟩ ?_;simp[cq,aA,ho,g1,ret]
  rcases b3 with⟨c1,c2,c3⟩|⟨id,cs,aB,mn,cap,c1,c2,c3,c4,c5,c6⟩
  .have kM:n=0:=ai;subst kM;rcases c3 with c3|c3
   .refine fin (.raw (.slice ah 0 0)) ?_ (.inl (.inl ⟨c1,c2,.inl rfl⟩));rw[c3];simp[ga,Tz,ve,hu,bf]
   .refine fin .emp ?_ (.inl (.inl ⟨c1,c2,.inr rfl⟩));rw[c3];simp[ga,Tz,ve,hu,bf]
  .cases cap with
   |none=>
    refine fin (.sl id (n*s) (gg.length- n) ah aB s) ?_ (.inl (.inr ⟨id,cs,aB,mn,ah,c1,c2,rfl,h4,c5,λc hc=>by cases hc⟩));rw[c3];simp[ga,Tz,ve,hu,bf,h4]
   |some c=>
    obtain⟨d1,d2,d3⟩:=c6 c rfl;by_cases hc:c=n
    .refine fin .emp ?_ (.inr ⟨by omega,rfl⟩);rw[c3];simp[ga,Tz,ve,hu,bf,h4,hc];omega
    .refine fin (.sl id (n*s) (gg.length- n) (aa (c- n)) aB s) ?_ (.inl (.inr ⟨id,cs,aB,mn,aa (c- n),c1,c2,rfl,h4,(λh=>by simp at h),λc' DN=>?_⟩))
     .rw[c3];have:gg.length<=c:=ai;simp[ga,Tz,ve,hu,bf,h4,hc,this]
     .have auh:c- n=c':=by simpa using DN
      subst auh;refine⟨d1,?_,by omega⟩;have:n*s+(c- n)*s=c*s:=by rw[<-azd];congr 1;omega
      omega
 .rename_i c lo hi c0 lo0 PK b0 _;split at hs<;>try exact hs.elim
  rename_i fr z V2 fg;split at hs<;>try exact hs.elim
  rename_i le he hl hh
  have Ti:yZ V c=aa (fr,z,V2):=by
   split at fg<;>first|exact fg|cases fg
  obtain⟨R',g1,g2,g3⟩:=HB hJ Ti;obtain⟨y,g4,g5,_⟩:=g3 _ Bt;have yb:G.length=V2.n:=by rw[g1.2.1];exact hn
  obtain⟨w,w1,w2,w3,w4,w5⟩:=vH g2 yb hs;obtain⟨gg,a,b,l,m,q,r,h1,h2,h3,rfl,rfl,h4,h5,rfl⟩:=Xq w1;rw[g4]at h1;cases h1
  have i_:∀id off len c1 ep s',aC (E d) x=.sl id off len (aa c1) ep s'->len<=c1:=by
   intro id off len c1 ep s' ky;split at fg<;>try (cases fg;done)
   .obtain⟨y',_,q2,_⟩:=Bt;rw[ky]at q2;cases q2 with
    |pure _ _ hp=>cases hp
    |sl _ _ _ _ _ _ _ _ _ _ _ hR=>cases hR
   .obtain⟨_,q2⟩:=Bt;rw[ky]at q2;split at q2<;>cases q2
   .obtain⟨s1,mX,vE,vD,z1,lk,b1,b2,⟨_,_,b3|b3⟩|⟨bz,cs,aB,mn,cap,vJ,c2,c3,c4,c5,c6⟩⟩:=Bt
    .rw[ky]at b3;cases b3
    .rw[ky]at b3;cases b3
    .rw[ky]at c3;cases c3;have:=(c6 c1 rfl).2.2;omega
  have Lw:iu (lo.map (aC (E d)))=aa (aa l)\/(iu (lo.map (aC (E d)))=aa ah/\l=0):=by
   refine(L8 hJ hl h2).imp_right λ⟨e1,e2⟩=>⟨e1,?_⟩;subst e2;simp only[SE.den,ayB,IV.raw.injEq,aBP]at h2;have:=h2.2;omega
  have hhi:iu (hi.map (aC (E d)))=aa (aa m)\/(iu (hi.map (aC (E d)))=aa ah/\m=gg.length):=by
   refine(L8 hJ hh h3).imp_right λ⟨e1,e2⟩=>⟨e1,?_⟩;subst e2;obtain⟨s0,so,h6,h7⟩:=IM h3;rw[g4]at h6;cases h6;simp at h7;omega
  obtain⟨x',k1,k2⟩:=g5.part (t:=t) (el:=el) hu bf h4 h5 i_ Lw hhi;refine⟨x',Y,R',X,.one (.w fr (.var V2.n)),{V2 with n:=V2.n+1},[.tree s ((gg.take m).drop l)],?_,w4,⟨_,w3,k2,rfl⟩,w5,g1.2.2.1,w2⟩;simp[cq,aA,ho,k1,ret]
end
section
variable{Cx:Cs}
variable{P:Program}{N:Nat}{Y al:St}{R R':Rs}{X aN:Ph}{E:Nat->Env}{G:List IV}
variable{C:Cr}{Q:IV->Prop}{K:List (List IV->Prop)}{V:SS}{d:Nat}{o:Oper}{k:PV SE->SS->ak}{L:List (LO SE)}{Γ:Gm SE}
theorem Ab(hJ:J Cx (ay P G) R X V.g V.l E Y){x:IV}{pv:PV SE}{e:SE}(h:ue pv=aa e)(hx:VR (ay P G) R X L Y x pv):∀y,e.den P G=aa y->bD ab R Y x y:=by
 intro y hy;unfold ue at h;split at h<;>cases h
 .obtain⟨u,h1,h2,_⟩:=hx;have dk:e.den P G=aa u:=h1;rw[hy]at dk;cases dk;exact h2.mono hJ.BH
 .obtain⟨u,h1,h2,_⟩:=hx;have dk:e.den P G=aa u:=h1;rw[hy]at dk;cases dk;exact h2.cP
theorem ace{t:TypeId}{x ix:Operand}(hJ:J Cx (ay P G) R X V.g V.l E Y)(hn:G.length=V.n)(ho:o.op=.index t x ix)(hs:(kh P d o V k).sat P C Q K G):dK Cx P C Q K G E V.ln k (cq P E d o Y):=by
 unfold kh at hs;rw[ho]at hs;simp only at hs;split at hs<;>try exact hs.elim
 rename_i a b hu ha hb;have TA:=Ab hJ ha (bF hJ d t x);have hxb:=Ab hJ hb (bF hJ d 0 ix);obtain⟨⟨z,hz⟩,hk⟩:=hs;have qJ:=hz;simp only[SE.den,ayV]at hz;obtain⟨u,h1,v,h2,h3⟩:=hz;split at h3<;>try (cases h3;done)
 rename_i q kd n;split at h3<;>try (cases h3;done)
 rename_i kM;rw[ayG]at h3;obtain⟨c,h4,rfl⟩:=h3;exact .at (x:=.raw (.int .u8 c.toNat)) hk hJ hn rfl ⟨_,qJ,.raw _,rfl⟩ (by unfold cq aA;rw[ho];simp only[hu,cQ (TA _ h1),cQ (hxb _ h2),if_pos kM,h4];rfl)
theorem TB{a b:IV}{vs:List Value}(h:lu [a,b]=aa vs):∃u v,a=.raw u/\b=.raw v:=by
 cases a<;>simp[lu]at h;cases b<;>simp at h;exact⟨_,_,rfl,rfl⟩
theorem akT{c:Call}(hJ:J Cx (ay P G) R X V.g V.l E Y)(hn:G.length=V.n)(ho:o.op=.call c)(hc:c.callee=.builtin .max)(hs:(mxS ab (kF P d V c.args.toList c.argTypes.toList) V k).sat P C Q K G):dK Cx P C Q K G E V.ln k (cq P E d o Y):=by
 unfold mxS at hs;split at hs<;>try exact hs.elim
 rename_i pa pb bE;split at hs<;>try exact hs.elim
 rename_i a b ha o8;have cb:=jm hJ d c.args.toList c.argTypes.toList;rw[bE]at cb;obtain⟨x,y,hxy,hx,hy⟩:=KF cb;have TA:=Ab hJ ha hx;have hxb:=Ab hJ o8 hy;obtain⟨⟨z,hz⟩,hk⟩:=hs;obtain⟨h1,bu⟩:=vF hz;simp only[SE.den,ayV]at h1;obtain⟨w,⟨u,h2,v,h3,h4⟩,h5⟩:=h1;split at h5<;>cases h5;rename_i ki
 have aoV:∃u' v',u=.raw u'/\v=.raw v':=by
  simp only[if_true]at h4;unfold Na at h4;split at h4
  .exact TB ‹_›
  .cases h4
 obtain⟨u',v',rfl,rfl⟩:=aoV;have ky:=cQ (TA _ h2);have hy':=cQ (hxb _ h3);subst ky hy'
 have hzr:jj z z:=by
  cases z<;>simp only[aF]at ki<;>try (cases ki;done)
  exact .raw _
 refine .here (pv:=.one (.v (.ok (.rw (.mx ab a b))))) (x:=z) ?_ hJ ⟨z,hz,hzr,bu⟩ hn rfl hk;simp only[if_true]at h4;simp[cq,aA,ho,hc,fx,hxy,h4]
theorem aeU{t:TypeId}(h:isStr P t=ab):P.underlying t=aa .string:=by
 unfold isStr at h;split at h
 .assumption
 .cases h
theorem aad{t:TypeId}{x:Operand}{lo hi mx:Option Operand}(hJ:J Cx (ay P G) R X V.g V.l E Y)(hn:G.length=V.n)(ho:o.op=.slice t x lo hi mx)(hu:P.underlying t=aa .string)(hs:(Kv P d (cg P d V t x) lo hi mx V k).sat P C Q K G):dK Cx P C Q K G E V.ln k (cq P E d o Y):=by
 unfold Kv at hs;split at hs<;>try exact hs.elim
 rename_i a ha;split at hs<;>try exact hs.elim
 rename_i l h hl hh;obtain⟨z,hz,hs⟩:=hs;have TA:=Ab hJ ha (bF hJ d t x);have qJ:=hz;simp only[SE.den,ayV]at hz;obtain⟨u,h1,b,h2,c,h3,h4⟩:=hz;split at h4<;>try (cases h4;done)
 rename_i q lv hv e1 e2;split at h4<;>try (cases h4;done)
 rename_i hc;cases h4
 have hint:∀{w:IV} {n:Int},ie w=aa n->0<=n->∃k,w=.raw (.int k (n.toNat:Nat)):=by
  intro w n h h0;unfold ie at h;split at h
  .cases h;exact⟨_,by rw[aBE h0]⟩
  .cases h
 obtain⟨k1,rfl⟩:=hint e1 hc.1;obtain⟨k2,rfl⟩:=hint e2 hc.2.2.1
 have n1:iu (lo.map (aC (E d)))=aa (aa lv.toNat)\/(iu (lo.map (aC (E d)))=aa ah/\lv.toNat=0):=by
  rcases L8 hJ hl h2 with g|⟨g,rfl⟩
  .exact .inl g
  .refine .inr ⟨g,?_⟩;simp only[SE.den,ayB,IV.raw.injEq,aBP]at h2;omega
 have n2:iu (hi.map (aC (E d)))=aa (aa hv.toNat)\/(iu (hi.map (aC (E d)))=aa ah/\hv.toNat=q.size):=by
  rcases L8 hJ hh h3 with g|⟨g,rfl⟩
  .exact .inl g
  .refine .inr ⟨g,?_⟩;simp only[SE.den,h1,ayx,z8,IV.int,ayB,IV.raw.injEq,aBP]at h3;omega
 have hx:=cQ (TA _ h1);have ve:iu ah=aa ah:=rfl;have bR:=hJ.up (jX:=ay P (G++[.raw (.string ⟨((q.data.toList.drop lv.toNat).take (hv.toNat- lv.toNat)).toArray⟩)])) (λe y h=>SE.dN P e h);refine⟨.raw (.string ⟨((q.data.toList.drop lv.toNat).take (hv.toNat- lv.toNat)).toArray⟩),Y,R,X,.one (.v (.var V.n)),{V with n:=V.n+1},[_],?_,bR,⟨_,by simp[ay,SE.den,<-hn],.raw _,rfl⟩,by simp[hn],rfl,hs⟩
 have bf:ga P t (.raw (.string q)) (lo.map (aC (E d))) (hi.map (aC (E d))) ah=aa (.raw (.string ⟨((q.data.toList.drop lv.toNat).take (hv.toNat- lv.toNat)).toArray⟩)):=by
  rcases n1 with g1|⟨g1,g2⟩<;>rcases n2 with g3|⟨g3,g4⟩
  .simp[ga,g1,g3,ve,hu,hc.2.1,hc.2.2.2]
  .simp[ga,g1,g3,ve,hu,g4];rw[<-g4];have:=hc.2.1;omega
  .simp[ga,g1,g3,ve,hu,g2,hc.2.2.2]
  .simp[ga,g1,g3,ve,hu,g2,g4]
 simp[cq,aA,ho,hx,bf,ret]
theorem acf{t:TypeId}{x:Operand}(hJ:J Cx (ay P G) R X V.g V.l E Y)(hn:G.length=V.n)(ho:o.op=.range t x)(hs:(kh P d o V k).sat P C Q K G):dK Cx P C Q K G E V.ln k (cq P E d o Y):=by
 unfold kh at hs;rw[ho]at hs;simp only at hs;split at hs<;>try exact hs.elim
 .rename_i a hu ha;have TA:=Ab hJ ha (bF hJ d t x);obtain⟨⟨z,hz⟩,hk⟩:=hs;simp only[SE.den,ayV]at hz;obtain⟨u,h1,h2⟩:=hz
  have hb:∃ba,u=.raw (.string ba):=by
   unfold z8 at h2;split at h2
   .exact⟨_,rfl⟩
   .cases h2
  obtain⟨ba,rfl⟩:=hb;have hv:=cQ (TA _ h1);have bR:=hJ.AB (.ri ba 0) (.mp 0 (.tp (.ac a (.ac (.i 0) .an)))) (by rw[ti,if_pos (show sS 0=ab from rfl)];exact⟨rfl,Y.n,ba,0,by simp[ay,SE.den,h1],by simp[cA],hJ.sV,by simp⟩);refine .at (x:=.ptr Y.n 0 0 1) (V1:={V with l:=V.l++[.mp 0 (.tp (.ac a (.ac (.i 0) .an)))]}) hk bR hn rfl ⟨Y.n,0,SE.tp (.ac a (.ac (.i 0) .an)),by simp[cA],by simp,rfl⟩ ?_;simp[cq,aA,ho,hu,hv,ret]
theorem acg(hJ:J Cx (ay P G) R X V.g V.l E Y)(hn:G.length=V.n){j id:Nat}{so:SE}(hj:V.l[j]?=aa (.mp 0 so)){ba:ByteArray}{p p':Nat}(my:X j=aa id)(hR:R id=ah)(aK:Y.at id=aa (.ri ba p)):
 J Cx (ay P (G++[.aL [.raw (.string ba),.raw (.int .i64 (p':Nat))]])) R X V.g (V.l.set j (.mp 0 (.var V.n))) E (Y.put id (.ri ba p')):=by
 have bR:=hJ.up (jX:=ay P (G++[.aL [.raw (.string ba),.raw (.int .i64 (p':Nat))]])) (λe y h=>SE.dN P e h)
 exact(bR.vu (R':=R) (bad:=λ_=>False) (lg:=.mp 0 (.var V.n)) (fK:=.ri ba p') my hj (λ_ _=>rfl)
  (λm hm=>by rw[hR]at hm;cases hm) (λm _ _ _ hm=>by rw[hR]at hm;cases hm) (λm _ _ _ hm=>by rw[hR]at hm;cases hm)
  (λ_ h=>by cases h) (λ_ _ _=>by rename_i h;cases h;exact⟨_,rfl⟩) (λ_ _ _ _ _ h=>by cases h) (λ_ _ pv _=>pv.a_) (λ_ o _ _=>o.a_)
  (λfq=>by rw[ti,if_pos (show sS 0=ab from rfl)];exact⟨rfl,id,ba,p',by simp[ay,SE.den,<-hn],my,hR,by rw[St.dv,if_pos rfl]⟩)).2
theorem aeV{it:Operand}(hJ:J Cx (ay P G) R X V.g V.l E Y)(hn:G.length=V.n)(ho:o.op=.next it ab)(hs:(kh P d o V k).sat P C Q K G):dK Cx P C Q K G E V.ln k (cq P E d o Y):=by
 unfold kh at hs;rw[ho]at hs;simp only at hs;split at hs<;>try exact hs.elim
 rename_i j hm;split at hs<;>try exact hs.elim
 rename_i kt es hj;split at hs<;>try exact hs.elim
 rename_i oV;have Fk:=ayH oV;subst Fk;have BI:=bF hJ d 0 it;rw[hm]at BI;obtain⟨id,kt2,lk,g1,g2,g3⟩:=BI;rw[hj]at g2;cases g2;rw[if_pos (show sS 0=ab from rfl)]at g3;have fT:=hJ.obj j _ hj;rw[ti,if_pos (show sS 0=ab from rfl)]at fT;obtain⟨_,bz,ba,p,c1,c2,c3,c4⟩:=fT;rw[g1]at c2;cases c2;have vJ:es.den P G=aa (.aL [.raw (.string ba),.raw (.int .i64 (p:Nat))]):=c1
 have hd:∀w,(SE.dec w (.proj es 0) (.proj es 1)).den P G=iO w (.raw (.string ba)) (.raw (.int .i64 (p:Nat))):=by
  intro w;simp[SE.den,vJ]
 rcases hs with⟨h0,hs⟩|⟨h0,hs⟩
 .rw[hd]at h0;simp[iO]at h0;obtain⟨z,hz,hs⟩:=hs
  have qT:z=.aL [.raw (.string ba),.raw (.int .i64 ((p+(az_ ba p).2:Nat):Nat))]:=by
   have:=hd 2;simp only[SE.den]at this hz;rw[this]at hz;simp[vJ,iO]at hz;rw[<-hz];simp
  subst qT;have fE:=acg (p':=p+(az_ ba p).2) hJ hn hj g1 c3 c4;have e1:(SE.proj es 1).den P (G++[.aL [.raw (.string ba),.raw (.int .i64 ((p+(az_ ba p).2:Nat):Nat))]])=aa (.raw (.int .i64 (p:Nat))):=SE.dN P _ (by simp[SE.den,vJ]);have e2:(SE.dec 1 (.proj es 0) (.proj es 1)).den P (G++[.aL [.raw (.string ba),.raw (.int .i64 ((p+(az_ ba p).2:Nat):Nat))]])=aa (.raw (.int .i32 (az_ ba p).1)):=SE.dN P _ (by rw[hd];simp[iO]);refine⟨.aL [.bool ab,.raw (.int .i64 (p:Nat)),.raw (.int .i32 (az_ ba p).1)],_,R,X,.tu [(af,[.v (.b ab)]),(af,[.v (.proj es 1)]),(af,[.v (.dec 1 (.proj es 0) (.proj es 1))])],{V with n:=V.n+1,l:=V.l.set j (.mp 0 (.var V.n))},[_],?_,fE,⟨_,rfl,⟨_,rfl,.raw (.bool ab),rfl,.raw _,rfl⟩,⟨_,rfl,_,e1,.raw _,rfl⟩,⟨_,rfl,_,e2,.raw _,rfl⟩,trivial⟩,by simp[hn],rfl,hs⟩;simp[cq,aA,ho,g3,c4,h0,ret]
 .rw[hd]at h0;simp[iO]at h0;refine .here (pv:=.tu [(af,[.v (.b af)])]) (x:=.aL [.bool af]) ?_ hJ ⟨_,rfl,⟨_,rfl,.raw (.bool af),rfl,.raw _,rfl⟩,trivial⟩ hn rfl hs;have:¬p<ba.size:=ai;simp[cq,aA,ho,g3,c4,this,ret]
theorem aoW{x z:IV}{b:Bool}(h:iO 7 x (.raw (.bool b))=aa z):∃q c,x=.raw (.int q c)/\0<=c/\c<=1000000:=by
 unfold iO at h;split at h
 .rename_i heq;exact absurd heq ax
 .split at h
  .rename_i hc;exact⟨_,_,rfl,hc.2⟩
  .cases h
 .simp at h
 .simp at h
 .cases h
theorem KK(hJ:J Cx (ay P G) R X V.g V.l E Y){x:IV}{pv:PV SE}{e:SE}(hx:VR (ay P G) R X V.l Y x pv)(h:ue pv=aa e):∃y,e.den P G=aa y/\bD ab R Y x y:=by
 unfold ue at h;split at h<;>try (cases h;done)
 .cases h;obtain⟨y,h1,h2,_⟩:=hx;exact⟨y,h1,h2.mono hJ.BH⟩
 .cases h;obtain⟨y,h1,h2,_⟩:=hx;exact⟨y,h1,h2.cP⟩
theorem akU{x p z:IV}(h:iO 10 x p=aa z):∃q c,x=.raw (.int q c)/\0<=c/\c<=1000000/\z=.tree 1 (ayX c.toNat p):=by
 unfold iO at h;split at h
 .split at h<;>cases h
 .rw[if_neg (λh=>absurd h.1 (by decide)),if_neg (λh=>absurd h.1 (by decide))]at h;split at h
  .rename_i hh;cases h;exact⟨_,_,rfl,hh.2.1,hh.2.2.1,rfl⟩
  .cases h
 .rw[if_neg (by decide)]at h;cases h
 .rw[if_neg (by decide)]at h;cases h
 .cases h
theorem ach{t:TypeId}{l c:Operand}(hJ:J Cx (ay P G) R X V.g V.l E Y)(hn:G.length=V.n)(ho:o.op=.makeSlice t l c)(hs:(ZU P d t l c V k).sat P C Q K G):dK Cx P C Q K G E V.ln k (cq P E d o Y):=by
 unfold ZU at hs;split at hs
 rotate_left
 .rename_i el ce hu hc _;split at hs<;>try exact hs.elim
  rename_i le s z ze bytes hl bf sZ hze HE;split at hs<;>try exact hs.elim
  rename_i cF;simp only[ayz]at cF;obtain⟨⟨⟨⟨h0,h1⟩,h3⟩,h4⟩,h5⟩:=cF;have dk:=ayH h1;subst dk;have JG:bytes<=1000000:=by simpa using h3
  have:=SE.eq_eq h0;subst this;obtain⟨v,e1,e2,e3⟩:=ab9 (G:=G) hze;rw[sZ]at e1;cases e1;obtain⟨y,hy,hk⟩:=hs;simp only[SE.den,ayV]at hy;obtain⟨nv,n1,zv,n2,n3⟩:=hy;rw[e2]at n2;cases n2;obtain⟨yl,l1,l2⟩:=KK hJ (bF hJ d 0 l) hl;obtain⟨yc,c1,c2⟩:=KK hJ (bF hJ d 0 c) hc;rw[n1]at l1 c1;cases l1;cases c1;obtain⟨q,m,rfl,m1,m2,rfl⟩:=akU n3;have fX:=cQ l2;have hcv:=cQ c2
  have P8:lN (z.cells.toList.map .raw) (m.toNat*1)=ayX m.toNat (.raw z):=by
   simp[lN,e3]
  have bu:Ev.ao (.raw z)=ab:=by simpa[e3]using h5
  have nX:(SE.var V.n).den P (G++[.tree 1 (ayX m.toNat (.raw z))])=aa (.tree 1 (ayX m.toNat (.raw z))):=by simp[SE.den,<-hn]
  have bR:=hJ.up (jX:=ay P (G++[.tree 1 (ayX m.toNat (.raw z))])) (λe y h=>SE.dN P e h);by_cases An:m=0
  .subst An;have agB:(SE.var V.n).den P (G++[.tree 1 (ayX (0:Int).toNat (.raw z))])=aa (.tree 1 []):=nX
   refine⟨.emp,_,R,_,.one (.sr V.l.length),{V with n:=V.n+1,l:=V.l++[.row 1 af af af (.var V.n)]},[.tree 1 (ayX (0:Int).toNat (.raw z))],?_,(bR.Aa (s:=1) (fr:=af) (z:=.var V.n) ai agB).2,
    ⟨1,af,af,af,.var V.n,[],by simp,agB,.inl ⟨w6 hJ (ayA _),rfl,.inr rfl⟩⟩,by simp[hn],rfl,hk⟩
   simp only[cq,aA,ho,hu,fX,hcv,bf,sZ,HE];rw[if_neg (by simp[e3];omega),if_pos trivial];rfl
  have fE:=bR.AB (.cells (ayX m.toNat (.raw z)) 0 0) (.row 1 af af af (.var V.n)) ⟨by omega,_,nX,λe he=>(by rw[azx he];rfl),.inr ⟨Y.n,(ayX m.toNat (.raw z)),0,0,by simp[cA],by simp,ayA _,by simp,hJ.sV,ayP.2 λx hx=>(by rw[azx hx];exact bu),λj x d hx hd=>by
   have ky:=azx (ayM hx)
   have Hc:d=.raw z:=by
    have hm:=ayM hd;unfold flat at hm;obtain⟨e,he,hde⟩:=azJ.1 hm;rw[azx he]at hde;simpa[cellsOf]using hde
   rw[ky,Hc];exact .raw _⟩⟩
  refine⟨.sl Y.n 0 m.toNat (aa m.toNat) 0 1,_,R,_,.one (.sr V.l.length),{V with n:=V.n+1,l:=V.l++[.row 1 af af af (.var V.n)]},[.tree 1 (ayX m.toNat (.raw z))],?_,fE,
   ⟨1,af,af,af,_,_,by simp,nX,.inr ⟨Y.n,(ayX m.toNat (.raw z)),0,0,aa m.toNat,by simp[cA],by simp,by simp,azi _,λh=>(by cases h),λc hc=>(by cases hc;exact⟨rfl,by simp,by simp⟩)⟩⟩,by simp[hn],rfl,hk⟩
  simp only[cq,aA,ho,hu,fX,hcv,bf,sZ,HE];rw[if_neg (by simp[e3];omega),if_neg An,P8];rfl
 .exact hs.elim
 rename_i el ce hu hl hc;split at hs<;>try exact hs.elim
 rename_i s z bytes bf sZ HE;split at hs<;>try exact hs.elim
 rename_i cF;simp only[ayz,azn]at cF;obtain⟨⟨⟨h1,h2⟩,h3⟩,h4⟩:=cF;have yg:=ayH h2;have JG:bytes<=1000000:=by simpa using h3
 have cm:0<s:=by
  rcases Nat.eq_zero_or_pos s with h|h
  .subst h;simp at h1
  .exact h
 obtain⟨⟨u,AS⟩,hk⟩:=hs;have fX:=bF hJ d 0 l;rw[hl]at fX;obtain⟨y0,b1,b2,_⟩:=fX
 have y8:y0=.raw (.int .i64 0):=by
  have:(SE.i 0).den P G=aa y0:=b1;simp only[SE.den,ayB]at this;exact this.symm
 subst y8;have hle:=cQ b2;obtain⟨y,c1,c2⟩:=KK hJ (bF hJ d 0 c) hc;simp only[SE.den,c1,ayx]at AS;obtain⟨q,n,rfl,d1,d2⟩:=aoW AS;have sM:=cQ c2;have nX:(SE.tr s SE.an).den P G=aa (.tree s []):=by simp[SE.den,cm]
 have oA:(V.l++[LO.row s af af af (SE.tr s SE.an)])[V.l.length]?=aa (.row s af af af (SE.tr s SE.an)):=by simp
 by_cases kM:n=0
 .subst kM;refine .at (x:=.emp) (V1:={V with l:=V.l++[.row s af af af (.tr s .an)]}) hk (hJ.Aa (fr:=af) cm nX).2 hn rfl ⟨s,af,af,af,_,[],oA,nX,.inl ⟨w6 hJ (ayA _),rfl,.inr rfl⟩⟩ ?_;simp only[cq,aA,ho,hu,hle,sM,bf,sZ,HE];rw[if_neg ai,if_pos trivial];rfl
 .have P8:lN (z.cells.toList.map .raw) (n.toNat*s)=(ayX n.toNat (z.cells.toList.map IV.raw)).flatten:=KH (by simp[yg]) cm _
  have hlen:(lN (z.cells.toList.map .raw) (n.toNat*s)).length=n.toNat*s:=by
   rw[P8];simp[yg]
  have gN:(lN (z.cells.toList.map .raw) (n.toNat*s)).all Ev.ao=ab:=by
   rw[P8];refine ayP.2 λx hx=>?_;obtain⟨l',cH,ky⟩:=List.mem_flatten.1 hx;have:=azx cH;subst this;exact(ayP.1 h4) x ky
  refine .at (x:=.sl Y.n 0 0 (aa n.toNat) 0 s) (V1:={V with l:=V.l++[.row s af af af (.tr s .an)]}) hk (hJ.AB (.cells (lN (z.cells.toList.map .raw) (n.toNat*s)) 0 0) _ ⟨cm,[],nX,λe he=>(by cases he),.inr ⟨Y.n,(lN (z.cells.toList.map .raw) (n.toNat*s)),0,0,by simp[cA],by simp,ayA _,by simp,hJ.sV,gN,λj x d hx hd=>by simp[flat]at hd⟩⟩) hn rfl ⟨s,af,af,af,_,[],oA,nX,.inr ⟨Y.n,(lN (z.cells.toList.map .raw) (n.toNat*s)),0,0,aa n.toNat,by simp[cA],by simp,by simp,ayA _,λh=>(by cases h),λc hc=>?_⟩⟩ ?_
  .cases hc;exact⟨rfl,by rw[hlen];simp,azi _⟩
  .simp only[cq,aA,ho,hu,hle,sM,bf,sZ,HE];rw[if_neg ai,if_neg kM];rfl
theorem aeW(hJ:J Cx (ay P G) R X V.g V.l E Y){id:Nat}{ob:Ob}(h:Y.at id=aa ob):Y.put id ob=Y:=by
 have:(Y.put id ob).t=Y.t:=Go.Ev.T.WF.ext (hJ.wf.set _ _) hJ.wf λi=>by
  show(Y.put id ob).at i=Y.at i;rw[St.dv];split
  .rename_i hh;rw[<-hh,h]
  .rfl
 cases Y;simp only[St.put]at this⊢;rw[this]
theorem aae{t:TypeId}{x:Operand}{lo hi mx:Option Operand}{f:ak}(hJ:J Cx (ay P G) R X V.g V.l E Y)(hn:G.length=V.n)(ho:o.op=.slice t x lo hi mx)(hz:S2 P d t (cg P d V t x) lo hi mx V k=aa f)(hs:f.sat P C Q K G):dK Cx P C Q K G E V.ln k (cq P E d o Y):=by
 unfold S2 at hz;split at hz<;>try (cases hz;done)
 rename_i el c lg cX h hu hx;have Bt:=bF hJ d t x;rw[hx]at Bt;split at hz<;>try (cases hz;done)
 .rename_i s s' hh bf;split at hz<;>try (cases hz;done)
  rename_i je;have:=ayH je;subst this;cases hz;have hhv:=bF hJ d 3 h;rw[hh]at hhv;obtain⟨y,y1,y2,_⟩:=hhv;simp only[ay,SE.den,ayB]at y1;subst y1;have Si:=cQ y2;obtain⟨h0,h1⟩:=Bt;simp only[if_true]at h1;refine .at (x:=.raw (.slice ah 0 0)) hs hJ hn rfl ⟨h0,rfl⟩ ?_;simp[cq,aA,ho,h1,Si,ga,iu,hu,bf,ret]
 .rename_i s j hh bf;split at hz<;>try (cases hz;done)
  rename_i s' cut fr es hj;split at hz<;>try (cases hz;done)
  rename_i je;have:=ayH je;subst this;cases hz;have hhv:=bF hJ d 3 h;rw[hh]at hhv;obtain⟨y,y1,y2,_⟩:=hhv;simp only[ay,SE.den,ayB]at y1;subst y1;have Si:=cQ y2;obtain⟨⟨z,hz⟩,hk⟩:=hs;obtain⟨s1,mX,vE,vD,z1,gg,b1,b2,b3⟩:=Bt;rw[hj]at b1;cases b1;have s5:es.den P G=aa (.tree s gg):=b2
  have bt:gg≠[]:=by
   rintro rfl;simp[SE.den,s5,cz,ie]at hz
  have hlen:1<=gg.length:=by
   cases gg with
   |nil=>exact absurd rfl bt
   |cons=>simp
  rcases b3 with⟨_,c2,_⟩|⟨id,cs,aB,mn,cap,c1,c2,c3,c4,c5,c6⟩
  .omega
  obtain⟨cm,lk,d1,d2,d3⟩:=hJ.obj j _ hj;have d1':es.den P G=aa (.tree s lk):=d1;rw[s5]at d1';cases d1';rcases d3 with⟨_,d3⟩|⟨bz,cY,kg,si,g1,g2,g3,g4,g5,g6,g7⟩
  .exact absurd d3 bt
  rw[c1]at g1;cases g1;rw[c2]at g2;cases g2;have hR:R id=ah:=by simpa using g5
  have nX:(SE.tr s SE.an).den P G=aa (.tree s []):=by simp[SE.den,cm]
  have hjd:(V.l.map (LO.drop j))[j]?=aa (.row s af cut fr es):=by simp[hj,LO.drop]
  have bR:=(hJ.ZF j).vu (R':=R) (bad:=(·=j)) (lg:=.row s af ab fr (.tr s .an)) (fK:=.cells cs aB mn) c1 hjd (λ_ _=>rfl) (λm hm=>by rw[hR]at hm;cases hm) (λm _ _ _ hm=>by rw[hR]at hm;cases hm) (λm _ _ _ hm=>by rw[hR]at hm;cases hm)
   (λ_ h=>by cases h) (λ_ _ h=>by cases h) (λ_ _ _ _ _ _=>rfl) (λd t pv hg=>by obtain⟨q,_,rfl⟩:=Hl _ hg;exact q.oP j) (λi o hi _=>by
    rw[ayR]at hi;obtain⟨o',_,rfl⟩:=ayG.1 hi;exact o'.oP j)
   (λ_=>⟨cm,[],nX,λe he=>(by cases he),.inr ⟨id,cs,aB,mn,c1,by rw[St.dv,if_pos rfl],g3,by simp,hR,g6,λj x d hx hd=>by simp[flat]at hd⟩⟩)
  have fE:=bR.2;rw[aeW hJ c2]at fE
  have oA:((V.l.map (LO.drop j)).set j (LO.row s af ab fr (SE.tr s SE.an)))[j]?=aa (.row s af ab fr (SE.tr s SE.an)):=by
   rw[List.getElem?_set,if_pos rfl,if_pos (by have:=(ayw.1 hj).1;simpa using this)]
  cases cap with
  |none=>
   refine .at (x:=.sl id 0 0 ah aB s) (V1:=(V.uN j).setObj j (.row s af ab fr (.tr s .an))) hk fE hn rfl ⟨s,af,ab,fr,_,[],oA,nX,.inr ⟨id,cs,aB,mn,ah,c1,c2,by simp,azi _,(λ_ h=>(by cases h)),λc hc=>by cases hc⟩⟩ ?_;simp[cq,aA,ho,c3,Si,ga,iu,hu,bf,ret]
  |some m=>
   obtain⟨f1,f2,f3⟩:=c6 m rfl;have An:m≠0:=ai;refine .at (x:=.sl id 0 0 (aa m) aB s) (V1:=(V.uN j).setObj j (.row s af ab fr (.tr s .an))) hk fE hn rfl ⟨s,af,ab,fr,_,[],oA,nX,.inr ⟨id,cs,aB,mn,aa m,c1,c2,by simp,azi _,(λh=>(by cases h)),λc hc=>by cases hc;exact⟨f1,by omega,azi _⟩⟩⟩ ?_;simp[cq,aA,ho,c3,Si,ga,iu,hu,bf,ret,An]
theorem aeX{c:Call}(hJ:J Cx (ay P G) R X V.g V.l E Y)(hn:G.length=V.n)(ho:o.op=.call c)(hc:c.callee=.builtin .cap)(hs:(kh P d o V k).sat P C Q K G):dK Cx P C Q K G E V.ln k (cq P E d o Y):=by
 unfold kh at hs;rw[ho]at hs;simp only[hc]at hs;have bE:=jm hJ d c.args.toList c.argTypes.toList;split at hs<;>try exact hs.elim
 rename_i s et hh hu;rw[hh]at bE;obtain⟨x,hx,hr⟩:=px bE;obtain⟨_,h1⟩:=hr;simp only[if_true]at h1;refine .at (x:=.raw (.int .i64 0)) hs hJ hn rfl ⟨_,rfl,.raw _,rfl⟩ ?_;simp[cq,aA,ho,hc,fx,hx,h1,Zc,hu]
theorem Xr(hJ:J Cx (ay P G) R X V.g V.l E Y)(hn:G.length=V.n)(hs:(kh P d o V k).sat P C Q K G):dK Cx P C Q K G E V.ln k (cq P E d o Y):=by
 cases ho:o.op with
 |makeFunc f first cap=>
  cases f with
  |func f=>exact Tv hJ hn ho hs
  |_=>unfold kh at hs;rw[ho]at hs;exact hs.elim
 |makeMap t r=>exact Wu hJ hn ho hs
 |makeSlice t l c=>unfold kh at hs;rw[ho]at hs;exact ach hJ hn ho hs
 |mapUpdate t m key x=>exact L7 hJ hn (.inl ho) hs
 |insert t m key x=>exact L7 hJ hn (.inr ho) hs
 |lookup t m key ok=>exact aac hJ hn ho hs
 |slice t x lo hi mx=>
  unfold kh at hs;rw[ho]at hs;simp only at hs;split at hs
  .exact aae hJ hn ho ‹_› hs
  split at hs
  .exact aad hJ hn ho (aeU ‹_›) hs
  .exact acd hJ hn ho hs
 |index t x ix=>exact ace hJ hn ho hs
 |range t x=>exact acf hJ hn ho hs
 |next it str=>
  cases str with
  |true=>exact aeV hJ hn ho hs
  |false=>unfold kh at hs;rw[ho]at hs;exact hs.elim
 |call c=>
  cases hc:c.callee with
  |builtin b=>
   cases b with
   |cap=>exact aeX hJ hn ho hc hs
   |max=>unfold kh at hs;rw[ho]at hs;simp only[hc]at hs;exact akT hJ hn ho hc hs
   |_=>unfold kh at hs;rw[ho]at hs;simp only[hc]at hs;exact hs.elim
  |_=>unfold kh at hs;rw[ho]at hs;simp only[hc]at hs;exact hs.elim
 |_=>unfold kh at hs;rw[ho]at hs;exact hs.elim
end
section
variable{Cx:Cs}
variable{P:Program}{N:Nat}{Y al:St}{R R':Rs}{X aN:Ph}{E:Nat->Env}{G:List IV}
variable{C:Cr}{Q:IV->Prop}{K:List (List IV->Prop)}{V:SS}{d:Nat}{o:Oper}{k:PV SE->SS->ak}{L:List (LO SE)}{Γ:Gm SE}
theorem aiA(hJ:J Cx (ay P G) R X V.g V.l E Y)(hn:G.length=V.n){op:BinOp}{t yt:TypeId}{x y:Operand}(ho:o.op=.binOp op t x y yt)(hs:(gF P d o V k).sat P C Q K G):dK Cx P C Q K G E V.ln k (cq P E d o Y):=by
 unfold gF at hs;rw[ho]at hs;simp only at hs;have hx:=bF hJ d t x;have hy:=bF hJ d t y
 have rdv:∀{xv:IV} {a:SE},VR (ay P G) R X V.l Y xv (.one (.v a))->∀z,a.den P G=aa z->bD ab R Y xv z:=by
  intro xv a ⟨u,h1,h2,_⟩ z hz;have dk:a.den P G=aa u:=h1;rw[hz]at dk;cases dk;exact h2.mono hJ.BH
 have rdw:∀{xv:IV} {f:Bool} {a:SE},VR (ay P G) R X V.l Y xv (.one (.w f a))->∀z,a.den P G=aa z->bD ab R Y xv z:=by
  intro xv f a ⟨u,h1,h2,_⟩ z hz;have dk:a.den P G=aa u:=h1;rw[hz]at dk;cases dk;exact h2.cP
 split at hs
 .rename_i cs ds wu uG;rw[wu]at hx;rw[uG]at hy;split at hs
  .rename_i f1 a V1 f2 b V2 h1 h2;obtain⟨R1,a1,a2,_,a3⟩:=z_ hJ h1;obtain⟨R2,b1,b2,_,b3⟩:=z_ hJ h2;obtain⟨xs,yV,sb⟩:=hx;obtain⟨ys,AA,sU⟩:=hy;obtain⟨us,c1,c2,_⟩:=a3 xs sb;obtain⟨vs,d1,d2,_⟩:=b3 ys sU;obtain⟨⟨z,hz⟩,hk⟩:=hs;obtain⟨h3,h4⟩:=vF hz;simp only[SE.den,fJ c1,fJ d1,ayx]at h3;have ha:bD f1 R1 Y (aC (E d) x) (.agg us):=by rw[yV];exact .agg xs us c2.len λi c e h1 h2=>c2.get h1 h2
   have hb:bD f2 R2 Y (aC (E d) y) (.agg vs):=by rw[AA];exact .agg ys vs d2.len λi c e h1 h2=>d2.get h1 h2
   have h6:tU P op t x y (aC (E d) x) (aC (E d) y)=aa z:=by
    unfold cO at h3;split at h3
    .cases h3
    .rename_i u v bt hu hv;rw[Fg ha hu,Fg hb hv,Tk (x':=.func 0) (y':=.func 0) hu hv (λhc=>bt hc)];exact h3
    .cases h3
   exact .at (x:=z) hk hJ hn rfl ⟨z,hz,Tn h6,h4⟩ (by simp[cq,aA,ho,h6,ret])
  .exact hs.elim
 .rename_i a b wu uG;rw[wu]at hx;rw[uG]at hy;exact L0 hJ hn ho (rdv hx) (rdv hy) hs
 .rename_i f a b wu uG;rw[wu]at hx;rw[uG]at hy;exact L0 hJ hn ho (rdw hx) (rdv hy) hs
 .rename_i a f b wu uG;rw[wu]at hx;rw[uG]at hy;exact L0 hJ hn ho (rdv hx) (rdw hy) hs
 .rename_i f a g b wu uG;rw[wu]at hx;rw[uG]at hy;exact L0 hJ hn ho (rdw hx) (rdw hy) hs
 .exact hs.elim
theorem aci(hJ:J Cx (ay P G) R X V.g V.l E Y)(hn:G.length=V.n)(hs:(gF P d o V k).sat P C Q K G):dK Cx P C Q K G E V.ln k (cq P E d o Y):=by
 cases ho:o.op with
 |move x=>exact ab3 hJ hn (.inl ho) hs
 |assign x=>exact ab3 hJ hn (.inr ho) hs
 |pick c a b=>exact aeC hJ hn ho hs
 |alloc t=>exact ab4 hJ hn ho hs
 |box t x=>exact aiu hJ hn ho hs
 |load t a=>exact aeF hJ hn ho hs
 |store t a x=>exact ab5 hJ hn ho hs
 |nilCheck x=>exact Tf hJ hn ho hs
 |binOp op t x y yt=>exact aiA hJ hn ho hs
 |unOp op t x=>exact akI hJ hn ho hs
 |convert a b x=>exact akJ hJ hn ho hs
 |build t p=>exact acb hJ hn ho hs
 |buildSlice t l p=>exact NR hJ hn ho hs
 |fieldAddr s x f=>exact Q6 hJ hn ho hs
 |field t x f=>exact ab8 hJ hn ho hs
 |indexAddr t x i=>exact Q7 hJ hn ho hs
 |extract x i=>exact Wt hJ hn ho hs
 |call c=>
  cases hc:c.callee with
  |builtin b=>
   by_cases hl:b=.len
   .subst hl;exact aiy hJ hn ho hc hs
   .by_cases ha:b=.append
    .subst ha;exact aaa hJ hn ho hc hs
    .unfold gF at hs;rw[ho]at hs;simp only[hc]at hs;split at hs<;>first|exact absurd rfl hl|exact absurd rfl ha|exact hs.elim|exact Xr hJ hn hs
  |value f=>unfold gF at hs;rw[ho]at hs;simp only[hc]at hs;exact hs.elim
  |invoke x n=>unfold gF at hs;rw[ho]at hs;simp only[hc]at hs;exact hs.elim
 |_=>unfold gF at hs;rw[ho]at hs;exact Xr hJ hn hs
end
end Go.Ev
namespace Go.Ev
variable{P:Program}{N:Nat}{Y al:St}{Z:Io}{w:World}
namespace T
variable{O:Type}
def of(f:Nat->Option O):Nat->T O
 |0=>.lf
 |n+1=>match f n with
  |some x=>(of f n).set n x
  |none=>of f n
theorem IN(f:Nat->Option O):∀n,(of f n).WF
 |0=>WF.lf
 |n+1=>by
  unfold of;split
  .exact(IN f n).set _ _
  .exact IN f n
theorem L9(f:Nat->Option O):∀(n i:Nat),(of f n).get i=if i<n then f i else ah
 |0,i=>by simp[of]
 |n+1,i=>by
  unfold of;split
  .rename_i x hx;rw[gV];split
   .rename_i h;subst h;rw[if_pos ai,hx]
   .rw[L9 f n i];by_cases h:i<n
    .rw[if_pos h,if_pos ai]
    .rw[if_neg h,if_neg ai]
  .rename_i hx;rw[L9 f n i];by_cases h:i<n
   .rw[if_pos h,if_pos ai]
   .rw[if_neg h];by_cases h2:i=n
    .subst h2;rw[if_pos ai,hx]
    .rw[if_neg ai]
end T
def St.only(Y:St)(dH:Nat->Bool):St:=⟨Y.n,T.of (λi=>if dH i then Y.at i else ah) Y.n⟩
theorem NV(dH:Nat->Bool)(Kg:∀id,Y.n<=id->Y.at id=ah)(i:Nat):(Y.only dH).at i=if dH i then Y.at i else ah:=by
 unfold St.only St.at;simp only[T.L9];split
 .rfl
 .rename_i h;have:=Kg i ai;unfold St.at at this;rw[this];simp
def St.back(Y au:St)(dH:Nat->Bool):St:=⟨au.n,T.of (λi=>if i<Y.n/\dH i=af then Y.at i else au.at i) au.n⟩
theorem NW{au:St}(dH:Nat->Bool)(hn:Y.n<=au.n)(Kg:∀id,au.n<=id->au.at id=ah)(i:Nat):(Y.back au dH).at i=if i<Y.n/\dH i=af then Y.at i else au.at i:=by
 unfold St.back St.at;simp only[T.L9];split
 .rfl
 .rename_i h;rw[if_neg ai];have:=Kg i ai;unfold St.at at this;rw[this]
theorem dM.frame{f:FuncId}{args:List IV}{RW:IV->St->Prop}(dH:Nat->Bool)(Kg:∀id,Y.n<=id->Y.at id=ah)(h:dM P N f args (Y.only dH) RW):
 dM P N f args Y (λv al=>∃au,RW v au/\al=Y.back au dH/\Y.n<=au.n/\(∀id,au.n<=id->au.at id=ah)/\∀id,id<Y.n->dH id=af->au.at id=ah):=by
 intro Z us w hi hr;have aK:=NV dH Kg
 have PK:Inv N Z (Y.only dH) w:=by
  refine⟨hi.mem,hi.sep,hi.jy,hi.fresh,hi.inj,λid o ho=>?_,λid hid=>?_⟩
  .rw[aK]at ho;split at ho
   .exact hi.obj id o ho
   .cases ho
  .rw[aK];split
   .exact hi.wf id hid
   .rfl
 refine(h Z us w PK hr).mono λed w' hR=>?_;obtain⟨v,au,sW,hR⟩:=hR;cases ed with
 |returned u=>
  obtain⟨aJ,h1,h2,h3⟩:=hR;have hn:Y.n<=au.n:=h3.yJ
  have Fm:∀id,id<Y.n->dH id=af->au.at id=ah:=λid hid hv=>by
   refine h3.dead id ?_ (.inl hid);rw[aK,hv];simp
  have Ee:=NW (Y:=Y) (au:=au) dH hn h2.wf;refine⟨v,Y.back au dH,⟨au,sW,rfl,hn,h2.wf,Fm⟩,aJ,h1,⟨h2.mem,h2.sep,h2.jy,h2.fresh,h2.inj,λid o ho=>?_,λid hid=>?_⟩,?_⟩
  .rw[Ee]at ho;split at ho
   .rename_i hc;refine(hi.obj id o ho).tV h3.ext (h3.Bg id (by rw[aK,hc.2];simp) (.inl hc.1)) λb hb=>h3.frame b (hi.jy id b hb) λbz o8=>.inr ?_;have:=hi.inj id bz b hb o8;subst this;rw[aK,hc.2];simp
   .exact h2.obj id o ho
  .rw[Ee];have gX:au.n<=id:=hid;rw[if_neg ai];exact h2.wf id gX
  .refine⟨h3.ext,h3.own,λid hid hr=>h3.Bg id (by rw[aK,hid];simp) hr,λid hid hr=>?_,λid hr=>absurd hr (Nat.not_lt_zero _),hn,h3.os,h3.tape,h3.output,h3.size,λb hb hc=>h3.frame b hb λid ho=>?_,h3.wK⟩
   .rw[Ee];split
    .exact hid
    .exact h3.dead id (by rw[aK,hid];simp) hr
   .rcases hc id ho with h|h
    .exact .inl h
    .exact .inr (by rw[aK,h];simp)
 |outgrown=>exact hR.elim
 |panicked chain=>exact hR.elim
end Go.Ev
