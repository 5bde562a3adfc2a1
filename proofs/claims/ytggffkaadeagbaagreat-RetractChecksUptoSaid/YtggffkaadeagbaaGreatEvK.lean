/- Lemmas over the model, without conditions of their own: operations on expressions (1). -/
import Derived.Test.YtggffkaadeagbaaGreatEvJ
open List renaming append_nil->aqY,getElem?_map->aqU,getElem?_eq_some_iff->aqF,getElem?_take->ard,getElem?_drop->ase,mem_of_getElem?->aqS,take_take->auB,getElem?_eq_getElem->aqE,getElem_mem->aqI,range->asc,getElem?_range->atk,all_eq_true->aqW,flatMap_cons->as6,drop_of_length_le->aro,getElem?_append_left->aqQ,getElem?_append_right->aq_,mem_append->aqX,mem_of_mem_take->ar_,mem_of_mem_drop->atc,length_eq_one_iff->atF,getElem?_of_mem->asq,mem_flatMap->asL
open Option.some renaming injEq->aqH
open Bool renaming and_eq_true->aqG
open Nat renaming ble_eq->asj,mul_le_mul_right->aq8,add_mul->are,le_refl->aqK,zero_le->arw,beq_eq->ark
open Option renaming map_eq_some_iff->aqL,bind_eq_some_iff->aqZ,getD_some->arz,map_some->aq9
set_option linter.all false
namespace Go.Ev
variable{P:Program}{N:Nat}{σ ah:St}{R R':Rs}{φ aG:Ph}{E:Nat→Env}{ν:List IV}{L:List (LO SE)}{Γ:Gm SE}
variable{C:Cr}{Q:IV→Prop}{K:List (List IV→Prop)}{V:SS}{d:Nat}{o:Oper}{k:PV SE→SS→ab}
theorem bV{fr:Bool}{x:IV}{v:Value}(h:aY fr R σ x (.raw v)):x=.raw v:=by cases h<;>rfl
theorem OG{fr:Bool}:∀{cs ds:List IV} {us:List Value},gg ds=some us→cs.length=ds.length→(∀(i:Nat) c e,cs[i]?=some c→ds[i]?=some e→aY fr R σ c e)→cs=ds
 |[],[],_,_,_,_=>rfl
 |c::cs,e::ds,us,hr,hl,h=>by
  simp only[gg]at hr;split at hr
  ·rename_i v;split at hr
   ·rename_i vs gR;have h0:=bV (h 0 c (.raw v) rfl rfl);have h1:cs=ds:=OG gR (by simpa using hl) fun i c e h1 h2=>h (i+1) c e (by simpa using h1) (by simpa using h2);rw[h0,h1]
   ·cases hr
  ·cases hr
 |[],_::_,_,_,hl,_=>by simp at hl
 |_::_,[],_,_,hl,_=>by simp at hl
theorem Lg{fr:Bool}{x a:IV}{u:Value}(h:aY fr R σ x a)(ha:oJ a=some u):x=a:=by
 cases h with
 |raw v=>rfl
 |agg cs ds hl hh=>
  simp only[oJ]at ha;split at ha
  ·rename_i vs gR;rw[OG gR hl hh]
  ·cases ha
 |pure x hf hp=>rfl
 |nil|emp|da|av|sl=>simp[oJ]at ha
theorem Bs{fr:Bool}{x a:IV}{u:Value}(h:aY fr R σ x a)(ha:iu a=some u):x=a:=by
 cases h with
 |da t x y hh=>
  simp only[iu]at ha;split at ha
  ·rename_i hu;rw[Lg hh hu]
  ·cases ha
 |raw v=>rfl
 |agg cs ds hl hh=>exact Lg (.agg cs ds hl hh) ha
 |pure x hf hp=>rfl
 |nil|emp|av|sl=>simp[iu,oJ]at ha
theorem Bt{y:IV}{n:Int}(h:gC y=some n):∃q,y=.raw (.int q n):=by
 unfold gC at h;split at h
 ·cases h;exact⟨_,rfl⟩
 ·cases h
theorem J.z8(h:J (aj P ν) R φ Γ L E σ):iv (fun _=>none) ⟨0,.lf⟩ R σ:=⟨fun _ _ h=>(by cases h),fun _ _ _ _ _ h=>(by cases h),h.fits⟩
def cY(P:Program)(C:Cr)(Q:IV→Prop)(K:List (List IV→Prop))(ν:List IV)(E:Nat→Env)(lv:Nat×Nat)(k:PV SE→SS→ab)(res:IV→St→Prop):Prop:=
 ∃x ai R1 du pv V1 μ,res x ai∧J (aj P (ν++μ)) R1 du V1.g V1.l E ai∧VR (aj P (ν++μ)) R1 du V1.l ai x pv∧(ν++μ).length=V1.n∧V1.ln=lv∧(k pv V1).sat P C Q K (ν++μ)
theorem cY.here{x:IV}{ai:St}{pv:PV SE}{V1:SS}{lv:Nat×Nat}{res:IV→St→Prop}(h1:res x ai)(h2:J (aj P ν) R φ V1.g V1.l E ai)(h3:VR (aj P ν) R φ V1.l ai x pv)(h4:ν.length=V1.n)(h5:V1.ln=lv)
 (h6:(k pv V1).sat P C Q K ν):cY P C Q K ν E lv k res:=
 ⟨x,ai,R,φ,pv,V1,[],h1,by rw[aqY];exact h2,by rw[aqY];exact h3,by rw[aqY];exact h4,h5,by rw[aqY];exact h6⟩
theorem cY.at{x:IV}{ai:St}{c:Cl SE}{V1:SS}{lv:Nat×Nat}{res:IV→St→Prop}(h6:(k (.one c) V1).sat P C Q K ν)(h2:J (aj P ν) R φ V1.g V1.l E ai)(h4:ν.length=V1.n)(h5:V1.ln=lv)(h3:cz (aj P ν) R φ V1.l ai x c)(h1:res x ai):
 cY P C Q K ν E lv k res:=.here (pv:=.one c) h1 h2 h3 h4 h5 h6
abbrev bF(P:Program)(E:Nat→Env)(d:Nat)(o:Oper)(σ:St):IV→St→Prop:=fun x ai=>ak P 0 (aq (E d)) o σ=some (.val x ai)
variable(hJ:J (aj P ν) R φ V.g V.l E σ)(hn:ν.length=V.n)
include hJ hn
theorem Xi{x:Operand}(ho:o.op=.move x∨o.op=.assign x)(hs:(fE P d o V k).sat P C Q K ν):cY P C Q K ν E V.ln k (bF P E d o σ):=by
 have bf:(k (bI P d V o.type x) V).sat P C Q K ν:=by
  rcases ho with ho|ho<;>(unfold fE at hs;rw[ho]at hs;exact hs)
 refine .here (x:=aq (E d) x) (ai:=σ) ?_ hJ (aZ hJ d o.type x) hn rfl bf;rcases ho with ho|ho<;>simp[bF,ak,ho,ret]
theorem OH{x:IV}{t:Bool}(hx:VR (aj P ν) R φ V.l σ x (.one (.v (.b t)))):x=.raw (.bool t):=by
 obtain⟨y,h1,h2,_⟩:=hx;simp only[aj,SE.den,aqH]at h1;subst h1;exact bV h2
theorem aah{c a b:Operand}(ho:o.op=.pick c a b)(hs:(fE P d o V k).sat P C Q K ν):cY P C Q K ν E V.ln k (bF P E d o σ):=by
 unfold fE at hs;rw[ho]at hs;simp only at hs;have hc:=aZ hJ d 0 c;split at hs
 ·rename_i hh;rw[hh]at hc;have:=OH hJ hn hc;refine .here (x:=aq (E d) a) (ai:=σ) ?_ hJ (aZ hJ d o.type a) hn rfl hs;simp[bF,ak,ho,this,ret]
 ·rename_i hh;rw[hh]at hc;have:=OH hJ hn hc;refine .here (x:=aq (E d) b) (ai:=σ) ?_ hJ (aZ hJ d o.type b) hn rfl hs;simp[bF,ak,ho,this,ret]
 ·exact hs.elim
theorem Lh{cs:List (Cl SE)}{cA:List IV}(hc:All2 (cz (aj P ν) R φ V.l σ) cA cs):
 J (aj P ν) R (bQ φ V.l.length σ.n) V.g (V.l++[.var cs]) E (σ.add (.cells cA 0 0))∧VR (aj P ν) R (bQ φ V.l.length σ.n) (V.l++[.var cs]) (σ.add (.cells cA 0 0)) (.ptr σ.n 0 0 cA.length) (.one (.pt V.l.length 0 cs.length)):=by
 have hs:=EN hJ (.cells cA 0 0) (.var cs);refine⟨hJ.xm (.cells cA 0 0) (.var cs) ⟨σ.n,cA,by simp[bQ],hJ.qF,by simp,hc.mono fun _ _ bT=>bT.step hs (Cl.aU _)⟩,⟨σ.n,cs,by simp[bQ],by simp,by rw[hc.len]⟩⟩
theorem Xj{t:TypeId}(ho:o.op=.alloc t)(hs:(fE P d o V k).sat P C Q K ν):cY P C Q K ν E V.ln k (bF P E d o σ):=by
 unfold fE at hs;rw[ho]at hs;simp only at hs;split at hs
 ·exact hs.elim
 ·rename_i hz;cases ve:cn P t with
  |none=>rw[ve]at hz;simp at hz
  |some z=>
   have hc:=mv (ν:=ν) (R:=R) (φ:=φ) (L:=V.l) (σ:=σ) ve;obtain⟨h1,h2⟩:=Lh hJ hn hc;refine .here (V1:={V with l:=V.l++[.var (zeroCells P t)]}) ?_ h1 h2 hn rfl hs;simp[bF,ak,ho,ve,ret]
theorem ads{t:TypeId}{x:Operand}(ho:o.op=.box t x)(hs:(fE P d o V k).sat P C Q K ν):cY P C Q K ν E V.ln k (bF P E d o σ):=by
 unfold fE at hs;rw[ho]at hs;simp only at hs;split at hs
 ·exact hs.elim
 ·rename_i hu;have x_:rl (er (bI P d V t x))=true:=by simpa using hu
  have hc:=yy (aZ hJ d t x) x_;obtain⟨h1,h2⟩:=Lh hJ hn hc;refine .here (V1:={V with l:=V.l++[.var (er (bI P d V t x))]}) ?_ h1 h2 hn rfl hs;have:=pK hc x_;simp only[bF,ak,ho,ret,this,if_true]
theorem OI{x:Operand}(ho:o.op=.nilCheck x)(hs:(fE P d o V k).sat P C Q K ν):cY P C Q K ν E V.ln k (bF P E d o σ):=by
 unfold fE at hs;rw[ho]at hs;simp only at hs;have hc:=aZ hJ d 0 x;split at hs
 ·rename_i hh;rw[hh]at hc;refine .here (x:=aq (E d) x) (ai:=σ) ?_ hJ hc hn rfl hs;obtain⟨id,cs,_,_,h3⟩:=hc;simp[bF,ak,ho,h3,ret]
 ·rename_i hh;exact hs.elim
 ·rename_i hh;rw[hh]at hc;refine .here (x:=aq (E d) x) (ai:=σ) ?_ hJ hc hn rfl hs;obtain⟨ds,h3,_⟩:=hc;simp[bF,ak,ho,h3,ret]
 ·exact hs.elim
end Go.Ev
namespace Go.Ev
variable{P:Program}{N:Nat}{σ ah:St}{R R':Rs}{φ aG:Ph}{E:Nat→Env}{ν:List IV}
variable{C:Cr}{Q:IV→Prop}{K:List (List IV→Prop)}{V:SS}{d:Nat}{o:Oper}{k:PV SE→SS→ab}
theorem Vi{t:TypeId}(h:isAgg P t=true):qf P t=some true:=by simpa[isAgg]using h
theorem RD{t:TypeId}{b:Bool}(h:isAgg P t=false)(hb:qf P t=some b):qf P t=some false:=by
 cases b
 ·exact hb
 ·simp[isAgg,hb]at h
theorem z_{t:TypeId}{s off:Nat}{cs:List IV}(hs:aH P t=some s)(hg:qf P t=some true)(hle:off+s≤cs.length):partOf P t cs off=some (.agg ((cs.drop off).take s)):=by
 simp[partOf,hs,hg,hle]
theorem JX{t:TypeId}{off:Nat}{cs:List IV}(hs:aH P t=some 1)(hg:qf P t=some false):partOf P t cs off=cs[off]? :=by
 simp[partOf,hs,hg]
theorem rU{L:List (LO SE)}{t:TypeId}{s off:Nat}{b:Bool}{cA:List IV}{cs:List (Cl SE)}{pv:PV SE}(hs:aH P t=some s)(hb:qf P t=some b)(hc:All2 (cz (aj P ν) R φ L σ) cA cs)(hle:off+s≤cs.length)
 (p8:if isAgg P t=true then pv=.ag ((cs.drop off).take s)else∃c,(cs.drop off).take s=[c]∧pv=.one c):∃x,partOf P t cA off=some x∧VR (aj P ν) R φ L σ x pv:=by
 have hl:=hc.len;split at p8
 ·rename_i ha;subst p8;exact⟨_,z_ hs (Vi ha) (by omega),_,rfl,(hc.drop off).take s⟩
 ·rename_i ha;obtain⟨c,h1,rfl⟩:=p8
  have hlen:s=1:=by
   have:=congrArg List.length h1;simp at this;omega
  subst hlen
  have h2:cs[off]?=some c:=by
   have:((cs.drop off).take 1)[0]?=some c:=by rw[h1];rfl
   simpa using this
  obtain⟨x,hx,hr⟩:=hc.zj h2;exact⟨x,by rw[JX hs (RD (by simpa using ha) hb),hx],hr⟩
theorem Ia{t:TypeId}{s:Nat}{cs:List (Cl SE)}(hs:((if isAgg P t=true then(if Nat.beq cs.length s=true then k (.ag cs) V else .fail 2)else match cs with|[c]=>k (.one c) V|_=>.fail 3):ab).sat P C Q K ν):
 ∃pv,(k pv V).sat P C Q K ν∧if isAgg P t=true then pv=.ag cs else∃c,cs=[c]∧pv=.one c:=by
 split at hs
 ·rename_i ha;split at hs
  ·exact⟨_,hs,by rw[if_pos ha]⟩
  ·exact hs.elim
 ·rename_i ha;split at hs
  ·exact⟨_,hs,by rw[if_neg ha];exact⟨_,rfl,rfl⟩⟩
  ·exact hs.elim
variable(hJ:J (aj P ν) R φ V.g V.l E σ)(hn:ν.length=V.n)
include hJ hn
theorem aai{t:TypeId}{pa:PV SE}{x:IV}(hx:VR (aj P ν) R φ V.l σ x pa)(hs:(UR P t pa V k).sat P C Q K ν):
 cY P C Q K ν E V.ln k (fun v ai=>ai=σ∧(∀d a,aq (E d) a=x→∀o:Oper,o.op=.load t a→ak P 0 (aq (E d)) o σ=some (.val v σ))):=by
 unfold UR at hs;split at hs
 ·exact hs.elim
 ·exact hs.elim
 ·rename_i s b aL ud;simp only at hs;split at hs
  ·rename_i j off ext;obtain⟨id,pZ,h1,h2,rfl⟩:=hx;split at hs
   ·rename_i cs hj;rw[hj]at h2;cases h2;split at hs
    ·rename_i hle;simp only[aqG,asj]at hle;obtain⟨pv,hk,p8⟩:=Ia hs;obtain⟨br,cA,h3,h4,h5,h6⟩:=hJ.obj j _ hj;rw[h1]at h3;cases h3;obtain⟨v,hv,hr⟩:=rU aL ud h6 hle.2 p8;refine .here (x:=v) (ai:=σ) ⟨rfl,fun d a ha o ho=>?_⟩ hJ hr hn rfl hk;simp[ak,ho,ha,aL,h5,hle.1,hv,ret]
    ·exact hs.elim
   ·exact hs.elim
  ·rename_i cs;obtain⟨ds,rfl,h1⟩:=hx;split at hs
   ·rename_i hle;rw[asj]at hle;obtain⟨pv,hk,p8⟩:=Ia hs;have hc:All2 (cz (aj P ν) R φ V.l σ) ds (cs.map .v):=h1.map (f:=Cl.v) fun _ _ bT=>bT;obtain⟨v,hv,hr⟩:=rU (off:=0) aL ud hc (by simpa using hle) p8;refine .here (x:=v) (ai:=σ) ⟨rfl,fun d a ha o ho=>?_⟩ hJ hr hn rfl hk;simp[ak,ho,ha,hv,ret]
   ·exact hs.elim
  ·rename_i fr cs;split at hs
   ·rename_i hle;rw[asj]at hle;obtain⟨pv,hk,p8⟩:=Ia hs;obtain⟨bo,⟨hf,ds,rfl,h1⟩|⟨id,off,ep,m,cA,au,mn,h1,h2,h3,h4,rfl,h6,h7,h8⟩⟩:=hx
    ·have hc:All2 (cz (aj P ν) R φ V.l σ) ds (cs.map (.w fr)):=by
      refine(h1.wG (r':=fun d c=>cz (aj P ν) R φ V.l σ d (.w fr c)) fun d c hc ⟨y,zR,HO⟩=>?_).map (f:=Cl.w fr) fun _ _ bT=>bT;obtain⟨y',Li,hy4⟩:=bo c hc;rw[zR]at Li;cases Li;exact⟨y,zR,hf▸HO.mono hJ.z8,hy4⟩
     obtain⟨v,hv,hr⟩:=rU (off:=0) aL ud hc (by simpa using hle) p8;refine .here (x:=v) (ai:=σ) ⟨rfl,fun d a ha o ho=>?_⟩ hJ hr hn rfl hk;simp[ak,ho,ha,hv,ret]
    ·have hc:All2 (cz (aj P ν) R φ V.l σ) ((cA.drop off).take cs.length) (cs.map (.w fr)):=by
      refine .mk (by simp;omega) fun i a b ha hb=>?_;rw[aqU]at hb;obtain⟨c,hc,rfl⟩:=aqL.1 hb;have hi:=(aqF.1 hc).1;rw[ard,if_pos hi,ase]at ha;obtain⟨y,zR,HO⟩:=h8 i a c hc ha;obtain⟨y',Li,hy4⟩:=bo c (aqS hc);have aaj:c.den P ν=some y:=zR;have afj:c.den P ν=some y':=Li;rw[aaj]at afj;cases afj;exact⟨y,zR,HO,hy4⟩
     obtain⟨v,hv,hr⟩:=rU (off:=0) aL ud hc (by simpa using hle) p8
     have Wv:partOf P t cA off=some v:=by
      have hlen:s≤((cA.drop off).take cs.length).length:=by simp;omega
      cases b with
      |true=>
       rw[z_ aL ud (by simpa using hlen)]at hv;rw[z_ aL ud (by omega),←hv];simp[auB,hle]
      |false=>
       have h1s:s=1:=by
        unfold partOf at hv;rw[ud,aL]at hv;simp only at hv;split at hv
        ·assumption
        ·cases hv
       subst h1s;rw[JX aL ud]at hv⊢;rw[ard,if_pos (by omega),ase]at hv;exact hv
     refine .here (x:=v) (ai:=σ) ⟨rfl,fun d a ha o ho=>?_⟩ hJ hr hn rfl hk;simp[ak,ho,ha,aL,h2,hle,h3,h4,Wv,ret]
   ·exact hs.elim
  ·rename_i j i off ext;split at hs
   ·rename_i sz st cut fr es hj;split at hs
    ·rename_i hle;rw[asj]at hle;obtain⟨pv,hk,p8⟩:=Ia hs;obtain⟨s',lr,tV,cX,z',aB,y,n,id,cs,au,mn,h1,h2,h3,h4,h5,h6,h7,h8,rfl⟩:=hx;rw[hj]at h1;cases h1;obtain⟨bA,gK,g1,g2,g3⟩:=hJ.obj j _ hj;have yl:es.den P ν=some (.tree sz aB):=h2;have mM:es.den P ν=some (.tree sz gK):=g1;rw[yl]at mM;cases mM;rcases g3 with⟨g3,_⟩|⟨br,cq,ik,oS,g3,g4,g5,g6,g7,g8,g9⟩
     ·rw[h7]at g3;cases g3
     ·rw[h7]at g3;cases g3;rw[h8]at g4;cases g4;have he:aB[n]?=some aB[n]:=aqE h5;have nK:=g2 _ (aqI h5)
      have amJ:dx sz (.tree sz aB) y=some aB[n]:=by
       have hy:gC y=some (n:Int):=by
        unfold nat? at h4;split at h4
        ·split at h4
         ·rename_i hq;cases h4;simp[gC];omega
         ·cases h4
        ·cases h4
       simp[dx,hy,he,nK]
      have HA:n*sz+sz≤aB.length*sz:=by
       have:(n+1)*sz≤aB.length*sz:=aq8 sz h5;rw[are]at this;omega
      have hc:All2 (cz (aj P ν) R φ V.l σ) ((cs.drop (n*sz)).take sz) ((asc sz).map fun q=>.w fr (.FX sz es i q)):=by
       refine .mk (by simp;omega) fun q a b ha hb=>?_;rw[aqU]at hb;obtain⟨q',hq,rfl⟩:=aqL.1 hb;have Ca:q<sz:=by have:=(aqF.1 hq).1;simpa using this
       have:q'=q:=by rw[atk Ca]at hq;cases hq;rfl
       subst this;rw[ard,if_pos Ca,ase]at ha;have hd:(cellsOf aB[n])[q']?=some (cellsOf aB[n])[q']:=aqE (by omega);have hr:=g9 (n*sz+q') a _ ha (AS g2 he hd)
       have vB:Ev.af a=true:=by
        rw[aqW]at g8;exact g8 a (aqS ha)
       have bo:=hr.adr vB;refine⟨_,?_,hr,bo⟩;have Ib:i.den P ν=some y:=h3;simp[aj,SE.den,yl,Ib,amJ,hd,xx,bo]
      obtain⟨v,hv,hr⟩:=rU (off:=off) aL ud hc (by simp;omega) p8
      have Wv:partOf P t cs (n*sz+off)=some v:=by
       cases b with
       |true=>
        rw[z_ aL ud (by simp;omega)]at hv;rw[z_ aL ud (by omega),←hv]
        congr 2
        rw[List.drop_take,List.drop_drop,auB]
        congr 1;omega
       |false=>
        have h1s:s=1:=by
         unfold partOf at hv;rw[ud,aL]at hv;simp only at hv;split at hv
         ·assumption
         ·cases hv
        subst h1s;rw[JX aL ud]at hv⊢;rw[ard,if_pos (by omega),ase]at hv;exact hv
      refine .here (x:=v) (ai:=σ) ⟨rfl,fun d a ha o ho=>?_⟩ hJ hr hn rfl hk;simp[ak,ho,ha,aL,h8,hle,g5,Wv,ret]
    ·exact hs.elim
   ·exact hs.elim
  ·exact hs.elim
theorem aak{t:TypeId}{a:Operand}(ho:o.op=.load t a)(hs:(fE P d o V k).sat P C Q K ν):cY P C Q K ν E V.ln k (bF P E d o σ):=by
 unfold fE at hs;rw[ho]at hs;simp only at hs;obtain⟨x,ai,R1,du,pv,V1,μ,h0,h2⟩:=aai hJ hn (aZ hJ d 0 a) hs;obtain⟨e0,h1⟩:=h0;subst e0;exact⟨x,ai,R1,du,pv,V1,μ,h1 d a rfl o ho,h2⟩
end Go.Ev
namespace Go.Ev
variable{P:Program}{N:Nat}{σ ah:St}{R R':Rs}{φ aG:Ph}{E:Nat→Env}{ν:List IV}
variable{C:Cr}{Q:IV→Prop}{K:List (List IV→Prop)}{V:SS}{d:Nat}{o:Oper}{k:PV SE→SS→ab}
theorem Lj{r:IV→Cl SE→Prop}{cA xs:List IV}{cs new:List (Cl SE)}(off:Nat)(h:All2 r cA cs)(k:All2 r xs new):All2 r (dp cA off xs) (zS cs off new):=by
 unfold dp zS;rw[k.len];exact((h.take off).app k).app (h.drop _)
theorem J.Xk{L:List (LO SE)}{Γ:Gm SE}(h:J (aj P ν) R φ Γ L E σ){k id s au mn:Nat}{cut fr cX:Bool}{z z':SE}{cs cq es aB:List IV}(hid:φ k=some id)(hk:L[k]?=some (.row s false cut fr z))(aA:σ.at id=some (.cells cs au mn))
 (hl:cq.length=cs.length)(hz:z.den P ν=some (.tree s es))(oX:z'.den P ν=some (.tree s aB))(hle:aB.length=es.length)(bC:∀e∈aB,(cellsOf e).length=s)(bo:cq.all Ev.af=true)
 (hc:∀(j:Nat) x d,cq[j]?=some x→(flat aB)[j]?=some d→aY cX R σ x d):
 J (aj P ν) R φ Γ (L.set k (.row s false cut cX z')) E (σ.put id (.cells cq au au)):=by
 have ot:=c7 hk;have aT:∀j,j≠k→(L.set k (.row s false cut cX z'))[j]?=L[j]? :=fun j hj=>List.getElem?_set_ne (fun hc=>hj hc.symm);have aW:(L.set k (.row s false cut cX z'))[k]?=some (.row s false cut cX z'):=by simp[ot]
 have JF:∀j br,j≠k→φ j=some br→br≠id:=fun j br hj fJ hc=>hj (h.inj j k id (by rw[←hc];exact fJ) hid);obtain⟨bA,gK,g1,g2,g3⟩:=h.obj k _ hk
 have AT:R id=none∧es.length*s≤cs.length∧mn≤au:=by
  rcases g3 with⟨g3,_⟩|⟨br,cs2,sS,Ct,g3,g4,g5,g6,g7,_⟩
  ·rw[hid]at g3;cases g3
  ·rw[hid]at g3;cases g3;rw[aA]at g4;cases g4;have mM:z.den P ν=some (.tree s gK):=g1;rw[hz]at mM;cases mM;exact⟨by simpa using g7,g6,g5⟩
 have pI:iv R σ R (σ.put id (.cells cq au au)):=by
  refine⟨fun _ m hm=>⟨m,hm,aqK _⟩,fun br m nJ AU z7 hm qi=>?_,fun br m nJ AU z7 hm qi=>?_⟩
  ·have:id≠br:=fun hc=>by rw[←hc,AT.1]at hm;cases hm
   exact⟨nJ,AU,by rw[St.cS,if_neg this];exact qi,aqK _,fun _ _=>rfl⟩
  ·have:id≠br:=fun hc=>by rw[←hc,AT.1]at hm;cases hm
   rw[St.cS,if_neg this]at qi;exact h.fits br m nJ AU z7 hm qi
 have hs:jZ (aj P ν) (aj P ν) R φ L σ R φ (L.set k (.row s false cut cX z')) (σ.put id (.cells cq au au)) (fun _=>False):=by
  refine⟨fun _ _ h=>h,pI,fun j nJ hj=>?_,fun j kt eP hj=>?_,fun j s1 rS ry rT z1 hj _=>?_⟩
  ·by_cases bD:j=k
   ·subst bD;rw[hk]at hj;cases hj
   ·exact⟨⟨nJ,by rw[aT j bD];exact hj⟩,rfl⟩
  ·by_cases bD:j=k
   ·subst bD;rw[hk]at hj;cases hj
   ·exact⟨⟨eP,by rw[aT j bD];exact hj⟩,rfl⟩
  ·by_cases bD:j=k
   ·subst bD;rw[hk]at hj;cases hj;refine⟨⟨false,cX,z',aW,fun eP l5=>⟨aB,oX,?_⟩⟩,rfl,fun id1 nJ AU z7 Vj qi=>?_⟩
    ·have OJ:z.den P ν=some (.tree s eP):=l5;rw[hz]at OJ;cases OJ;exact hle
    ·rw[hid]at Vj;cases Vj;rw[aA]at qi;cases qi;exact⟨cq,au,by rw[St.cS,if_pos rfl],hl,fun _=>rfl⟩
   ·refine⟨⟨rS,rT,z1,by rw[aT j bD];exact hj,fun eP l5=>⟨eP,l5,rfl⟩⟩,rfl,fun id1 nJ AU z7 Vj qi=>⟨nJ,z7,?_,rfl,fun h=>h⟩⟩;rw[St.cS,if_neg (fun hc=>JF j id1 bD Vj hc.symm)];exact qi
 refine⟨fun d t pv hg=>(h.slot d t pv hg).step hs pv.aU,fun j o hj=>?_,h.inj,fun j br hj=>by simpa[St.put]using h.lt j br hj,h.p6,pI.fits,h.wf.set _ _,fun br iH=>?_⟩
 ·by_cases bD:j=k
  ·subst bD;rw[aW]at hj;cases hj;refine⟨bA,aB,oX,bC,.inr ⟨id,cq,au,au,hid,by rw[St.cS,if_pos rfl],aqK _,by rw[hl,hle];exact AT.2.1,by simpa using AT.1,bo,fun j x d hx hd=>(hc j x d hx hd).mono pI⟩⟩
  ·rw[aT j bD]at hj;exact(h.obj j o hj).step hs rfl (fun br iH=>⟨by rw[St.cS,if_neg (fun hc=>JF j br bD iH hc.symm)],rfl⟩) o.aU
 ·have:=(h.lt _ _ hid).2;have MV:σ.n≤br:=iH;rw[St.cS,if_neg (by omega)];exact h.top br MV
theorem aal{s:Nat}{x:IV}:∀{es:List IV} (_:∀e∈es,(cellsOf e).length=s) {n:Nat},n<es.length→(cellsOf x).length=s→flat (es.set n x)=dp (flat es) (n*s) (cellsOf x):=by
 intro es;induction es with
 |nil=>intro _ n hn;simp at hn
 |cons a es ih=>
  intro bC n hn hx;have ha:(cellsOf a).length=s:=bC a (by simp);unfold dp;cases n with
  |zero=>
   simp only[List.set_cons_zero,flat,as6,Nat.zero_mul,List.take_zero,List.nil_append,Nat.zero_add];rw[hx,List.drop_append_of_le_length (by omega),aro (by omega:(cellsOf a).length≤s)];simp
  |succ n=>
   have:=ih (fun e he=>bC e (by simp[he])) (n:=n) (by simpa using hn) hx;simp only[List.set_cons_succ];unfold flat at this⊢;rw[as6,this];unfold dp
   rw[as6,hx,are,Nat.one_mul,List.take_append,List.drop_append,ha,
    List.take_of_length_le (by omega:(cellsOf a).length≤n*s+s),aro (by omega:(cellsOf a).length≤n*s+s+s),
    show n*s+s- s=n*s by omega,show n*s+s+s- s=n*s+s by omega]
   simp
theorem mz{α:Type}{cs new:List IV}{off j:Nat}(h:off+new.length≤cs.length):(dp cs off new)[j]?=if off≤j∧j<off+new.length then new[j- off]? else cs[j]? :=by
 unfold dp;have h1:(cs.take off).length=off:=by simp;omega
 rw[List.append_assoc];by_cases ha:j<off
 ·rw[aqQ (by omega),ard,if_pos ha,if_neg (by omega)]
 ·rw[aq_ (by omega),h1];by_cases hb:j<off+new.length
  ·rw[aqQ (by omega),if_pos ⟨by omega,hb⟩]
  ·rw[aq_ (by omega),if_neg (by omega),ase]
   congr 1;omega
theorem tA{cs new:List IV}{off:Nat}(h:off+new.length≤cs.length):(dp cs off new).length=cs.length:=by
 unfold dp;simp;omega
theorem wu{cs new:List IV}{off:Nat}{f:IV→Bool}(h1:cs.all f=true)(h2:new.all f=true):(dp cs off new).all f=true:=by
 rw[aqW]at h1 h2⊢;intro x hx;unfold dp at hx;rcases aqX.1 hx with hx|hx
 ·rcases aqX.1 hx with hx|hx
  ·exact h1 x (ar_ hx)
  ·exact h2 x hx
 ·exact h1 x (atc hx)
variable(hJ:J (aj P ν) R φ V.g V.l E σ)(hn:ν.length=V.n)
include hJ hn
theorem Vk{t:TypeId}{a x:Operand}{j off ext:Nat}{cs:List (Cl SE)}(ho:o.op=.store t a x)(ha:bI P d V 0 a=.one (.pt j off ext))(hj:V.l[j]?=some (.var cs))
 (h1:rl (er (bI P d V t x))=true)(h2:(er (bI P d V t x)).length≤ext)(h3:off+(er (bI P d V t x)).length≤cs.length)(h4:aH P t=some (er (bI P d V t x)).length)
 (hs:(k (.one .un) (V.setObj j (.var (zS cs off (er (bI P d V t x)))))).sat P C Q K ν):cY P C Q K ν E V.ln k (bF P E d o σ):=by
 have Ic:=aZ hJ d 0 a;rw[ha]at Ic;obtain⟨id,pZ,g1,g2,g3⟩:=Ic;obtain⟨br,cA,g4,g5,g6,g7⟩:=hJ.obj j _ hj;rw[g1]at g4;cases g4;have hc:=yy (aZ hJ d t x) h1;have dU:=hc.len;have Cf:=g7.len
 obtain⟨dw,bz⟩:=hJ.sK (R':=R) (bad:=fun _=>False) (jK:=.var (zS cs off (er (bI P d V t x)))) (eE:=.cells (dp cA off (cellsOf (aq (E d) x))) 0 0) g1 hj (fun _ _=>rfl)
  (fun m hm=>by rw[g5]at hm;cases hm) (fun m _ _ _ hm=>by rw[g5]at hm;cases hm) (fun m _ _ _ hm=>by rw[g5]at hm;cases hm)
  (fun _ _=>⟨_,rfl⟩) (fun _ _ h=>by cases h) (fun _ _ _ _ _ h=>by cases h) (fun _ _ pv _=>pv.aU) (fun _ o _ _=>o.aU)
  (fun dw=>⟨id,_,g1,g5,by rw[St.cS,if_pos rfl],(Lj off g7 hc).mono fun _ _ bT=>bT.step dw (Cl.aU _)⟩)
 refine .here (x:=.undef) (V1:=V.setObj j _) (pv:=.one .un) ?_ bz trivial hn rfl hs;have gS:=pK hc h1;simp only[bF,ak,ho,g3,h4,g6,dU,ret];rw[if_pos ⟨arw _,trivial,h2,trivial,by omega,gS⟩]
end Go.Ev
namespace Go.Ev
variable{P:Program}{N:Nat}{σ ah:St}{R R':Rs}{φ aG:Ph}{E:Nat→Env}{ν:List IV}
variable{C:Cr}{Q:IV→Prop}{K:List (List IV→Prop)}{V:SS}{d:Nat}{o:Oper}{k:PV SE→SS→ab}
theorem adt{y:IV}{n:Nat}(h:nat? y=some n):∃q,y=.raw (.int q n):=by
 unfold nat? at h;split at h
 ·split at h
  ·rename_i q m hq;cases h;exact⟨q,by simp;omega⟩
  ·cases h
 ·cases h
theorem F0{s:TypeId}{f off sz:Nat}(h:fieldAt P s f=some (off,sz)):∃fields fd,P.underlying s=some (.struct fields)∧fields[f]?=some fd∧aH P fd.type=some sz∧fd.offset=off:=by
 unfold fieldAt at h;split at h
 ·rename_i fields hu;split at h
  ·rename_i fd hf;split at h
   ·rename_i sz' hs;cases h;exact⟨fields,fd,hu,hf,hs,rfl⟩
   ·cases h
  ·cases h
 ·cases h
theorem Ll{α:Type}{f:α→α→Bool}(h:∀a b,f a b=true→a=b):∀{as bs:List α},lz f as bs=true→as=bs
 |[],[],_=>rfl
 |a::as,b::bs,hh=>by
  simp only[lz,aqG]at hh;rw[h a b hh.1,Ll h hh.2]
 |[],_::_,hh=>by cases hh
 |_::_,[],hh=>by cases hh
theorem SE.eq_eq:∀{a b:SE},a.eq b=true→a=b:=by
 intro a;induction a with
 |var x=>intro c h;cases c<;>simp_all[SE.eq]
 |i x=>intro c h;cases c<;>simp_all[SE.eq]
 |k q x=>intro c h;cases c<;>simp_all[SE.eq,ae4]
 |b x=>intro c h;cases c<;>simp_all[SE.eq]
 |s x=>intro c h;cases c<;>first|(simp[SE.eq]at h;done)|(simp only[SE.eq]at h;rw[Ll (fun a b h=>by simpa using h) h])
 |an=>intro c h;cases c<;>simp_all[SE.eq]
 |raw v=>intro c h;cases c<;>simp[SE.eq]at h
 |ok e ih=>intro c h;cases c<;>first|(simp[SE.eq]at h;done)|(simp only[SE.eq]at h;rw[ih h])
 |len e ih=>intro c h;cases c<;>first|(simp[SE.eq]at h;done)|(simp only[SE.eq]at h;rw[ih h])
 |rj e ih=>intro c h;cases c<;>first|(simp[SE.eq]at h;done)|(simp only[SE.eq]at h;rw[ih h])
 |tp e ih=>intro c h;cases c<;>first|(simp[SE.eq]at h;done)|(simp only[SE.eq]at h;rw[ih h])
 |rw e ih=>intro c h;cases c<;>first|(simp[SE.eq]at h;done)|(simp only[SE.eq]at h;rw[ih h])
 |bN e j ih=>intro c h;cases c<;>first|(simp[SE.eq]at h;done)|(simp only[SE.eq,aqG,ark]at h;rw[h.1,ih h.2])
 |proj e j ih=>intro c h;cases c<;>first|(simp[SE.eq]at h;done)|(simp only[SE.eq,aqG,ark]at h;rw[h.1,ih h.2])
 |tr q e ih=>intro c h;cases c<;>first|(simp[SE.eq]at h;done)|(simp only[SE.eq,aqG,ark]at h;rw[h.1,ih h.2])
 |un op e ih=>intro c h;cases c<;>first|(simp[SE.eq]at h;done)|(simp only[SE.eq,aqG,beq_iff_eq]at h;rw[h.1,ih h.2])
 |cv p q e ih=>intro c h;cases c<;>first|(simp[SE.eq]at h;done)|(simp only[SE.eq,aqG,ark]at h;rw[h.1.1,h.1.2,ih h.2])
 |idx q e x fk eH=>intro c h;cases c<;>first|(simp[SE.eq]at h;done)|(simp only[SE.eq,aqG,ark]at h;rw[h.1.1,fk h.1.2,eH h.2])
 |FX q e x j fk eH=>intro c h;cases c<;>first|(simp[SE.eq]at h;done)|(simp only[SE.eq,aqG,ark]at h;rw[h.1.1.1,h.1.1.2,fk h.1.2,eH h.2])
 |ac e x fk eH=>intro c h;cases c<;>first|(simp[SE.eq]at h;done)|(simp only[SE.eq,aqG]at h;rw[fk h.1,eH h.2])
 |bin op t e x fk eH=>intro c h;cases c<;>first|(simp[SE.eq]at h;done)|(simp only[SE.eq,aqG,ark,beq_iff_eq]at h;rw[h.1.1.1,h.1.1.2,fk h.1.2,eH h.2])
 |mx q e x fk eH=>intro c h;cases c<;>first|(simp[SE.eq]at h;done)|(simp only[SE.eq,aqG,beq_iff_eq]at h;rw[h.1.1,fk h.1.2,eH h.2])
 |FY e x fk eH=>intro c h;cases c<;>first|(simp[SE.eq]at h;done)|(simp only[SE.eq,aqG]at h;rw[fk h.1,eH h.2])
 |dec q e x fk eH=>intro c h;cases c<;>first|(simp[SE.eq]at h;done)|(simp only[SE.eq,aqG,ark]at h;rw[h.1.1,fk h.1.2,eH h.2])
 |rM|rws|cat|has|Dr|sub|Oi|GH|ins|get=>intro c h;cases c<;>simp[SE.eq]at h
theorem OK{o:Option (LO SE)}{s:Nat}{cut fr:Bool}{es:SE}(h:MX o s cut fr es=true):o=some (.row s false cut fr es):=by
 unfold MX at h;split at h
 ·simp only[aqG,ark,beq_iff_eq]at h;rw[h.1.1.1,h.1.1.2,h.1.2,SE.eq_eq h.2]
 ·cases h
theorem oY{e:SE}{z:IV}(h:(SE.ok e).den P ν=some z):e.den P ν=some z∧Ev.af z=true:=by
 simp only[SE.den,aqZ]at h;obtain⟨y,h1,h2⟩:=h;unfold xx at h2;split at h2
 ·cases h2;exact⟨h1,by assumption⟩
 ·cases h2
variable(hJ:J (aj P ν) R φ V.g V.l E σ)(hn:ν.length=V.n)
include hJ hn
theorem Vl{t:TypeId}{a x:Operand}{j s off ext:Nat}{i es:SE}{cut fr f:Bool}{zs:List SE}{V2:SS}(ho:o.op=.store t a x)(ha:bI P d V 0 a=.one (.pr j i off ext))(hj:V.l[j]?=some (.row s false cut fr es))
 (h0:off=0)(h2:(er (bI P d V t x)).length=s)(h3:s=ext)(aL:aH P t=some s)(Xl:rl (er (bI P d V t x))=true)(jq:sM V (er (bI P d V t x))=some (f,zs,V2))(yg:V2.l[j]?=some (.row s false cut fr es))
 (Cv:isAgg P t=true∨s=1)
 (hs:(newVar V2 (.Dr s es i (if isAgg P t then dO zs else zs.headD .an)) fun z V=>k (.one .un) (V.setObj j (.row s false cut (fr||f) z))).sat P C Q K ν):cY P C Q K ν E V.ln k (bF P E d o σ):=by
 subst h0 h3;obtain⟨R',cg,eQ,Sw,GU⟩:=ua hJ jq;have Ic:=aZ hJ d 0 a;rw[ha]at Ic;have aam:=cg.Lf (x:=aq (E d) a) (c:=.pr j i 0 s) Ic;obtain⟨s',lr,tV,cX,z',aB,y,n,id,cs,au,mn,a1,a2,a3,a4,a5,a6,a7,a8,a9⟩:=aam;rw[yg]at a1;cases a1;obtain⟨bA,gK,g1,g2,g3⟩:=eQ.obj j _ yg;have rV:es.den P ν=some (.tree s aB):=a2;have mM:es.den P ν=some (.tree s gK):=g1;rw[rV]at mM;cases mM;rcases g3 with⟨g3,_⟩|⟨br,cq,ik,oS,g3,g4,g5,g6,g7,g8,g9⟩
 ·rw[a7]at g3;cases g3
 rw[a7]at g3;cases g3;rw[a8]at g4;cases g4;have hc:=yy (aZ hJ d t x) Xl;obtain⟨ys,b1,b2,b3⟩:=GU _ hc;have OL:(cellsOf (aq (E d) x)).length=s:=by rw[hc.len,h2]
 have F3:ys.length=s:=by rw[←b1.len,Sw,h2]
 obtain⟨ze,Xm,FJ⟩:∃ze,(if isAgg P t=true then dO zs else zs.headD .an).den P ν=some ze∧cellsOf ze=ys:=by
  split
  ·exact⟨_,ew b1,rfl⟩
  ·rename_i Wx;have dw:s=1:=Cv.resolve_left Wx;have OM:ys.length=1:=by omega
   obtain⟨y0,rfl⟩:=atF.1 OM;obtain⟨z0,rfl⟩:=atF.1 (b1.len.trans OM);refine⟨y0,b1.1,?_⟩;have:Ev.af y0=true:=by simpa using b3
   cases y0<;>first|rfl|(simp[Ev.af]at this;done)
 obtain⟨amK,Ie,hk⟩:=hs
 have rz:(SE.Dr s es i (if isAgg P t=true then dO zs else zs.headD .an)).den P ν=some (.tree s (aB.set n ze)):=by
  simp only[SE.den,aqZ]at Ie⊢;have a3':i.den P ν=some y:=a3;refine⟨_,rV,y,a3',ze,Xm,?_⟩;obtain⟨q,rfl⟩:=adt a4;simp[Xd,gC,a5,FJ,F3]
 rw[rz]at Ie;cases Ie
 have Ug:n*s+s≤aB.length*s:=by
  have:(n+1)*s≤aB.length*s:=aq8 s a5;rw[are]at this;omega
 have tN:=eQ.up (gW:=aj P (ν++[.tree s (aB.set n ze)])) (fun e z h=>SE.cR P e h)
 have hZ:(SE.var V2.n).den P (ν++[.tree s (aB.set n ze)])=some (.tree s (aB.set n ze)):=by
  have:V2.n=ν.length:=by rw[hn];exact cg.2.1
  simp[SE.den,this]
 have Xn:=tN.Xk (cX:=fr||f) (z':=.var V2.n) (cq:=dp cs (n*s) (cellsOf (aq (E d) x))) a7 yg a8 (tA (by omega)) (SE.cR P es rV) hZ (by simp)
  (fun e he=>by
   rcases List.mem_or_eq_of_mem_set he with he|rfl
   ·exact g2 e he
   ·rw[FJ,F3])
  (wu g8 (pK hc Xl))
  (fun q u v hu hv=>by
   rw[aal g2 a5 (by rw[FJ,F3])]at hv;rw[mz (α:=IV) (by omega)]at hu;rw[mz (α:=IV) (by rw[na g2,FJ,F3];exact Ug)]at hv;rw[OL]at hu;rw[FJ,F3]at hv;by_cases hq:n*s≤q∧q<n*s+s
   ·rw[if_pos hq]at hu hv;exact(b2.get hu hv).wide (fun h=>by simp[h])
   ·rw[if_neg hq]at hu hv;exact(g9 q u v hu hv).wide (fun h=>by simp[h]))
 refine⟨.undef,σ.put id (.cells (dp cs (n*s) (cellsOf (aq (E d) x))) au au),R',φ,.one .un,({V2 with n:=V2.n+1}:SS).setObj j (.row s false cut (fr||f) (.var V2.n)),[.tree s (aB.set n ze)],?_,Xn,trivial,?_,cg.2.2.1,hk⟩
 ·have gS:=pK hc Xl;simp only[bF,ak,ho,a9,aL,a8,OL,ret,Nat.add_zero];rw[if_pos ⟨arw _,trivial,aqK _,trivial,by omega,gS⟩]
 ·show(ν++[_]).length=V2.n+1;simp[hn,cg.2.1]
theorem Xo{t:TypeId}{a x:Operand}(ho:o.op=.store t a x)(hs:(fE P d o V k).sat P C Q K ν):cY P C Q K ν E V.ln k (bF P E d o σ):=by
 unfold fE at hs;rw[ho]at hs;simp only at hs;split at hs
 ·rename_i j off ext ha;split at hs
  ·rename_i cs hj;split at hs
   ·rename_i hc;simp only[aqG,asj,beq_iff_eq]at hc;exact Vk hJ hn ho ha hj hc.1.1.1 hc.1.1.2 hc.1.2 hc.2 hs
   ·exact hs.elim
  ·exact hs.elim
 ·rename_i j i off ext ha;split at hs
  ·rename_i s cut fr es hj;split at hs
   ·rename_i hc;simp only[aqG,ark,beq_iff_eq,Bool.or_eq_true]at hc;split at hs
    ·rename_i f zs V2 jq;split at hs
     ·rename_i yg;obtain⟨⟨⟨⟨⟨c1,c2⟩,c3⟩,c4⟩,c5⟩,c6⟩:=hc;exact Vl hJ hn ho ha hj c1 c2 c3 c4 c5 jq (OK yg) c6 hs
     ·exact hs.elim
    ·exact hs.elim
   ·exact hs.elim
  ·exact hs.elim
 ·exact hs.elim
theorem MN{s:TypeId}{x:Operand}{f:Nat}(ho:o.op=.fieldAddr s x f)(hs:(fE P d o V k).sat P C Q K ν):cY P C Q K ν E V.ln k (bF P E d o σ):=by
 unfold fE at hs;rw[ho]at hs;simp only at hs;have hx:=aZ hJ d 0 x;split at hs
 ·rename_i fo sz hf;obtain⟨fields,fd,h1,h2,h3,rfl⟩:=F0 hf;split at hs
  ·exact hs.elim
  ·rename_i hz;have oX:sz≠0:=by simpa[ark]using hz
   split at hs
   ·rename_i j off ext hh;split at hs
    ·rename_i hle;rw[asj]at hle;rw[hh]at hx;obtain⟨id,cs,g1,g2,g3⟩:=hx;exact .at hs hJ hn rfl ⟨id,cs,g1,g2,rfl⟩ (by simp[bF,ak,ho,g3,h1,h2,h3,oX,hle,ret])
    ·exact hs.elim
   ·rename_i cs hh;split at hs
    ·rename_i hle;rw[asj]at hle;rw[hh]at hx;obtain⟨ds,g1,g2⟩:=hx;have hl:=g2.len;exact .at hs hJ hn rfl ⟨_,rfl,(g2.drop _).take _⟩ (by simp[bF,ak,ho,g1,h1,h2,h3,oX,hl,hle,ret])
    ·exact hs.elim
   ·rename_i fr cs hh;split at hs
    ·rename_i hle;rw[asj]at hle;rw[hh]at hx;obtain⟨g0,⟨DI,ds,g1,g2⟩|⟨id,off,ep,m,cA,au,mn,a1,a2,a3,a4,a5,a6,a7,a8⟩⟩:=hx
     ·have hl:=g2.len;exact .at hs hJ hn rfl ⟨fun c hc=>g0 c (atc (ar_ hc)),.inl ⟨DI,_,rfl,(g2.drop _).take _⟩⟩ (by simp[bF,ak,ho,g1,h1,h2,h3,oX,hl,hle,ret])
     ·have hlen:((cs.drop fd.offset).take sz).length=sz:=by simp;omega
      refine .at (x:=.ptr id (off+fd.offset) ep sz) hs hJ hn rfl ⟨fun c hc=>g0 c (atc (ar_ hc)),.inr ⟨id,off+fd.offset,ep,m,cA,au,mn,a1,a2,a3,a4,by rw[hlen],by rw[hlen];omega,a7,fun j c e he hc=>?_⟩⟩ (by simp[bF,ak,ho,a5,h1,h2,h3,oX,hle,ret]);rw[ard]at he;split at he
      ·rw[ase]at he;exact a8 _ c e he (by rw[show off+(fd.offset+j)=off+fd.offset+j by omega];exact hc)
      ·cases he
    ·exact hs.elim
   ·rename_i j i off ext hh;split at hs
    ·rename_i hle;rw[asj]at hle;rw[hh]at hx;obtain⟨s',lr,tV,cX,z',aB,y,n,id,cs,au,mn,a1,a2,a3,a4,a5,a6,a7,a8,a9⟩:=hx;exact .at hs hJ hn rfl ⟨s',lr,tV,cX,z',aB,y,n,id,cs,au,mn,a1,a2,a3,a4,a5,by omega,a7,a8,rfl⟩ (by simp[bF,ak,ho,a9,h1,h2,h3,oX,hle,ret,Nat.add_assoc])
    ·exact hs.elim
   ·exact hs.elim
 ·exact hs.elim
end Go.Ev
namespace Go.Ev
variable{P:Program}{N:Nat}{σ ah:St}{R R':Rs}{φ aG:Ph}{E:Nat→Env}{ν:List IV}
variable{C:Cr}{Q:IV→Prop}{K:List (List IV→Prop)}{V:SS}{d:Nat}{o:Oper}{k:PV SE→SS→ab}
def xy(P:Program)(t:TypeId)(s:Nat)(e:SE):List (SE):=if isAgg P t then(asc s).map (fun j=>.bN e j)else[.ok e]
theorem zn{z:IV}(h:Ev.af z=true):cellsOf z=[z]:=by
 cases z<;>first|rfl|(simp[Ev.af]at h;done)
theorem ON{t:TypeId}{s:Nat}{e:SE}{z:IV}{f:ab}(aL:aH P t=some s)(hz:e.den P ν=some z)(hs:(qR P t e f).sat P C Q K ν):
 f.sat P C Q K ν∧All2 (fun y (c:SE)=>c.den P ν=some y∧Ev.af y=true) (cellsOf z) (xy P t s e)∧(isAgg P t=true→∃ys,z=.agg ys):=by
 unfold qR at hs;unfold xy;split at hs
 ·rename_i ha;rw[if_pos ha];obtain⟨⟨y,hy⟩,hk⟩:=hs;refine⟨hk,?_⟩;simp only[SE.den,hz,aL,Option.bind_some,arz]at hy;split at hy
  ·rename_i cs;split at hy
   ·rename_i hc;refine⟨.mk (by simp[cellsOf,hc.1]) fun i a b h1 h2=>?_,fun _=>⟨cs,rfl⟩⟩;have hi:=(aqF.1 h1).1;have cT:i<cs.length:=hi;rw[aqU,atk (by omega)]at h2;simp only[aq9,aqH]at h2;subst h2;have bo:Ev.af a=true:=(aqW.1 hc.2) a (aqS h1);have cW:cs[i]?=some a:=h1;exact⟨by simp[SE.den,hz,cW,xx,bo],bo⟩
   ·cases hy
  ·cases hy
 ·rename_i ha;rw[if_neg ha];obtain⟨⟨y,hy⟩,hk⟩:=hs;obtain⟨h1,h2⟩:=oY hy;rw[hz]at h1;cases h1;rw[zn h2];exact⟨hk,⟨⟨hy,h2⟩,trivial⟩,fun h=>absurd h ha⟩
theorem JY{s:Nat}{z i:SE}{e:IV}(h:(SE.idx s z i).den P ν=some e):∃es y n,z.den P ν=some (.tree s es)∧i.den P ν=some y∧(∃q,y=.raw (.int q (n:Nat)))∧es[n]?=some e∧(cellsOf e).length=s:=by
 simp only[SE.den,aqZ]at h;obtain⟨a,h1,b,h2,h3⟩:=h;unfold dx at h3;split at h3
 ·rename_i s' es;split at h3
  ·rename_i n hn;split at h3
   ·rename_i hc;split at h3
    ·rename_i x hx;split at h3
     ·rename_i hl;cases h3;obtain⟨rfl,h0⟩:=hc;obtain⟨q,rfl⟩:=Bt hn;exact⟨es,_,n.toNat,h1,h2,⟨q,by simp;omega⟩,hx,hl⟩
     ·cases h3
    ·cases h3
   ·cases h3
  ·cases h3
 ·cases h3
theorem Xp{x:IV}{s:Nat}{es:List IV}(h:il x (.tree s es))(aT:es≠[]):x=.tree s es∧Pure x:=by
 cases h with
 |nil=>exact absurd rfl aT
 |emp=>exact absurd rfl aT
 |pure _ _ hp=>exact⟨rfl,hp⟩
 |sl _ _ _ _ _ _ _ _ _ _ _ hR=>cases hR
theorem afk{α:Type}{l:List α}{i:Nat}{a:α}(h:l[i]?=some a):l≠[]:=by intro hl;rw[hl]at h;simp at h
theorem Lm{α β:Type}{r:α→β→Prop}{q:α→β→Prop}{as:List α}{bs:List β}(h:All2 r as bs)(hq:∀a b,a∈as→r a b→q a b):All2 q as bs:=
 .mk h.len fun _ a b h1 h2=>hq a b (aqS h1) (h.get h1 h2)
variable(hJ:J (aj P ν) R φ V.g V.l E σ)(hn:ν.length=V.n)
include hJ hn
theorem pS{e:SE}{f:SE→SS→ab}(hs:(newVar V e f).sat P C Q K ν):∃z,e.den P ν=some z∧(f (.var V.n) {V with n:=V.n+1}).sat P C Q K (ν++[z])∧(SE.var V.n).den P (ν++[z])=some z∧J (aj P (ν++[z])) R φ V.g V.l E σ∧(ν++[z]).length=V.n+1:=by
 obtain⟨z,h1,h2⟩:=hs;exact⟨z,h1,h2,by simp[SE.den,←hn],hJ.up fun e z h=>SE.cR P e h,by simp[hn]⟩
theorem MO{t:TypeId}{x ix:Operand}(ho:o.op=.indexAddr t x ix)(hs:(fE P d o V k).sat P C Q K ν):cY P C Q K ν E V.ln k (bF P E d o σ):=by
 unfold fE at hs;rw[ho]at hs;simp only at hs;have hx:=aZ hJ d t x;have hi:=aZ hJ d 3 ix;split at hs
 ·rename_i et i hu Ln;rw[Ln]at hi;split at hs
  ·rename_i s aL;split at hs
   ·rename_i z hh;rw[hh]at hx;obtain⟨e,h1,h2,hv,Lo,Cj⟩:=pS hJ hn hs;obtain⟨es,y,n,g1,g2,⟨q,rfl⟩,g4,g5⟩:=JY h1;obtain⟨y',a1,a2,a3⟩:=hx;have vM:z.den P ν=some y':=a1;rw[g1]at vM;cases vM;obtain⟨hxe,hp⟩:=Xp a2 (afk g4);obtain⟨yi,b1,b2,b3⟩:=hi;have vN:i.den P ν=some yi:=b1;rw[g2]at vN;cases vN;have tL:=bV b2;obtain⟨hk,iz,_⟩:=ON aL hv h2
    have C7:∀c∈cellsOf e,Pure c:=by
     rw[hxe]at hp;cases hp with|tree _ _ hh=>exact hh e (aqS g4)
    refine⟨.kU (cellsOf e),σ,R,φ,.one (.tp (xy P et s (.var V.n))),{V with n:=V.n+1},[e],?_,Lo,⟨_,rfl,Lm iz fun a b ha bT=>⟨a,bT.1,.pure a rfl (C7 a ha),bT.2⟩⟩,Cj,rfl,hk⟩;simp[bF,ak,ho,hu,hxe,tL,aL,g4,g5,ret]
   ·rename_i fr z hh;rw[hh]at hx;obtain⟨e,h1,h2,hv,Lo,Cj⟩:=pS hJ hn hs;obtain⟨es,y,n,g1,g2,⟨q,rfl⟩,g4,g5⟩:=JY h1;obtain⟨y',a1,a2,a3⟩:=hx;have vM:z.den P ν=some y':=a1;rw[g1]at vM;cases vM;obtain⟨yi,b1,b2,b3⟩:=hi;have vN:i.den P ν=some yi:=b1;rw[g2]at vN;cases vN;have tL:=bV b2;obtain⟨hk,iz,_⟩:=ON aL hv h2
    have hg0:∀c∈xy P et s (.var V.n),∃y,c.den P (ν++[e])=some y∧Ev.af y=true:=by
     intro c hc;obtain⟨j,hj⟩:=asq hc;obtain⟨a,_,bT⟩:=iz.zj hj;exact⟨a,bT⟩
    generalize hex:aq (E d) x=xv at a2;generalize Lp:IV.tree s es=zt at a2;cases a2 with
    |nil s' bf=>injection Lp with h1 h2;subst h2;simp at g4
    |emp s' bf=>injection Lp with h1 h2;subst h2;simp at g4
    |pure _ hf hp=>
     subst Lp
     have C7:∀c∈cellsOf e,Pure c:=by
      cases hp with|tree _ _ hh=>exact hh e (aqS g4)
     refine⟨.kU (cellsOf e),σ,R,φ,.one (.tw fr (xy P et s (.var V.n))),{V with n:=V.n+1},[e],?_,Lo,⟨hg0,.inl ⟨hf,_,rfl,Lm iz fun a b ha bT=>⟨a,bT.1,.pure a rfl (C7 a ha)⟩⟩⟩,Cj,rfl,hk⟩;simp[bF,ak,ho,hu,hex,tL,aL,g4,g5,ret]
    |sl id off len cap ep s' m cs au mn aB hR aA cW yl bf hl hb hm bC hh=>
     injection Lp with mA Ig
     subst mA Ig hl;have aa:=(aqF.1 g4).1;have hlen:(xy P et s (.var V.n)).length=s:=by rw[←iz.len,g5]
     have e_:n*s+s≤es.length*s:=by
      have:(n+1)*s≤es.length*s:=aq8 s aa;rw[are]at this;omega
     refine⟨.ptr id (off+n*s) ep s,σ,R,φ,.one (.tw fr (xy P et s (.var V.n))),{V with n:=V.n+1},[e],?_,Lo,⟨hg0,.inr ⟨id,off+n*s,ep,m,cs,au,mn,hR,aA,cW,yl,by rw[hlen],by rw[hlen];omega,hm,fun j c ce qx hc=>?_⟩⟩,Cj,rfl,hk⟩
     ·simp[bF,ak,ho,hu,hex,tL,aL,aa,ret]
     ·obtain⟨a,ha,bT⟩:=iz.zj qx;exact⟨a,bT.1,hh n e j c a g4 ha (by rw[show off+n*s+j=off+(n*s)+j by omega]at hc;exact hc)⟩
    |raw v=>cases Lp
    |da=>cases Lp
    |agg=>cases Lp
    |av=>cases Lp
   ·rename_i j hh;rw[hh]at hx;split at hs
    ·rename_i s' st cut fr aB hj;split at hs
     ·rename_i ic;have ue:=Nat.eq_of_beq_eq_true ic;subst ue;obtain⟨⟨e,h1⟩,hk⟩:=hs;obtain⟨es,y,n,g1,g2,⟨q,rfl⟩,g4,g5⟩:=JY h1;obtain⟨yi,b1,b2,b3⟩:=hi;have vN:i.den P ν=some yi:=b1;rw[g2]at vN;cases vN;have tL:=bV b2;have aa:=(aqF.1 g4).1;obtain⟨s2,Xf,aan,Xg,z2,gK,a1,a2,a3⟩:=hx;rw[hj]at a1;cases a1;have rV:aB.den P ν=some (.tree s gK):=a2;rw[g1]at rV;cases rV;rcases a3 with⟨_,c2,_⟩|⟨id,cs,au,mn,cap,c1,c2,c3,c4,c5,c6⟩
      ·omega
      ·refine .at (x:=.ptr id (n*s+0) au s) hk hJ hn rfl ⟨s,st,cut,fr,aB,es,_,n,id,cs,au,mn,hj,g1,g2,by simp[nat?],aa,by omega,c1,c2,rfl⟩ ?_;simp[bF,ak,ho,hu,c3,tL,aL,aa,ret]
     ·exact hs.elim
    ·exact hs.elim
   ·exact hs.elim
  ·exact hs.elim
 ·rename_i n et i hu Ln;rw[Ln]at hi
  have tL:aq (E d) ix=.raw (.int .i64 i):=by
   obtain⟨y,h1,h2,_⟩:=hi;simp only[aj,SE.den,aqH]at h1;subst h1;exact bV h2
  split at hs
  ·rename_i s j off ext aL hh;rw[hh]at hx;obtain⟨id,cs,g1,g2,g3⟩:=hx;split at hs
   ·rename_i hc;simp only[aqG,Bool.not_eq_true',decide_eq_true_eq,Nat.blt_eq,asj]at hc;obtain⟨⟨⟨c1,c2⟩,c3⟩,c4⟩:=hc;have j2:s≠0:=by intro h;subst h;simp at c1
    refine .at (x:=.ptr id (off+i.toNat*s) 0 s) hs hJ hn rfl ⟨id,cs,g1,g2,rfl⟩ ?_;have:i<n:=by omega
    simp[bF,ak,ho,hu,g3,tL,aL,j2,c2,this,c4,ret]
   ·exact hs.elim
  ·exact hs.elim
  ·exact hs.elim
 ·exact hs.elim
end Go.Ev
namespace Go.Ev
variable{P:Program}{N:Nat}{σ ah:St}{R R':Rs}{φ aG:Ph}{E:Nat→Env}{ν:List IV}
variable{C:Cr}{Q:IV→Prop}{K:List (List IV→Prop)}{V:SS}{d:Nat}{o:Oper}{k:PV SE→SS→ab}
theorem RE{op:BinOp}{t:TypeId}{x y x' y':Operand}{u v:Value}(h:u≠.nilIface):eqGuard op t x y u v=eqGuard op t x' y' u v:=by
 unfold eqGuard;cases u<;>first|exact absurd rfl h|rfl|(cases v<;>rfl)
theorem OO{op:BinOp}{t:TypeId}{x y x' y':Operand}{a b:IV}{u v:Value}(ha:iu a=some u)(hb:iu b=some v)(h:u≠.nilIface):oL P op t x y a b=oL P op t x' y' a b:=by
 unfold oL;split<;>first|rfl|skip
 rw[ha,hb];simp only;rw[RE (x:=x) (y:=y) (x':=x') (y':=y') h]
theorem Xq{op:BinOp}{t:TypeId}{a b z:IV}(h:c_ P op t a b=some z){f g:Bool}{xa xb:IV}(ha:aY f R σ xa a)(hb:aY g R σ xb b)(ox oy:Operand):oL P op t ox oy xa xb=some z:=by
 unfold c_ at h;split at h
 ·cases h
 ·rename_i u v aT hu hv;rw[Bs ha hu,Bs hb hv,OO (x':=.func 0) (y':=.func 0) hu hv (fun hc=>aT hc)];exact h
 ·cases h
variable(hJ:J (aj P ν) R φ V.g V.l E σ)(hn:ν.length=V.n)
include hJ hn
theorem OP(v:Value):il (lift v) (lift v):=by
 unfold lift;split
 ·refine .agg _ _ rfl fun i c e h1 h2=>?_;rw[h1]at h2;cases h2;rw[aqU]at h1;obtain⟨u,_,rfl⟩:=aqL.1 h1;exact .raw u
 ·exact .raw _
omit hJ hn in
theorem OQ{op:BinOp}{t:TypeId}{x y:Operand}{a b z:IV}(h:oL P op t x y a b=some z):il z z:=by
 unfold oL at h;split at h<;>first|(cases h;exact .raw _)|skip
 ·split at h
  ·cases h;exact .raw _
  ·cases h
 ·split at h
  ·obtain⟨v,_,rfl⟩:=aqL.1 h;unfold lift;split
   ·refine .agg _ _ rfl fun i c e h1 h2=>?_;rw[h1]at h2;cases h2;rw[aqU]at h1;obtain⟨u,_,rfl⟩:=aqL.1 h1;exact .raw u
   ·exact .raw _
  ·split at h
   ·split at h
    ·cases h;exact .raw _
    ·cases h;exact .raw _
    ·cases h
   ·split at h
    ·cases h;exact .raw _
    ·cases h;exact .raw _
    ·cases h
theorem Ih{op:BinOp}{t yt:TypeId}{x y:Operand}{a b:SE}(ho:o.op=.binOp op t x y yt){f g:Bool}(ha:∀z,a.den P ν=some z→aY f R σ (aq (E d) x) z)(hb:∀z,b.den P ν=some z→aY g R σ (aq (E d) y) z)
 (hs:(vk (.ok (.bin op t a b)) V k).sat P C Q K ν):cY P C Q K ν E V.ln k (bF P E d o σ):=by
 obtain⟨⟨z,hz⟩,hk⟩:=hs;obtain⟨h1,h2⟩:=oY hz;simp only[SE.den,aqZ]at h1;obtain⟨u,h3,v,h4,h5⟩:=h1;have h6:=Xq h5 (ha u h3) (hb v h4) x y;exact .at (x:=z) hk hJ hn rfl ⟨z,hz,OQ h6,h2⟩ (by simp[bF,ak,ho,h6,ret])
theorem afl{op:UnOp}{t:TypeId}{x:Operand}(ho:o.op=.unOp op t x)(hs:(fE P d o V k).sat P C Q K ν):cY P C Q K ν E V.ln k (bF P E d o σ):=by
 unfold fE at hs;rw[ho]at hs;simp only at hs;have hx:=aZ hJ d 0 x
 have main:∀a:SE,(∀z,a.den P ν=some z→aY true R σ (aq (E d) x) z)→(vk (.ok (.un op a)) V k).sat P C Q K ν→cY P C Q K ν E V.ln k (bF P E d o σ):=by
  intro a ha hs;obtain⟨⟨z,hz⟩,hk⟩:=hs;obtain⟨h1,h2⟩:=oY hz;simp only[SE.den,aqZ]at h1;obtain⟨u,h3,h4⟩:=h1;unfold U3 at h4;split at h4
  ·rename_i v;have hv:=bV (ha _ h3);obtain⟨r,hr,rfl⟩:=aqL.1 h4;exact .at (x:=lift r) hk hJ hn rfl ⟨_,hz,OP hJ hn r,h2⟩ (by simp[bF,ak,ho,hv,hr,ret])
  ·cases h4
 split at hs
 ·rename_i t' hh;rw[hh]at hx;have hb:=OH hJ hn hx;split at hs
  ·refine .at (x:=.raw (.bool (!t'))) hs hJ hn rfl ⟨_,rfl,.raw _,rfl⟩ ?_;simp[bF,ak,ho,hb,ret,Op.unary,aK,lift,pure]
  ·exact hs.elim
 ·rename_i a _ hh;rw[hh]at hx;obtain⟨y,h1,h2,_⟩:=hx;exact main a (fun z hz=>by have cW:a.den P ν=some y:=h1;rw[hz]at cW;cases cW;exact h2.mono hJ.z8) hs
 ·rename_i f a hh;rw[hh]at hx;obtain⟨y,h1,h2,_⟩:=hx;exact main a (fun z hz=>by have cW:a.den P ν=some y:=h1;rw[hz]at cW;cases cW;exact h2.cC) hs
 ·exact hs.elim
theorem afm{src dst:TypeId}{x:Operand}(ho:o.op=.convert src dst x)(hs:(fE P d o V k).sat P C Q K ν):cY P C Q K ν E V.ln k (bF P E d o σ):=by
 unfold fE at hs;rw[ho]at hs;simp only at hs;have hx:=aZ hJ d src x
 have main:∀a:SE,(∀z,a.den P ν=some z→aY true R σ (aq (E d) x) z)→(vk (.ok (.cv src dst a)) V k).sat P C Q K ν→cY P C Q K ν E V.ln k (bF P E d o σ):=by
  intro a ha hs;obtain⟨⟨z,hz⟩,hk⟩:=hs;obtain⟨h1,h2⟩:=oY hz;simp only[SE.den,aqZ]at h1;obtain⟨u,h3,h4⟩:=h1;unfold U4 at h4;split at h4
  ·rename_i b;have hv:=bV (ha _ h3);split at h4
   ·rename_i q Ca Nz;cases h4;exact .at (x:=.raw (.string b)) hk hJ hn rfl ⟨_,hz,.raw _,h2⟩ (by simp[bF,ak,ho,hv,Ca,Nz,ret])
   ·cases h4
  ·rename_i v hnv;have hv:=bV (ha _ h3);obtain⟨r,hr,rfl⟩:=aqL.1 h4;refine .at (x:=lift r) hk hJ hn rfl ⟨_,hz,OP hJ hn r,h2⟩ ?_;unfold bF ak;rw[ho];simp only[hv,hr,ret]
  ·cases h4
 split at hs
 ·rename_i a hh;rw[hh]at hx;obtain⟨y,h1,h2,_⟩:=hx;exact main a (fun z hz=>by have cW:a.den P ν=some y:=h1;rw[hz]at cW;cases cW;exact h2.mono hJ.z8) hs
 ·rename_i f a hh;rw[hh]at hx;obtain⟨y,h1,h2,_⟩:=hx;exact main a (fun z hz=>by have cW:a.den P ν=some y:=h1;rw[hz]at cW;cases cW;exact h2.cC) hs
 ·exact hs.elim
theorem RF{x:Operand}{i:Nat}(ho:o.op=.extract x i)(hs:(fE P d o V k).sat P C Q K ν):cY P C Q K ν E V.ln k (bF P E d o σ):=by
 unfold fE at hs;rw[ho]at hs;simp only at hs;have hx:=aZ hJ d 0 x;split at hs
 ·rename_i vs hh;rw[hh]at hx;obtain⟨xs,h1,h2⟩:=hx;split at hs
  ·rename_i cs hi;obtain⟨a,ha,hr⟩:=h2.zj hi;refine .here (x:=a) (pv:=.ag cs) (ai:=σ) (by simp[bF,ak,ho,h1,ha,ret]) hJ ?_ hn rfl hs;simpa[sJ,VR]using hr
  ·rename_i c hi;obtain⟨a,ha,hr⟩:=h2.zj hi;refine .at (x:=a) hs hJ hn rfl ?_ (by simp[bF,ak,ho,h1,ha,ret]);simpa[sJ]using hr
  ·exact hs.elim
 ·exact hs.elim
theorem Xr{t:TypeId}{x:Operand}{f:Nat}(ho:o.op=.field t x f)(hs:(fE P d o V k).sat P C Q K ν):cY P C Q K ν E V.ln k (bF P E d o σ):=by
 unfold fE at hs;rw[ho]at hs;simp only at hs;have hx:=aZ hJ d t x;split at hs
 ·rename_i cs fo sz hh hf;rw[hh]at hx;obtain⟨xs,h1,h2⟩:=hx;obtain⟨fields,fd,g1,g2,g3,rfl⟩:=F0 hf;rw[g1]at hs;simp only at hs;split at hs
  ·rename_i hc;simp only[aqG,asj,Option.isSome_iff_exists]at hc;obtain⟨hle,b,hb⟩:=hc;rw[g2]at hs hb;simp only[aq9,arz]at hs hb
   obtain⟨pv,hk,p8⟩:∃pv,(k pv V).sat P C Q K ν∧(if isAgg P fd.type=true then pv=.ag ((cs.drop fd.offset).take sz)else∃c,(cs.drop fd.offset).take sz=[c]∧pv=.one c):=by
    split at hs
    ·rename_i ha;split at hs
     ·exact⟨_,hs,by rw[if_pos ha]⟩
     ·exact hs.elim
    ·rename_i ha;split at hs
     ·rename_i c lZ;exact⟨_,hs,by rw[if_neg ha];exact⟨c,lZ,rfl⟩⟩
     ·exact hs.elim
   obtain⟨v,hv,hr⟩:=rU g3 hb h2 hle p8;exact .here (x:=v) (pv:=pv) (ai:=σ) (by simp[bF,ak,ho,h1,g1,g2,hv,ret]) hJ hr hn rfl hk
  ·exact hs.elim
 ·exact hs.elim
end Go.Ev
namespace Go.Ev
variable{P:Program}{N:Nat}{σ ah:St}{R R':Rs}{φ aG:Ph}{E:Nat→Env}{ν:List IV}
variable{C:Cr}{Q:IV→Prop}{K:List (List IV→Prop)}{V:SS}{d:Nat}{o:Oper}{k:PV SE→SS→ab}
theorem zo{s:Nat}{es:List IV}(h:iN s es=true):(∀e∈es,(cellsOf e).length=s)∧∀c∈flat es,Ev.af c=true:=by
 unfold iN at h;rw[aqW]at h;refine⟨fun e he=>?_,fun c hc=>?_⟩
 ·have:=h e he;simp only[aqG,beq_iff_eq]at this;exact this.1
 ·obtain⟨e,he,qx⟩:=asL.1 hc;have:=h e he;simp only[aqG,aqW]at this;exact this.2 c qx
theorem Bu(a b:List IV):flat (a++b)=flat a++flat b:=by simp[flat]
def oZ(fr:Bool)(R:Rs)(σ:St)(cs ds:List IV):Prop:=∀(j:Nat) x d,cs[j]?=some x→ds[j]?=some d→aY fr R σ x d
theorem JZ{fr:Bool}{x:IV}{s:Nat}{es:List IV}(bA:0<s)(h:aY fr R σ x (.tree s es))(bo:iN s es=true):
 kh x=some es.length∧∃new,eF s es.length σ x=some new∧new.length=es.length*s∧oZ fr R σ new (flat es)∧new.all Ev.af=true:=by
 obtain⟨h1,h2⟩:=zo bo;generalize hz:IV.tree s es=z at h;cases h with
 |nil s' bf=>injection hz with a b;subst a b;exact⟨rfl,[],by simp[eF],by simp,fun j x d h=>by simp at h,rfl⟩
 |emp s' bf=>injection hz with a b;subst a b;exact⟨rfl,[],by simp[eF],by simp,fun j x d h=>by simp at h,rfl⟩
 |pure _ hf hp=>
  subst hz;refine⟨rfl,flat es,by simp[eF,flat],na h1,fun j x d hx hd=>?_,aqW.2 h2⟩;rw[hx]at hd;cases hd;refine .pure x hf ?_;obtain⟨e,he,qx⟩:=asL.1 (aqS hx);cases hp with|tree _ _ hh=>exact hh e he x qx
 |sl id off len cap ep s' m cs au mn aB hR aA a1 a2 bf hl hb hm bC hh=>
  injection hz with a b
  subst a b hl
  have ab1:oZ fr R σ ((cs.drop off).take (es.length*s)) (flat es):=by
   intro j x d hx hd;have hj:j<es.length*s:=by have:=(aqF.1 hd).1;rw[na h1]at this;exact this
   rw[ard,if_pos hj,ase]at hx
   have hi:j/s<es.length:=by
    rw[Nat.div_lt_iff_lt_mul bA];exact hj
   have he:es[j/s]?=some es[j/s]:=aqE hi;have FI:j % s<(cellsOf es[j/s]).length:=by rw[h1 _ (aqI hi)];exact Nat.mod_lt _ bA
   have qx:(cellsOf es[j/s])[j % s]?=some (cellsOf es[j/s])[j % s]:=aqE FI;have hjj:j/s*s+j % s=j:=Nat.div_add_mod' j s;have hf:=AS h1 he qx;rw[hjj,hd]at hf;cases hf;exact hh _ _ _ x _ he qx (by rw[show off+j/s*s+j % s=off+j by omega];exact hx)
  refine⟨rfl,(cs.drop off).take (es.length*s),?_,by simp;omega,ab1,?_⟩
  ·simp only[eF];rw[if_pos ⟨trivial,aqK _⟩,aA];simp only;rw[if_pos ⟨a1,a2,by omega⟩]
  ·rw[aqW];intro c hc;obtain⟨j,hj⟩:=asq hc;have aa:=(aqF.1 hj).1;have dX:j<(flat es).length:=by rw[na h1];simp at aa;omega
   exact(ab1 j c _ hj (aqE dX)).af (h2 _ (aqI dX))
 |raw v=>cases hz
 |da=>cases hz
 |agg=>cases hz
 |av=>cases hz
theorem OS{L:List (LO SE)}{Γ:Gm SE}(h:J (aj P ν) R φ Γ L E σ){k s:Nat}{st cut fr:Bool}{z:SE}{x:IV}{es:List IV}(hk:L[k]?=some (.row s st cut fr z))(hz:z.den P ν=some (.tree s es))(hx:cz (aj P ν) R φ L σ x (.sr k)):
 kh x=some es.length∧∃new,eF s es.length σ x=some new∧new.length=es.length*s∧oZ fr R σ new (flat es)∧new.all Ev.af=true:=by
 obtain⟨bA,gK,g1,g2,g3⟩:=h.obj k _ hk;have mM:z.den P ν=some (.tree s gK):=g1;rw[hz]at mM;cases mM;obtain⟨s2,Xf,aan,Xg,z2,Lq,a1,a2,a3⟩:=hx;rw[hk]at a1;cases a1;have rV:z.den P ν=some (.tree s Lq):=a2;rw[hz]at rV;cases rV;rcases a3 with⟨_,b2,b3⟩|⟨id,cs,au,mn,cap,b1,b2,rfl,b4,b5,b6⟩
 ·have:es=[]:=List.eq_nil_of_length_eq_zero b2;subst this;rcases b3 with rfl|rfl
  ·exact⟨rfl,[],by simp[eF],by simp,fun j x d h=>by simp at h,rfl⟩
  ·exact⟨rfl,[],by simp[eF],by simp,fun j x d h=>by simp at h,rfl⟩
 ·rcases g3 with⟨g3,_⟩|⟨br,cq,ik,oS,g3,g4,g5,g6,g7,g8,g9⟩
  ·rw[b1]at g3;cases g3
  ·rw[b1]at g3;cases g3;rw[b2]at g4;cases g4;refine⟨by simp[kh],cs.take (es.length*s),?_,by simp;omega,fun j x d hx hd=>?_,?_⟩
   ·simp only[eF];rw[if_pos ⟨trivial,by simp⟩,b2];simp only;rw[if_pos ⟨g5,aqK _,by omega⟩];simp
   ·rw[ard]at hx;split at hx
    ·exact g9 j x d hx hd
    ·cases hx
   ·rw[aqW]at g8⊢;exact fun c hc=>g8 c (ar_ hc)
theorem Vm{fr cX:Bool}{cs ds cq l6:List IV}(h:oZ fr R σ cs ds)(hl:cs.length=ds.length)(h':oZ cX R σ cq l6):oZ (fr||cX) R σ (cs++cq) (ds++l6):=by
 intro j x d hx hd;by_cases hj:j<cs.length
 ·rw[aqQ hj]at hx;rw[aqQ (by omega)]at hd;exact(h j x d hx hd).wide (fun h=>by simp[h])
 ·rw[aq_ (by omega)]at hx;rw[aq_ (by omega),←hl]at hd;exact(h' _ x d hx hd).wide (fun h=>by simp[h])
end Go.Ev
