/- Lemmas over the model, without conditions of their own: operations on expressions (1). -/
import Derived.Test.YtggffkaadeagbaaGreatEvJ
open List renaming append_nil->as9,getElem?_map->as4,getElem?_eq_some_iff->asM,getElem?_take->atp,getElem?_drop->aus,mem_of_getElem?->asZ,take_take->awF,getElem?_eq_getElem->asL,getElem_mem->asO,range->aup,getElem?_range->avs,all_eq_true->as6,flatMap_cons->ave,drop_of_length_le->atg,getElem?_append_left->asY,getElem?_append_right->atm,mem_append->as8,mem_of_mem_take->aul,mem_of_mem_drop->avk,length_eq_one_iff->avN,getElem?_of_mem->auD,mem_flatMap->auX
open Option.some renaming injEq->asP
open Bool renaming and_eq_true->asN
open Nat renaming ble_eq->auw,mul_le_mul_right->atk,add_mul->atq,le_refl->asR,zero_le->atE,beq_eq->atv
open Option renaming map_eq_some_iff->asS,bind_eq_some_iff->as_,getD_some->atH,map_some->atl
open Option renaming some->aa,none->ah
open Bool renaming true->ab,false->af
set_option linter.all false
namespace Go.Ev
variable{P:Program}{N:Nat}{σ ao:St}{R R':Rs}{φ aL:Ph}{E:Nat->Env}{ν:List IV}{L:List (LO SE)}{Γ:Gm SE}
variable{C:Cr}{Q:IV->Prop}{K:List (List IV->Prop)}{V:SS}{d:Nat}{o:Oper}{k:PV SE->SS->ak}
theorem cb{fr:Bool}{x:IV}{v:Value}(h:bn fr R σ x (.raw v)):x=.raw v:=by cases h<;>rfl
theorem PR{fr:Bool}:∀{cs ds:List IV} {us:List Value},gy ds=aa us->cs.length=ds.length->(∀(i:Nat) c e,cs[i]?=aa c->ds[i]?=aa e->bn fr R σ c e)->cs=ds
 |[],[],_,_,_,_=>rfl
 |c::cs,e::ds,us,hr,hl,h=>by
  simp only[gy]at hr;split at hr
  ·rename_i v;split at hr
   ·rename_i vs ij;have h0:=cb (h 0 c (.raw v) rfl rfl);have h1:cs=ds:=PR ij (by simpa using hl) λi c e h1 h2=>h (i+1) c e (by simpa using h1) (by simpa using h2);rw[h0,h1]
   ·cases hr
  ·cases hr
 |[],_::_,_,_,hl,_=>by simp at hl
 |_::_,[],_,_,hl,_=>by simp at hl
theorem Mz{fr:Bool}{x a:IV}{u:Value}(h:bn fr R σ x a)(ha:pN a=aa u):x=a:=by
 cases h with
 |raw v=>rfl
 |agg cs ds hl hh=>
  simp only[pN]at ha;split at ha
  ·rename_i vs ij;rw[PR ij hl hh]
  ·cases ha
 |pure x hf hp=>rfl
 |nil|emp|du|az|sl=>simp[pN]at ha
theorem CA{fr:Bool}{x a:IV}{u:Value}(h:bn fr R σ x a)(ha:i_ a=aa u):x=a:=by
 cases h with
 |du t x y hh=>
  simp only[i_]at ha;split at ha
  ·rename_i hu;rw[Mz hh hu]
  ·cases ha
 |raw v=>rfl
 |agg cs ds hl hh=>exact Mz (.agg cs ds hl hh) ha
 |pure x hf hp=>rfl
 |nil|emp|az|sl=>simp[i_,pN]at ha
theorem CB{y:IV}{n:Int}(h:gS y=aa n):∃q,y=.raw (.int q n):=by
 unfold gS at h;split at h
 ·cases h;exact⟨_,rfl⟩
 ·cases h
theorem J.Bc(h:J (au P ν) R φ Γ L E σ):ja (λ_=>ah) ⟨0,.lf⟩ R σ:=⟨λ_ _ h=>(by cases h),λ_ _ _ _ _ h=>(by cases h),h.fits⟩
def dh(P:Program)(C:Cr)(Q:IV->Prop)(K:List (List IV->Prop))(ν:List IV)(E:Nat->Env)(lv:Nat×Nat)(k:PV SE->SS->ak)(res:IV->St->Prop):Prop:=
 ∃x aq R1 dI pv V1 μ,res x aq/\J (au P (ν++μ)) R1 dI V1.g V1.l E aq/\VR (au P (ν++μ)) R1 dI V1.l aq x pv/\(ν++μ).length=V1.n/\V1.ln=lv/\(k pv V1).sat P C Q K (ν++μ)
theorem dh.here{x:IV}{aq:St}{pv:PV SE}{V1:SS}{lv:Nat×Nat}{res:IV->St->Prop}(h1:res x aq)(h2:J (au P ν) R φ V1.g V1.l E aq)(h3:VR (au P ν) R φ V1.l aq x pv)(h4:ν.length=V1.n)(h5:V1.ln=lv)
 (h6:(k pv V1).sat P C Q K ν):dh P C Q K ν E lv k res:=
 ⟨x,aq,R,φ,pv,V1,[],h1,by rw[as9];exact h2,by rw[as9];exact h3,by rw[as9];exact h4,h5,by rw[as9];exact h6⟩
theorem dh.at{x:IV}{aq:St}{c:Cl SE}{V1:SS}{lv:Nat×Nat}{res:IV->St->Prop}(h6:(k (.one c) V1).sat P C Q K ν)(h2:J (au P ν) R φ V1.g V1.l E aq)(h4:ν.length=V1.n)(h5:V1.ln=lv)(h3:cI (au P ν) R φ V1.l aq x c)(h1:res x aq):
 dh P C Q K ν E lv k res:=.here (pv:=.one c) h1 h2 h3 h4 h5 h6
abbrev bL(P:Program)(E:Nat->Env)(d:Nat)(o:Oper)(σ:St):IV->St->Prop:=λx aq=>av P 0 (ax (E d)) o σ=aa (.val x aq)
variable(hJ:J (au P ν) R φ V.g V.l E σ)(hn:ν.length=V.n)
include hJ hn
theorem YT{x:Operand}(ho:o.op=.move x\/o.op=.assign x)(hs:(fT P d o V k).sat P C Q K ν):dh P C Q K ν E V.ln k (bL P E d o σ):=by
 have bt:(k (bO P d V o.type x) V).sat P C Q K ν:=by
  rcases ho with ho|ho<;>(unfold fT at hs;rw[ho]at hs;exact hs)
 refine .here (x:=ax (E d) x) (aq:=σ) ?_ hJ (bo hJ d o.type x) hn rfl bt;rcases ho with ho|ho<;>simp[bL,av,ho,ret]
theorem PS{x:IV}{t:Bool}(hx:VR (au P ν) R φ V.l σ x (.one (.v (.b t)))):x=.raw (.bool t):=by
 obtain⟨y,h1,h2,_⟩:=hx;simp only[au,SE.den,asP]at h1;subst h1;exact cb h2
theorem abT{c a b:Operand}(ho:o.op=.pick c a b)(hs:(fT P d o V k).sat P C Q K ν):dh P C Q K ν E V.ln k (bL P E d o σ):=by
 unfold fT at hs;rw[ho]at hs;simp only at hs;have hc:=bo hJ d 0 c;split at hs
 ·rename_i hh;rw[hh]at hc;have:=PS hJ hn hc;refine .here (x:=ax (E d) a) (aq:=σ) ?_ hJ (bo hJ d o.type a) hn rfl hs;simp[bL,av,ho,this,ret]
 ·rename_i hh;rw[hh]at hc;have:=PS hJ hn hc;refine .here (x:=ax (E d) b) (aq:=σ) ?_ hJ (bo hJ d o.type b) hn rfl hs;simp[bL,av,ho,this,ret]
 ·exact hs.elim
theorem MA{cs:List (Cl SE)}{cJ:List IV}(hc:All2 (cI (au P ν) R φ V.l σ) cJ cs):
 J (au P ν) R (bX φ V.l.length σ.n) V.g (V.l++[.var cs]) E (σ.add (.cells cJ 0 0))/\VR (au P ν) R (bX φ V.l.length σ.n) (V.l++[.var cs]) (σ.add (.cells cJ 0 0)) (.ptr σ.n 0 0 cJ.length) (.one (.pt V.l.length 0 cs.length)):=by
 have hs:=FR hJ (.cells cJ 0 0) (.var cs);refine⟨hJ.yv (.cells cJ 0 0) (.var cs) ⟨σ.n,cJ,by simp[bX],hJ.rJ,by simp,hc.mono λ_ _ bS=>bS.step hs (Cl.aZ _)⟩,⟨σ.n,cs,by simp[bX],by simp,by rw[hc.len]⟩⟩
theorem YU{t:TypeId}(ho:o.op=.alloc t)(hs:(fT P d o V k).sat P C Q K ν):dh P C Q K ν E V.ln k (bL P E d o σ):=by
 unfold fT at hs;rw[ho]at hs;simp only at hs;split at hs
 ·exact hs.elim
 ·rename_i hz;cases wu:cy P t with
  |none=>rw[wu]at hz;simp at hz
  |some z=>
   have hc:=np (ν:=ν) (R:=R) (φ:=φ) (L:=V.l) (σ:=σ) wu;obtain⟨h1,h2⟩:=MA hJ hn hc;refine .here (V1:={V with l:=V.l++[.var (zeroCells P t)]}) ?_ h1 h2 hn rfl hs;simp[bL,av,ho,wu,ret]
theorem ae6{t:TypeId}{x:Operand}(ho:o.op=.box t x)(hs:(fT P d o V k).sat P C Q K ν):dh P C Q K ν E V.ln k (bL P E d o σ):=by
 unfold fT at hs;rw[ho]at hs;simp only at hs;split at hs
 ·exact hs.elim
 ·rename_i hu;have zf:sy (eI (bO P d V t x))=ab:=by simpa using hu
  have hc:=zE (bo hJ d t x) zf;obtain⟨h1,h2⟩:=MA hJ hn hc;refine .here (V1:={V with l:=V.l++[.var (eI (bO P d V t x))]}) ?_ h1 h2 hn rfl hs;have:=qy hc zf;simp only[bL,av,ho,ret,this,if_true]
theorem PT{x:Operand}(ho:o.op=.nilCheck x)(hs:(fT P d o V k).sat P C Q K ν):dh P C Q K ν E V.ln k (bL P E d o σ):=by
 unfold fT at hs;rw[ho]at hs;simp only at hs;have hc:=bo hJ d 0 x;split at hs
 ·rename_i hh;rw[hh]at hc;refine .here (x:=ax (E d) x) (aq:=σ) ?_ hJ hc hn rfl hs;obtain⟨id,cs,_,_,h3⟩:=hc;simp[bL,av,ho,h3,ret]
 ·rename_i hh;exact hs.elim
 ·rename_i hh;rw[hh]at hc;refine .here (x:=ax (E d) x) (aq:=σ) ?_ hJ hc hn rfl hs;obtain⟨ds,h3,_⟩:=hc;simp[bL,av,ho,h3,ret]
 ·exact hs.elim
end Go.Ev
namespace Go.Ev
variable{P:Program}{N:Nat}{σ ao:St}{R R':Rs}{φ aL:Ph}{E:Nat->Env}{ν:List IV}
variable{C:Cr}{Q:IV->Prop}{K:List (List IV->Prop)}{V:SS}{d:Nat}{o:Oper}{k:PV SE->SS->ak}
theorem WO{t:TypeId}(h:isAgg P t=ab):ra P t=aa ab:=by simpa[isAgg]using h
theorem S0{t:TypeId}{b:Bool}(h:isAgg P t=af)(hb:ra P t=aa b):ra P t=aa af:=by
 cases b
 ·exact hb
 ·simp[isAgg,hb]at h
theorem Be{t:TypeId}{s off:Nat}{cs:List IV}(hs:aN P t=aa s)(hg:ra P t=aa ab)(hle:off+s<=cs.length):partOf P t cs off=aa (.agg ((cs.drop off).take s)):=by
 simp[partOf,hs,hg,hle]
theorem Lb{t:TypeId}{off:Nat}{cs:List IV}(hs:aN P t=aa 1)(hg:ra P t=aa af):partOf P t cs off=cs[off]? :=by
 simp[partOf,hs,hg]
theorem sZ{L:List (LO SE)}{t:TypeId}{s off:Nat}{b:Bool}{cJ:List IV}{cs:List (Cl SE)}{pv:PV SE}(hs:aN P t=aa s)(hb:ra P t=aa b)(hc:All2 (cI (au P ν) R φ L σ) cJ cs)(hle:off+s<=cs.length)
 (qW:if isAgg P t=ab then pv=.ag ((cs.drop off).take s)else∃c,(cs.drop off).take s=[c]/\pv=.one c):∃x,partOf P t cJ off=aa x/\VR (au P ν) R φ L σ x pv:=by
 have hl:=hc.len;split at qW
 ·rename_i ha;subst qW;exact⟨_,Be hs (WO ha) (by omega),_,rfl,(hc.drop off).take s⟩
 ·rename_i ha;obtain⟨c,h1,rfl⟩:=qW
  have hlen:s=1:=by
   have:=congrArg List.length h1;simp at this;omega
  subst hlen
  have h2:cs[off]?=aa c:=by
   have:((cs.drop off).take 1)[0]?=aa c:=by rw[h1];rfl
   simpa using this
  obtain⟨x,hx,hr⟩:=hc.As h2;exact⟨x,by rw[Lb hs (S0 (by simpa using ha) hb),hx],hr⟩
theorem Jg{t:TypeId}{s:Nat}{cs:List (Cl SE)}(hs:((if isAgg P t=ab then(if Nat.beq cs.length s=ab then k (.ag cs) V else .fail 2)else match cs with|[c]=>k (.one c) V|_=>.fail 3):ak).sat P C Q K ν):
 ∃pv,(k pv V).sat P C Q K ν/\if isAgg P t=ab then pv=.ag cs else∃c,cs=[c]/\pv=.one c:=by
 split at hs
 ·rename_i ha;split at hs
  ·exact⟨_,hs,by rw[if_pos ha]⟩
  ·exact hs.elim
 ·rename_i ha;split at hs
  ·exact⟨_,hs,by rw[if_neg ha];exact⟨_,rfl,rfl⟩⟩
  ·exact hs.elim
variable(hJ:J (au P ν) R φ V.g V.l E σ)(hn:ν.length=V.n)
include hJ hn
theorem abU{t:TypeId}{pa:PV SE}{x:IV}(hx:VR (au P ν) R φ V.l σ x pa)(hs:(Wi P t pa V k).sat P C Q K ν):
 dh P C Q K ν E V.ln k (λv aq=>aq=σ/\(∀d a,ax (E d) a=x->∀o:Oper,o.op=.load t a->av P 0 (ax (E d)) o σ=aa (.val v σ))):=by
 unfold Wi at hs;split at hs
 ·exact hs.elim
 ·exact hs.elim
 ·rename_i s b aU vf;simp only at hs;split at hs
  ·rename_i j off ext;obtain⟨id,qQ,h1,h2,rfl⟩:=hx;split at hs
   ·rename_i cs hj;rw[hj]at h2;cases h2;split at hs
    ·rename_i hle;simp only[asN,auw]at hle;obtain⟨pv,hk,qW⟩:=Jg hs;obtain⟨bB,cJ,h3,h4,h5,h6⟩:=hJ.obj j _ hj;rw[h1]at h3;cases h3;obtain⟨v,hv,hr⟩:=sZ aU vf h6 hle.2 qW;refine .here (x:=v) (aq:=σ) ⟨rfl,λd a ha o ho=>?_⟩ hJ hr hn rfl hk;simp[av,ho,ha,aU,h5,hle.1,hv,ret]
    ·exact hs.elim
   ·exact hs.elim
  ·rename_i cs;obtain⟨ds,rfl,h1⟩:=hx;split at hs
   ·rename_i hle;rw[auw]at hle;obtain⟨pv,hk,qW⟩:=Jg hs;have hc:All2 (cI (au P ν) R φ V.l σ) ds (cs.map .v):=h1.map (f:=Cl.v) λ_ _ bS=>bS;obtain⟨v,hv,hr⟩:=sZ (off:=0) aU vf hc (by simpa using hle) qW;refine .here (x:=v) (aq:=σ) ⟨rfl,λd a ha o ho=>?_⟩ hJ hr hn rfl hk;simp[av,ho,ha,hv,ret]
   ·exact hs.elim
  ·rename_i fr cs;split at hs
   ·rename_i hle;rw[auw]at hle;obtain⟨pv,hk,qW⟩:=Jg hs;obtain⟨bz,⟨hf,ds,rfl,h1⟩|⟨id,off,ep,m,cJ,ay,mn,h1,h2,h3,h4,rfl,h6,h7,h8⟩⟩:=hx
    ·have hc:All2 (cI (au P ν) R φ V.l σ) ds (cs.map (.w fr)):=by
      refine(h1.xL (r':=λd c=>cI (au P ν) R φ V.l σ d (.w fr c)) λd c hc ⟨y,AZ,IY⟩=>?_).map (f:=Cl.w fr) λ_ _ bS=>bS;obtain⟨y',MB,hy4⟩:=bz c hc;rw[AZ]at MB;cases MB;exact⟨y,AZ,hf▸IY.mono hJ.Bc,hy4⟩
     obtain⟨v,hv,hr⟩:=sZ (off:=0) aU vf hc (by simpa using hle) qW;refine .here (x:=v) (aq:=σ) ⟨rfl,λd a ha o ho=>?_⟩ hJ hr hn rfl hk;simp[av,ho,ha,hv,ret]
    ·have hc:All2 (cI (au P ν) R φ V.l σ) ((cJ.drop off).take cs.length) (cs.map (.w fr)):=by
      refine .mk (by simp;omega) λi a b ha hb=>?_;rw[as4]at hb;obtain⟨c,hc,rfl⟩:=asS.1 hb;have hi:=(asM.1 hc).1;rw[atp,if_pos hi,aus]at ha;obtain⟨y,AZ,IY⟩:=h8 i a c hc ha;obtain⟨y',MB,hy4⟩:=bz c (asZ hc);have abV:c.den P ν=aa y:=AZ;have agY:c.den P ν=aa y':=MB;rw[abV]at agY;cases agY;exact⟨y,AZ,IY,hy4⟩
     obtain⟨v,hv,hr⟩:=sZ (off:=0) aU vf hc (by simpa using hle) qW
     have X_:partOf P t cJ off=aa v:=by
      have hlen:s<=((cJ.drop off).take cs.length).length:=by simp;omega
      cases b with
      |true=>
       rw[Be aU vf (by simpa using hlen)]at hv;rw[Be aU vf (by omega),<-hv];simp[awF,hle]
      |false=>
       have h1s:s=1:=by
        unfold partOf at hv;rw[vf,aU]at hv;simp only at hv;split at hv
        ·assumption
        ·cases hv
       subst h1s;rw[Lb aU vf]at hv⊢;rw[atp,if_pos (by omega),aus]at hv;exact hv
     refine .here (x:=v) (aq:=σ) ⟨rfl,λd a ha o ho=>?_⟩ hJ hr hn rfl hk;simp[av,ho,ha,aU,h2,hle,h3,h4,X_,ret]
   ·exact hs.elim
  ·rename_i j i off ext;split at hs
   ·rename_i sz st cut fr es hj;split at hs
    ·rename_i hle;rw[auw]at hle;obtain⟨pv,hk,qW⟩:=Jg hs;obtain⟨s',l8,u7,dg,z',aF,y,n,id,cs,ay,mn,h1,h2,h3,h4,h5,h6,h7,h8,rfl⟩:=hx;rw[hj]at h1;cases h1;obtain⟨bE,gZ,g1,g2,g3⟩:=hJ.obj j _ hj;have zq:es.den P ν=aa (.tree sz aF):=h2;have nM:es.den P ν=aa (.tree sz gZ):=g1;rw[zq]at nM;cases nM;rcases g3 with⟨g3,_⟩|⟨bB,cz,iW,pX,g3,g4,g5,g6,g7,g8,g9⟩
     ·rw[h7]at g3;cases g3
     ·rw[h7]at g3;cases g3;rw[h8]at g4;cases g4;have he:aF[n]?=aa aF[n]:=asL h5;have oJ:=g2 _ (asO h5)
      have aoI:dy sz (.tree sz aF) y=aa aF[n]:=by
       have hy:gS y=aa (n:Int):=by
        unfold nat? at h4;split at h4
        ·split at h4
         ·rename_i hq;cases h4;simp[gS];omega
         ·cases h4
        ·cases h4
       simp[dy,hy,he,oJ]
      have IH:n*sz+sz<=aF.length*sz:=by
       have:(n+1)*sz<=aF.length*sz:=atk sz h5;rw[atq]at this;omega
      have hc:All2 (cI (au P ν) R φ V.l σ) ((cs.drop (n*sz)).take sz) ((aup sz).map λq=>.w fr (.G2 sz es i q)):=by
       refine .mk (by simp;omega) λq a b ha hb=>?_;rw[as4]at hb;obtain⟨q',hq,rfl⟩:=asS.1 hb;have Dk:q<sz:=by have:=(asM.1 hq).1;simpa using this
       have:q'=q:=by rw[avs Dk]at hq;cases hq;rfl
       subst this;rw[atp,if_pos Dk,aus]at ha;have hd:(cellsOf aF[n])[q']?=aa (cellsOf aF[n])[q']:=asL (by omega);have hr:=g9 (n*sz+q') a _ ha (BY g2 he hd)
       have wK:Ev.aj a=ab:=by
        rw[as6]at g8;exact g8 a (asZ ha)
       have bz:=hr.ae5 wK;refine⟨_,?_,hr,bz⟩;have Jh:i.den P ν=aa y:=h3;simp[au,SE.den,zq,Jh,aoI,hd,yD,bz]
      obtain⟨v,hv,hr⟩:=sZ (off:=off) aU vf hc (by simp;omega) qW
      have X_:partOf P t cs (n*sz+off)=aa v:=by
       cases b with
       |true=>
        rw[Be aU vf (by simp;omega)]at hv;rw[Be aU vf (by omega),<-hv]
        congr 2
        rw[List.drop_take,List.drop_drop,awF]
        congr 1;omega
       |false=>
        have h1s:s=1:=by
         unfold partOf at hv;rw[vf,aU]at hv;simp only at hv;split at hv
         ·assumption
         ·cases hv
        subst h1s;rw[Lb aU vf]at hv⊢;rw[atp,if_pos (by omega),aus]at hv;exact hv
      refine .here (x:=v) (aq:=σ) ⟨rfl,λd a ha o ho=>?_⟩ hJ hr hn rfl hk;simp[av,ho,ha,aU,h8,hle,g5,X_,ret]
    ·exact hs.elim
   ·exact hs.elim
  ·exact hs.elim
theorem abW{t:TypeId}{a:Operand}(ho:o.op=.load t a)(hs:(fT P d o V k).sat P C Q K ν):dh P C Q K ν E V.ln k (bL P E d o σ):=by
 unfold fT at hs;rw[ho]at hs;simp only at hs;obtain⟨x,aq,R1,dI,pv,V1,μ,h0,h2⟩:=abU hJ hn (bo hJ d 0 a) hs;obtain⟨e0,h1⟩:=h0;subst e0;exact⟨x,aq,R1,dI,pv,V1,μ,h1 d a rfl o ho,h2⟩
end Go.Ev
namespace Go.Ev
variable{P:Program}{N:Nat}{σ ao:St}{R R':Rs}{φ aL:Ph}{E:Nat->Env}{ν:List IV}
variable{C:Cr}{Q:IV->Prop}{K:List (List IV->Prop)}{V:SS}{d:Nat}{o:Oper}{k:PV SE->SS->ak}
theorem MC{r:IV->Cl SE->Prop}{cJ xs:List IV}{cs new:List (Cl SE)}(off:Nat)(h:All2 r cJ cs)(k:All2 r xs new):All2 r (dF cJ off xs) (A4 cs off new):=by
 unfold dF A4;rw[k.len];exact((h.take off).app k).app (h.drop _)
theorem J.YV{L:List (LO SE)}{Γ:Gm SE}(h:J (au P ν) R φ Γ L E σ){k id s ay mn:Nat}{cut fr dg:Bool}{z z':SE}{cs cz es aF:List IV}(hid:φ k=aa id)(hk:L[k]?=aa (.row s af cut fr z))(aE:σ.at id=aa (.cells cs ay mn))
 (hl:cz.length=cs.length)(hz:z.den P ν=aa (.tree s es))(p5:z'.den P ν=aa (.tree s aF))(hle:aF.length=es.length)(bH:∀e∈aF,(cellsOf e).length=s)(bz:cz.all Ev.aj=ab)
 (hc:∀(j:Nat) x d,cz[j]?=aa x->(flat aF)[j]?=aa d->bn dg R σ x d):
 J (au P ν) R φ Γ (L.set k (.row s af cut dg z')) E (σ.put id (.cells cz ay ay)):=by
 have py:=dj hk;have aW:∀j,j≠k->(L.set k (.row s af cut dg z'))[j]?=L[j]? :=λj hj=>List.getElem?_set_ne (λhc=>hj hc.symm);have bj:(L.set k (.row s af cut dg z'))[k]?=aa (.row s af cut dg z'):=by simp[py]
 have KL:∀j bB,j≠k->φ j=aa bB->bB≠id:=λj bB hj fZ hc=>hj (h.inj j k id (by rw[<-hc];exact fZ) hid);obtain⟨bE,gZ,g1,g2,g3⟩:=h.obj k _ hk
 have BZ:R id=ah/\es.length*s<=cs.length/\mn<=ay:=by
  rcases g3 with⟨g3,_⟩|⟨bB,cs2,tY,DE,g3,g4,g5,g6,g7,_⟩
  ·rw[hid]at g3;cases g3
  ·rw[hid]at g3;cases g3;rw[aE]at g4;cases g4;have nM:z.den P ν=aa (.tree s gZ):=g1;rw[hz]at nM;cases nM;exact⟨by simpa using g7,g6,g5⟩
 have qw:ja R σ R (σ.put id (.cells cz ay ay)):=by
  refine⟨λ_ m hm=>⟨m,hm,asR _⟩,λbB m oI B8 Bb hm rf=>?_,λbB m oI B8 Bb hm rf=>?_⟩
  ·have:id≠bB:=λhc=>by rw[<-hc,BZ.1]at hm;cases hm
   exact⟨oI,B8,by rw[St.c_,if_neg this];exact rf,asR _,λ_ _=>rfl⟩
  ·have:id≠bB:=λhc=>by rw[<-hc,BZ.1]at hm;cases hm
   rw[St.c_,if_neg this]at rf;exact h.fits bB m oI B8 Bb hm rf
 have hs:kO (au P ν) (au P ν) R φ L σ R φ (L.set k (.row s af cut dg z')) (σ.put id (.cells cz ay ay)) (λ_=>False):=by
  refine⟨λ_ _ h=>h,qw,λj oI hj=>?_,λj kt fe hj=>?_,λj s1 sX sB sY z1 hj _=>?_⟩
  ·by_cases bI:j=k
   ·subst bI;rw[hk]at hj;cases hj
   ·exact⟨⟨oI,by rw[aW j bI];exact hj⟩,rfl⟩
  ·by_cases bI:j=k
   ·subst bI;rw[hk]at hj;cases hj
   ·exact⟨⟨fe,by rw[aW j bI];exact hj⟩,rfl⟩
  ·by_cases bI:j=k
   ·subst bI;rw[hk]at hj;cases hj;refine⟨⟨af,dg,z',bj,λfe mP=>⟨aF,p5,?_⟩⟩,rfl,λid1 oI B8 Bb WQ rf=>?_⟩
    ·have PU:z.den P ν=aa (.tree s fe):=mP;rw[hz]at PU;cases PU;exact hle
    ·rw[hid]at WQ;cases WQ;rw[aE]at rf;cases rf;exact⟨cz,ay,by rw[St.c_,if_pos rfl],hl,λ_=>rfl⟩
   ·refine⟨⟨sX,sY,z1,by rw[aW j bI];exact hj,λfe mP=>⟨fe,mP,rfl⟩⟩,rfl,λid1 oI B8 Bb WQ rf=>⟨oI,Bb,?_,rfl,λh=>h⟩⟩;rw[St.c_,if_neg (λhc=>KL j id1 bI WQ hc.symm)];exact rf
 refine⟨λd t pv hg=>(h.slot d t pv hg).step hs pv.aZ,λj o hj=>?_,h.inj,λj bB hj=>by simpa[St.put]using h.lt j bB hj,h.qU,qw.fits,h.wf.set _ _,λbB jj=>?_⟩
 ·by_cases bI:j=k
  ·subst bI;rw[bj]at hj;cases hj;refine⟨bE,aF,p5,bH,.inr ⟨id,cz,ay,ay,hid,by rw[St.c_,if_pos rfl],asR _,by rw[hl,hle];exact BZ.2.1,by simpa using BZ.1,bz,λj x d hx hd=>(hc j x d hx hd).mono qw⟩⟩
  ·rw[aW j bI]at hj;exact(h.obj j o hj).step hs rfl (λbB jj=>⟨by rw[St.c_,if_neg (λhc=>KL j bB bI jj hc.symm)],rfl⟩) o.aZ
 ·have:=(h.lt _ _ hid).2;have Oc:σ.n<=bB:=jj;rw[St.c_,if_neg (by omega)];exact h.top bB Oc
theorem abX{s:Nat}{x:IV}:∀{es:List IV} (_:∀e∈es,(cellsOf e).length=s) {n:Nat},n<es.length->(cellsOf x).length=s->flat (es.set n x)=dF (flat es) (n*s) (cellsOf x):=by
 intro es;induction es with
 |nil=>intro _ n hn;simp at hn
 |cons a es ih=>
  intro bH n hn hx;have ha:(cellsOf a).length=s:=bH a (by simp);unfold dF;cases n with
  |zero=>
   simp only[List.set_cons_zero,flat,ave,Nat.zero_mul,List.take_zero,List.nil_append,Nat.zero_add];rw[hx,List.drop_append_of_le_length (by omega),atg (by omega:(cellsOf a).length<=s)];simp
  |succ n=>
   have:=ih (λe he=>bH e (by simp[he])) (n:=n) (by simpa using hn) hx;simp only[List.set_cons_succ];unfold flat at this⊢;rw[ave,this];unfold dF
   rw[ave,hx,atq,Nat.one_mul,List.take_append,List.drop_append,ha,
    List.take_of_length_le (by omega:(cellsOf a).length<=n*s+s),atg (by omega:(cellsOf a).length<=n*s+s+s),
    show n*s+s- s=n*s by omega,show n*s+s+s- s=n*s+s by omega]
   simp
theorem nq{α:Type}{cs new:List IV}{off j:Nat}(h:off+new.length<=cs.length):(dF cs off new)[j]?=if off<=j/\j<off+new.length then new[j- off]? else cs[j]? :=by
 unfold dF;have h1:(cs.take off).length=off:=by simp;omega
 rw[List.append_assoc];by_cases ha:j<off
 ·rw[asY (by omega),atp,if_pos ha,if_neg (by omega)]
 ·rw[atm (by omega),h1];by_cases hb:j<off+new.length
  ·rw[asY (by omega),if_pos ⟨by omega,hb⟩]
  ·rw[atm (by omega),if_neg (by omega),aus]
   congr 1;omega
theorem uF{cs new:List IV}{off:Nat}(h:off+new.length<=cs.length):(dF cs off new).length=cs.length:=by
 unfold dF;simp;omega
theorem xy{cs new:List IV}{off:Nat}{f:IV->Bool}(h1:cs.all f=ab)(h2:new.all f=ab):(dF cs off new).all f=ab:=by
 rw[as6]at h1 h2⊢;intro x hx;unfold dF at hx;rcases as8.1 hx with hx|hx
 ·rcases as8.1 hx with hx|hx
  ·exact h1 x (aul hx)
  ·exact h2 x hx
 ·exact h1 x (avk hx)
variable(hJ:J (au P ν) R φ V.g V.l E σ)(hn:ν.length=V.n)
include hJ hn
theorem WR{t:TypeId}{a x:Operand}{j off ext:Nat}{cs:List (Cl SE)}(ho:o.op=.store t a x)(ha:bO P d V 0 a=.one (.pt j off ext))(hj:V.l[j]?=aa (.var cs))
 (h1:sy (eI (bO P d V t x))=ab)(h2:(eI (bO P d V t x)).length<=ext)(h3:off+(eI (bO P d V t x)).length<=cs.length)(h4:aN P t=aa (eI (bO P d V t x)).length)
 (hs:(k (.one .un) (V.setObj j (.var (A4 cs off (eI (bO P d V t x)))))).sat P C Q K ν):dh P C Q K ν E V.ln k (bL P E d o σ):=by
 have Ji:=bo hJ d 0 a;rw[ha]at Ji;obtain⟨id,qQ,g1,g2,g3⟩:=Ji;obtain⟨bB,cJ,g4,g5,g6,g7⟩:=hJ.obj j _ hj;rw[g1]at g4;cases g4;have hc:=zE (bo hJ d t x) h1;have ek:=hc.len;have Dp:=g7.len
 obtain⟨dK,bD⟩:=hJ.tQ (R':=R) (bad:=λ_=>False) (kj:=.var (A4 cs off (eI (bO P d V t x)))) (eT:=.cells (dF cJ off (cellsOf (ax (E d) x))) 0 0) g1 hj (λ_ _=>rfl)
  (λm hm=>by rw[g5]at hm;cases hm) (λm _ _ _ hm=>by rw[g5]at hm;cases hm) (λm _ _ _ hm=>by rw[g5]at hm;cases hm)
  (λ_ _=>⟨_,rfl⟩) (λ_ _ h=>by cases h) (λ_ _ _ _ _ h=>by cases h) (λ_ _ pv _=>pv.aZ) (λ_ o _ _=>o.aZ)
  (λdK=>⟨id,_,g1,g5,by rw[St.c_,if_pos rfl],(MC off g7 hc).mono λ_ _ bS=>bS.step dK (Cl.aZ _)⟩)
 refine .here (x:=.undef) (V1:=V.setObj j _) (pv:=.one .un) ?_ bD trivial hn rfl hs;have ik:=qy hc h1;simp only[bL,av,ho,g3,h4,g6,ek,ret];rw[if_pos ⟨atE _,trivial,h2,trivial,by omega,ik⟩]
end Go.Ev
namespace Go.Ev
variable{P:Program}{N:Nat}{σ ao:St}{R R':Rs}{φ aL:Ph}{E:Nat->Env}{ν:List IV}
variable{C:Cr}{Q:IV->Prop}{K:List (List IV->Prop)}{V:SS}{d:Nat}{o:Oper}{k:PV SE->SS->ak}
theorem ae7{y:IV}{n:Nat}(h:nat? y=aa n):∃q,y=.raw (.int q n):=by
 unfold nat? at h;split at h
 ·split at h
  ·rename_i q m hq;cases h;exact⟨q,by simp;omega⟩
  ·cases h
 ·cases h
theorem G5{s:TypeId}{f off sz:Nat}(h:fieldAt P s f=aa (off,sz)):∃fields fd,P.underlying s=aa (.struct fields)/\fields[f]?=aa fd/\aN P fd.type=aa sz/\fd.offset=off:=by
 unfold fieldAt at h;split at h
 ·rename_i fields hu;split at h
  ·rename_i fd hf;split at h
   ·rename_i sz' hs;cases h;exact⟨fields,fd,hu,hf,hs,rfl⟩
   ·cases h
  ·cases h
 ·cases h
theorem MD{α:Type}{f:α->α->Bool}(h:∀a b,f a b=ab->a=b):∀{as bs:List α},mb f as bs=ab->as=bs
 |[],[],_=>rfl
 |a::as,b::bs,hh=>by
  simp only[mb,asN]at hh;rw[h a b hh.1,MD h hh.2]
 |[],_::_,hh=>by cases hh
 |_::_,[],hh=>by cases hh
theorem SE.eq_eq:∀{a b:SE},a.eq b=ab->a=b:=by
 intro a;induction a with
 |var x=>intro c h;cases c<;>simp_all[SE.eq]
 |i x=>intro c h;cases c<;>simp_all[SE.eq]
 |k q x=>intro c h;cases c<;>simp_all[SE.eq,agL]
 |b x=>intro c h;cases c<;>simp_all[SE.eq]
 |s x=>intro c h;cases c<;>first|(simp[SE.eq]at h;done)|(simp only[SE.eq]at h;rw[MD (λa b h=>by simpa using h) h])
 |an=>intro c h;cases c<;>simp_all[SE.eq]
 |raw v=>intro c h;cases c<;>simp[SE.eq]at h
 |ok e ih=>intro c h;cases c<;>first|(simp[SE.eq]at h;done)|(simp only[SE.eq]at h;rw[ih h])
 |len e ih=>intro c h;cases c<;>first|(simp[SE.eq]at h;done)|(simp only[SE.eq]at h;rw[ih h])
 |sx e ih=>intro c h;cases c<;>first|(simp[SE.eq]at h;done)|(simp only[SE.eq]at h;rw[ih h])
 |tp e ih=>intro c h;cases c<;>first|(simp[SE.eq]at h;done)|(simp only[SE.eq]at h;rw[ih h])
 |rw e ih=>intro c h;cases c<;>first|(simp[SE.eq]at h;done)|(simp only[SE.eq]at h;rw[ih h])
 |bT e j ih=>intro c h;cases c<;>first|(simp[SE.eq]at h;done)|(simp only[SE.eq,asN,atv]at h;rw[h.1,ih h.2])
 |proj e j ih=>intro c h;cases c<;>first|(simp[SE.eq]at h;done)|(simp only[SE.eq,asN,atv]at h;rw[h.1,ih h.2])
 |tr q e ih=>intro c h;cases c<;>first|(simp[SE.eq]at h;done)|(simp only[SE.eq,asN,atv]at h;rw[h.1,ih h.2])
 |un op e ih=>intro c h;cases c<;>first|(simp[SE.eq]at h;done)|(simp only[SE.eq,asN,beq_iff_eq]at h;rw[h.1,ih h.2])
 |cv p q e ih=>intro c h;cases c<;>first|(simp[SE.eq]at h;done)|(simp only[SE.eq,asN,atv]at h;rw[h.1.1,h.1.2,ih h.2])
 |idx q e x fJ eV=>intro c h;cases c<;>first|(simp[SE.eq]at h;done)|(simp only[SE.eq,asN,atv]at h;rw[h.1.1,fJ h.1.2,eV h.2])
 |G2 q e x j fJ eV=>intro c h;cases c<;>first|(simp[SE.eq]at h;done)|(simp only[SE.eq,asN,atv]at h;rw[h.1.1.1,h.1.1.2,fJ h.1.2,eV h.2])
 |ac e x fJ eV=>intro c h;cases c<;>first|(simp[SE.eq]at h;done)|(simp only[SE.eq,asN]at h;rw[fJ h.1,eV h.2])
 |bin op t e x fJ eV=>intro c h;cases c<;>first|(simp[SE.eq]at h;done)|(simp only[SE.eq,asN,atv,beq_iff_eq]at h;rw[h.1.1.1,h.1.1.2,fJ h.1.2,eV h.2])
 |mx q e x fJ eV=>intro c h;cases c<;>first|(simp[SE.eq]at h;done)|(simp only[SE.eq,asN,beq_iff_eq]at h;rw[h.1.1,fJ h.1.2,eV h.2])
 |G3 e x fJ eV=>intro c h;cases c<;>first|(simp[SE.eq]at h;done)|(simp only[SE.eq,asN]at h;rw[fJ h.1,eV h.2])
 |dec q e x fJ eV=>intro c h;cases c<;>first|(simp[SE.eq]at h;done)|(simp only[SE.eq,asN,atv]at h;rw[h.1.1,fJ h.1.2,eV h.2])
 |sQ|rws|cat|has|Ez|sub|Py|HK|ins|get=>intro c h;cases c<;>simp[SE.eq]at h
theorem PX{o:Option (LO SE)}{s:Nat}{cut fr:Bool}{es:SE}(h:Oe o s cut fr es=ab):o=aa (.row s af cut fr es):=by
 unfold Oe at h;split at h
 ·simp only[asN,atv,beq_iff_eq]at h;rw[h.1.1.1,h.1.1.2,h.1.2,SE.eq_eq h.2]
 ·cases h
theorem p6{e:SE}{z:IV}(h:(SE.ok e).den P ν=aa z):e.den P ν=aa z/\Ev.aj z=ab:=by
 simp only[SE.den,as_]at h;obtain⟨y,h1,h2⟩:=h;unfold yD at h2;split at h2
 ·cases h2;exact⟨h1,by assumption⟩
 ·cases h2
variable(hJ:J (au P ν) R φ V.g V.l E σ)(hn:ν.length=V.n)
include hJ hn
theorem WS{t:TypeId}{a x:Operand}{j s off ext:Nat}{i es:SE}{cut fr f:Bool}{zs:List SE}{V2:SS}(ho:o.op=.store t a x)(ha:bO P d V 0 a=.one (.pr j i off ext))(hj:V.l[j]?=aa (.row s af cut fr es))
 (h0:off=0)(h2:(eI (bO P d V t x)).length=s)(h3:s=ext)(aU:aN P t=aa s)(YW:sy (eI (bO P d V t x))=ab)(jR:tS V (eI (bO P d V t x))=aa (f,zs,V2))(zm:V2.l[j]?=aa (.row s af cut fr es))
 (DF:isAgg P t=ab\/s=1)
 (hs:(newVar V2 (.Ez s es i (if isAgg P t then d_ zs else zs.headD .an)) λz V=>k (.one .un) (V.setObj j (.row s af cut (fr||f) z))).sat P C Q K ν):dh P C Q K ν E V.ln k (bL P E d o σ):=by
 subst h0 h3;obtain⟨R',cw,ff,ME,HX⟩:=ve hJ jR;have Ji:=bo hJ d 0 a;rw[ha]at Ji;have abY:=cw.My (x:=ax (E d) a) (c:=.pr j i 0 s) Ji;obtain⟨s',l8,u7,dg,z',aF,y,n,id,cs,ay,mn,a1,a2,a3,a4,a5,a6,a7,a8,a9⟩:=abY;rw[zm]at a1;cases a1;obtain⟨bE,gZ,g1,g2,g3⟩:=ff.obj j _ zm;have s5:es.den P ν=aa (.tree s aF):=a2;have nM:es.den P ν=aa (.tree s gZ):=g1;rw[s5]at nM;cases nM;rcases g3 with⟨g3,_⟩|⟨bB,cz,iW,pX,g3,g4,g5,g6,g7,g8,g9⟩
 ·rw[a7]at g3;cases g3
 rw[a7]at g3;cases g3;rw[a8]at g4;cases g4;have hc:=zE (bo hJ d t x) YW;obtain⟨ys,b1,b2,b3⟩:=HX _ hc;have PY:(cellsOf (ax (E d) x)).length=s:=by rw[hc.len,h2]
 have G6:ys.length=s:=by rw[<-b1.len,ME,h2]
 obtain⟨ze,YX,GP⟩:∃ze,(if isAgg P t=ab then d_ zs else zs.headD .an).den P ν=aa ze/\cellsOf ze=ys:=by
  split
  ·exact⟨_,eL b1,rfl⟩
  ·rename_i Yb;have dK:s=1:=DF.resolve_left Yb;have PZ:ys.length=1:=by omega
   obtain⟨y0,rfl⟩:=avN.1 PZ;obtain⟨z0,rfl⟩:=avN.1 (b1.len.trans PZ);refine⟨y0,b1.1,?_⟩;have:Ev.aj y0=ab:=by simpa using b3
   cases y0<;>first|rfl|(simp[Ev.aj]at this;done)
 obtain⟨aoJ,Jj,hk⟩:=hs
 have sC:(SE.Ez s es i (if isAgg P t=ab then d_ zs else zs.headD .an)).den P ν=aa (.tree s (aF.set n ze)):=by
  simp only[SE.den,as_]at Jj⊢;have a3':i.den P ν=aa y:=a3;refine⟨_,s5,y,a3',ze,YX,?_⟩;obtain⟨q,rfl⟩:=ae7 a4;simp[YN,gS,a5,GP,G6]
 rw[sC]at Jj;cases Jj
 have VD:n*s+s<=aF.length*s:=by
  have:(n+1)*s<=aF.length*s:=atk s a5;rw[atq]at this;omega
 have uU:=ff.up (iv:=au P (ν++[.tree s (aF.set n ze)])) (λe z h=>SE.c9 P e h)
 have iG:(SE.var V2.n).den P (ν++[.tree s (aF.set n ze)])=aa (.tree s (aF.set n ze)):=by
  have:V2.n=ν.length:=by rw[hn];exact cw.2.1
  simp[SE.den,this]
 have YY:=uU.YV (dg:=fr||f) (z':=.var V2.n) (cz:=dF cs (n*s) (cellsOf (ax (E d) x))) a7 zm a8 (uF (by omega)) (SE.c9 P es s5) iG (by simp)
  (λe he=>by
   rcases List.mem_or_eq_of_mem_set he with he|rfl
   ·exact g2 e he
   ·rw[GP,G6])
  (xy g8 (qy hc YW))
  (λq u v hu hv=>by
   rw[abX g2 a5 (by rw[GP,G6])]at hv;rw[nq (α:=IV) (by omega)]at hu;rw[nq (α:=IV) (by rw[nZ g2,GP,G6];exact VD)]at hv;rw[PY]at hu;rw[GP,G6]at hv;by_cases hq:n*s<=q/\q<n*s+s
   ·rw[if_pos hq]at hu hv;exact(b2.get hu hv).wide (λh=>by simp[h])
   ·rw[if_neg hq]at hu hv;exact(g9 q u v hu hv).wide (λh=>by simp[h]))
 refine⟨.undef,σ.put id (.cells (dF cs (n*s) (cellsOf (ax (E d) x))) ay ay),R',φ,.one .un,({V2 with n:=V2.n+1}:SS).setObj j (.row s af cut (fr||f) (.var V2.n)),[.tree s (aF.set n ze)],?_,YY,trivial,?_,cw.2.2.1,hk⟩
 ·have ik:=qy hc YW;simp only[bL,av,ho,a9,aU,a8,PY,ret,Nat.add_zero];rw[if_pos ⟨atE _,trivial,asR _,trivial,by omega,ik⟩]
 ·show(ν++[_]).length=V2.n+1;simp[hn,cw.2.1]
theorem YZ{t:TypeId}{a x:Operand}(ho:o.op=.store t a x)(hs:(fT P d o V k).sat P C Q K ν):dh P C Q K ν E V.ln k (bL P E d o σ):=by
 unfold fT at hs;rw[ho]at hs;simp only at hs;split at hs
 ·rename_i j off ext ha;split at hs
  ·rename_i cs hj;split at hs
   ·rename_i hc;simp only[asN,auw,beq_iff_eq]at hc;exact WR hJ hn ho ha hj hc.1.1.1 hc.1.1.2 hc.1.2 hc.2 hs
   ·exact hs.elim
  ·exact hs.elim
 ·rename_i j i off ext ha;split at hs
  ·rename_i s cut fr es hj;split at hs
   ·rename_i hc;simp only[asN,atv,beq_iff_eq,Bool.or_eq_true]at hc;split at hs
    ·rename_i f zs V2 jR;split at hs
     ·rename_i zm;obtain⟨⟨⟨⟨⟨c1,c2⟩,c3⟩,c4⟩,c5⟩,c6⟩:=hc;exact WS hJ hn ho ha hj c1 c2 c3 c4 c5 jR (PX zm) c6 hs
     ·exact hs.elim
    ·exact hs.elim
   ·exact hs.elim
  ·exact hs.elim
 ·exact hs.elim
theorem N4{s:TypeId}{x:Operand}{f:Nat}(ho:o.op=.fieldAddr s x f)(hs:(fT P d o V k).sat P C Q K ν):dh P C Q K ν E V.ln k (bL P E d o σ):=by
 unfold fT at hs;rw[ho]at hs;simp only at hs;have hx:=bo hJ d 0 x;split at hs
 ·rename_i fo sz hf;obtain⟨fields,fd,h1,h2,h3,rfl⟩:=G5 hf;split at hs
  ·exact hs.elim
  ·rename_i hz;have p5:sz≠0:=by simpa[atv]using hz
   split at hs
   ·rename_i j off ext hh;split at hs
    ·rename_i hle;rw[auw]at hle;rw[hh]at hx;obtain⟨id,cs,g1,g2,g3⟩:=hx;exact .at hs hJ hn rfl ⟨id,cs,g1,g2,rfl⟩ (by simp[bL,av,ho,g3,h1,h2,h3,p5,hle,ret])
    ·exact hs.elim
   ·rename_i cs hh;split at hs
    ·rename_i hle;rw[auw]at hle;rw[hh]at hx;obtain⟨ds,g1,g2⟩:=hx;have hl:=g2.len;exact .at hs hJ hn rfl ⟨_,rfl,(g2.drop _).take _⟩ (by simp[bL,av,ho,g1,h1,h2,h3,p5,hl,hle,ret])
    ·exact hs.elim
   ·rename_i fr cs hh;split at hs
    ·rename_i hle;rw[auw]at hle;rw[hh]at hx;obtain⟨g0,⟨EP,ds,g1,g2⟩|⟨id,off,ep,m,cJ,ay,mn,a1,a2,a3,a4,a5,a6,a7,a8⟩⟩:=hx
     ·have hl:=g2.len;exact .at hs hJ hn rfl ⟨λc hc=>g0 c (avk (aul hc)),.inl ⟨EP,_,rfl,(g2.drop _).take _⟩⟩ (by simp[bL,av,ho,g1,h1,h2,h3,p5,hl,hle,ret])
     ·have hlen:((cs.drop fd.offset).take sz).length=sz:=by simp;omega
      refine .at (x:=.ptr id (off+fd.offset) ep sz) hs hJ hn rfl ⟨λc hc=>g0 c (avk (aul hc)),.inr ⟨id,off+fd.offset,ep,m,cJ,ay,mn,a1,a2,a3,a4,by rw[hlen],by rw[hlen];omega,a7,λj c e he hc=>?_⟩⟩ (by simp[bL,av,ho,a5,h1,h2,h3,p5,hle,ret]);rw[atp]at he;split at he
      ·rw[aus]at he;exact a8 _ c e he (by rw[show off+(fd.offset+j)=off+fd.offset+j by omega];exact hc)
      ·cases he
    ·exact hs.elim
   ·rename_i j i off ext hh;split at hs
    ·rename_i hle;rw[auw]at hle;rw[hh]at hx;obtain⟨s',l8,u7,dg,z',aF,y,n,id,cs,ay,mn,a1,a2,a3,a4,a5,a6,a7,a8,a9⟩:=hx;exact .at hs hJ hn rfl ⟨s',l8,u7,dg,z',aF,y,n,id,cs,ay,mn,a1,a2,a3,a4,a5,by omega,a7,a8,rfl⟩ (by simp[bL,av,ho,a9,h1,h2,h3,p5,hle,ret,Nat.add_assoc])
    ·exact hs.elim
   ·exact hs.elim
 ·exact hs.elim
end Go.Ev
namespace Go.Ev
variable{P:Program}{N:Nat}{σ ao:St}{R R':Rs}{φ aL:Ph}{E:Nat->Env}{ν:List IV}
variable{C:Cr}{Q:IV->Prop}{K:List (List IV->Prop)}{V:SS}{d:Nat}{o:Oper}{k:PV SE->SS->ak}
def yE(P:Program)(t:TypeId)(s:Nat)(e:SE):List (SE):=if isAgg P t then(aup s).map (λj=>.bT e j)else[.ok e]
theorem Ax{z:IV}(h:Ev.aj z=ab):cellsOf z=[z]:=by
 cases z<;>first|rfl|(simp[Ev.aj]at h;done)
theorem P0{t:TypeId}{s:Nat}{e:SE}{z:IV}{f:ak}(aU:aN P t=aa s)(hz:e.den P ν=aa z)(hs:(rU P t e f).sat P C Q K ν):
 f.sat P C Q K ν/\All2 (λy (c:SE)=>c.den P ν=aa y/\Ev.aj y=ab) (cellsOf z) (yE P t s e)/\(isAgg P t=ab->∃ys,z=.agg ys):=by
 unfold rU at hs;unfold yE;split at hs
 ·rename_i ha;rw[if_pos ha];obtain⟨⟨y,hy⟩,hk⟩:=hs;refine⟨hk,?_⟩;simp only[SE.den,hz,aU,Option.bind_some,atH]at hy;split at hy
  ·rename_i cs;split at hy
   ·rename_i hc;refine⟨.mk (by simp[cellsOf,hc.1]) λi a b h1 h2=>?_,λ_=>⟨cs,rfl⟩⟩;have hi:=(asM.1 h1).1;have da:i<cs.length:=hi;rw[as4,avs (by omega)]at h2;simp only[atl,asP]at h2;subst h2;have bz:Ev.aj a=ab:=(as6.1 hc.2) a (asZ h1);have c8:cs[i]?=aa a:=h1;exact⟨by simp[SE.den,hz,c8,yD,bz],bz⟩
   ·cases hy
  ·cases hy
 ·rename_i ha;rw[if_neg ha];obtain⟨⟨y,hy⟩,hk⟩:=hs;obtain⟨h1,h2⟩:=p6 hy;rw[hz]at h1;cases h1;rw[Ax h2];exact⟨hk,⟨⟨hy,h2⟩,trivial⟩,λh=>absurd h ha⟩
theorem Lc{s:Nat}{z i:SE}{e:IV}(h:(SE.idx s z i).den P ν=aa e):∃es y n,z.den P ν=aa (.tree s es)/\i.den P ν=aa y/\(∃q,y=.raw (.int q (n:Nat)))/\es[n]?=aa e/\(cellsOf e).length=s:=by
 simp only[SE.den,as_]at h;obtain⟨a,h1,b,h2,h3⟩:=h;unfold dy at h3;split at h3
 ·rename_i s' es;split at h3
  ·rename_i n hn;split at h3
   ·rename_i hc;split at h3
    ·rename_i x hx;split at h3
     ·rename_i hl;cases h3;obtain⟨rfl,h0⟩:=hc;obtain⟨q,rfl⟩:=CB hn;exact⟨es,_,n.toNat,h1,h2,⟨q,by simp;omega⟩,hx,hl⟩
     ·cases h3
    ·cases h3
   ·cases h3
  ·cases h3
 ·cases h3
theorem Y0{x:IV}{s:Nat}{es:List IV}(h:iX x (.tree s es))(aW:es≠[]):x=.tree s es/\Pure x:=by
 cases h with
 |nil=>exact absurd rfl aW
 |emp=>exact absurd rfl aW
 |pure _ _ hp=>exact⟨rfl,hp⟩
 |sl _ _ _ _ _ _ _ _ _ _ _ hR=>cases hR
theorem agZ{α:Type}{l:List α}{i:Nat}{a:α}(h:l[i]?=aa a):l≠[]:=by intro hl;rw[hl]at h;simp at h
theorem MF{α β:Type}{r:α->β->Prop}{q:α->β->Prop}{as:List α}{bs:List β}(h:All2 r as bs)(hq:∀a b,a∈as->r a b->q a b):All2 q as bs:=
 .mk h.len λ_ a b h1 h2=>hq a b (asZ h1) (h.get h1 h2)
variable(hJ:J (au P ν) R φ V.g V.l E σ)(hn:ν.length=V.n)
include hJ hn
theorem qK{e:SE}{f:SE->SS->ak}(hs:(newVar V e f).sat P C Q K ν):∃z,e.den P ν=aa z/\(f (.var V.n) {V with n:=V.n+1}).sat P C Q K (ν++[z])/\(SE.var V.n).den P (ν++[z])=aa z/\J (au P (ν++[z])) R φ V.g V.l E σ/\(ν++[z]).length=V.n+1:=by
 obtain⟨z,h1,h2⟩:=hs;exact⟨z,h1,h2,by simp[SE.den,<-hn],hJ.up λe z h=>SE.c9 P e h,by simp[hn]⟩
theorem N5{t:TypeId}{x ix:Operand}(ho:o.op=.indexAddr t x ix)(hs:(fT P d o V k).sat P C Q K ν):dh P C Q K ν E V.ln k (bL P E d o σ):=by
 unfold fT at hs;rw[ho]at hs;simp only at hs;have hx:=bo hJ d t x;have hi:=bo hJ d 3 ix;split at hs
 ·rename_i et i hu MG;rw[MG]at hi;split at hs
  ·rename_i s aU;split at hs
   ·rename_i z hh;rw[hh]at hx;obtain⟨e,h1,h2,hv,MH,Dt⟩:=qK hJ hn hs;obtain⟨es,y,n,g1,g2,⟨q,rfl⟩,g4,g5⟩:=Lc h1;obtain⟨y',a1,a2,a3⟩:=hx;have wZ:z.den P ν=aa y':=a1;rw[g1]at wZ;cases wZ;obtain⟨hxe,hp⟩:=Y0 a2 (agZ g4);obtain⟨yi,b1,b2,b3⟩:=hi;have w6:i.den P ν=aa yi:=b1;rw[g2]at w6;cases w6;have uS:=cb b2;obtain⟨hk,jd,_⟩:=P0 aU hv h2
    have Ed:∀c∈cellsOf e,Pure c:=by
     rw[hxe]at hp;cases hp with|tree _ _ hh=>exact hh e (asZ g4)
    refine⟨.lN (cellsOf e),σ,R,φ,.one (.tp (yE P et s (.var V.n))),{V with n:=V.n+1},[e],?_,MH,⟨_,rfl,MF jd λa b ha bS=>⟨a,bS.1,.pure a rfl (Ed a ha),bS.2⟩⟩,Dt,rfl,hk⟩;simp[bL,av,ho,hu,hxe,uS,aU,g4,g5,ret]
   ·rename_i fr z hh;rw[hh]at hx;obtain⟨e,h1,h2,hv,MH,Dt⟩:=qK hJ hn hs;obtain⟨es,y,n,g1,g2,⟨q,rfl⟩,g4,g5⟩:=Lc h1;obtain⟨y',a1,a2,a3⟩:=hx;have wZ:z.den P ν=aa y':=a1;rw[g1]at wZ;cases wZ;obtain⟨yi,b1,b2,b3⟩:=hi;have w6:i.den P ν=aa yi:=b1;rw[g2]at w6;cases w6;have uS:=cb b2;obtain⟨hk,jd,_⟩:=P0 aU hv h2
    have hg0:∀c∈yE P et s (.var V.n),∃y,c.den P (ν++[e])=aa y/\Ev.aj y=ab:=by
     intro c hc;obtain⟨j,hj⟩:=auD hc;obtain⟨a,_,bS⟩:=jd.As hj;exact⟨a,bS⟩
    generalize hex:ax (E d) x=xv at a2;generalize MI:IV.tree s es=zt at a2;cases a2 with
    |nil s' bt=>injection MI with h1 h2;subst h2;simp at g4
    |emp s' bt=>injection MI with h1 h2;subst h2;simp at g4
    |pure _ hf hp=>
     subst MI
     have Ed:∀c∈cellsOf e,Pure c:=by
      cases hp with|tree _ _ hh=>exact hh e (asZ g4)
     refine⟨.lN (cellsOf e),σ,R,φ,.one (.tw fr (yE P et s (.var V.n))),{V with n:=V.n+1},[e],?_,MH,⟨hg0,.inl ⟨hf,_,rfl,MF jd λa b ha bS=>⟨a,bS.1,.pure a rfl (Ed a ha)⟩⟩⟩,Dt,rfl,hk⟩;simp[bL,av,ho,hu,hex,uS,aU,g4,g5,ret]
    |sl id off len cap ep s' m cs ay mn aF hR aE c8 zq bt hl hb hm bH hh=>
     injection MI with nu Jk
     subst nu Jk hl;have ai:=(asM.1 g4).1;have hlen:(yE P et s (.var V.n)).length=s:=by rw[<-jd.len,g5]
     have fk:n*s+s<=es.length*s:=by
      have:(n+1)*s<=es.length*s:=atk s ai;rw[atq]at this;omega
     refine⟨.ptr id (off+n*s) ep s,σ,R,φ,.one (.tw fr (yE P et s (.var V.n))),{V with n:=V.n+1},[e],?_,MH,⟨hg0,.inr ⟨id,off+n*s,ep,m,cs,ay,mn,hR,aE,c8,zq,by rw[hlen],by rw[hlen];omega,hm,λj c ce rB hc=>?_⟩⟩,Dt,rfl,hk⟩
     ·simp[bL,av,ho,hu,hex,uS,aU,ai,ret]
     ·obtain⟨a,ha,bS⟩:=jd.As rB;exact⟨a,bS.1,hh n e j c a g4 ha (by rw[show off+n*s+j=off+(n*s)+j by omega]at hc;exact hc)⟩
    |raw v=>cases MI
    |du=>cases MI
    |agg=>cases MI
    |az=>cases MI
   ·rename_i j hh;rw[hh]at hx;split at hs
    ·rename_i s' st cut fr aF hj;split at hs
     ·rename_i iO;have vg:=Nat.eq_of_beq_eq_true iO;subst vg;obtain⟨⟨e,h1⟩,hk⟩:=hs;obtain⟨es,y,n,g1,g2,⟨q,rfl⟩,g4,g5⟩:=Lc h1;obtain⟨yi,b1,b2,b3⟩:=hi;have w6:i.den P ν=aa yi:=b1;rw[g2]at w6;cases w6;have uS:=cb b2;have ai:=(asM.1 g4).1;obtain⟨s2,YQ,abZ,YR,z2,gZ,a1,a2,a3⟩:=hx;rw[hj]at a1;cases a1;have s5:aF.den P ν=aa (.tree s gZ):=a2;rw[g1]at s5;cases s5;rcases a3 with⟨_,c2,_⟩|⟨id,cs,ay,mn,cap,c1,c2,c3,c4,c5,c6⟩
      ·omega
      ·refine .at (x:=.ptr id (n*s+0) ay s) hk hJ hn rfl ⟨s,st,cut,fr,aF,es,_,n,id,cs,ay,mn,hj,g1,g2,by simp[nat?],ai,by omega,c1,c2,rfl⟩ ?_;simp[bL,av,ho,hu,c3,uS,aU,ai,ret]
     ·exact hs.elim
    ·exact hs.elim
   ·exact hs.elim
  ·exact hs.elim
 ·rename_i n et i hu MG;rw[MG]at hi
  have uS:ax (E d) ix=.raw (.int .i64 i):=by
   obtain⟨y,h1,h2,_⟩:=hi;simp only[au,SE.den,asP]at h1;subst h1;exact cb h2
  split at hs
  ·rename_i s j off ext aU hh;rw[hh]at hx;obtain⟨id,cs,g1,g2,g3⟩:=hx;split at hs
   ·rename_i hc;simp only[asN,Bool.not_eq_true',decide_eq_true_eq,Nat.blt_eq,auw]at hc;obtain⟨⟨⟨c1,c2⟩,c3⟩,c4⟩:=hc;have kQ:s≠0:=by intro h;subst h;simp at c1
    refine .at (x:=.ptr id (off+i.toNat*s) 0 s) hs hJ hn rfl ⟨id,cs,g1,g2,rfl⟩ ?_;have:i<n:=by omega
    simp[bL,av,ho,hu,g3,uS,aU,kQ,c2,this,c4,ret]
   ·exact hs.elim
  ·exact hs.elim
  ·exact hs.elim
 ·exact hs.elim
end Go.Ev
namespace Go.Ev
variable{P:Program}{N:Nat}{σ ao:St}{R R':Rs}{φ aL:Ph}{E:Nat->Env}{ν:List IV}
variable{C:Cr}{Q:IV->Prop}{K:List (List IV->Prop)}{V:SS}{d:Nat}{o:Oper}{k:PV SE->SS->ak}
theorem S1{op:BinOp}{t:TypeId}{x y x' y':Operand}{u v:Value}(h:u≠.nilIface):eqGuard op t x y u v=eqGuard op t x' y' u v:=by
 unfold eqGuard;cases u<;>first|exact absurd rfl h|rfl|(cases v<;>rfl)
theorem P1{op:BinOp}{t:TypeId}{x y x' y':Operand}{a b:IV}{u v:Value}(ha:i_ a=aa u)(hb:i_ b=aa v)(h:u≠.nilIface):pP P op t x y a b=pP P op t x' y' a b:=by
 unfold pP;split<;>first|rfl|skip
 rw[ha,hb];simp only;rw[S1 (x:=x) (y:=y) (x':=x') (y':=y') h]
theorem Y1{op:BinOp}{t:TypeId}{a b z:IV}(h:dt P op t a b=aa z){f g:Bool}{xa xb:IV}(ha:bn f R σ xa a)(hb:bn g R σ xb b)(ox oy:Operand):pP P op t ox oy xa xb=aa z:=by
 unfold dt at h;split at h
 ·cases h
 ·rename_i u v aW hu hv;rw[CA ha hu,CA hb hv,P1 (x':=.func 0) (y':=.func 0) hu hv (λhc=>aW hc)];exact h
 ·cases h
variable(hJ:J (au P ν) R φ V.g V.l E σ)(hn:ν.length=V.n)
include hJ hn
theorem P2(v:Value):iX (lift v) (lift v):=by
 unfold lift;split
 ·refine .agg _ _ rfl λi c e h1 h2=>?_;rw[h1]at h2;cases h2;rw[as4]at h1;obtain⟨u,_,rfl⟩:=asS.1 h1;exact .raw u
 ·exact .raw _
omit hJ hn in
theorem P3{op:BinOp}{t:TypeId}{x y:Operand}{a b z:IV}(h:pP P op t x y a b=aa z):iX z z:=by
 unfold pP at h;split at h<;>first|(cases h;exact .raw _)|skip
 ·split at h
  ·cases h;exact .raw _
  ·cases h
 ·split at h
  ·obtain⟨v,_,rfl⟩:=asS.1 h;unfold lift;split
   ·refine .agg _ _ rfl λi c e h1 h2=>?_;rw[h1]at h2;cases h2;rw[as4]at h1;obtain⟨u,_,rfl⟩:=asS.1 h1;exact .raw u
   ·exact .raw _
  ·split at h
   ·split at h
    ·cases h;exact .raw _
    ·cases h;exact .raw _
    ·cases h
   ·split at h
    ·cases h;exact .raw _
    ·cases h;exact .raw _
    ·cases h
theorem Jl{op:BinOp}{t yt:TypeId}{x y:Operand}{a b:SE}(ho:o.op=.binOp op t x y yt){f g:Bool}(ha:∀z,a.den P ν=aa z->bn f R σ (ax (E d) x) z)(hb:∀z,b.den P ν=aa z->bn g R σ (ax (E d) y) z)
 (hs:(vk (.ok (.bin op t a b)) V k).sat P C Q K ν):dh P C Q K ν E V.ln k (bL P E d o σ):=by
 obtain⟨⟨z,hz⟩,hk⟩:=hs;obtain⟨h1,h2⟩:=p6 hz;simp only[SE.den,as_]at h1;obtain⟨u,h3,v,h4,h5⟩:=h1;have h6:=Y1 h5 (ha u h3) (hb v h4) x y;exact .at (x:=z) hk hJ hn rfl ⟨z,hz,P3 h6,h2⟩ (by simp[bL,av,ho,h6,ret])
theorem ag0{op:UnOp}{t:TypeId}{x:Operand}(ho:o.op=.unOp op t x)(hs:(fT P d o V k).sat P C Q K ν):dh P C Q K ν E V.ln k (bL P E d o σ):=by
 unfold fT at hs;rw[ho]at hs;simp only at hs;have hx:=bo hJ d 0 x
 have main:∀a:SE,(∀z,a.den P ν=aa z->bn ab R σ (ax (E d) x) z)->(vk (.ok (.un op a)) V k).sat P C Q K ν->dh P C Q K ν E V.ln k (bL P E d o σ):=by
  intro a ha hs;obtain⟨⟨z,hz⟩,hk⟩:=hs;obtain⟨h1,h2⟩:=p6 hz;simp only[SE.den,as_]at h1;obtain⟨u,h3,h4⟩:=h1;unfold Wt at h4;split at h4
  ·rename_i v;have hv:=cb (ha _ h3);obtain⟨r,hr,rfl⟩:=asS.1 h4;exact .at (x:=lift r) hk hJ hn rfl ⟨_,hz,P2 hJ hn r,h2⟩ (by simp[bL,av,ho,hv,hr,ret])
  ·cases h4
 split at hs
 ·rename_i t' hh;rw[hh]at hx;have hb:=PS hJ hn hx;split at hs
  ·refine .at (x:=.raw (.bool (!t'))) hs hJ hn rfl ⟨_,rfl,.raw _,rfl⟩ ?_;simp[bL,av,ho,hb,ret,Op.unary,aT,lift,pure]
  ·exact hs.elim
 ·rename_i a _ hh;rw[hh]at hx;obtain⟨y,h1,h2,_⟩:=hx;exact main a (λz hz=>by have c8:a.den P ν=aa y:=h1;rw[hz]at c8;cases c8;exact h2.mono hJ.Bc) hs
 ·rename_i f a hh;rw[hh]at hx;obtain⟨y,h1,h2,_⟩:=hx;exact main a (λz hz=>by have c8:a.den P ν=aa y:=h1;rw[hz]at c8;cases c8;exact h2.cL) hs
 ·exact hs.elim
theorem ag1{src dst:TypeId}{x:Operand}(ho:o.op=.convert src dst x)(hs:(fT P d o V k).sat P C Q K ν):dh P C Q K ν E V.ln k (bL P E d o σ):=by
 unfold fT at hs;rw[ho]at hs;simp only at hs;have hx:=bo hJ d src x
 have main:∀a:SE,(∀z,a.den P ν=aa z->bn ab R σ (ax (E d) x) z)->(vk (.ok (.cv src dst a)) V k).sat P C Q K ν->dh P C Q K ν E V.ln k (bL P E d o σ):=by
  intro a ha hs;obtain⟨⟨z,hz⟩,hk⟩:=hs;obtain⟨h1,h2⟩:=p6 hz;simp only[SE.den,as_]at h1;obtain⟨u,h3,h4⟩:=h1;unfold Wu at h4;split at h4
  ·rename_i b;have hv:=cb (ha _ h3);split at h4
   ·rename_i q Dk OP;cases h4;exact .at (x:=.raw (.string b)) hk hJ hn rfl ⟨_,hz,.raw _,h2⟩ (by simp[bL,av,ho,hv,Dk,OP,ret])
   ·cases h4
  ·rename_i v hnv;have hv:=cb (ha _ h3);obtain⟨r,hr,rfl⟩:=asS.1 h4;refine .at (x:=lift r) hk hJ hn rfl ⟨_,hz,P2 hJ hn r,h2⟩ ?_;unfold bL av;rw[ho];simp only[hv,hr,ret]
  ·cases h4
 split at hs
 ·rename_i a hh;rw[hh]at hx;obtain⟨y,h1,h2,_⟩:=hx;exact main a (λz hz=>by have c8:a.den P ν=aa y:=h1;rw[hz]at c8;cases c8;exact h2.mono hJ.Bc) hs
 ·rename_i f a hh;rw[hh]at hx;obtain⟨y,h1,h2,_⟩:=hx;exact main a (λz hz=>by have c8:a.den P ν=aa y:=h1;rw[hz]at c8;cases c8;exact h2.cL) hs
 ·exact hs.elim
theorem S2{x:Operand}{i:Nat}(ho:o.op=.extract x i)(hs:(fT P d o V k).sat P C Q K ν):dh P C Q K ν E V.ln k (bL P E d o σ):=by
 unfold fT at hs;rw[ho]at hs;simp only at hs;have hx:=bo hJ d 0 x;split at hs
 ·rename_i vs hh;rw[hh]at hx;obtain⟨xs,h1,h2⟩:=hx;split at hs
  ·rename_i cs hi;obtain⟨a,ha,hr⟩:=h2.As hi;refine .here (x:=a) (pv:=.ag cs) (aq:=σ) (by simp[bL,av,ho,h1,ha,ret]) hJ ?_ hn rfl hs;simpa[tP,VR]using hr
  ·rename_i c hi;obtain⟨a,ha,hr⟩:=h2.As hi;refine .at (x:=a) hs hJ hn rfl ?_ (by simp[bL,av,ho,h1,ha,ret]);simpa[tP]using hr
  ·exact hs.elim
 ·exact hs.elim
theorem Y2{t:TypeId}{x:Operand}{f:Nat}(ho:o.op=.field t x f)(hs:(fT P d o V k).sat P C Q K ν):dh P C Q K ν E V.ln k (bL P E d o σ):=by
 unfold fT at hs;rw[ho]at hs;simp only at hs;have hx:=bo hJ d t x;split at hs
 ·rename_i cs fo sz hh hf;rw[hh]at hx;obtain⟨xs,h1,h2⟩:=hx;obtain⟨fields,fd,g1,g2,g3,rfl⟩:=G5 hf;rw[g1]at hs;simp only at hs;split at hs
  ·rename_i hc;simp only[asN,auw,Option.isSome_iff_exists]at hc;obtain⟨hle,b,hb⟩:=hc;rw[g2]at hs hb;simp only[atl,atH]at hs hb
   obtain⟨pv,hk,qW⟩:∃pv,(k pv V).sat P C Q K ν/\(if isAgg P fd.type=ab then pv=.ag ((cs.drop fd.offset).take sz)else∃c,(cs.drop fd.offset).take sz=[c]/\pv=.one c):=by
    split at hs
    ·rename_i ha;split at hs
     ·exact⟨_,hs,by rw[if_pos ha]⟩
     ·exact hs.elim
    ·rename_i ha;split at hs
     ·rename_i c mO;exact⟨_,hs,by rw[if_neg ha];exact⟨c,mO,rfl⟩⟩
     ·exact hs.elim
   obtain⟨v,hv,hr⟩:=sZ g3 hb h2 hle qW;exact .here (x:=v) (pv:=pv) (aq:=σ) (by simp[bL,av,ho,h1,g1,g2,hv,ret]) hJ hr hn rfl hk
  ·exact hs.elim
 ·exact hs.elim
end Go.Ev
namespace Go.Ev
variable{P:Program}{N:Nat}{σ ao:St}{R R':Rs}{φ aL:Ph}{E:Nat->Env}{ν:List IV}
variable{C:Cr}{Q:IV->Prop}{K:List (List IV->Prop)}{V:SS}{d:Nat}{o:Oper}{k:PV SE->SS->ak}
theorem Ay{s:Nat}{es:List IV}(h:jm s es=ab):(∀e∈es,(cellsOf e).length=s)/\∀c∈flat es,Ev.aj c=ab:=by
 unfold jm at h;rw[as6]at h;refine⟨λe he=>?_,λc hc=>?_⟩
 ·have:=h e he;simp only[asN,beq_iff_eq]at this;exact this.1
 ·obtain⟨e,he,rB⟩:=auX.1 hc;have:=h e he;simp only[asN,as6]at this;exact this.2 c rB
theorem CE(a b:List IV):flat (a++b)=flat a++flat b:=by simp[flat]
def p7(fr:Bool)(R:Rs)(σ:St)(cs ds:List IV):Prop:=∀(j:Nat) x d,cs[j]?=aa x->ds[j]?=aa d->bn fr R σ x d
theorem Ld{fr:Bool}{x:IV}{s:Nat}{es:List IV}(bE:0<s)(h:bn fr R σ x (.tree s es))(bz:jm s es=ab):
 kY x=aa es.length/\∃new,eU s es.length σ x=aa new/\new.length=es.length*s/\p7 fr R σ new (flat es)/\new.all Ev.aj=ab:=by
 obtain⟨h1,h2⟩:=Ay bz;generalize hz:IV.tree s es=z at h;cases h with
 |nil s' bt=>injection hz with a b;subst a b;exact⟨rfl,[],by simp[eU],by simp,λj x d h=>by simp at h,rfl⟩
 |emp s' bt=>injection hz with a b;subst a b;exact⟨rfl,[],by simp[eU],by simp,λj x d h=>by simp at h,rfl⟩
 |pure _ hf hp=>
  subst hz;refine⟨rfl,flat es,by simp[eU,flat],nZ h1,λj x d hx hd=>?_,as6.2 h2⟩;rw[hx]at hd;cases hd;refine .pure x hf ?_;obtain⟨e,he,rB⟩:=auX.1 (asZ hx);cases hp with|tree _ _ hh=>exact hh e he x rB
 |sl id off len cap ep s' m cs ay mn aF hR aE a1 a2 bt hl hb hm bH hh=>
  injection hz with a b
  subst a b hl
  have adE:p7 fr R σ ((cs.drop off).take (es.length*s)) (flat es):=by
   intro j x d hx hd;have hj:j<es.length*s:=by have:=(asM.1 hd).1;rw[nZ h1]at this;exact this
   rw[atp,if_pos hj,aus]at hx
   have hi:j/s<es.length:=by
    rw[Nat.div_lt_iff_lt_mul bE];exact hj
   have he:es[j/s]?=aa es[j/s]:=asL hi;have GO:j % s<(cellsOf es[j/s]).length:=by rw[h1 _ (asO hi)];exact Nat.mod_lt _ bE
   have rB:(cellsOf es[j/s])[j % s]?=aa (cellsOf es[j/s])[j % s]:=asL GO;have hjj:j/s*s+j % s=j:=Nat.div_add_mod' j s;have hf:=BY h1 he rB;rw[hjj,hd]at hf;cases hf;exact hh _ _ _ x _ he rB (by rw[show off+j/s*s+j % s=off+j by omega];exact hx)
  refine⟨rfl,(cs.drop off).take (es.length*s),?_,by simp;omega,adE,?_⟩
  ·simp only[eU];rw[if_pos ⟨trivial,asR _⟩,aE];simp only;rw[if_pos ⟨a1,a2,by omega⟩]
  ·rw[as6];intro c hc;obtain⟨j,hj⟩:=auD hc;have ai:=(asM.1 hj).1;have dZ:j<(flat es).length:=by rw[nZ h1];simp at ai;omega
   exact(adE j c _ hj (asL dZ)).aj (h2 _ (asO dZ))
 |raw v=>cases hz
 |du=>cases hz
 |agg=>cases hz
 |az=>cases hz
theorem P4{L:List (LO SE)}{Γ:Gm SE}(h:J (au P ν) R φ Γ L E σ){k s:Nat}{st cut fr:Bool}{z:SE}{x:IV}{es:List IV}(hk:L[k]?=aa (.row s st cut fr z))(hz:z.den P ν=aa (.tree s es))(hx:cI (au P ν) R φ L σ x (.sr k)):
 kY x=aa es.length/\∃new,eU s es.length σ x=aa new/\new.length=es.length*s/\p7 fr R σ new (flat es)/\new.all Ev.aj=ab:=by
 obtain⟨bE,gZ,g1,g2,g3⟩:=h.obj k _ hk;have nM:z.den P ν=aa (.tree s gZ):=g1;rw[hz]at nM;cases nM;obtain⟨s2,YQ,abZ,YR,z2,MJ,a1,a2,a3⟩:=hx;rw[hk]at a1;cases a1;have s5:z.den P ν=aa (.tree s MJ):=a2;rw[hz]at s5;cases s5;rcases a3 with⟨_,b2,b3⟩|⟨id,cs,ay,mn,cap,b1,b2,rfl,b4,b5,b6⟩
 ·have:es=[]:=List.eq_nil_of_length_eq_zero b2;subst this;rcases b3 with rfl|rfl
  ·exact⟨rfl,[],by simp[eU],by simp,λj x d h=>by simp at h,rfl⟩
  ·exact⟨rfl,[],by simp[eU],by simp,λj x d h=>by simp at h,rfl⟩
 ·rcases g3 with⟨g3,_⟩|⟨bB,cz,iW,pX,g3,g4,g5,g6,g7,g8,g9⟩
  ·rw[b1]at g3;cases g3
  ·rw[b1]at g3;cases g3;rw[b2]at g4;cases g4;refine⟨by simp[kY],cs.take (es.length*s),?_,by simp;omega,λj x d hx hd=>?_,?_⟩
   ·simp only[eU];rw[if_pos ⟨trivial,by simp⟩,b2];simp only;rw[if_pos ⟨g5,asR _,by omega⟩];simp
   ·rw[atp]at hx;split at hx
    ·exact g9 j x d hx hd
    ·cases hx
   ·rw[as6]at g8⊢;exactλc hc=>g8 c (aul hc)
theorem WT{fr dg:Bool}{cs ds cz mQ:List IV}(h:p7 fr R σ cs ds)(hl:cs.length=ds.length)(h':p7 dg R σ cz mQ):p7 (fr||dg) R σ (cs++cz) (ds++mQ):=by
 intro j x d hx hd;by_cases hj:j<cs.length
 ·rw[asY hj]at hx;rw[asY (by omega)]at hd;exact(h j x d hx hd).wide (λh=>by simp[h])
 ·rw[atm (by omega)]at hx;rw[atm (by omega),<-hl]at hd;exact(h' _ x d hx hd).wide (λh=>by simp[h])
end Go.Ev
