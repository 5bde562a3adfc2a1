/- Lemmas over the model, without conditions of their own: operations on expressions (1). -/
import Derived.Test.YtpfogalbnijcoaaGreatEvJ
open List renaming append_nil->asm,getElem?_map->asi,getElem?_eq_some_iff->ar3,getElem?_take->asD,getElem?_drop->atF,mem_of_getElem?->ash,take_take->avX,getElem?_eq_getElem->ar2,getElem_mem->ar5,range->atD,getElem?_range->auL,all_eq_true->asl,flatMap_cons->auv,drop_of_length_le->asJ,getElem?_append_left->asd,getElem?_append_right->asz,mem_append->asn,mem_of_mem_take->atA,mem_of_mem_drop->auD,length_eq_one_iff->au5,getElem?_of_mem->atP,mem_flatMap->aud
open Option.some renaming injEq->ar6
open Bool renaming and_eq_true->ar4
open Nat renaming ble_eq->atJ,mul_le_mul_right->asx,add_mul->asE,le_refl->ar8,zero_le->asT,beq_eq->asK
open Option renaming map_eq_some_iff->ar9,bind_eq_some_iff->aso,getD_some->asW,map_some->asy
open Option renaming some->aa,none->ah
open Bool renaming true->ab,false->af
set_option linter.all false
namespace Go.Ev
variable{P:Program}{N:Nat}{σ ao:St}{R R':Rs}{φ aL:Ph}{E:Nat->Env}{ν:List IV}{L:List (LO SE)}{Γ:Gm SE}
variable{C:Cr}{Q:IV->Prop}{K:List (List IV->Prop)}{V:SS}{d:Nat}{o:Oper}{k:PV SE->SS->ak}
theorem bZ{fr:Bool}{x:IV}{v:Value}(h:bn fr R σ x (.raw v)):x=.raw v:=by cases h<;>rfl
theorem Pk{fr:Bool}:∀{cs ds:List IV} {us:List Value},gl ds=aa us->cs.length=ds.length->(∀(i:Nat) c e,cs[i]?=aa c->ds[i]?=aa e->bn fr R σ c e)->cs=ds
 |[],[],_,_,_,_=>rfl
 |c::cs,e::ds,us,hr,hl,h=>by
  simp only[gl]at hr;split at hr
  ·rename_i v;split at hr
   ·rename_i vs gY;have h0:=bZ (h 0 c (.raw v) rfl rfl);have h1:cs=ds:=Pk gY (by simpa using hl) λi c e h1 h2=>h (i+1) c e (by simpa using h1) (by simpa using h2);rw[h0,h1]
   ·cases hr
  ·cases hr
 |[],_::_,_,_,hl,_=>by simp at hl
 |_::_,[],_,_,hl,_=>by simp at hl
theorem LR{fr:Bool}{x a:IV}{u:Value}(h:bn fr R σ x a)(ha:pd a=aa u):x=a:=by
 cases h with
 |raw v=>rfl
 |agg cs ds hl hh=>
  simp only[pd]at ha;split at ha
  ·rename_i vs gY;rw[Pk gY hl hh]
  ·cases ha
 |pure x hf hp=>rfl
 |nil|emp|di|az|sl=>simp[pd]at ha
theorem Ch{fr:Bool}{x a:IV}{u:Value}(h:bn fr R σ x a)(ha:iG a=aa u):x=a:=by
 cases h with
 |di t x y hh=>
  simp only[iG]at ha;split at ha
  ·rename_i hu;rw[LR hh hu]
  ·cases ha
 |raw v=>rfl
 |agg cs ds hl hh=>exact LR (.agg cs ds hl hh) ha
 |pure x hf hp=>rfl
 |nil|emp|az|sl=>simp[iG,pd]at ha
theorem Ci{y:IV}{n:Int}(h:gh y=aa n):∃q,y=.raw (.int q n):=by
 unfold gh at h;split at h
 ·cases h;exact⟨_,rfl⟩
 ·cases h
theorem J.A7(h:J (au P ν) R φ Γ L E σ):iH (λ_=>ah) ⟨0,.lf⟩ R σ:=⟨λ_ _ h=>(by cases h),λ_ _ _ _ _ h=>(by cases h),h.fits⟩
def c8(P:Program)(C:Cr)(Q:IV->Prop)(K:List (List IV->Prop))(ν:List IV)(E:Nat->Env)(lv:Nat×Nat)(k:PV SE->SS->ak)(res:IV->St->Prop):Prop:=
 ∃x aq R1 dA pv V1 μ,res x aq/\J (au P (ν++μ)) R1 dA V1.g V1.l E aq/\VR (au P (ν++μ)) R1 dA V1.l aq x pv/\(ν++μ).length=V1.n/\V1.ln=lv/\(k pv V1).sat P C Q K (ν++μ)
theorem c8.here{x:IV}{aq:St}{pv:PV SE}{V1:SS}{lv:Nat×Nat}{res:IV->St->Prop}(h1:res x aq)(h2:J (au P ν) R φ V1.g V1.l E aq)(h3:VR (au P ν) R φ V1.l aq x pv)(h4:ν.length=V1.n)(h5:V1.ln=lv)
 (h6:(k pv V1).sat P C Q K ν):c8 P C Q K ν E lv k res:=
 ⟨x,aq,R,φ,pv,V1,[],h1,by rw[asm];exact h2,by rw[asm];exact h3,by rw[asm];exact h4,h5,by rw[asm];exact h6⟩
theorem c8.at{x:IV}{aq:St}{c:Cl SE}{V1:SS}{lv:Nat×Nat}{res:IV->St->Prop}(h6:(k (.one c) V1).sat P C Q K ν)(h2:J (au P ν) R φ V1.g V1.l E aq)(h4:ν.length=V1.n)(h5:V1.ln=lv)(h3:cD (au P ν) R φ V1.l aq x c)(h1:res x aq):
 c8 P C Q K ν E lv k res:=.here (pv:=.one c) h1 h2 h3 h4 h5 h6
abbrev bK(P:Program)(E:Nat->Env)(d:Nat)(o:Oper)(σ:St):IV->St->Prop:=λx aq=>av P 0 (ax (E d)) o σ=aa (.val x aq)
variable(hJ:J (au P ν) R φ V.g V.l E σ)(hn:ν.length=V.n)
include hJ hn
theorem X_{x:Operand}(ho:o.op=.move x\/o.op=.assign x)(hs:(fI P d o V k).sat P C Q K ν):c8 P C Q K ν E V.ln k (bK P E d o σ):=by
 have bt:(k (bN P d V o.type x) V).sat P C Q K ν:=by
  rcases ho with ho|ho<;>(unfold fI at hs;rw[ho]at hs;exact hs)
 refine .here (x:=ax (E d) x) (aq:=σ) ?_ hJ (bo hJ d o.type x) hn rfl bt;rcases ho with ho|ho<;>simp[bK,av,ho,ret]
theorem Pl{x:IV}{t:Bool}(hx:VR (au P ν) R φ V.l σ x (.one (.v (.b t)))):x=.raw (.bool t):=by
 obtain⟨y,h1,h2,_⟩:=hx;simp only[au,SE.den,ar6]at h1;subst h1;exact bZ h2
theorem aa8{c a b:Operand}(ho:o.op=.pick c a b)(hs:(fI P d o V k).sat P C Q K ν):c8 P C Q K ν E V.ln k (bK P E d o σ):=by
 unfold fI at hs;rw[ho]at hs;simp only at hs;have hc:=bo hJ d 0 c;split at hs
 ·rename_i hh;rw[hh]at hc;have:=Pl hJ hn hc;refine .here (x:=ax (E d) a) (aq:=σ) ?_ hJ (bo hJ d o.type a) hn rfl hs;simp[bK,av,ho,this,ret]
 ·rename_i hh;rw[hh]at hc;have:=Pl hJ hn hc;refine .here (x:=ax (E d) b) (aq:=σ) ?_ hJ (bo hJ d o.type b) hn rfl hs;simp[bK,av,ho,this,ret]
 ·exact hs.elim
theorem LS{cs:List (Cl SE)}{cE:List IV}(hc:All2 (cD (au P ν) R φ V.l σ) cE cs):
 J (au P ν) R (bV φ V.l.length σ.n) V.g (V.l++[.var cs]) E (σ.add (.cells cE 0 0))/\VR (au P ν) R (bV φ V.l.length σ.n) (V.l++[.var cs]) (σ.add (.cells cE 0 0)) (.ptr σ.n 0 0 cE.length) (.one (.pt V.l.length 0 cs.length)):=by
 have hs:=Fu hJ (.cells cE 0 0) (.var cs);refine⟨hJ.yf (.cells cE 0 0) (.var cs) ⟨σ.n,cE,by simp[bV],hJ.q6,by simp,hc.mono λ_ _ bR=>bR.step hs (Cl.a_ _)⟩,⟨σ.n,cs,by simp[bV],by simp,by rw[hc.len]⟩⟩
theorem Ya{t:TypeId}(ho:o.op=.alloc t)(hs:(fI P d o V k).sat P C Q K ν):c8 P C Q K ν E V.ln k (bK P E d o σ):=by
 unfold fI at hs;rw[ho]at hs;simp only at hs;split at hs
 ·exact hs.elim
 ·rename_i hz;cases vW:cw P t with
  |none=>rw[vW]at hz;simp at hz
  |some z=>
   have hc:=mL (ν:=ν) (R:=R) (φ:=φ) (L:=V.l) (σ:=σ) vW;obtain⟨h1,h2⟩:=LS hJ hn hc;refine .here (V1:={V with l:=V.l++[.var (zeroCells P t)]}) ?_ h1 h2 hn rfl hs;simp[bK,av,ho,vW,ret]
theorem aen{t:TypeId}{x:Operand}(ho:o.op=.box t x)(hs:(fI P d o V k).sat P C Q K ν):c8 P C Q K ν E V.ln k (bK P E d o σ):=by
 unfold fI at hs;rw[ho]at hs;simp only at hs;split at hs
 ·exact hs.elim
 ·rename_i hu;have y8:rX (ey (bN P d V t x))=ab:=by simpa using hu
  have hc:=zy (bo hJ d t x) y8;obtain⟨h1,h2⟩:=LS hJ hn hc;refine .here (V1:={V with l:=V.l++[.var (ey (bN P d V t x))]}) ?_ h1 h2 hn rfl hs;have:=p_ hc y8;simp only[bK,av,ho,ret,this,if_true]
theorem Pm{x:Operand}(ho:o.op=.nilCheck x)(hs:(fI P d o V k).sat P C Q K ν):c8 P C Q K ν E V.ln k (bK P E d o σ):=by
 unfold fI at hs;rw[ho]at hs;simp only at hs;have hc:=bo hJ d 0 x;split at hs
 ·rename_i hh;rw[hh]at hc;refine .here (x:=ax (E d) x) (aq:=σ) ?_ hJ hc hn rfl hs;obtain⟨id,cs,_,_,h3⟩:=hc;simp[bK,av,ho,h3,ret]
 ·rename_i hh;exact hs.elim
 ·rename_i hh;rw[hh]at hc;refine .here (x:=ax (E d) x) (aq:=σ) ?_ hJ hc hn rfl hs;obtain⟨ds,h3,_⟩:=hc;simp[bK,av,ho,h3,ret]
 ·exact hs.elim
end Go.Ev
namespace Go.Ev
variable{P:Program}{N:Nat}{σ ao:St}{R R':Rs}{φ aL:Ph}{E:Nat->Env}{ν:List IV}
variable{C:Cr}{Q:IV->Prop}{K:List (List IV->Prop)}{V:SS}{d:Nat}{o:Oper}{k:PV SE->SS->ak}
theorem Wf{t:TypeId}(h:isAgg P t=ab):qF P t=aa ab:=by simpa[isAgg]using h
theorem Sy{t:TypeId}{b:Bool}(h:isAgg P t=af)(hb:qF P t=aa b):qF P t=aa af:=by
 cases b
 ·exact hb
 ·simp[isAgg,hb]at h
theorem A8{t:TypeId}{s off:Nat}{cs:List IV}(hs:aN P t=aa s)(hg:qF P t=aa ab)(hle:off+s<=cs.length):partOf P t cs off=aa (.agg ((cs.drop off).take s)):=by
 simp[partOf,hs,hg,hle]
theorem Ku{t:TypeId}{off:Nat}{cs:List IV}(hs:aN P t=aa 1)(hg:qF P t=aa af):partOf P t cs off=cs[off]? :=by
 simp[partOf,hs,hg]
theorem sG{L:List (LO SE)}{t:TypeId}{s off:Nat}{b:Bool}{cE:List IV}{cs:List (Cl SE)}{pv:PV SE}(hs:aN P t=aa s)(hb:qF P t=aa b)(hc:All2 (cD (au P ν) R φ L σ) cE cs)(hle:off+s<=cs.length)
 (qy:if isAgg P t=ab then pv=.ag ((cs.drop off).take s)else∃c,(cs.drop off).take s=[c]/\pv=.one c):∃x,partOf P t cE off=aa x/\VR (au P ν) R φ L σ x pv:=by
 have hl:=hc.len;split at qy
 ·rename_i ha;subst qy;exact⟨_,A8 hs (Wf ha) (by omega),_,rfl,(hc.drop off).take s⟩
 ·rename_i ha;obtain⟨c,h1,rfl⟩:=qy
  have hlen:s=1:=by
   have:=congrArg List.length h1;simp at this;omega
  subst hlen
  have h2:cs[off]?=aa c:=by
   have:((cs.drop off).take 1)[0]?=aa c:=by rw[h1];rfl
   simpa using this
  obtain⟨x,hx,hr⟩:=hc.Ak h2;exact⟨x,by rw[Ku hs (Sy (by simpa using ha) hb),hx],hr⟩
theorem IN{t:TypeId}{s:Nat}{cs:List (Cl SE)}(hs:((if isAgg P t=ab then(if Nat.beq cs.length s=ab then k (.ag cs) V else .fail 2)else match cs with|[c]=>k (.one c) V|_=>.fail 3):ak).sat P C Q K ν):
 ∃pv,(k pv V).sat P C Q K ν/\if isAgg P t=ab then pv=.ag cs else∃c,cs=[c]/\pv=.one c:=by
 split at hs
 ·rename_i ha;split at hs
  ·exact⟨_,hs,by rw[if_pos ha]⟩
  ·exact hs.elim
 ·rename_i ha;split at hs
  ·exact⟨_,hs,by rw[if_neg ha];exact⟨_,rfl,rfl⟩⟩
  ·exact hs.elim
variable(hJ:J (au P ν) R φ V.g V.l E σ)(hn:ν.length=V.n)
include hJ hn
theorem aa9{t:TypeId}{pa:PV SE}{x:IV}(hx:VR (au P ν) R φ V.l σ x pa)(hs:(VL P t pa V k).sat P C Q K ν):
 c8 P C Q K ν E V.ln k (λv aq=>aq=σ/\(∀d a,ax (E d) a=x->∀o:Oper,o.op=.load t a->av P 0 (ax (E d)) o σ=aa (.val v σ))):=by
 unfold VL at hs;split at hs
 ·exact hs.elim
 ·exact hs.elim
 ·rename_i s b aT uO;simp only at hs;split at hs
  ·rename_i j off ext;obtain⟨id,qt,h1,h2,rfl⟩:=hx;split at hs
   ·rename_i cs hj;rw[hj]at h2;cases h2;split at hs
    ·rename_i hle;simp only[ar4,atJ]at hle;obtain⟨pv,hk,qy⟩:=IN hs;obtain⟨bA,cE,h3,h4,h5,h6⟩:=hJ.obj j _ hj;rw[h1]at h3;cases h3;obtain⟨v,hv,hr⟩:=sG aT uO h6 hle.2 qy;refine .here (x:=v) (aq:=σ) ⟨rfl,λd a ha o ho=>?_⟩ hJ hr hn rfl hk;simp[av,ho,ha,aT,h5,hle.1,hv,ret]
    ·exact hs.elim
   ·exact hs.elim
  ·rename_i cs;obtain⟨ds,rfl,h1⟩:=hx;split at hs
   ·rename_i hle;rw[atJ]at hle;obtain⟨pv,hk,qy⟩:=IN hs;have hc:All2 (cD (au P ν) R φ V.l σ) ds (cs.map .v):=h1.map (f:=Cl.v) λ_ _ bR=>bR;obtain⟨v,hv,hr⟩:=sG (off:=0) aT uO hc (by simpa using hle) qy;refine .here (x:=v) (aq:=σ) ⟨rfl,λd a ha o ho=>?_⟩ hJ hr hn rfl hk;simp[av,ho,ha,hv,ret]
   ·exact hs.elim
  ·rename_i fr cs;split at hs
   ·rename_i hle;rw[atJ]at hle;obtain⟨pv,hk,qy⟩:=IN hs;obtain⟨bp,⟨hf,ds,rfl,h1⟩|⟨id,off,ep,m,cE,ay,mn,h1,h2,h3,h4,rfl,h6,h7,h8⟩⟩:=hx
    ·have hc:All2 (cD (au P ν) R φ V.l σ) ds (cs.map (.w fr)):=by
      refine(h1.xy (r':=λd c=>cD (au P ν) R φ V.l σ d (.w fr c)) λd c hc ⟨y,AT,It⟩=>?_).map (f:=Cl.w fr) λ_ _ bR=>bR;obtain⟨y',LU,hy4⟩:=bp c hc;rw[AT]at LU;cases LU;exact⟨y,AT,hf▸It.mono hJ.A7,hy4⟩
     obtain⟨v,hv,hr⟩:=sG (off:=0) aT uO hc (by simpa using hle) qy;refine .here (x:=v) (aq:=σ) ⟨rfl,λd a ha o ho=>?_⟩ hJ hr hn rfl hk;simp[av,ho,ha,hv,ret]
    ·have hc:All2 (cD (au P ν) R φ V.l σ) ((cE.drop off).take cs.length) (cs.map (.w fr)):=by
      refine .mk (by simp;omega) λi a b ha hb=>?_;rw[asi]at hb;obtain⟨c,hc,rfl⟩:=ar9.1 hb;have hi:=(ar3.1 hc).1;rw[asD,if_pos hi,atF]at ha;obtain⟨y,AT,It⟩:=h8 i a c hc ha;obtain⟨y',LU,hy4⟩:=bp c (ash hc);have aa_:c.den P ν=aa y:=AT;have agd:c.den P ν=aa y':=LU;rw[aa_]at agd;cases agd;exact⟨y,AT,It,hy4⟩
     obtain⟨v,hv,hr⟩:=sG (off:=0) aT uO hc (by simpa using hle) qy
     have Xr:partOf P t cE off=aa v:=by
      have hlen:s<=((cE.drop off).take cs.length).length:=by simp;omega
      cases b with
      |true=>
       rw[A8 aT uO (by simpa using hlen)]at hv;rw[A8 aT uO (by omega),<-hv];simp[avX,hle]
      |false=>
       have h1s:s=1:=by
        unfold partOf at hv;rw[uO,aT]at hv;simp only at hv;split at hv
        ·assumption
        ·cases hv
       subst h1s;rw[Ku aT uO]at hv⊢;rw[asD,if_pos (by omega),atF]at hv;exact hv
     refine .here (x:=v) (aq:=σ) ⟨rfl,λd a ha o ho=>?_⟩ hJ hr hn rfl hk;simp[av,ho,ha,aT,h2,hle,h3,h4,Xr,ret]
   ·exact hs.elim
  ·rename_i j i off ext;split at hs
   ·rename_i sz st cut fr es hj;split at hs
    ·rename_i hle;rw[atJ]at hle;obtain⟨pv,hk,qy⟩:=IN hs;obtain⟨s',lG,uF,c7,z',aF,y,n,id,cs,ay,mn,h1,h2,h3,h4,h5,h6,h7,h8,rfl⟩:=hx;rw[hj]at h1;cases h1;obtain⟨bE,gS,g1,g2,g3⟩:=hJ.obj j _ hj;have zk:es.den P ν=aa (.tree sz aF):=h2;have na:es.den P ν=aa (.tree sz gS):=g1;rw[zk]at na;cases na;rcases g3 with⟨g3,_⟩|⟨bA,cx,iC,pw,g3,g4,g5,g6,g7,g8,g9⟩
     ·rw[h7]at g3;cases g3
     ·rw[h7]at g3;cases g3;rw[h8]at g4;cases g4;have he:aF[n]?=aa aF[n]:=ar2 h5;have oc:=g2 _ (ar5 h5)
      have anN:dD sz (.tree sz aF) y=aa aF[n]:=by
       have hy:gh y=aa (n:Int):=by
        unfold nat? at h4;split at h4
        ·split at h4
         ·rename_i hq;cases h4;simp[gh];omega
         ·cases h4
        ·cases h4
       simp[dD,hy,he,oc]
      have Ib:n*sz+sz<=aF.length*sz:=by
       have:(n+1)*sz<=aF.length*sz:=asx sz h5;rw[asE]at this;omega
      have hc:All2 (cD (au P ν) R φ V.l σ) ((cs.drop (n*sz)).take sz) ((atD sz).map λq=>.w fr (.Ea sz es i q)):=by
       refine .mk (by simp;omega) λq a b ha hb=>?_;rw[asi]at hb;obtain⟨q',hq,rfl⟩:=ar9.1 hb;have CZ:q<sz:=by have:=(ar3.1 hq).1;simpa using this
       have:q'=q:=by rw[auL CZ]at hq;cases hq;rfl
       subst this;rw[asD,if_pos CZ,atF]at ha;have hd:(cellsOf aF[n])[q']?=aa (cellsOf aF[n])[q']:=ar2 (by omega);have hr:=g9 (n*sz+q') a _ ha (BN g2 he hd)
       have wo:Ev.aj a=ab:=by
        rw[asl]at g8;exact g8 a (ash ha)
       have bp:=hr.aem wo;refine⟨_,?_,hr,bp⟩;have IP:i.den P ν=aa y:=h3;simp[au,SE.den,zk,IP,anN,hd,yo,bp]
      obtain⟨v,hv,hr⟩:=sG (off:=off) aT uO hc (by simp;omega) qy
      have Xr:partOf P t cs (n*sz+off)=aa v:=by
       cases b with
       |true=>
        rw[A8 aT uO (by simp;omega)]at hv;rw[A8 aT uO (by omega),<-hv]
        congr 2
        rw[List.drop_take,List.drop_drop,avX]
        congr 1;omega
       |false=>
        have h1s:s=1:=by
         unfold partOf at hv;rw[uO,aT]at hv;simp only at hv;split at hv
         ·assumption
         ·cases hv
        subst h1s;rw[Ku aT uO]at hv⊢;rw[asD,if_pos (by omega),atF]at hv;exact hv
      refine .here (x:=v) (aq:=σ) ⟨rfl,λd a ha o ho=>?_⟩ hJ hr hn rfl hk;simp[av,ho,ha,aT,h8,hle,g5,Xr,ret]
    ·exact hs.elim
   ·exact hs.elim
  ·exact hs.elim
theorem aba{t:TypeId}{a:Operand}(ho:o.op=.load t a)(hs:(fI P d o V k).sat P C Q K ν):c8 P C Q K ν E V.ln k (bK P E d o σ):=by
 unfold fI at hs;rw[ho]at hs;simp only at hs;obtain⟨x,aq,R1,dA,pv,V1,μ,h0,h2⟩:=aa9 hJ hn (bo hJ d 0 a) hs;obtain⟨e0,h1⟩:=h0;subst e0;exact⟨x,aq,R1,dA,pv,V1,μ,h1 d a rfl o ho,h2⟩
end Go.Ev
namespace Go.Ev
variable{P:Program}{N:Nat}{σ ao:St}{R R':Rs}{φ aL:Ph}{E:Nat->Env}{ν:List IV}
variable{C:Cr}{Q:IV->Prop}{K:List (List IV->Prop)}{V:SS}{d:Nat}{o:Oper}{k:PV SE->SS->ak}
theorem LV{r:IV->Cl SE->Prop}{cE xs:List IV}{cs new:List (Cl SE)}(off:Nat)(h:All2 r cE cs)(k:All2 r xs new):All2 r (dw cE off xs) (AU cs off new):=by
 unfold dw AU;rw[k.len];exact((h.take off).app k).app (h.drop _)
theorem J.Yb{L:List (LO SE)}{Γ:Gm SE}(h:J (au P ν) R φ Γ L E σ){k id s ay mn:Nat}{cut fr c7:Bool}{z z':SE}{cs cx es aF:List IV}(hid:φ k=aa id)(hk:L[k]?=aa (.row s af cut fr z))(aE:σ.at id=aa (.cells cs ay mn))
 (hl:cx.length=cs.length)(hz:z.den P ν=aa (.tree s es))(pE:z'.den P ν=aa (.tree s aF))(hle:aF.length=es.length)(bH:∀e∈aF,(cellsOf e).length=s)(bp:cx.all Ev.aj=ab)
 (hc:∀(j:Nat) x d,cx[j]?=aa x->(flat aF)[j]?=aa d->bn c7 R σ x d):
 J (au P ν) R φ Γ (L.set k (.row s af cut c7 z')) E (σ.put id (.cells cx ay ay)):=by
 have oL:=c_ hk;have aZ:∀j,j≠k->(L.set k (.row s af cut c7 z'))[j]?=L[j]? :=λj hj=>List.getElem?_set_ne (λhc=>hj hc.symm);have bf:(L.set k (.row s af cut c7 z'))[k]?=aa (.row s af cut c7 z'):=by simp[oL]
 have Kd:∀j bA,j≠k->φ j=aa bA->bA≠id:=λj bA hj fO hc=>hj (h.inj j k id (by rw[<-hc];exact fO) hid);obtain⟨bE,gS,g1,g2,g3⟩:=h.obj k _ hk
 have BO:R id=ah/\es.length*s<=cs.length/\mn<=ay:=by
  rcases g3 with⟨g3,_⟩|⟨bA,cs2,tF,Dd,g3,g4,g5,g6,g7,_⟩
  ·rw[hid]at g3;cases g3
  ·rw[hid]at g3;cases g3;rw[aE]at g4;cases g4;have na:z.den P ν=aa (.tree s gS):=g1;rw[hz]at na;cases na;exact⟨by simpa using g7,g6,g5⟩
 have p7:iH R σ R (σ.put id (.cells cx ay ay)):=by
  refine⟨λ_ m hm=>⟨m,hm,ar8 _⟩,λbA m oa BP A6 hm qH=>?_,λbA m oa BP A6 hm qH=>?_⟩
  ·have:id≠bA:=λhc=>by rw[<-hc,BO.1]at hm;cases hm
   exact⟨oa,BP,by rw[St.cV,if_neg this];exact qH,ar8 _,λ_ _=>rfl⟩
  ·have:id≠bA:=λhc=>by rw[<-hc,BO.1]at hm;cases hm
   rw[St.cV,if_neg this]at qH;exact h.fits bA m oa BP A6 hm qH
 have hs:ky (au P ν) (au P ν) R φ L σ R φ (L.set k (.row s af cut c7 z')) (σ.put id (.cells cx ay ay)) (λ_=>False):=by
  refine⟨λ_ _ h=>h,p7,λj oa hj=>?_,λj kt eT hj=>?_,λj s1 sE r6 sF z1 hj _=>?_⟩
  ·by_cases bI:j=k
   ·subst bI;rw[hk]at hj;cases hj
   ·exact⟨⟨oa,by rw[aZ j bI];exact hj⟩,rfl⟩
  ·by_cases bI:j=k
   ·subst bI;rw[hk]at hj;cases hj
   ·exact⟨⟨eT,by rw[aZ j bI];exact hj⟩,rfl⟩
  ·by_cases bI:j=k
   ·subst bI;rw[hk]at hj;cases hj;refine⟨⟨af,c7,z',bf,λeT mh=>⟨aF,pE,?_⟩⟩,rfl,λid1 oa BP A6 Wg qH=>?_⟩
    ·have Pn:z.den P ν=aa (.tree s eT):=mh;rw[hz]at Pn;cases Pn;exact hle
    ·rw[hid]at Wg;cases Wg;rw[aE]at qH;cases qH;exact⟨cx,ay,by rw[St.cV,if_pos rfl],hl,λ_=>rfl⟩
   ·refine⟨⟨sE,sF,z1,by rw[aZ j bI];exact hj,λeT mh=>⟨eT,mh,rfl⟩⟩,rfl,λid1 oa BP A6 Wg qH=>⟨oa,A6,?_,rfl,λh=>h⟩⟩;rw[St.cV,if_neg (λhc=>Kd j id1 bI Wg hc.symm)];exact qH
 refine⟨λd t pv hg=>(h.slot d t pv hg).step hs pv.a_,λj o hj=>?_,h.inj,λj bA hj=>by simpa[St.put]using h.lt j bA hj,h.qw,p7.fits,h.wf.set _ _,λbA iY=>?_⟩
 ·by_cases bI:j=k
  ·subst bI;rw[bf]at hj;cases hj;refine⟨bE,aF,pE,bH,.inr ⟨id,cx,ay,ay,hid,by rw[St.cV,if_pos rfl],ar8 _,by rw[hl,hle];exact BO.2.1,by simpa using BO.1,bp,λj x d hx hd=>(hc j x d hx hd).mono p7⟩⟩
  ·rw[aZ j bI]at hj;exact(h.obj j o hj).step hs rfl (λbA iY=>⟨by rw[St.cV,if_neg (λhc=>Kd j bA bI iY hc.symm)],rfl⟩) o.a_
 ·have:=(h.lt _ _ hid).2;have Nw:σ.n<=bA:=iY;rw[St.cV,if_neg (by omega)];exact h.top bA Nw
theorem abb{s:Nat}{x:IV}:∀{es:List IV} (_:∀e∈es,(cellsOf e).length=s) {n:Nat},n<es.length->(cellsOf x).length=s->flat (es.set n x)=dw (flat es) (n*s) (cellsOf x):=by
 intro es;induction es with
 |nil=>intro _ n hn;simp at hn
 |cons a es ih=>
  intro bH n hn hx;have ha:(cellsOf a).length=s:=bH a (by simp);unfold dw;cases n with
  |zero=>
   simp only[List.set_cons_zero,flat,auv,Nat.zero_mul,List.take_zero,List.nil_append,Nat.zero_add];rw[hx,List.drop_append_of_le_length (by omega),asJ (by omega:(cellsOf a).length<=s)];simp
  |succ n=>
   have:=ih (λe he=>bH e (by simp[he])) (n:=n) (by simpa using hn) hx;simp only[List.set_cons_succ];unfold flat at this⊢;rw[auv,this];unfold dw
   rw[auv,hx,asE,Nat.one_mul,List.take_append,List.drop_append,ha,
    List.take_of_length_le (by omega:(cellsOf a).length<=n*s+s),asJ (by omega:(cellsOf a).length<=n*s+s+s),
    show n*s+s- s=n*s by omega,show n*s+s+s- s=n*s+s by omega]
   simp
theorem mO{α:Type}{cs new:List IV}{off j:Nat}(h:off+new.length<=cs.length):(dw cs off new)[j]?=if off<=j/\j<off+new.length then new[j- off]? else cs[j]? :=by
 unfold dw;have h1:(cs.take off).length=off:=by simp;omega
 rw[List.append_assoc];by_cases ha:j<off
 ·rw[asd (by omega),asD,if_pos ha,if_neg (by omega)]
 ·rw[asz (by omega),h1];by_cases hb:j<off+new.length
  ·rw[asd (by omega),if_pos ⟨by omega,hb⟩]
  ·rw[asz (by omega),if_neg (by omega),atF]
   congr 1;omega
theorem tW{cs new:List IV}{off:Nat}(h:off+new.length<=cs.length):(dw cs off new).length=cs.length:=by
 unfold dw;simp;omega
theorem xj{cs new:List IV}{off:Nat}{f:IV->Bool}(h1:cs.all f=ab)(h2:new.all f=ab):(dw cs off new).all f=ab:=by
 rw[asl]at h1 h2⊢;intro x hx;unfold dw at hx;rcases asn.1 hx with hx|hx
 ·rcases asn.1 hx with hx|hx
  ·exact h1 x (atA hx)
  ·exact h2 x hx
 ·exact h1 x (auD hx)
variable(hJ:J (au P ν) R φ V.g V.l E σ)(hn:ν.length=V.n)
include hJ hn
theorem Wh{t:TypeId}{a x:Operand}{j off ext:Nat}{cs:List (Cl SE)}(ho:o.op=.store t a x)(ha:bN P d V 0 a=.one (.pt j off ext))(hj:V.l[j]?=aa (.var cs))
 (h1:rX (ey (bN P d V t x))=ab)(h2:(ey (bN P d V t x)).length<=ext)(h3:off+(ey (bN P d V t x)).length<=cs.length)(h4:aN P t=aa (ey (bN P d V t x)).length)
 (hs:(k (.one .un) (V.setObj j (.var (AU cs off (ey (bN P d V t x)))))).sat P C Q K ν):c8 P C Q K ν E V.ln k (bK P E d o σ):=by
 have IQ:=bo hJ d 0 a;rw[ha]at IQ;obtain⟨id,qt,g1,g2,g3⟩:=IQ;obtain⟨bA,cE,g4,g5,g6,g7⟩:=hJ.obj j _ hj;rw[g1]at g4;cases g4;have hc:=zy (bo hJ d t x) h1;have dV:=hc.len;have yb:=g7.len
 obtain⟨dC,bD⟩:=hJ.tv (R':=R) (bad:=λ_=>False) (jY:=.var (AU cs off (ey (bN P d V t x)))) (eK:=.cells (dw cE off (cellsOf (ax (E d) x))) 0 0) g1 hj (λ_ _=>rfl)
  (λm hm=>by rw[g5]at hm;cases hm) (λm _ _ _ hm=>by rw[g5]at hm;cases hm) (λm _ _ _ hm=>by rw[g5]at hm;cases hm)
  (λ_ _=>⟨_,rfl⟩) (λ_ _ h=>by cases h) (λ_ _ _ _ _ h=>by cases h) (λ_ _ pv _=>pv.a_) (λ_ o _ _=>o.a_)
  (λdC=>⟨id,_,g1,g5,by rw[St.cV,if_pos rfl],(LV off g7 hc).mono λ_ _ bR=>bR.step dC (Cl.a_ _)⟩)
 refine .here (x:=.undef) (V1:=V.setObj j _) (pv:=.one .un) ?_ bD trivial hn rfl hs;have gZ:=p_ hc h1;simp only[bK,av,ho,g3,h4,g6,dV,ret];rw[if_pos ⟨asT _,trivial,h2,trivial,by omega,gZ⟩]
end Go.Ev
namespace Go.Ev
variable{P:Program}{N:Nat}{σ ao:St}{R R':Rs}{φ aL:Ph}{E:Nat->Env}{ν:List IV}
variable{C:Cr}{Q:IV->Prop}{K:List (List IV->Prop)}{V:SS}{d:Nat}{o:Oper}{k:PV SE->SS->ak}
theorem aeo{y:IV}{n:Nat}(h:nat? y=aa n):∃q,y=.raw (.int q n):=by
 unfold nat? at h;split at h
 ·split at h
  ·rename_i q m hq;cases h;exact⟨q,by simp;omega⟩
  ·cases h
 ·cases h
theorem GI{s:TypeId}{f off sz:Nat}(h:fieldAt P s f=aa (off,sz)):∃fields fd,P.underlying s=aa (.struct fields)/\fields[f]?=aa fd/\aN P fd.type=aa sz/\fd.offset=off:=by
 unfold fieldAt at h;split at h
 ·rename_i fields hu;split at h
  ·rename_i fd hf;split at h
   ·rename_i sz' hs;cases h;exact⟨fields,fd,hu,hf,hs,rfl⟩
   ·cases h
  ·cases h
 ·cases h
theorem LW{α:Type}{f:α->α->Bool}(h:∀a b,f a b=ab->a=b):∀{as bs:List α},lK f as bs=ab->as=bs
 |[],[],_=>rfl
 |a::as,b::bs,hh=>by
  simp only[lK,ar4]at hh;rw[h a b hh.1,LW h hh.2]
 |[],_::_,hh=>by cases hh
 |_::_,[],hh=>by cases hh
theorem SE.eq_eq:∀{a b:SE},a.eq b=ab->a=b:=by
 intro a;induction a with
 |var x=>intro c h;cases c<;>simp_all[SE.eq]
 |i x=>intro c h;cases c<;>simp_all[SE.eq]
 |k q x=>intro c h;cases c<;>simp_all[SE.eq,af3]
 |b x=>intro c h;cases c<;>simp_all[SE.eq]
 |s x=>intro c h;cases c<;>first|(simp[SE.eq]at h;done)|(simp only[SE.eq]at h;rw[LW (λa b h=>by simpa using h) h])
 |an=>intro c h;cases c<;>simp_all[SE.eq]
 |raw v=>intro c h;cases c<;>simp[SE.eq]at h
 |ok e ih=>intro c h;cases c<;>first|(simp[SE.eq]at h;done)|(simp only[SE.eq]at h;rw[ih h])
 |len e ih=>intro c h;cases c<;>first|(simp[SE.eq]at h;done)|(simp only[SE.eq]at h;rw[ih h])
 |rW e ih=>intro c h;cases c<;>first|(simp[SE.eq]at h;done)|(simp only[SE.eq]at h;rw[ih h])
 |tp e ih=>intro c h;cases c<;>first|(simp[SE.eq]at h;done)|(simp only[SE.eq]at h;rw[ih h])
 |rw e ih=>intro c h;cases c<;>first|(simp[SE.eq]at h;done)|(simp only[SE.eq]at h;rw[ih h])
 |bS e j ih=>intro c h;cases c<;>first|(simp[SE.eq]at h;done)|(simp only[SE.eq,ar4,asK]at h;rw[h.1,ih h.2])
 |proj e j ih=>intro c h;cases c<;>first|(simp[SE.eq]at h;done)|(simp only[SE.eq,ar4,asK]at h;rw[h.1,ih h.2])
 |tr q e ih=>intro c h;cases c<;>first|(simp[SE.eq]at h;done)|(simp only[SE.eq,ar4,asK]at h;rw[h.1,ih h.2])
 |un op e ih=>intro c h;cases c<;>first|(simp[SE.eq]at h;done)|(simp only[SE.eq,ar4,beq_iff_eq]at h;rw[h.1,ih h.2])
 |cv p q e ih=>intro c h;cases c<;>first|(simp[SE.eq]at h;done)|(simp only[SE.eq,ar4,asK]at h;rw[h.1.1,h.1.2,ih h.2])
 |idx q e x fv eN=>intro c h;cases c<;>first|(simp[SE.eq]at h;done)|(simp only[SE.eq,ar4,asK]at h;rw[h.1.1,fv h.1.2,eN h.2])
 |Ea q e x j fv eN=>intro c h;cases c<;>first|(simp[SE.eq]at h;done)|(simp only[SE.eq,ar4,asK]at h;rw[h.1.1.1,h.1.1.2,fv h.1.2,eN h.2])
 |ac e x fv eN=>intro c h;cases c<;>first|(simp[SE.eq]at h;done)|(simp only[SE.eq,ar4]at h;rw[fv h.1,eN h.2])
 |bin op t e x fv eN=>intro c h;cases c<;>first|(simp[SE.eq]at h;done)|(simp only[SE.eq,ar4,asK,beq_iff_eq]at h;rw[h.1.1.1,h.1.1.2,fv h.1.2,eN h.2])
 |mx q e x fv eN=>intro c h;cases c<;>first|(simp[SE.eq]at h;done)|(simp only[SE.eq,ar4,beq_iff_eq]at h;rw[h.1.1,fv h.1.2,eN h.2])
 |GF e x fv eN=>intro c h;cases c<;>first|(simp[SE.eq]at h;done)|(simp only[SE.eq,ar4]at h;rw[fv h.1,eN h.2])
 |dec q e x fv eN=>intro c h;cases c<;>first|(simp[SE.eq]at h;done)|(simp only[SE.eq,ar4,asK]at h;rw[h.1.1,fv h.1.2,eN h.2])
 |sx|rws|cat|has|Eb|sub|OV|Hl|ins|get=>intro c h;cases c<;>simp[SE.eq]at h
theorem Po{o:Option (LO SE)}{s:Nat}{cut fr:Bool}{es:SE}(h:Ny o s cut fr es=ab):o=aa (.row s af cut fr es):=by
 unfold Ny at h;split at h
 ·simp only[ar4,asK,beq_iff_eq]at h;rw[h.1.1.1,h.1.1.2,h.1.2,SE.eq_eq h.2]
 ·cases h
theorem pF{e:SE}{z:IV}(h:(SE.ok e).den P ν=aa z):e.den P ν=aa z/\Ev.aj z=ab:=by
 simp only[SE.den,aso]at h;obtain⟨y,h1,h2⟩:=h;unfold yo at h2;split at h2
 ·cases h2;exact⟨h1,by assumption⟩
 ·cases h2
variable(hJ:J (au P ν) R φ V.g V.l E σ)(hn:ν.length=V.n)
include hJ hn
theorem Wi{t:TypeId}{a x:Operand}{j s off ext:Nat}{i es:SE}{cut fr f:Bool}{zs:List SE}{V2:SS}(ho:o.op=.store t a x)(ha:bN P d V 0 a=.one (.pr j i off ext))(hj:V.l[j]?=aa (.row s af cut fr es))
 (h0:off=0)(h2:(ey (bN P d V t x)).length=s)(h3:s=ext)(aT:aN P t=aa s)(Yc:rX (ey (bN P d V t x))=ab)(jC:tz V (ey (bN P d V t x))=aa (f,zs,V2))(zg:V2.l[j]?=aa (.row s af cut fr es))
 (Dg:isAgg P t=ab\/s=1)
 (hs:(newVar V2 (.Eb s es i (if isAgg P t then dT zs else zs.headD .an)) λz V=>k (.one .un) (V.setObj j (.row s af cut (fr||f) z))).sat P C Q K ν):c8 P C Q K ν E V.ln k (bK P E d o σ):=by
 subst h0 h3;obtain⟨R',ct,eU,Tj,Hv⟩:=uL hJ jC;have IQ:=bo hJ d 0 a;rw[ha]at IQ;have abc:=ct.LQ (x:=ax (E d) a) (c:=.pr j i 0 s) IQ;obtain⟨s',lG,uF,c7,z',aF,y,n,id,cs,ay,mn,a1,a2,a3,a4,a5,a6,a7,a8,a9⟩:=abc;rw[zg]at a1;cases a1;obtain⟨bE,gS,g1,g2,g3⟩:=eU.obj j _ zg;have sH:es.den P ν=aa (.tree s aF):=a2;have na:es.den P ν=aa (.tree s gS):=g1;rw[sH]at na;cases na;rcases g3 with⟨g3,_⟩|⟨bA,cx,iC,pw,g3,g4,g5,g6,g7,g8,g9⟩
 ·rw[a7]at g3;cases g3
 rw[a7]at g3;cases g3;rw[a8]at g4;cases g4;have hc:=zy (bo hJ d t x) Yc;obtain⟨ys,b1,b2,b3⟩:=Hv _ hc;have Pp:(cellsOf (ax (E d) x)).length=s:=by rw[hc.len,h2]
 have GJ:ys.length=s:=by rw[<-b1.len,Tj,h2]
 obtain⟨ze,Yd,Gr⟩:∃ze,(if isAgg P t=ab then dT zs else zs.headD .an).den P ν=aa ze/\cellsOf ze=ys:=by
  split
  ·exact⟨_,eB b1,rfl⟩
  ·rename_i Xt;have dC:s=1:=Dg.resolve_left Xt;have Pq:ys.length=1:=by omega
   obtain⟨y0,rfl⟩:=au5.1 Pq;obtain⟨z0,rfl⟩:=au5.1 (b1.len.trans Pq);refine⟨y0,b1.1,?_⟩;have:Ev.aj y0=ab:=by simpa using b3
   cases y0<;>first|rfl|(simp[Ev.aj]at this;done)
 obtain⟨anO,IS,hk⟩:=hs
 have r7:(SE.Eb s es i (if isAgg P t=ab then dT zs else zs.headD .an)).den P ν=aa (.tree s (aF.set n ze)):=by
  simp only[SE.den,aso]at IS⊢;have a3':i.den P ν=aa y:=a3;refine⟨_,sH,y,a3',ze,Yd,?_⟩;obtain⟨q,rfl⟩:=aeo a4;simp[X6,gh,a5,Gr,GJ]
 rw[r7]at IS;cases IS
 have U9:n*s+s<=aF.length*s:=by
  have:(n+1)*s<=aF.length*s:=asx s a5;rw[asE]at this;omega
 have ux:=eU.up (ia:=au P (ν++[.tree s (aF.set n ze)])) (λe z h=>SE.cU P e h)
 have ig:(SE.var V2.n).den P (ν++[.tree s (aF.set n ze)])=aa (.tree s (aF.set n ze)):=by
  have:V2.n=ν.length:=by rw[hn];exact ct.2.1
  simp[SE.den,this]
 have Ye:=ux.Yb (c7:=fr||f) (z':=.var V2.n) (cx:=dw cs (n*s) (cellsOf (ax (E d) x))) a7 zg a8 (tW (by omega)) (SE.cU P es sH) ig (by simp)
  (λe he=>by
   rcases List.mem_or_eq_of_mem_set he with he|rfl
   ·exact g2 e he
   ·rw[Gr,GJ])
  (xj g8 (p_ hc Yc))
  (λq u v hu hv=>by
   rw[abb g2 a5 (by rw[Gr,GJ])]at hv;rw[mO (α:=IV) (by omega)]at hu;rw[mO (α:=IV) (by rw[nD g2,Gr,GJ];exact U9)]at hv;rw[Pp]at hu;rw[Gr,GJ]at hv;by_cases hq:n*s<=q/\q<n*s+s
   ·rw[if_pos hq]at hu hv;exact(b2.get hu hv).wide (λh=>by simp[h])
   ·rw[if_neg hq]at hu hv;exact(g9 q u v hu hv).wide (λh=>by simp[h]))
 refine⟨.undef,σ.put id (.cells (dw cs (n*s) (cellsOf (ax (E d) x))) ay ay),R',φ,.one .un,({V2 with n:=V2.n+1}:SS).setObj j (.row s af cut (fr||f) (.var V2.n)),[.tree s (aF.set n ze)],?_,Ye,trivial,?_,ct.2.2.1,hk⟩
 ·have gZ:=p_ hc Yc;simp only[bK,av,ho,a9,aT,a8,Pp,ret,Nat.add_zero];rw[if_pos ⟨asT _,trivial,ar8 _,trivial,by omega,gZ⟩]
 ·show(ν++[_]).length=V2.n+1;simp[hn,ct.2.1]
theorem Yf{t:TypeId}{a x:Operand}(ho:o.op=.store t a x)(hs:(fI P d o V k).sat P C Q K ν):c8 P C Q K ν E V.ln k (bK P E d o σ):=by
 unfold fI at hs;rw[ho]at hs;simp only at hs;split at hs
 ·rename_i j off ext ha;split at hs
  ·rename_i cs hj;split at hs
   ·rename_i hc;simp only[ar4,atJ,beq_iff_eq]at hc;exact Wh hJ hn ho ha hj hc.1.1.1 hc.1.1.2 hc.1.2 hc.2 hs
   ·exact hs.elim
  ·exact hs.elim
 ·rename_i j i off ext ha;split at hs
  ·rename_i s cut fr es hj;split at hs
   ·rename_i hc;simp only[ar4,asK,beq_iff_eq,Bool.or_eq_true]at hc;split at hs
    ·rename_i f zs V2 jC;split at hs
     ·rename_i zg;obtain⟨⟨⟨⟨⟨c1,c2⟩,c3⟩,c4⟩,c5⟩,c6⟩:=hc;exact Wi hJ hn ho ha hj c1 c2 c3 c4 c5 jC (Po zg) c6 hs
     ·exact hs.elim
    ·exact hs.elim
   ·exact hs.elim
  ·exact hs.elim
 ·exact hs.elim
theorem No{s:TypeId}{x:Operand}{f:Nat}(ho:o.op=.fieldAddr s x f)(hs:(fI P d o V k).sat P C Q K ν):c8 P C Q K ν E V.ln k (bK P E d o σ):=by
 unfold fI at hs;rw[ho]at hs;simp only at hs;have hx:=bo hJ d 0 x;split at hs
 ·rename_i fo sz hf;obtain⟨fields,fd,h1,h2,h3,rfl⟩:=GI hf;split at hs
  ·exact hs.elim
  ·rename_i hz;have pE:sz≠0:=by simpa[asK]using hz
   split at hs
   ·rename_i j off ext hh;split at hs
    ·rename_i hle;rw[atJ]at hle;rw[hh]at hx;obtain⟨id,cs,g1,g2,g3⟩:=hx;exact .at hs hJ hn rfl ⟨id,cs,g1,g2,rfl⟩ (by simp[bK,av,ho,g3,h1,h2,h3,pE,hle,ret])
    ·exact hs.elim
   ·rename_i cs hh;split at hs
    ·rename_i hle;rw[atJ]at hle;rw[hh]at hx;obtain⟨ds,g1,g2⟩:=hx;have hl:=g2.len;exact .at hs hJ hn rfl ⟨_,rfl,(g2.drop _).take _⟩ (by simp[bK,av,ho,g1,h1,h2,h3,pE,hl,hle,ret])
    ·exact hs.elim
   ·rename_i fr cs hh;split at hs
    ·rename_i hle;rw[atJ]at hle;rw[hh]at hx;obtain⟨g0,⟨El,ds,g1,g2⟩|⟨id,off,ep,m,cE,ay,mn,a1,a2,a3,a4,a5,a6,a7,a8⟩⟩:=hx
     ·have hl:=g2.len;exact .at hs hJ hn rfl ⟨λc hc=>g0 c (auD (atA hc)),.inl ⟨El,_,rfl,(g2.drop _).take _⟩⟩ (by simp[bK,av,ho,g1,h1,h2,h3,pE,hl,hle,ret])
     ·have hlen:((cs.drop fd.offset).take sz).length=sz:=by simp;omega
      refine .at (x:=.ptr id (off+fd.offset) ep sz) hs hJ hn rfl ⟨λc hc=>g0 c (auD (atA hc)),.inr ⟨id,off+fd.offset,ep,m,cE,ay,mn,a1,a2,a3,a4,by rw[hlen],by rw[hlen];omega,a7,λj c e he hc=>?_⟩⟩ (by simp[bK,av,ho,a5,h1,h2,h3,pE,hle,ret]);rw[asD]at he;split at he
      ·rw[atF]at he;exact a8 _ c e he (by rw[show off+(fd.offset+j)=off+fd.offset+j by omega];exact hc)
      ·cases he
    ·exact hs.elim
   ·rename_i j i off ext hh;split at hs
    ·rename_i hle;rw[atJ]at hle;rw[hh]at hx;obtain⟨s',lG,uF,c7,z',aF,y,n,id,cs,ay,mn,a1,a2,a3,a4,a5,a6,a7,a8,a9⟩:=hx;exact .at hs hJ hn rfl ⟨s',lG,uF,c7,z',aF,y,n,id,cs,ay,mn,a1,a2,a3,a4,a5,by omega,a7,a8,rfl⟩ (by simp[bK,av,ho,a9,h1,h2,h3,pE,hle,ret,Nat.add_assoc])
    ·exact hs.elim
   ·exact hs.elim
 ·exact hs.elim
end Go.Ev
namespace Go.Ev
variable{P:Program}{N:Nat}{σ ao:St}{R R':Rs}{φ aL:Ph}{E:Nat->Env}{ν:List IV}
variable{C:Cr}{Q:IV->Prop}{K:List (List IV->Prop)}{V:SS}{d:Nat}{o:Oper}{k:PV SE->SS->ak}
def yw(P:Program)(t:TypeId)(s:Nat)(e:SE):List (SE):=if isAgg P t then(atD s).map (λj=>.bS e j)else[.ok e]
theorem Ar{z:IV}(h:Ev.aj z=ab):cellsOf z=[z]:=by
 cases z<;>first|rfl|(simp[Ev.aj]at h;done)
theorem Pr{t:TypeId}{s:Nat}{e:SE}{z:IV}{f:ak}(aT:aN P t=aa s)(hz:e.den P ν=aa z)(hs:(rp P t e f).sat P C Q K ν):
 f.sat P C Q K ν/\All2 (λy (c:SE)=>c.den P ν=aa y/\Ev.aj y=ab) (cellsOf z) (yw P t s e)/\(isAgg P t=ab->∃ys,z=.agg ys):=by
 unfold rp at hs;unfold yw;split at hs
 ·rename_i ha;rw[if_pos ha];obtain⟨⟨y,hy⟩,hk⟩:=hs;refine⟨hk,?_⟩;simp only[SE.den,hz,aT,Option.bind_some,asW]at hy;split at hy
  ·rename_i cs;split at hy
   ·rename_i hc;refine⟨.mk (by simp[cellsOf,hc.1]) λi a b h1 h2=>?_,λ_=>⟨cs,rfl⟩⟩;have hi:=(ar3.1 h1).1;have cW:i<cs.length:=hi;rw[asi,auL (by omega)]at h2;simp only[asy,ar6]at h2;subst h2;have bp:Ev.aj a=ab:=(asl.1 hc.2) a (ash h1);have cZ:cs[i]?=aa a:=h1;exact⟨by simp[SE.den,hz,cZ,yo,bp],bp⟩
   ·cases hy
  ·cases hy
 ·rename_i ha;rw[if_neg ha];obtain⟨⟨y,hy⟩,hk⟩:=hs;obtain⟨h1,h2⟩:=pF hy;rw[hz]at h1;cases h1;rw[Ar h2];exact⟨hk,⟨⟨hy,h2⟩,trivial⟩,λh=>absurd h ha⟩
theorem Kv{s:Nat}{z i:SE}{e:IV}(h:(SE.idx s z i).den P ν=aa e):∃es y n,z.den P ν=aa (.tree s es)/\i.den P ν=aa y/\(∃q,y=.raw (.int q (n:Nat)))/\es[n]?=aa e/\(cellsOf e).length=s:=by
 simp only[SE.den,aso]at h;obtain⟨a,h1,b,h2,h3⟩:=h;unfold dD at h3;split at h3
 ·rename_i s' es;split at h3
  ·rename_i n hn;split at h3
   ·rename_i hc;split at h3
    ·rename_i x hx;split at h3
     ·rename_i hl;cases h3;obtain⟨rfl,h0⟩:=hc;obtain⟨q,rfl⟩:=Ci hn;exact⟨es,_,n.toNat,h1,h2,⟨q,by simp;omega⟩,hx,hl⟩
     ·cases h3
    ·cases h3
   ·cases h3
  ·cases h3
 ·cases h3
theorem Yg{x:IV}{s:Nat}{es:List IV}(h:iD x (.tree s es))(aZ:es≠[]):x=.tree s es/\Pure x:=by
 cases h with
 |nil=>exact absurd rfl aZ
 |emp=>exact absurd rfl aZ
 |pure _ _ hp=>exact⟨rfl,hp⟩
 |sl _ _ _ _ _ _ _ _ _ _ _ hR=>cases hR
theorem age{α:Type}{l:List α}{i:Nat}{a:α}(h:l[i]?=aa a):l≠[]:=by intro hl;rw[hl]at h;simp at h
theorem LX{α β:Type}{r:α->β->Prop}{q:α->β->Prop}{as:List α}{bs:List β}(h:All2 r as bs)(hq:∀a b,a∈as->r a b->q a b):All2 q as bs:=
 .mk h.len λ_ a b h1 h2=>hq a b (ash h1) (h.get h1 h2)
variable(hJ:J (au P ν) R φ V.g V.l E σ)(hn:ν.length=V.n)
include hJ hn
theorem qi{e:SE}{f:SE->SS->ak}(hs:(newVar V e f).sat P C Q K ν):∃z,e.den P ν=aa z/\(f (.var V.n) {V with n:=V.n+1}).sat P C Q K (ν++[z])/\(SE.var V.n).den P (ν++[z])=aa z/\J (au P (ν++[z])) R φ V.g V.l E σ/\(ν++[z]).length=V.n+1:=by
 obtain⟨z,h1,h2⟩:=hs;exact⟨z,h1,h2,by simp[SE.den,<-hn],hJ.up λe z h=>SE.cU P e h,by simp[hn]⟩
theorem Np{t:TypeId}{x ix:Operand}(ho:o.op=.indexAddr t x ix)(hs:(fI P d o V k).sat P C Q K ν):c8 P C Q K ν E V.ln k (bK P E d o σ):=by
 unfold fI at hs;rw[ho]at hs;simp only at hs;have hx:=bo hJ d t x;have hi:=bo hJ d 3 ix;split at hs
 ·rename_i et i hu LY;rw[LY]at hi;split at hs
  ·rename_i s aT;split at hs
   ·rename_i z hh;rw[hh]at hx;obtain⟨e,h1,h2,hv,LZ,C6⟩:=qi hJ hn hs;obtain⟨es,y,n,g1,g2,⟨q,rfl⟩,g4,g5⟩:=Kv h1;obtain⟨y',a1,a2,a3⟩:=hx;have wF:z.den P ν=aa y':=a1;rw[g1]at wF;cases wF;obtain⟨hxe,hp⟩:=Yg a2 (age g4);obtain⟨yi,b1,b2,b3⟩:=hi;have wG:i.den P ν=aa yi:=b1;rw[g2]at wG;cases wG;have uu:=bZ b2;obtain⟨hk,iP,_⟩:=Pr aT hv h2
    have DT:∀c∈cellsOf e,Pure c:=by
     rw[hxe]at hp;cases hp with|tree _ _ hh=>exact hh e (ash g4)
    refine⟨.lp (cellsOf e),σ,R,φ,.one (.tp (yw P et s (.var V.n))),{V with n:=V.n+1},[e],?_,LZ,⟨_,rfl,LX iP λa b ha bR=>⟨a,bR.1,.pure a rfl (DT a ha),bR.2⟩⟩,C6,rfl,hk⟩;simp[bK,av,ho,hu,hxe,uu,aT,g4,g5,ret]
   ·rename_i fr z hh;rw[hh]at hx;obtain⟨e,h1,h2,hv,LZ,C6⟩:=qi hJ hn hs;obtain⟨es,y,n,g1,g2,⟨q,rfl⟩,g4,g5⟩:=Kv h1;obtain⟨y',a1,a2,a3⟩:=hx;have wF:z.den P ν=aa y':=a1;rw[g1]at wF;cases wF;obtain⟨yi,b1,b2,b3⟩:=hi;have wG:i.den P ν=aa yi:=b1;rw[g2]at wG;cases wG;have uu:=bZ b2;obtain⟨hk,iP,_⟩:=Pr aT hv h2
    have hg0:∀c∈yw P et s (.var V.n),∃y,c.den P (ν++[e])=aa y/\Ev.aj y=ab:=by
     intro c hc;obtain⟨j,hj⟩:=atP hc;obtain⟨a,_,bR⟩:=iP.Ak hj;exact⟨a,bR⟩
    generalize hex:ax (E d) x=xv at a2;generalize L0:IV.tree s es=zt at a2;cases a2 with
    |nil s' bt=>injection L0 with h1 h2;subst h2;simp at g4
    |emp s' bt=>injection L0 with h1 h2;subst h2;simp at g4
    |pure _ hf hp=>
     subst L0
     have DT:∀c∈cellsOf e,Pure c:=by
      cases hp with|tree _ _ hh=>exact hh e (ash g4)
     refine⟨.lp (cellsOf e),σ,R,φ,.one (.tw fr (yw P et s (.var V.n))),{V with n:=V.n+1},[e],?_,LZ,⟨hg0,.inl ⟨hf,_,rfl,LX iP λa b ha bR=>⟨a,bR.1,.pure a rfl (DT a ha)⟩⟩⟩,C6,rfl,hk⟩;simp[bK,av,ho,hu,hex,uu,aT,g4,g5,ret]
    |sl id off len cap ep s' m cs ay mn aF hR aE cZ zk bt hl hb hm bH hh=>
     injection L0 with mP IT
     subst mP IT hl;have ai:=(ar3.1 g4).1;have hlen:(yw P et s (.var V.n)).length=s:=by rw[<-iP.len,g5]
     have fg:n*s+s<=es.length*s:=by
      have:(n+1)*s<=es.length*s:=asx s ai;rw[asE]at this;omega
     refine⟨.ptr id (off+n*s) ep s,σ,R,φ,.one (.tw fr (yw P et s (.var V.n))),{V with n:=V.n+1},[e],?_,LZ,⟨hg0,.inr ⟨id,off+n*s,ep,m,cs,ay,mn,hR,aE,cZ,zk,by rw[hlen],by rw[hlen];omega,hm,λj c ce qW hc=>?_⟩⟩,C6,rfl,hk⟩
     ·simp[bK,av,ho,hu,hex,uu,aT,ai,ret]
     ·obtain⟨a,ha,bR⟩:=iP.Ak qW;exact⟨a,bR.1,hh n e j c a g4 ha (by rw[show off+n*s+j=off+(n*s)+j by omega]at hc;exact hc)⟩
    |raw v=>cases L0
    |di=>cases L0
    |agg=>cases L0
    |az=>cases L0
   ·rename_i j hh;rw[hh]at hx;split at hs
    ·rename_i s' st cut fr aF hj;split at hs
     ·rename_i ir;have uP:=Nat.eq_of_beq_eq_true ir;subst uP;obtain⟨⟨e,h1⟩,hk⟩:=hs;obtain⟨es,y,n,g1,g2,⟨q,rfl⟩,g4,g5⟩:=Kv h1;obtain⟨yi,b1,b2,b3⟩:=hi;have wG:i.den P ν=aa yi:=b1;rw[g2]at wG;cases wG;have uu:=bZ b2;have ai:=(ar3.1 g4).1;obtain⟨s2,X8,abd,X9,z2,gS,a1,a2,a3⟩:=hx;rw[hj]at a1;cases a1;have sH:aF.den P ν=aa (.tree s gS):=a2;rw[g1]at sH;cases sH;rcases a3 with⟨_,c2,_⟩|⟨id,cs,ay,mn,cap,c1,c2,c3,c4,c5,c6⟩
      ·omega
      ·refine .at (x:=.ptr id (n*s+0) ay s) hk hJ hn rfl ⟨s,st,cut,fr,aF,es,_,n,id,cs,ay,mn,hj,g1,g2,by simp[nat?],ai,by omega,c1,c2,rfl⟩ ?_;simp[bK,av,ho,hu,c3,uu,aT,ai,ret]
     ·exact hs.elim
    ·exact hs.elim
   ·exact hs.elim
  ·exact hs.elim
 ·rename_i n et i hu LY;rw[LY]at hi
  have uu:ax (E d) ix=.raw (.int .i64 i):=by
   obtain⟨y,h1,h2,_⟩:=hi;simp only[au,SE.den,ar6]at h1;subst h1;exact bZ h2
  split at hs
  ·rename_i s j off ext aT hh;rw[hh]at hx;obtain⟨id,cs,g1,g2,g3⟩:=hx;split at hs
   ·rename_i hc;simp only[ar4,Bool.not_eq_true',decide_eq_true_eq,Nat.blt_eq,atJ]at hc;obtain⟨⟨⟨c1,c2⟩,c3⟩,c4⟩:=hc;have kz:s≠0:=by intro h;subst h;simp at c1
    refine .at (x:=.ptr id (off+i.toNat*s) 0 s) hs hJ hn rfl ⟨id,cs,g1,g2,rfl⟩ ?_;have:i<n:=by omega
    simp[bK,av,ho,hu,g3,uu,aT,kz,c2,this,c4,ret]
   ·exact hs.elim
  ·exact hs.elim
  ·exact hs.elim
 ·exact hs.elim
end Go.Ev
namespace Go.Ev
variable{P:Program}{N:Nat}{σ ao:St}{R R':Rs}{φ aL:Ph}{E:Nat->Env}{ν:List IV}
variable{C:Cr}{Q:IV->Prop}{K:List (List IV->Prop)}{V:SS}{d:Nat}{o:Oper}{k:PV SE->SS->ak}
theorem Sz{op:BinOp}{t:TypeId}{x y x' y':Operand}{u v:Value}(h:u≠.nilIface):eqGuard op t x y u v=eqGuard op t x' y' u v:=by
 unfold eqGuard;cases u<;>first|exact absurd rfl h|rfl|(cases v<;>rfl)
theorem Ps{op:BinOp}{t:TypeId}{x y x' y':Operand}{a b:IV}{u v:Value}(ha:iG a=aa u)(hb:iG b=aa v)(h:u≠.nilIface):pf P op t x y a b=pf P op t x' y' a b:=by
 unfold pf;split<;>first|rfl|skip
 rw[ha,hb];simp only;rw[Sz (x:=x) (y:=y) (x':=x') (y':=y') h]
theorem Yh{op:BinOp}{t:TypeId}{a b z:IV}(h:dc P op t a b=aa z){f g:Bool}{xa xb:IV}(ha:bn f R σ xa a)(hb:bn g R σ xb b)(ox oy:Operand):pf P op t ox oy xa xb=aa z:=by
 unfold dc at h;split at h
 ·cases h
 ·rename_i u v aZ hu hv;rw[Ch ha hu,Ch hb hv,Ps (x':=.func 0) (y':=.func 0) hu hv (λhc=>aZ hc)];exact h
 ·cases h
variable(hJ:J (au P ν) R φ V.g V.l E σ)(hn:ν.length=V.n)
include hJ hn
theorem Pt(v:Value):iD (lift v) (lift v):=by
 unfold lift;split
 ·refine .agg _ _ rfl λi c e h1 h2=>?_;rw[h1]at h2;cases h2;rw[asi]at h1;obtain⟨u,_,rfl⟩:=ar9.1 h1;exact .raw u
 ·exact .raw _
omit hJ hn in
theorem Pu{op:BinOp}{t:TypeId}{x y:Operand}{a b z:IV}(h:pf P op t x y a b=aa z):iD z z:=by
 unfold pf at h;split at h<;>first|(cases h;exact .raw _)|skip
 ·split at h
  ·cases h;exact .raw _
  ·cases h
 ·split at h
  ·obtain⟨v,_,rfl⟩:=ar9.1 h;unfold lift;split
   ·refine .agg _ _ rfl λi c e h1 h2=>?_;rw[h1]at h2;cases h2;rw[asi]at h1;obtain⟨u,_,rfl⟩:=ar9.1 h1;exact .raw u
   ·exact .raw _
  ·split at h
   ·split at h
    ·cases h;exact .raw _
    ·cases h;exact .raw _
    ·cases h
   ·split at h
    ·cases h;exact .raw _
    ·cases h;exact .raw _
    ·cases h
theorem IU{op:BinOp}{t yt:TypeId}{x y:Operand}{a b:SE}(ho:o.op=.binOp op t x y yt){f g:Bool}(ha:∀z,a.den P ν=aa z->bn f R σ (ax (E d) x) z)(hb:∀z,b.den P ν=aa z->bn g R σ (ax (E d) y) z)
 (hs:(vk (.ok (.bin op t a b)) V k).sat P C Q K ν):c8 P C Q K ν E V.ln k (bK P E d o σ):=by
 obtain⟨⟨z,hz⟩,hk⟩:=hs;obtain⟨h1,h2⟩:=pF hz;simp only[SE.den,aso]at h1;obtain⟨u,h3,v,h4,h5⟩:=h1;have h6:=Yh h5 (ha u h3) (hb v h4) x y;exact .at (x:=z) hk hJ hn rfl ⟨z,hz,Pu h6,h2⟩ (by simp[bK,av,ho,h6,ret])
theorem agf{op:UnOp}{t:TypeId}{x:Operand}(ho:o.op=.unOp op t x)(hs:(fI P d o V k).sat P C Q K ν):c8 P C Q K ν E V.ln k (bK P E d o σ):=by
 unfold fI at hs;rw[ho]at hs;simp only at hs;have hx:=bo hJ d 0 x
 have main:∀a:SE,(∀z,a.den P ν=aa z->bn ab R σ (ax (E d) x) z)->(vk (.ok (.un op a)) V k).sat P C Q K ν->c8 P C Q K ν E V.ln k (bK P E d o σ):=by
  intro a ha hs;obtain⟨⟨z,hz⟩,hk⟩:=hs;obtain⟨h1,h2⟩:=pF hz;simp only[SE.den,aso]at h1;obtain⟨u,h3,h4⟩:=h1;unfold VY at h4;split at h4
  ·rename_i v;have hv:=bZ (ha _ h3);obtain⟨r,hr,rfl⟩:=ar9.1 h4;exact .at (x:=lift r) hk hJ hn rfl ⟨_,hz,Pt hJ hn r,h2⟩ (by simp[bK,av,ho,hv,hr,ret])
  ·cases h4
 split at hs
 ·rename_i t' hh;rw[hh]at hx;have hb:=Pl hJ hn hx;split at hs
  ·refine .at (x:=.raw (.bool (!t'))) hs hJ hn rfl ⟨_,rfl,.raw _,rfl⟩ ?_;simp[bK,av,ho,hb,ret,Op.unary,aS,lift,pure]
  ·exact hs.elim
 ·rename_i a _ hh;rw[hh]at hx;obtain⟨y,h1,h2,_⟩:=hx;exact main a (λz hz=>by have cZ:a.den P ν=aa y:=h1;rw[hz]at cZ;cases cZ;exact h2.mono hJ.A7) hs
 ·rename_i f a hh;rw[hh]at hx;obtain⟨y,h1,h2,_⟩:=hx;exact main a (λz hz=>by have cZ:a.den P ν=aa y:=h1;rw[hz]at cZ;cases cZ;exact h2.cH) hs
 ·exact hs.elim
theorem agh{src dst:TypeId}{x:Operand}(ho:o.op=.convert src dst x)(hs:(fI P d o V k).sat P C Q K ν):c8 P C Q K ν E V.ln k (bK P E d o σ):=by
 unfold fI at hs;rw[ho]at hs;simp only at hs;have hx:=bo hJ d src x
 have main:∀a:SE,(∀z,a.den P ν=aa z->bn ab R σ (ax (E d) x) z)->(vk (.ok (.cv src dst a)) V k).sat P C Q K ν->c8 P C Q K ν E V.ln k (bK P E d o σ):=by
  intro a ha hs;obtain⟨⟨z,hz⟩,hk⟩:=hs;obtain⟨h1,h2⟩:=pF hz;simp only[SE.den,aso]at h1;obtain⟨u,h3,h4⟩:=h1;unfold VZ at h4;split at h4
  ·rename_i b;have hv:=bZ (ha _ h3);split at h4
   ·rename_i q CZ N_;cases h4;exact .at (x:=.raw (.string b)) hk hJ hn rfl ⟨_,hz,.raw _,h2⟩ (by simp[bK,av,ho,hv,CZ,N_,ret])
   ·cases h4
  ·rename_i v hnv;have hv:=bZ (ha _ h3);obtain⟨r,hr,rfl⟩:=ar9.1 h4;refine .at (x:=lift r) hk hJ hn rfl ⟨_,hz,Pt hJ hn r,h2⟩ ?_;unfold bK av;rw[ho];simp only[hv,hr,ret]
  ·cases h4
 split at hs
 ·rename_i a hh;rw[hh]at hx;obtain⟨y,h1,h2,_⟩:=hx;exact main a (λz hz=>by have cZ:a.den P ν=aa y:=h1;rw[hz]at cZ;cases cZ;exact h2.mono hJ.A7) hs
 ·rename_i f a hh;rw[hh]at hx;obtain⟨y,h1,h2,_⟩:=hx;exact main a (λz hz=>by have cZ:a.den P ν=aa y:=h1;rw[hz]at cZ;cases cZ;exact h2.cH) hs
 ·exact hs.elim
theorem SA{x:Operand}{i:Nat}(ho:o.op=.extract x i)(hs:(fI P d o V k).sat P C Q K ν):c8 P C Q K ν E V.ln k (bK P E d o σ):=by
 unfold fI at hs;rw[ho]at hs;simp only at hs;have hx:=bo hJ d 0 x;split at hs
 ·rename_i vs hh;rw[hh]at hx;obtain⟨xs,h1,h2⟩:=hx;split at hs
  ·rename_i cs hi;obtain⟨a,ha,hr⟩:=h2.Ak hi;refine .here (x:=a) (pv:=.ag cs) (aq:=σ) (by simp[bK,av,ho,h1,ha,ret]) hJ ?_ hn rfl hs;simpa[tq,VR]using hr
  ·rename_i c hi;obtain⟨a,ha,hr⟩:=h2.Ak hi;refine .at (x:=a) hs hJ hn rfl ?_ (by simp[bK,av,ho,h1,ha,ret]);simpa[tq]using hr
  ·exact hs.elim
 ·exact hs.elim
theorem Yi{t:TypeId}{x:Operand}{f:Nat}(ho:o.op=.field t x f)(hs:(fI P d o V k).sat P C Q K ν):c8 P C Q K ν E V.ln k (bK P E d o σ):=by
 unfold fI at hs;rw[ho]at hs;simp only at hs;have hx:=bo hJ d t x;split at hs
 ·rename_i cs fo sz hh hf;rw[hh]at hx;obtain⟨xs,h1,h2⟩:=hx;obtain⟨fields,fd,g1,g2,g3,rfl⟩:=GI hf;rw[g1]at hs;simp only at hs;split at hs
  ·rename_i hc;simp only[ar4,atJ,Option.isSome_iff_exists]at hc;obtain⟨hle,b,hb⟩:=hc;rw[g2]at hs hb;simp only[asy,asW]at hs hb
   obtain⟨pv,hk,qy⟩:∃pv,(k pv V).sat P C Q K ν/\(if isAgg P fd.type=ab then pv=.ag ((cs.drop fd.offset).take sz)else∃c,(cs.drop fd.offset).take sz=[c]/\pv=.one c):=by
    split at hs
    ·rename_i ha;split at hs
     ·exact⟨_,hs,by rw[if_pos ha]⟩
     ·exact hs.elim
    ·rename_i ha;split at hs
     ·rename_i c kK;exact⟨_,hs,by rw[if_neg ha];exact⟨c,kK,rfl⟩⟩
     ·exact hs.elim
   obtain⟨v,hv,hr⟩:=sG g3 hb h2 hle qy;exact .here (x:=v) (pv:=pv) (aq:=σ) (by simp[bK,av,ho,h1,g1,g2,hv,ret]) hJ hr hn rfl hk
  ·exact hs.elim
 ·exact hs.elim
end Go.Ev
namespace Go.Ev
variable{P:Program}{N:Nat}{σ ao:St}{R R':Rs}{φ aL:Ph}{E:Nat->Env}{ν:List IV}
variable{C:Cr}{Q:IV->Prop}{K:List (List IV->Prop)}{V:SS}{d:Nat}{o:Oper}{k:PV SE->SS->ak}
theorem As{s:Nat}{es:List IV}(h:i_ s es=ab):(∀e∈es,(cellsOf e).length=s)/\∀c∈flat es,Ev.aj c=ab:=by
 unfold i_ at h;rw[asl]at h;refine⟨λe he=>?_,λc hc=>?_⟩
 ·have:=h e he;simp only[ar4,beq_iff_eq]at this;exact this.1
 ·obtain⟨e,he,qW⟩:=aud.1 hc;have:=h e he;simp only[ar4,asl]at this;exact this.2 c qW
theorem Cj(a b:List IV):flat (a++b)=flat a++flat b:=by simp[flat]
def pG(fr:Bool)(R:Rs)(σ:St)(cs ds:List IV):Prop:=∀(j:Nat) x d,cs[j]?=aa x->ds[j]?=aa d->bn fr R σ x d
theorem Kw{fr:Bool}{x:IV}{s:Nat}{es:List IV}(bE:0<s)(h:bn fr R σ x (.tree s es))(bp:i_ s es=ab):
 kG x=aa es.length/\∃new,eL s es.length σ x=aa new/\new.length=es.length*s/\pG fr R σ new (flat es)/\new.all Ev.aj=ab:=by
 obtain⟨h1,h2⟩:=As bp;generalize hz:IV.tree s es=z at h;cases h with
 |nil s' bt=>injection hz with a b;subst a b;exact⟨rfl,[],by simp[eL],by simp,λj x d h=>by simp at h,rfl⟩
 |emp s' bt=>injection hz with a b;subst a b;exact⟨rfl,[],by simp[eL],by simp,λj x d h=>by simp at h,rfl⟩
 |pure _ hf hp=>
  subst hz;refine⟨rfl,flat es,by simp[eL,flat],nD h1,λj x d hx hd=>?_,asl.2 h2⟩;rw[hx]at hd;cases hd;refine .pure x hf ?_;obtain⟨e,he,qW⟩:=aud.1 (ash hx);cases hp with|tree _ _ hh=>exact hh e he x qW
 |sl id off len cap ep s' m cs ay mn aF hR aE a1 a2 bt hl hb hm bH hh=>
  injection hz with a b
  subst a b hl
  have acW:pG fr R σ ((cs.drop off).take (es.length*s)) (flat es):=by
   intro j x d hx hd;have hj:j<es.length*s:=by have:=(ar3.1 hd).1;rw[nD h1]at this;exact this
   rw[asD,if_pos hj,atF]at hx
   have hi:j/s<es.length:=by
    rw[Nat.div_lt_iff_lt_mul bE];exact hj
   have he:es[j/s]?=aa es[j/s]:=ar2 hi;have Gq:j % s<(cellsOf es[j/s]).length:=by rw[h1 _ (ar5 hi)];exact Nat.mod_lt _ bE
   have qW:(cellsOf es[j/s])[j % s]?=aa (cellsOf es[j/s])[j % s]:=ar2 Gq;have hjj:j/s*s+j % s=j:=Nat.div_add_mod' j s;have hf:=BN h1 he qW;rw[hjj,hd]at hf;cases hf;exact hh _ _ _ x _ he qW (by rw[show off+j/s*s+j % s=off+j by omega];exact hx)
  refine⟨rfl,(cs.drop off).take (es.length*s),?_,by simp;omega,acW,?_⟩
  ·simp only[eL];rw[if_pos ⟨trivial,ar8 _⟩,aE];simp only;rw[if_pos ⟨a1,a2,by omega⟩]
  ·rw[asl];intro c hc;obtain⟨j,hj⟩:=atP hc;have ai:=(ar3.1 hj).1;have dY:j<(flat es).length:=by rw[nD h1];simp at ai;omega
   exact(acW j c _ hj (ar2 dY)).aj (h2 _ (ar5 dY))
 |raw v=>cases hz
 |di=>cases hz
 |agg=>cases hz
 |az=>cases hz
theorem Pv{L:List (LO SE)}{Γ:Gm SE}(h:J (au P ν) R φ Γ L E σ){k s:Nat}{st cut fr:Bool}{z:SE}{x:IV}{es:List IV}(hk:L[k]?=aa (.row s st cut fr z))(hz:z.den P ν=aa (.tree s es))(hx:cD (au P ν) R φ L σ x (.sr k)):
 kG x=aa es.length/\∃new,eL s es.length σ x=aa new/\new.length=es.length*s/\pG fr R σ new (flat es)/\new.all Ev.aj=ab:=by
 obtain⟨bE,gS,g1,g2,g3⟩:=h.obj k _ hk;have na:z.den P ν=aa (.tree s gS):=g1;rw[hz]at na;cases na;obtain⟨s2,X8,abd,X9,z2,L4,a1,a2,a3⟩:=hx;rw[hk]at a1;cases a1;have sH:z.den P ν=aa (.tree s L4):=a2;rw[hz]at sH;cases sH;rcases a3 with⟨_,b2,b3⟩|⟨id,cs,ay,mn,cap,b1,b2,rfl,b4,b5,b6⟩
 ·have:es=[]:=List.eq_nil_of_length_eq_zero b2;subst this;rcases b3 with rfl|rfl
  ·exact⟨rfl,[],by simp[eL],by simp,λj x d h=>by simp at h,rfl⟩
  ·exact⟨rfl,[],by simp[eL],by simp,λj x d h=>by simp at h,rfl⟩
 ·rcases g3 with⟨g3,_⟩|⟨bA,cx,iC,pw,g3,g4,g5,g6,g7,g8,g9⟩
  ·rw[b1]at g3;cases g3
  ·rw[b1]at g3;cases g3;rw[b2]at g4;cases g4;refine⟨by simp[kG],cs.take (es.length*s),?_,by simp;omega,λj x d hx hd=>?_,?_⟩
   ·simp only[eL];rw[if_pos ⟨trivial,by simp⟩,b2];simp only;rw[if_pos ⟨g5,ar8 _,by omega⟩];simp
   ·rw[asD]at hx;split at hx
    ·exact g9 j x d hx hd
    ·cases hx
   ·rw[asl]at g8⊢;exactλc hc=>g8 c (atA hc)
theorem Wj{fr c7:Bool}{cs ds cx mj:List IV}(h:pG fr R σ cs ds)(hl:cs.length=ds.length)(h':pG c7 R σ cx mj):pG (fr||c7) R σ (cs++cx) (ds++mj):=by
 intro j x d hx hd;by_cases hj:j<cs.length
 ·rw[asd hj]at hx;rw[asd (by omega)]at hd;exact(h j x d hx hd).wide (λh=>by simp[h])
 ·rw[asz (by omega)]at hx;rw[asz (by omega),<-hl]at hd;exact(h' _ x d hx hd).wide (λh=>by simp[h])
end Go.Ev
