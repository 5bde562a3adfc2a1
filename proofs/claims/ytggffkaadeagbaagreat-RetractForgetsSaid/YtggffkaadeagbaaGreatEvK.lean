/- Lemmas over the model, without conditions of their own: operations on expressions (1). -/
import Derived.Test.YtggffkaadeagbaaGreatEvJ
open List renaming append_nil->asp,getElem?_map->asi,getElem?_eq_some_iff->ar5,getElem?_take->asF,getElem?_drop->atz,mem_of_getElem?->ash,take_take->ave,getElem?_eq_getElem->ar4,getElem_mem->asb,range->atI,getElem?_range->auN,all_eq_true->asl,flatMap_cons->auA,drop_of_length_le->asA,getElem?_append_left->asf,getElem?_append_right->asw,mem_append->asE,mem_of_mem_take->atn,mem_of_mem_drop->aue,length_eq_one_iff->au8,getElem?_of_mem->atT,mem_flatMap->aug
open Option.some renaming injEq->ar7
open Bool renaming and_eq_true->ar6
open Nat renaming ble_eq->atN,mul_le_mul_right->asB,add_mul->asG,le_refl->ar9,zero_le->asT,beq_eq->asL
open Option renaming map_eq_some_iff->ar_,bind_eq_some_iff->ass,getD_some->asU,map_some->asC
set_option linter.all false
namespace Go.Ev
variable{P:Program}{N:Nat}{σ ah:St}{R R':Rs}{φ aH:Ph}{E:Nat→Env}{ν:List IV}{L:List (LO SE)}{Γ:Gm SE}
variable{C:Cr}{Q:IV→Prop}{K:List (List IV→Prop)}{V:SS}{d:Nat}{o:Oper}{k:PV SE→SS→af}
theorem bS{fr:Bool}{x:IV}{v:Value}(h:aV fr R σ x (.raw v)):x=.raw v:=by cases h<;>rfl
theorem N6{fr:Bool}:∀{cs ds:List IV} {us:List Value},f_ ds=some us→cs.length=ds.length→(∀(i:Nat) c e,cs[i]?=some c→ds[i]?=some e→aV fr R σ c e)→cs=ds
 |[],[],_,_,_,_=>rfl
 |c::cs,e::ds,us,hr,hl,h=>by
  simp only[f_]at hr;split at hr
  ·rename_i v;split at hr
   ·rename_i vs gK;have h0:=bS (h 0 c (.raw v) rfl rfl);have h1:cs=ds:=N6 gK (by simpa using hl) fun i c e h1 h2=>h (i+1) c e (by simpa using h1) (by simpa using h2);rw[h0,h1]
   ·cases hr
  ·cases hr
 |[],_::_,_,_,hl,_=>by simp at hl
 |_::_,[],_,_,hl,_=>by simp at hl
theorem KR{fr:Bool}{x a:IV}{u:Value}(h:aV fr R σ x a)(ha:oR a=some u):x=a:=by
 cases h with
 |raw v=>rfl
 |agg cs ds hl hh=>
  simp only[oR]at ha;split at ha
  ·rename_i vs gK;rw[N6 gK hl hh]
  ·cases ha
 |pure x hf hp=>rfl
 |nil|emp|cY|av|sl=>simp[oR]at ha
theorem BO{fr:Bool}{x a:IV}{u:Value}(h:aV fr R σ x a)(ha:ib a=some u):x=a:=by
 cases h with
 |cY t x y hh=>
  simp only[ib]at ha;split at ha
  ·rename_i hu;rw[KR hh hu]
  ·cases ha
 |raw v=>rfl
 |agg cs ds hl hh=>exact KR (.agg cs ds hl hh) ha
 |pure x hf hp=>rfl
 |nil|emp|av|sl=>simp[ib,oR]at ha
theorem BP{y:IV}{n:Int}(h:fa y=some n):∃q,y=.raw (.int q n):=by
 unfold fa at h;split at h
 ·cases h;exact⟨_,rfl⟩
 ·cases h
theorem J.AE(h:J (aj P ν) R φ Γ L E σ):ic (fun _=>none) ⟨0,.lf⟩ R σ:=⟨fun _ _ h=>(by cases h),fun _ _ _ _ _ h=>(by cases h),h.fits⟩
def cN(P:Program)(C:Cr)(Q:IV→Prop)(K:List (List IV→Prop))(ν:List IV)(E:Nat→Env)(lv:Nat×Nat)(k:PV SE→SS→af)(res:IV→St→Prop):Prop:=
 ∃x ai R1 dt pv V1 μ,res x ai∧J (aj P (ν++μ)) R1 dt V1.g V1.l E ai∧VR (aj P (ν++μ)) R1 dt V1.l ai x pv∧(ν++μ).length=V1.n∧V1.ln=lv∧(k pv V1).sat P C Q K (ν++μ)
theorem cN.here{x:IV}{ai:St}{pv:PV SE}{V1:SS}{lv:Nat×Nat}{res:IV→St→Prop}(h1:res x ai)(h2:J (aj P ν) R φ V1.g V1.l E ai)(h3:VR (aj P ν) R φ V1.l ai x pv)(h4:ν.length=V1.n)(h5:V1.ln=lv)
 (h6:(k pv V1).sat P C Q K ν):cN P C Q K ν E lv k res:=
 ⟨x,ai,R,φ,pv,V1,[],h1,by rw[asp];exact h2,by rw[asp];exact h3,by rw[asp];exact h4,h5,by rw[asp];exact h6⟩
theorem cN.at{x:IV}{ai:St}{c:Cl SE}{V1:SS}{lv:Nat×Nat}{res:IV→St→Prop}(h6:(k (.one c) V1).sat P C Q K ν)(h2:J (aj P ν) R φ V1.g V1.l E ai)(h4:ν.length=V1.n)(h5:V1.ln=lv)(h3:cw (aj P ν) R φ V1.l ai x c)(h1:res x ai):
 cN P C Q K ν E lv k res:=.here (pv:=.one c) h1 h2 h3 h4 h5 h6
abbrev bE(P:Program)(E:Nat→Env)(d:Nat)(o:Oper)(σ:St):IV→St→Prop:=fun x ai=>ak P 0 (aq (E d)) o σ=some (.val x ai)
variable(hJ:J (aj P ν) R φ V.g V.l E σ)(hn:ν.length=V.n)
include hJ hn
theorem Xd{x:Operand}(ho:o.op=.move x∨o.op=.assign x)(hs:(fE P d o V k).sat P C Q K ν):cN P C Q K ν E V.ln k (bE P E d o σ):=by
 have aZ:(k (bG P d V o.type x) V).sat P C Q K ν:=by
  rcases ho with ho|ho<;>(unfold fE at hs;rw[ho]at hs;exact hs)
 refine .here (x:=aq (E d) x) (ai:=σ) ?_ hJ (aW hJ d o.type x) hn rfl aZ;rcases ho with ho|ho<;>simp[bE,ak,ho,ret]
theorem N7{x:IV}{t:Bool}(hx:VR (aj P ν) R φ V.l σ x (.one (.v (.b t)))):x=.raw (.bool t):=by
 obtain⟨y,h1,h2,_⟩:=hx;simp only[aj,SE.den,ar7]at h1;subst h1;exact bS h2
theorem aak{c a b:Operand}(ho:o.op=.pick c a b)(hs:(fE P d o V k).sat P C Q K ν):cN P C Q K ν E V.ln k (bE P E d o σ):=by
 unfold fE at hs;rw[ho]at hs;simp only at hs;have hc:=aW hJ d 0 c;split at hs
 ·rename_i hh;rw[hh]at hc;have:=N7 hJ hn hc;refine .here (x:=aq (E d) a) (ai:=σ) ?_ hJ (aW hJ d o.type a) hn rfl hs;simp[bE,ak,ho,this,ret]
 ·rename_i hh;rw[hh]at hc;have:=N7 hJ hn hc;refine .here (x:=aq (E d) b) (ai:=σ) ?_ hJ (aW hJ d o.type b) hn rfl hs;simp[bE,ak,ho,this,ret]
 ·exact hs.elim
theorem KT{cs:List (Cl SE)}{cx:List IV}(hc:All2 (cw (aj P ν) R φ V.l σ) cx cs):
 J (aj P ν) R (bP φ V.l.length σ.n) V.g (V.l++[.var cs]) E (σ.add (.cells cx 0 0))∧VR (aj P ν) R (bP φ V.l.length σ.n) (V.l++[.var cs]) (σ.add (.cells cx 0 0)) (.ptr σ.n 0 0 cx.length) (.one (.pt V.l.length 0 cs.length)):=by
 have hs:=EF hJ (.cells cx 0 0) (.var cs);refine⟨hJ.xM (.cells cx 0 0) (.var cs) ⟨σ.n,cx,by simp[bP],hJ.qJ,by simp,hc.mono fun _ _ bR=>bR.step hs (Cl.aS _)⟩,⟨σ.n,cs,by simp[bP],by simp,by rw[hc.len]⟩⟩
theorem Xe{t:TypeId}(ho:o.op=.alloc t)(hs:(fE P d o V k).sat P C Q K ν):cN P C Q K ν E V.ln k (bE P E d o σ):=by
 unfold fE at hs;rw[ho]at hs;simp only at hs;split at hs
 ·exact hs.elim
 ·rename_i hz;cases vy:cj P t with
  |none=>rw[vy]at hz;simp at hz
  |some z=>
   have hc:=mD (ν:=ν) (R:=R) (φ:=φ) (L:=V.l) (σ:=σ) vy;obtain⟨h1,h2⟩:=KT hJ hn hc;refine .here (V1:={V with l:=V.l++[.var (zeroCells P t)]}) ?_ h1 h2 hn rfl hs;simp[bE,ak,ho,vy,ret]
theorem adD{t:TypeId}{x:Operand}(ho:o.op=.box t x)(hs:(fE P d o V k).sat P C Q K ν):cN P C Q K ν E V.ln k (bE P E d o σ):=by
 unfold fE at hs;rw[ho]at hs;simp only at hs;split at hs
 ·exact hs.elim
 ·rename_i hu;have yD:rC (ew (bG P d V t x))=true:=by simpa using hu
  have hc:=yX (aW hJ d t x) yD;obtain⟨h1,h2⟩:=KT hJ hn hc;refine .here (V1:={V with l:=V.l++[.var (ew (bG P d V t x))]}) ?_ h1 h2 hn rfl hs;have:=pO hc yD;simp only[bE,ak,ho,ret,this,if_true]
theorem N8{x:Operand}(ho:o.op=.nilCheck x)(hs:(fE P d o V k).sat P C Q K ν):cN P C Q K ν E V.ln k (bE P E d o σ):=by
 unfold fE at hs;rw[ho]at hs;simp only at hs;have hc:=aW hJ d 0 x;split at hs
 ·rename_i hh;rw[hh]at hc;refine .here (x:=aq (E d) x) (ai:=σ) ?_ hJ hc hn rfl hs;obtain⟨id,cs,_,_,h3⟩:=hc;simp[bE,ak,ho,h3,ret]
 ·rename_i hh;exact hs.elim
 ·rename_i hh;rw[hh]at hc;refine .here (x:=aq (E d) x) (ai:=σ) ?_ hJ hc hn rfl hs;obtain⟨ds,h3,_⟩:=hc;simp[bE,ak,ho,h3,ret]
 ·exact hs.elim
end Go.Ev
namespace Go.Ev
variable{P:Program}{N:Nat}{σ ah:St}{R R':Rs}{φ aH:Ph}{E:Nat→Env}{ν:List IV}
variable{C:Cr}{Q:IV→Prop}{K:List (List IV→Prop)}{V:SS}{d:Nat}{o:Oper}{k:PV SE→SS→af}
theorem UX{t:TypeId}(h:isAgg P t=true):qo P t=some true:=by simpa[isAgg]using h
theorem Q6{t:TypeId}{b:Bool}(h:isAgg P t=false)(hb:qo P t=some b):qo P t=some false:=by
 cases b
 ·exact hb
 ·simp[isAgg,hb]at h
theorem AF{t:TypeId}{s off:Nat}{cs:List IV}(hs:aI P t=some s)(hg:qo P t=some true)(hle:off+s≤cs.length):partOf P t cs off=some (.agg ((cs.drop off).take s)):=by
 simp[partOf,hs,hg,hle]
theorem JG{t:TypeId}{off:Nat}{cs:List IV}(hs:aI P t=some 1)(hg:qo P t=some false):partOf P t cs off=cs[off]? :=by
 simp[partOf,hs,hg]
theorem rZ{L:List (LO SE)}{t:TypeId}{s off:Nat}{b:Bool}{cx:List IV}{cs:List (Cl SE)}{pv:PV SE}(hs:aI P t=some s)(hb:qo P t=some b)(hc:All2 (cw (aj P ν) R φ L σ) cx cs)(hle:off+s≤cs.length)
 (qe:if isAgg P t=true then pv=.ag ((cs.drop off).take s)else∃c,(cs.drop off).take s=[c]∧pv=.one c):∃x,partOf P t cx off=some x∧VR (aj P ν) R φ L σ x pv:=by
 have hl:=hc.len;split at qe
 ·rename_i ha;subst qe;exact⟨_,AF hs (UX ha) (by omega),_,rfl,(hc.drop off).take s⟩
 ·rename_i ha;obtain⟨c,h1,rfl⟩:=qe
  have hlen:s=1:=by
   have:=congrArg List.length h1;simp at this;omega
  subst hlen
  have h2:cs[off]?=some c:=by
   have:((cs.drop off).take 1)[0]?=some c:=by rw[h1];rfl
   simpa using this
  obtain⟨x,hx,hr⟩:=hc.zO h2;exact⟨x,by rw[JG hs (Q6 (by simpa using ha) hb),hx],hr⟩
theorem H7{t:TypeId}{s:Nat}{cs:List (Cl SE)}(hs:((if isAgg P t=true then(if Nat.beq cs.length s=true then k (.ag cs) V else .fail 2)else match cs with|[c]=>k (.one c) V|_=>.fail 3):af).sat P C Q K ν):
 ∃pv,(k pv V).sat P C Q K ν∧if isAgg P t=true then pv=.ag cs else∃c,cs=[c]∧pv=.one c:=by
 split at hs
 ·rename_i ha;split at hs
  ·exact⟨_,hs,by rw[if_pos ha]⟩
  ·exact hs.elim
 ·rename_i ha;split at hs
  ·exact⟨_,hs,by rw[if_neg ha];exact⟨_,rfl,rfl⟩⟩
  ·exact hs.elim
variable(hJ:J (aj P ν) R φ V.g V.l E σ)(hn:ν.length=V.n)
include hJ hn
theorem aal{t:TypeId}{pa:PV SE}{x:IV}(hx:VR (aj P ν) R φ V.l σ x pa)(hs:(Uw P t pa V k).sat P C Q K ν):
 cN P C Q K ν E V.ln k (fun v ai=>ai=σ∧(∀d a,aq (E d) a=x→∀o:Oper,o.op=.load t a→ak P 0 (aq (E d)) o σ=some (.val v σ))):=by
 unfold Uw at hs;split at hs
 ·exact hs.elim
 ·exact hs.elim
 ·rename_i s b aK uB;simp only at hs;split at hs
  ·rename_i j off ext;obtain⟨id,p6,h1,h2,rfl⟩:=hx;split at hs
   ·rename_i cs hj;rw[hj]at h2;cases h2;split at hs
    ·rename_i hle;simp only[ar6,atN]at hle;obtain⟨pv,hk,qe⟩:=H7 hs;obtain⟨bp,cx,h3,h4,h5,h6⟩:=hJ.obj j _ hj;rw[h1]at h3;cases h3;obtain⟨v,hv,hr⟩:=rZ aK uB h6 hle.2 qe;refine .here (x:=v) (ai:=σ) ⟨rfl,fun d a ha o ho=>?_⟩ hJ hr hn rfl hk;simp[ak,ho,ha,aK,h5,hle.1,hv,ret]
    ·exact hs.elim
   ·exact hs.elim
  ·rename_i cs;obtain⟨ds,rfl,h1⟩:=hx;split at hs
   ·rename_i hle;rw[atN]at hle;obtain⟨pv,hk,qe⟩:=H7 hs;have hc:All2 (cw (aj P ν) R φ V.l σ) ds (cs.map .v):=h1.map (f:=Cl.v) fun _ _ bR=>bR;obtain⟨v,hv,hr⟩:=rZ (off:=0) aK uB hc (by simpa using hle) qe;refine .here (x:=v) (ai:=σ) ⟨rfl,fun d a ha o ho=>?_⟩ hJ hr hn rfl hk;simp[ak,ho,ha,hv,ret]
   ·exact hs.elim
  ·rename_i fr cs;split at hs
   ·rename_i hle;rw[atN]at hle;obtain⟨pv,hk,qe⟩:=H7 hs;obtain⟨bf,⟨hf,ds,rfl,h1⟩|⟨id,off,ep,m,cx,ar,mn,h1,h2,h3,h4,rfl,h6,h7,h8⟩⟩:=hx
    ·have hc:All2 (cw (aj P ν) R φ V.l σ) ds (cs.map (.w fr)):=by
      refine(h1.xf (r':=fun d c=>cw (aj P ν) R φ V.l σ d (.w fr c)) fun d c hc ⟨y,Aq,HH⟩=>?_).map (f:=Cl.w fr) fun _ _ bR=>bR;obtain⟨y',KU,hy4⟩:=bf c hc;rw[Aq]at KU;cases KU;exact⟨y,Aq,hf▸HH.mono hJ.AE,hy4⟩
     obtain⟨v,hv,hr⟩:=rZ (off:=0) aK uB hc (by simpa using hle) qe;refine .here (x:=v) (ai:=σ) ⟨rfl,fun d a ha o ho=>?_⟩ hJ hr hn rfl hk;simp[ak,ho,ha,hv,ret]
    ·have hc:All2 (cw (aj P ν) R φ V.l σ) ((cx.drop off).take cs.length) (cs.map (.w fr)):=by
      refine .mk (by simp;omega) fun i a b ha hb=>?_;rw[asi]at hb;obtain⟨c,hc,rfl⟩:=ar_.1 hb;have hi:=(ar5.1 hc).1;rw[asF,if_pos hi,atz]at ha;obtain⟨y,Aq,HH⟩:=h8 i a c hc ha;obtain⟨y',KU,hy4⟩:=bf c (ash hc);have aam:c.den P ν=some y:=Aq;have afr:c.den P ν=some y':=KU;rw[aam]at afr;cases afr;exact⟨y,Aq,HH,hy4⟩
     obtain⟨v,hv,hr⟩:=rZ (off:=0) aK uB hc (by simpa using hle) qe
     have Wk:partOf P t cx off=some v:=by
      have hlen:s≤((cx.drop off).take cs.length).length:=by simp;omega
      cases b with
      |true=>
       rw[AF aK uB (by simpa using hlen)]at hv;rw[AF aK uB (by omega),←hv];simp[ave,hle]
      |false=>
       have h1s:s=1:=by
        unfold partOf at hv;rw[uB,aK]at hv;simp only at hv;split at hv
        ·assumption
        ·cases hv
       subst h1s;rw[JG aK uB]at hv⊢;rw[asF,if_pos (by omega),atz]at hv;exact hv
     refine .here (x:=v) (ai:=σ) ⟨rfl,fun d a ha o ho=>?_⟩ hJ hr hn rfl hk;simp[ak,ho,ha,aK,h2,hle,h3,h4,Wk,ret]
   ·exact hs.elim
  ·rename_i j i off ext;split at hs
   ·rename_i sz st cut fr es hj;split at hs
    ·rename_i hle;rw[atN]at hle;obtain⟨pv,hk,qe⟩:=H7 hs;obtain⟨s',lu,uj,cL,z',aB,y,n,id,cs,ar,mn,h1,h2,h3,h4,h5,h6,h7,h8,rfl⟩:=hx;rw[hj]at h1;cases h1;obtain⟨bu,gF,g1,g2,g3⟩:=hJ.obj j _ hj;have CA:es.den P ν=some (.tree sz aB):=h2;have mQ:es.den P ν=some (.tree sz gF):=g1;rw[CA]at mQ;cases mQ;rcases g3 with⟨g3,_⟩|⟨bp,cm,g_,o7,g3,g4,g5,g6,g7,g8,g9⟩
     ·rw[h7]at g3;cases g3
     ·rw[h7]at g3;cases g3;rw[h8]at g4;cases g4;have he:aB[n]?=some aB[n]:=ar4 h5;have tz:=g2 _ (asb h5)
      have xY:cq sz (.tree sz aB) y=some aB[n]:=by
       have hy:fa y=some (n:Int):=by
        unfold nat? at h4;split at h4
        ·split at h4
         ·rename_i hq;cases h4;simp[fa];omega
         ·cases h4
        ·cases h4
       simp[cq,hy,he,tz]
      have Hu:n*sz+sz≤aB.length*sz:=by
       have:(n+1)*sz≤aB.length*sz:=asB sz h5;rw[asG]at this;omega
      have hc:All2 (cw (aj P ν) R φ V.l σ) ((cs.drop (n*sz)).take sz) ((atI sz).map fun q=>.w fr (.CK sz es i q)):=by
       refine .mk (by simp;omega) fun q a b ha hb=>?_;rw[asi]at hb;obtain⟨q',hq,rfl⟩:=ar_.1 hb;have Cs:q<sz:=by have:=(ar5.1 hq).1;simpa using this
       have:q'=q:=by rw[auN Cs]at hq;cases hq;rfl
       subst this;rw[asF,if_pos Cs,atz]at ha;have hd:(cellsOf aB[n])[q']?=some (cellsOf aB[n])[q']:=ar4 (by omega);have hr:=g9 (n*sz+q') a _ ha (Bq g2 he hd)
       have vT:Ev.ab a=true:=by
        rw[asl]at g8;exact g8 a (ash ha)
       have bf:=hr.adC vT;refine⟨_,?_,hr,bf⟩;have N9:i.den P ν=some y:=h3;simp[aj,SE.den,CA,N9,xY,hd,xU,bf]
      obtain⟨v,hv,hr⟩:=rZ (off:=off) aK uB hc (by simp;omega) qe
      have Wk:partOf P t cs (n*sz+off)=some v:=by
       cases b with
       |true=>
        rw[AF aK uB (by simp;omega)]at hv;rw[AF aK uB (by omega),←hv]
        congr 2
        rw[List.drop_take,List.drop_drop,ave]
        congr 1;omega
       |false=>
        have h1s:s=1:=by
         unfold partOf at hv;rw[uB,aK]at hv;simp only at hv;split at hv
         ·assumption
         ·cases hv
        subst h1s;rw[JG aK uB]at hv⊢;rw[asF,if_pos (by omega),atz]at hv;exact hv
      refine .here (x:=v) (ai:=σ) ⟨rfl,fun d a ha o ho=>?_⟩ hJ hr hn rfl hk;simp[ak,ho,ha,aK,h8,hle,g5,Wk,ret]
    ·exact hs.elim
   ·exact hs.elim
  ·exact hs.elim
theorem aan{t:TypeId}{a:Operand}(ho:o.op=.load t a)(hs:(fE P d o V k).sat P C Q K ν):cN P C Q K ν E V.ln k (bE P E d o σ):=by
 unfold fE at hs;rw[ho]at hs;simp only at hs;obtain⟨x,ai,R1,dt,pv,V1,μ,h0,h2⟩:=aal hJ hn (aW hJ d 0 a) hs;obtain⟨e0,h1⟩:=h0;subst e0;exact⟨x,ai,R1,dt,pv,V1,μ,h1 d a rfl o ho,h2⟩
end Go.Ev
namespace Go.Ev
variable{P:Program}{N:Nat}{σ ah:St}{R R':Rs}{φ aH:Ph}{E:Nat→Env}{ν:List IV}
variable{C:Cr}{Q:IV→Prop}{K:List (List IV→Prop)}{V:SS}{d:Nat}{o:Oper}{k:PV SE→SS→af}
theorem KV{r:IV→Cl SE→Prop}{cx xs:List IV}{cs new:List (Cl SE)}(off:Nat)(h:All2 r cx cs)(k:All2 r xs new):All2 r (dm cx off xs) (Au cs off new):=by
 unfold dm Au;rw[k.len];exact((h.take off).app k).app (h.drop _)
theorem J.Xf{L:List (LO SE)}{Γ:Gm SE}(h:J (aj P ν) R φ Γ L E σ){k id s ar mn:Nat}{cut fr cL:Bool}{z z':SE}{cs cm es aB:List IV}(hid:φ k=some id)(hk:L[k]?=some (.row s false cut fr z))(az:σ.at id=some (.cells cs ar mn))
 (hl:cm.length=cs.length)(hz:z.den P ν=some (.tree s es))(pf:z'.den P ν=some (.tree s aB))(hle:aB.length=es.length)(bD:∀e∈aB,(cellsOf e).length=s)(bf:cm.all Ev.ab=true)
 (hc:∀(j:Nat) x d,cm[j]?=some x→(flat aB)[j]?=some d→aV cL R σ x d):
 J (aj P ν) R φ Γ (L.set k (.row s false cut cL z')) E (σ.put id (.cells cm ar ar)):=by
 have qc:=cO hk;have bc:∀j,j≠k→(L.set k (.row s false cut cL z'))[j]?=L[j]? :=fun j hj=>List.getElem?_set_ne (fun hc=>hj hc.symm);have bn:(L.set k (.row s false cut cL z'))[k]?=some (.row s false cut cL z'):=by simp[qc]
 have Jo:∀j bp,j≠k→φ j=some bp→bp≠id:=fun j bp hj kb hc=>hj (h.inj j k id (by rw[←hc];exact kb) hid);obtain⟨bu,gF,g1,g2,g3⟩:=h.obj k _ hk
 have Br:R id=none∧es.length*s≤cs.length∧mn≤ar:=by
  rcases g3 with⟨g3,_⟩|⟨bp,cs2,sU,CM,g3,g4,g5,g6,g7,_⟩
  ·rw[hid]at g3;cases g3
  ·rw[hid]at g3;cases g3;rw[az]at g4;cases g4;have mQ:z.den P ν=some (.tree s gF):=g1;rw[hz]at mQ;cases mQ;exact⟨by simpa using g7,g6,g5⟩
 have pM:ic R σ R (σ.put id (.cells cm ar ar)):=by
  refine⟨fun _ m hm=>⟨m,hm,ar9 _⟩,fun bp m nN Bs AD hm qp=>?_,fun bp m nN Bs AD hm qp=>?_⟩
  ·have:id≠bp:=fun hc=>by rw[←hc,Br.1]at hm;cases hm
   exact⟨nN,Bs,by rw[St.cJ,if_neg this];exact qp,ar9 _,fun _ _=>rfl⟩
  ·have:id≠bp:=fun hc=>by rw[←hc,Br.1]at hm;cases hm
   rw[St.cJ,if_neg this]at qp;exact h.fits bp m nN Bs AD hm qp
 have hs:jU (aj P ν) (aj P ν) R φ L σ R φ (L.set k (.row s false cut cL z')) (σ.put id (.cells cm ar ar)) (fun _=>False):=by
  refine⟨fun _ _ h=>h,pM,fun j nN hj=>?_,fun j kt eP hj=>?_,fun j s1 rX rG rY z1 hj _=>?_⟩
  ·by_cases bB:j=k
   ·subst bB;rw[hk]at hj;cases hj
   ·exact⟨⟨nN,by rw[bc j bB];exact hj⟩,rfl⟩
  ·by_cases bB:j=k
   ·subst bB;rw[hk]at hj;cases hj
   ·exact⟨⟨eP,by rw[bc j bB];exact hj⟩,rfl⟩
  ·by_cases bB:j=k
   ·subst bB;rw[hk]at hj;cases hj;refine⟨⟨false,cL,z',bn,fun eP l5=>⟨aB,pf,?_⟩⟩,rfl,fun id1 nN Bs AD UY qp=>?_⟩
    ·have N_:z.den P ν=some (.tree s eP):=l5;rw[hz]at N_;cases N_;exact hle
    ·rw[hid]at UY;cases UY;rw[az]at qp;cases qp;exact⟨cm,ar,by rw[St.cJ,if_pos rfl],hl,fun _=>rfl⟩
   ·refine⟨⟨rX,rY,z1,by rw[bc j bB];exact hj,fun eP l5=>⟨eP,l5,rfl⟩⟩,rfl,fun id1 nN Bs AD UY qp=>⟨nN,AD,?_,rfl,fun h=>h⟩⟩;rw[St.cJ,if_neg (fun hc=>Jo j id1 bB UY hc.symm)];exact qp
 refine⟨fun d t pv hg=>(h.slot d t pv hg).step hs pv.aS,fun j o hj=>?_,h.inj,fun j bp hj=>by simpa[St.put]using h.lt j bp hj,h.qb,pM.fits,h.wf.set _ _,fun bp iv=>?_⟩
 ·by_cases bB:j=k
  ·subst bB;rw[bn]at hj;cases hj;refine⟨bu,aB,pf,bD,.inr ⟨id,cm,ar,ar,hid,by rw[St.cJ,if_pos rfl],ar9 _,by rw[hl,hle];exact Br.2.1,by simpa using Br.1,bf,fun j x d hx hd=>(hc j x d hx hd).mono pM⟩⟩
  ·rw[bc j bB]at hj;exact(h.obj j o hj).step hs rfl (fun bp iv=>⟨by rw[St.cJ,if_neg (fun hc=>Jo j bp bB iv hc.symm)],rfl⟩) o.aS
 ·have:=(h.lt _ _ hid).2;have Mp:σ.n≤bp:=iv;rw[St.cJ,if_neg (by omega)];exact h.top bp Mp
theorem aao{s:Nat}{x:IV}:∀{es:List IV} (_:∀e∈es,(cellsOf e).length=s) {n:Nat},n<es.length→(cellsOf x).length=s→flat (es.set n x)=dm (flat es) (n*s) (cellsOf x):=by
 intro es;induction es with
 |nil=>intro _ n hn;simp at hn
 |cons a es ih=>
  intro bD n hn hx;have ha:(cellsOf a).length=s:=bD a (by simp);unfold dm;cases n with
  |zero=>
   simp only[List.set_cons_zero,flat,auA,Nat.zero_mul,List.take_zero,List.nil_append,Nat.zero_add];rw[hx,List.drop_append_of_le_length (by omega),asA (by omega:(cellsOf a).length≤s)];simp
  |succ n=>
   have:=ih (fun e he=>bD e (by simp[he])) (n:=n) (by simpa using hn) hx;simp only[List.set_cons_succ];unfold flat at this⊢;rw[auA,this];unfold dm
   rw[auA,hx,asG,Nat.one_mul,List.take_append,List.drop_append,ha,
    List.take_of_length_le (by omega:(cellsOf a).length≤n*s+s),asA (by omega:(cellsOf a).length≤n*s+s+s),
    show n*s+s- s=n*s by omega,show n*s+s+s- s=n*s+s by omega]
   simp
theorem mF{α:Type}{cs new:List IV}{off j:Nat}(h:off+new.length≤cs.length):(dm cs off new)[j]?=if off≤j∧j<off+new.length then new[j- off]? else cs[j]? :=by
 unfold dm;have h1:(cs.take off).length=off:=by simp;omega
 rw[List.append_assoc];by_cases ha:j<off
 ·rw[asf (by omega),asF,if_pos ha,if_neg (by omega)]
 ·rw[asw (by omega),h1];by_cases hb:j<off+new.length
  ·rw[asf (by omega),if_pos ⟨by omega,hb⟩]
  ·rw[asw (by omega),if_neg (by omega),atz]
   congr 1;omega
theorem tA{cs new:List IV}{off:Nat}(h:off+new.length≤cs.length):(dm cs off new).length=cs.length:=by
 unfold dm;simp;omega
theorem wT{cs new:List IV}{off:Nat}{f:IV→Bool}(h1:cs.all f=true)(h2:new.all f=true):(dm cs off new).all f=true:=by
 rw[asl]at h1 h2⊢;intro x hx;unfold dm at hx;rcases asE.1 hx with hx|hx
 ·rcases asE.1 hx with hx|hx
  ·exact h1 x (atn hx)
  ·exact h2 x hx
 ·exact h1 x (aue hx)
variable(hJ:J (aj P ν) R φ V.g V.l E σ)(hn:ν.length=V.n)
include hJ hn
theorem UZ{t:TypeId}{a x:Operand}{j off ext:Nat}{cs:List (Cl SE)}(ho:o.op=.store t a x)(ha:bG P d V 0 a=.one (.pt j off ext))(hj:V.l[j]?=some (.var cs))
 (h1:rC (ew (bG P d V t x))=true)(h2:(ew (bG P d V t x)).length≤ext)(h3:off+(ew (bG P d V t x)).length≤cs.length)(h4:aI P t=some (ew (bG P d V t x)).length)
 (hs:(k (.one .un) (V.setObj j (.var (Au cs off (ew (bG P d V t x)))))).sat P C Q K ν):cN P C Q K ν E V.ln k (bE P E d o σ):=by
 have H8:=aW hJ d 0 a;rw[ha]at H8;obtain⟨id,p6,g1,g2,g3⟩:=H8;obtain⟨bp,cx,g4,g5,g6,g7⟩:=hJ.obj j _ hj;rw[g1]at g4;cases g4;have hc:=yX (aW hJ d t x) h1;have eu:=hc.len;have FF:=g7.len
 obtain⟨c9,bk⟩:=hJ.sL (R':=R) (bad:=fun _=>False) (jD:=.var (Au cs off (ew (bG P d V t x)))) (eF:=.cells (dm cx off (cellsOf (aq (E d) x))) 0 0) g1 hj (fun _ _=>rfl)
  (fun m hm=>by rw[g5]at hm;cases hm) (fun m _ _ _ hm=>by rw[g5]at hm;cases hm) (fun m _ _ _ hm=>by rw[g5]at hm;cases hm)
  (fun _ _=>⟨_,rfl⟩) (fun _ _ h=>by cases h) (fun _ _ _ _ _ h=>by cases h) (fun _ _ pv _=>pv.aS) (fun _ o _ _=>o.aS)
  (fun c9=>⟨id,_,g1,g5,by rw[St.cJ,if_pos rfl],(KV off g7 hc).mono fun _ _ bR=>bR.step c9 (Cl.aS _)⟩)
 refine .here (x:=.undef) (V1:=V.setObj j _) (pv:=.one .un) ?_ bk trivial hn rfl hs;have ji:=pO hc h1;simp only[bE,ak,ho,g3,h4,g6,eu,ret];rw[if_pos ⟨asT _,trivial,h2,trivial,by omega,ji⟩]
end Go.Ev
namespace Go.Ev
variable{P:Program}{N:Nat}{σ ah:St}{R R':Rs}{φ aH:Ph}{E:Nat→Env}{ν:List IV}
variable{C:Cr}{Q:IV→Prop}{K:List (List IV→Prop)}{V:SS}{d:Nat}{o:Oper}{k:PV SE→SS→af}
theorem adE{y:IV}{n:Nat}(h:nat? y=some n):∃q,y=.raw (.int q n):=by
 unfold nat? at h;split at h
 ·split at h
  ·rename_i q m hq;cases h;exact⟨q,by simp;omega⟩
  ·cases h
 ·cases h
theorem FO{s:TypeId}{f off sz:Nat}(h:fieldAt P s f=some (off,sz)):∃fields fd,P.underlying s=some (.struct fields)∧fields[f]?=some fd∧aI P fd.type=some sz∧fd.offset=off:=by
 unfold fieldAt at h;split at h
 ·rename_i fields hu;split at h
  ·rename_i fd hf;split at h
   ·rename_i sz' hs;cases h;exact⟨fields,fd,hu,hf,hs,rfl⟩
   ·cases h
  ·cases h
 ·cases h
theorem KX{α:Type}{f:α→α→Bool}(h:∀a b,f a b=true→a=b):∀{as bs:List α},lA f as bs=true→as=bs
 |[],[],_=>rfl
 |a::as,b::bs,hh=>by
  simp only[lA,ar6]at hh;rw[h a b hh.1,KX h hh.2]
 |[],_::_,hh=>by cases hh
 |_::_,[],hh=>by cases hh
theorem SE.eq_eq:∀{a b:SE},a.eq b=true→a=b:=by
 intro a;induction a with
 |var x=>intro c h;cases c<;>simp_all[SE.eq]
 |i x=>intro c h;cases c<;>simp_all[SE.eq]
 |k q x=>intro c h;cases c<;>simp_all[SE.eq,afh]
 |b x=>intro c h;cases c<;>simp_all[SE.eq]
 |s x=>intro c h;cases c<;>first|(simp[SE.eq]at h;done)|(simp only[SE.eq]at h;rw[KX (fun a b h=>by simpa using h) h])
 |an=>intro c h;cases c<;>simp_all[SE.eq]
 |raw v=>intro c h;cases c<;>simp[SE.eq]at h
 |ok e ih=>intro c h;cases c<;>first|(simp[SE.eq]at h;done)|(simp only[SE.eq]at h;rw[ih h])
 |len e ih=>intro c h;cases c<;>first|(simp[SE.eq]at h;done)|(simp only[SE.eq]at h;rw[ih h])
 |rB e ih=>intro c h;cases c<;>first|(simp[SE.eq]at h;done)|(simp only[SE.eq]at h;rw[ih h])
 |tp e ih=>intro c h;cases c<;>first|(simp[SE.eq]at h;done)|(simp only[SE.eq]at h;rw[ih h])
 |rw e ih=>intro c h;cases c<;>first|(simp[SE.eq]at h;done)|(simp only[SE.eq]at h;rw[ih h])
 |bM e j ih=>intro c h;cases c<;>first|(simp[SE.eq]at h;done)|(simp only[SE.eq,ar6,asL]at h;rw[h.1,ih h.2])
 |proj e j ih=>intro c h;cases c<;>first|(simp[SE.eq]at h;done)|(simp only[SE.eq,ar6,asL]at h;rw[h.1,ih h.2])
 |tr q e ih=>intro c h;cases c<;>first|(simp[SE.eq]at h;done)|(simp only[SE.eq,ar6,asL]at h;rw[h.1,ih h.2])
 |un op e ih=>intro c h;cases c<;>first|(simp[SE.eq]at h;done)|(simp only[SE.eq,ar6,beq_iff_eq]at h;rw[h.1,ih h.2])
 |cv p q e ih=>intro c h;cases c<;>first|(simp[SE.eq]at h;done)|(simp only[SE.eq,ar6,asL]at h;rw[h.1.1,h.1.2,ih h.2])
 |idx q e x fm eH=>intro c h;cases c<;>first|(simp[SE.eq]at h;done)|(simp only[SE.eq,ar6,asL]at h;rw[h.1.1,fm h.1.2,eH h.2])
 |CK q e x j fm eH=>intro c h;cases c<;>first|(simp[SE.eq]at h;done)|(simp only[SE.eq,ar6,asL]at h;rw[h.1.1.1,h.1.1.2,fm h.1.2,eH h.2])
 |ac e x fm eH=>intro c h;cases c<;>first|(simp[SE.eq]at h;done)|(simp only[SE.eq,ar6]at h;rw[fm h.1,eH h.2])
 |bin op t e x fm eH=>intro c h;cases c<;>first|(simp[SE.eq]at h;done)|(simp only[SE.eq,ar6,asL,beq_iff_eq]at h;rw[h.1.1.1,h.1.1.2,fm h.1.2,eH h.2])
 |mx q e x fm eH=>intro c h;cases c<;>first|(simp[SE.eq]at h;done)|(simp only[SE.eq,ar6,beq_iff_eq]at h;rw[h.1.1,fm h.1.2,eH h.2])
 |As e x fm eH=>intro c h;cases c<;>first|(simp[SE.eq]at h;done)|(simp only[SE.eq,ar6]at h;rw[fm h.1,eH h.2])
 |dec q e x fm eH=>intro c h;cases c<;>first|(simp[SE.eq]at h;done)|(simp only[SE.eq,ar6,asL]at h;rw[h.1.1,fm h.1.2,eH h.2])
 |qL|rws|cat|has|Bl|sub|HN|Gx|ins|get=>intro c h;cases c<;>simp[SE.eq]at h
theorem Oa{o:Option (LO SE)}{s:Nat}{cut fr:Bool}{es:SE}(h:Mr o s cut fr es=true):o=some (.row s false cut fr es):=by
 unfold Mr at h;split at h
 ·simp only[ar6,asL,beq_iff_eq]at h;rw[h.1.1.1,h.1.1.2,h.1.2,SE.eq_eq h.2]
 ·cases h
theorem ph{e:SE}{z:IV}(h:(SE.ok e).den P ν=some z):e.den P ν=some z∧Ev.ab z=true:=by
 simp only[SE.den,ass]at h;obtain⟨y,h1,h2⟩:=h;unfold xU at h2;split at h2
 ·cases h2;exact⟨h1,by assumption⟩
 ·cases h2
variable(hJ:J (aj P ν) R φ V.g V.l E σ)(hn:ν.length=V.n)
include hJ hn
theorem U0{t:TypeId}{a x:Operand}{j s off ext:Nat}{i es:SE}{cut fr f:Bool}{zs:List SE}{V2:SS}(ho:o.op=.store t a x)(ha:bG P d V 0 a=.one (.pr j i off ext))(hj:V.l[j]?=some (.row s false cut fr es))
 (h0:off=0)(h2:(ew (bG P d V t x)).length=s)(h3:s=ext)(aK:aI P t=some s)(Xg:rC (ew (bG P d V t x))=true)(jk:sN V (ew (bG P d V t x))=some (f,zs,V2))(yJ:V2.l[j]?=some (.row s false cut fr es))
 (CN:isAgg P t=true∨s=1)
 (hs:(newVar V2 (.Bl s es i (if isAgg P t then dN zs else zs.headD .an)) fun z V=>k (.one .un) (V.setObj j (.row s false cut (fr||f) z))).sat P C Q K ν):cN P C Q K ν E V.ln k (bE P E d o σ):=by
 subst h0 h3;obtain⟨R',dK,dP,RX,GI⟩:=uy hJ jk;have H8:=aW hJ d 0 a;rw[ha]at H8;have aap:=dK.KO (x:=aq (E d) a) (c:=.pr j i 0 s) H8;obtain⟨s',lu,uj,cL,z',aB,y,n,id,cs,ar,mn,a1,a2,a3,a4,a5,a6,a7,a8,a9⟩:=aap;rw[yJ]at a1;cases a1;obtain⟨bu,gF,g1,g2,g3⟩:=dP.obj j _ yJ;have r6:es.den P ν=some (.tree s aB):=a2;have mQ:es.den P ν=some (.tree s gF):=g1;rw[r6]at mQ;cases mQ;rcases g3 with⟨g3,_⟩|⟨bp,cm,g_,o7,g3,g4,g5,g6,g7,g8,g9⟩
 ·rw[a7]at g3;cases g3
 rw[a7]at g3;cases g3;rw[a8]at g4;cases g4;have hc:=yX (aW hJ d t x) Xg;obtain⟨ys,b1,b2,b3⟩:=GI _ hc;have Oc:(cellsOf (aq (E d) x)).length=s:=by rw[hc.len,h2]
 have FP:ys.length=s:=by rw[←b1.len,RX,h2]
 obtain⟨ze,Xh,FB⟩:∃ze,(if isAgg P t=true then dN zs else zs.headD .an).den P ν=some ze∧cellsOf ze=ys:=by
  split
  ·exact⟨_,ey b1,rfl⟩
  ·rename_i Wm;have c9:s=1:=CN.resolve_left Wm;have Od:ys.length=1:=by omega
   obtain⟨y0,rfl⟩:=au8.1 Od;obtain⟨z0,rfl⟩:=au8.1 (b1.len.trans Od);refine⟨y0,b1.1,?_⟩;have:Ev.ab y0=true:=by simpa using b3
   cases y0<;>first|rfl|(simp[Ev.ab]at this;done)
 obtain⟨anR,H9,hk⟩:=hs
 have uC:(SE.Bl s es i (if isAgg P t=true then dN zs else zs.headD .an)).den P ν=some (.tree s (aB.set n ze)):=by
  simp only[SE.den,ass]at H9⊢;have a3':i.den P ν=some y:=a3;refine⟨_,r6,y,a3',ze,Xh,?_⟩;obtain⟨q,rfl⟩:=adE a4;simp[vw,fa,a5,FB,FP]
 rw[uC]at H9;cases H9
 have TT:n*s+s≤aB.length*s:=by
  have:(n+1)*s≤aB.length*s:=asB s a5;rw[asG]at this;omega
 have tV:=dP.up (gN:=aj P (ν++[.tree s (aB.set n ze)])) (fun e z h=>SE.cI P e h)
 have gS:(SE.var V2.n).den P (ν++[.tree s (aB.set n ze)])=some (.tree s (aB.set n ze)):=by
  have:V2.n=ν.length:=by rw[hn];exact dK.2.1
  simp[SE.den,this]
 have Xi:=tV.Xf (cL:=fr||f) (z':=.var V2.n) (cm:=dm cs (n*s) (cellsOf (aq (E d) x))) a7 yJ a8 (tA (by omega)) (SE.cI P es r6) gS (by simp)
  (fun e he=>by
   rcases List.mem_or_eq_of_mem_set he with he|rfl
   ·exact g2 e he
   ·rw[FB,FP])
  (wT g8 (pO hc Xg))
  (fun q u v hu hv=>by
   rw[aao g2 a5 (by rw[FB,FP])]at hv;rw[mF (α:=IV) (by omega)]at hu;rw[mF (α:=IV) (by rw[na g2,FB,FP];exact TT)]at hv;rw[Oc]at hu;rw[FB,FP]at hv;by_cases hq:n*s≤q∧q<n*s+s
   ·rw[if_pos hq]at hu hv;exact(b2.get hu hv).wide (fun h=>by simp[h])
   ·rw[if_neg hq]at hu hv;exact(g9 q u v hu hv).wide (fun h=>by simp[h]))
 refine⟨.undef,σ.put id (.cells (dm cs (n*s) (cellsOf (aq (E d) x))) ar ar),R',φ,.one .un,({V2 with n:=V2.n+1}:SS).setObj j (.row s false cut (fr||f) (.var V2.n)),[.tree s (aB.set n ze)],?_,Xi,trivial,?_,dK.2.2.1,hk⟩
 ·have ji:=pO hc Xg;simp only[bE,ak,ho,a9,aK,a8,Oc,ret,Nat.add_zero];rw[if_pos ⟨asT _,trivial,ar9 _,trivial,by omega,ji⟩]
 ·show(ν++[_]).length=V2.n+1;simp[hn,dK.2.1]
theorem Xj{t:TypeId}{a x:Operand}(ho:o.op=.store t a x)(hs:(fE P d o V k).sat P C Q K ν):cN P C Q K ν E V.ln k (bE P E d o σ):=by
 unfold fE at hs;rw[ho]at hs;simp only at hs;split at hs
 ·rename_i j off ext ha;split at hs
  ·rename_i cs hj;split at hs
   ·rename_i hc;simp only[ar6,atN,beq_iff_eq]at hc;exact UZ hJ hn ho ha hj hc.1.1.1 hc.1.1.2 hc.1.2 hc.2 hs
   ·exact hs.elim
  ·exact hs.elim
 ·rename_i j i off ext ha;split at hs
  ·rename_i s cut fr es hj;split at hs
   ·rename_i hc;simp only[ar6,asL,beq_iff_eq,Bool.or_eq_true]at hc;split at hs
    ·rename_i f zs V2 jk;split at hs
     ·rename_i yJ;obtain⟨⟨⟨⟨⟨c1,c2⟩,c3⟩,c4⟩,c5⟩,c6⟩:=hc;exact U0 hJ hn ho ha hj c1 c2 c3 c4 c5 jk (Oa yJ) c6 hs
     ·exact hs.elim
    ·exact hs.elim
   ·exact hs.elim
  ·exact hs.elim
 ·exact hs.elim
theorem Mh{s:TypeId}{x:Operand}{f:Nat}(ho:o.op=.fieldAddr s x f)(hs:(fE P d o V k).sat P C Q K ν):cN P C Q K ν E V.ln k (bE P E d o σ):=by
 unfold fE at hs;rw[ho]at hs;simp only at hs;have hx:=aW hJ d 0 x;split at hs
 ·rename_i fo sz hf;obtain⟨fields,fd,h1,h2,h3,rfl⟩:=FO hf;split at hs
  ·exact hs.elim
  ·rename_i hz;have pf:sz≠0:=by simpa[asL]using hz
   split at hs
   ·rename_i j off ext hh;split at hs
    ·rename_i hle;rw[atN]at hle;rw[hh]at hx;obtain⟨id,cs,g1,g2,g3⟩:=hx;exact .at hs hJ hn rfl ⟨id,cs,g1,g2,rfl⟩ (by simp[bE,ak,ho,g3,h1,h2,h3,pf,hle,ret])
    ·exact hs.elim
   ·rename_i cs hh;split at hs
    ·rename_i hle;rw[atN]at hle;rw[hh]at hx;obtain⟨ds,g1,g2⟩:=hx;have hl:=g2.len;exact .at hs hJ hn rfl ⟨_,rfl,(g2.drop _).take _⟩ (by simp[bE,ak,ho,g1,h1,h2,h3,pf,hl,hle,ret])
    ·exact hs.elim
   ·rename_i fr cs hh;split at hs
    ·rename_i hle;rw[atN]at hle;rw[hh]at hx;obtain⟨g0,⟨FQ,ds,g1,g2⟩|⟨id,off,ep,m,cx,ar,mn,a1,a2,a3,a4,a5,a6,a7,a8⟩⟩:=hx
     ·have hl:=g2.len;exact .at hs hJ hn rfl ⟨fun c hc=>g0 c (aue (atn hc)),.inl ⟨FQ,_,rfl,(g2.drop _).take _⟩⟩ (by simp[bE,ak,ho,g1,h1,h2,h3,pf,hl,hle,ret])
     ·have hlen:((cs.drop fd.offset).take sz).length=sz:=by simp;omega
      refine .at (x:=.ptr id (off+fd.offset) ep sz) hs hJ hn rfl ⟨fun c hc=>g0 c (aue (atn hc)),.inr ⟨id,off+fd.offset,ep,m,cx,ar,mn,a1,a2,a3,a4,by rw[hlen],by rw[hlen];omega,a7,fun j c e he hc=>?_⟩⟩ (by simp[bE,ak,ho,a5,h1,h2,h3,pf,hle,ret]);rw[asF]at he;split at he
      ·rw[atz]at he;exact a8 _ c e he (by rw[show off+(fd.offset+j)=off+fd.offset+j by omega];exact hc)
      ·cases he
    ·exact hs.elim
   ·rename_i j i off ext hh;split at hs
    ·rename_i hle;rw[atN]at hle;rw[hh]at hx;obtain⟨s',lu,uj,cL,z',aB,y,n,id,cs,ar,mn,a1,a2,a3,a4,a5,a6,a7,a8,a9⟩:=hx;exact .at hs hJ hn rfl ⟨s',lu,uj,cL,z',aB,y,n,id,cs,ar,mn,a1,a2,a3,a4,a5,by omega,a7,a8,rfl⟩ (by simp[bE,ak,ho,a9,h1,h2,h3,pf,hle,ret,Nat.add_assoc])
    ·exact hs.elim
   ·exact hs.elim
 ·exact hs.elim
end Go.Ev
namespace Go.Ev
variable{P:Program}{N:Nat}{σ ah:St}{R R':Rs}{φ aH:Ph}{E:Nat→Env}{ν:List IV}
variable{C:Cr}{Q:IV→Prop}{K:List (List IV→Prop)}{V:SS}{d:Nat}{o:Oper}{k:PV SE→SS→af}
def xZ(P:Program)(t:TypeId)(s:Nat)(e:SE):List (SE):=if isAgg P t then(atI s).map (fun j=>.bM e j)else[.ok e]
theorem zV{z:IV}(h:Ev.ab z=true):cellsOf z=[z]:=by
 cases z<;>first|rfl|(simp[Ev.ab]at h;done)
theorem Oe{t:TypeId}{s:Nat}{e:SE}{z:IV}{f:af}(aK:aI P t=some s)(hz:e.den P ν=some z)(hs:(qV P t e f).sat P C Q K ν):
 f.sat P C Q K ν∧All2 (fun y (c:SE)=>c.den P ν=some y∧Ev.ab y=true) (cellsOf z) (xZ P t s e)∧(isAgg P t=true→∃ys,z=.agg ys):=by
 unfold qV at hs;unfold xZ;split at hs
 ·rename_i ha;rw[if_pos ha];obtain⟨⟨y,hy⟩,hk⟩:=hs;refine⟨hk,?_⟩;simp only[SE.den,hz,aK,Option.bind_some,asU]at hy;split at hy
  ·rename_i cs;split at hy
   ·rename_i hc;refine⟨.mk (by simp[cellsOf,hc.1]) fun i a b h1 h2=>?_,fun _=>⟨cs,rfl⟩⟩;have hi:=(ar5.1 h1).1;have cU:i<cs.length:=hi;rw[asi,auN (by omega)]at h2;simp only[asC,ar7]at h2;subst h2;have bf:Ev.ab a=true:=(asl.1 hc.2) a (ash h1);have cH:cs[i]?=some a:=h1;exact⟨by simp[SE.den,hz,cH,xU,bf],bf⟩
   ·cases hy
  ·cases hy
 ·rename_i ha;rw[if_neg ha];obtain⟨⟨y,hy⟩,hk⟩:=hs;obtain⟨h1,h2⟩:=ph hy;rw[hz]at h1;cases h1;rw[zV h2];exact⟨hk,⟨⟨hy,h2⟩,trivial⟩,fun h=>absurd h ha⟩
theorem JH{s:Nat}{z i:SE}{e:IV}(h:(SE.idx s z i).den P ν=some e):∃es y n,z.den P ν=some (.tree s es)∧i.den P ν=some y∧(∃q,y=.raw (.int q (n:Nat)))∧es[n]?=some e∧(cellsOf e).length=s:=by
 simp only[SE.den,ass]at h;obtain⟨a,h1,b,h2,h3⟩:=h;unfold cq at h3;split at h3
 ·rename_i s' es;split at h3
  ·rename_i n hn;split at h3
   ·rename_i hc;split at h3
    ·rename_i x hx;split at h3
     ·rename_i hl;cases h3;obtain⟨rfl,h0⟩:=hc;obtain⟨q,rfl⟩:=BP hn;exact⟨es,_,n.toNat,h1,h2,⟨q,by simp;omega⟩,hx,hl⟩
     ·cases h3
    ·cases h3
   ·cases h3
  ·cases h3
 ·cases h3
theorem Xk{x:IV}{s:Nat}{es:List IV}(h:hZ x (.tree s es))(bc:es≠[]):x=.tree s es∧Pure x:=by
 cases h with
 |nil=>exact absurd rfl bc
 |emp=>exact absurd rfl bc
 |pure _ _ hp=>exact⟨rfl,hp⟩
 |sl _ _ _ _ _ _ _ _ _ _ _ hR=>cases hR
theorem afs{α:Type}{l:List α}{i:Nat}{a:α}(h:l[i]?=some a):l≠[]:=by intro hl;rw[hl]at h;simp at h
theorem KY{α β:Type}{r:α→β→Prop}{q:α→β→Prop}{as:List α}{bs:List β}(h:All2 r as bs)(hq:∀a b,a∈as→r a b→q a b):All2 q as bs:=
 .mk h.len fun _ a b h1 h2=>hq a b (ash h1) (h.get h1 h2)
variable(hJ:J (aj P ν) R φ V.g V.l E σ)(hn:ν.length=V.n)
include hJ hn
theorem pY{e:SE}{f:SE→SS→af}(hs:(newVar V e f).sat P C Q K ν):∃z,e.den P ν=some z∧(f (.var V.n) {V with n:=V.n+1}).sat P C Q K (ν++[z])∧(SE.var V.n).den P (ν++[z])=some z∧J (aj P (ν++[z])) R φ V.g V.l E σ∧(ν++[z]).length=V.n+1:=by
 obtain⟨z,h1,h2⟩:=hs;exact⟨z,h1,h2,by simp[SE.den,←hn],hJ.up fun e z h=>SE.cI P e h,by simp[hn]⟩
theorem Mi{t:TypeId}{x ix:Operand}(ho:o.op=.indexAddr t x ix)(hs:(fE P d o V k).sat P C Q K ν):cN P C Q K ν E V.ln k (bE P E d o σ):=by
 unfold fE at hs;rw[ho]at hs;simp only at hs;have hx:=aW hJ d t x;have hi:=aW hJ d 3 ix;split at hs
 ·rename_i et i hu KZ;rw[KZ]at hi;split at hs
  ·rename_i s aK;split at hs
   ·rename_i z hh;rw[hh]at hx;obtain⟨e,h1,h2,hv,K3,CB⟩:=pY hJ hn hs;obtain⟨es,y,n,g1,g2,⟨q,rfl⟩,g4,g5⟩:=JH h1;obtain⟨y',a1,a2,a3⟩:=hx;have wm:z.den P ν=some y':=a1;rw[g1]at wm;cases wm;obtain⟨hxe,hp⟩:=Xk a2 (afs g4);obtain⟨yi,b1,b2,b3⟩:=hi;have wq:i.den P ν=some yi:=b1;rw[g2]at wq;cases wq;have Ar:=bS b2;obtain⟨hk,ij,_⟩:=Oe aK hv h2
    have Dk:∀c∈cellsOf e,Pure c:=by
     rw[hxe]at hp;cases hp with|tree _ _ hh=>exact hh e (ash g4)
    refine⟨.kO (cellsOf e),σ,R,φ,.one (.tp (xZ P et s (.var V.n))),{V with n:=V.n+1},[e],?_,K3,⟨_,rfl,KY ij fun a b ha bR=>⟨a,bR.1,.pure a rfl (Dk a ha),bR.2⟩⟩,CB,rfl,hk⟩;simp[bE,ak,ho,hu,hxe,Ar,aK,g4,g5,ret]
   ·rename_i fr z hh;rw[hh]at hx;obtain⟨e,h1,h2,hv,K3,CB⟩:=pY hJ hn hs;obtain⟨es,y,n,g1,g2,⟨q,rfl⟩,g4,g5⟩:=JH h1;obtain⟨y',a1,a2,a3⟩:=hx;have wm:z.den P ν=some y':=a1;rw[g1]at wm;cases wm;obtain⟨yi,b1,b2,b3⟩:=hi;have wq:i.den P ν=some yi:=b1;rw[g2]at wq;cases wq;have Ar:=bS b2;obtain⟨hk,ij,_⟩:=Oe aK hv h2
    have hg0:∀c∈xZ P et s (.var V.n),∃y,c.den P (ν++[e])=some y∧Ev.ab y=true:=by
     intro c hc;obtain⟨j,hj⟩:=atT hc;obtain⟨a,_,bR⟩:=ij.zO hj;exact⟨a,bR⟩
    generalize hex:aq (E d) x=xv at a2;generalize K4:IV.tree s es=zt at a2;cases a2 with
    |nil s' aZ=>injection K4 with h1 h2;subst h2;simp at g4
    |emp s' aZ=>injection K4 with h1 h2;subst h2;simp at g4
    |pure _ hf hp=>
     subst K4
     have Dk:∀c∈cellsOf e,Pure c:=by
      cases hp with|tree _ _ hh=>exact hh e (ash g4)
     refine⟨.kO (cellsOf e),σ,R,φ,.one (.tw fr (xZ P et s (.var V.n))),{V with n:=V.n+1},[e],?_,K3,⟨hg0,.inl ⟨hf,_,rfl,KY ij fun a b ha bR=>⟨a,bR.1,.pure a rfl (Dk a ha)⟩⟩⟩,CB,rfl,hk⟩;simp[bE,ak,ho,hu,hex,Ar,aK,g4,g5,ret]
    |sl id off len cap ep s' m cs ar mn aB hR az cH CA aZ hl hb hm bD hh=>
     injection K4 with mG H_
     subst mG H_ hl;have aa:=(ar5.1 g4).1;have hlen:(xZ P et s (.var V.n)).length=s:=by rw[←ij.len,g5]
     have fB:n*s+s≤es.length*s:=by
      have:(n+1)*s≤es.length*s:=asB s aa;rw[asG]at this;omega
     refine⟨.ptr id (off+n*s) ep s,σ,R,φ,.one (.tw fr (xZ P et s (.var V.n))),{V with n:=V.n+1},[e],?_,K3,⟨hg0,.inr ⟨id,off+n*s,ep,m,cs,ar,mn,hR,az,cH,CA,by rw[hlen],by rw[hlen];omega,hm,fun j c ce qB hc=>?_⟩⟩,CB,rfl,hk⟩
     ·simp[bE,ak,ho,hu,hex,Ar,aK,aa,ret]
     ·obtain⟨a,ha,bR⟩:=ij.zO qB;exact⟨a,bR.1,hh n e j c a g4 ha (by rw[show off+n*s+j=off+(n*s)+j by omega]at hc;exact hc)⟩
    |raw v=>cases K4
    |cY=>cases K4
    |agg=>cases K4
    |av=>cases K4
   ·rename_i j hh;rw[hh]at hx;split at hs
    ·rename_i s' st cut fr aB hj;split at hs
     ·rename_i gW;have uD:=Nat.eq_of_beq_eq_true gW;subst uD;obtain⟨⟨e,h1⟩,hk⟩:=hs;obtain⟨es,y,n,g1,g2,⟨q,rfl⟩,g4,g5⟩:=JH h1;obtain⟨yi,b1,b2,b3⟩:=hi;have wq:i.den P ν=some yi:=b1;rw[g2]at wq;cases wq;have Ar:=bS b2;have aa:=(ar5.1 g4).1;obtain⟨s2,Xb,aaq,Xc,z2,gF,a1,a2,a3⟩:=hx;rw[hj]at a1;cases a1;have r6:aB.den P ν=some (.tree s gF):=a2;rw[g1]at r6;cases r6;rcases a3 with⟨_,c2,_⟩|⟨id,cs,ar,mn,cap,c1,c2,c3,c4,c5,c6⟩
      ·omega
      ·refine .at (x:=.ptr id (n*s+0) ar s) hk hJ hn rfl ⟨s,st,cut,fr,aB,es,_,n,id,cs,ar,mn,hj,g1,g2,by simp[nat?],aa,by omega,c1,c2,rfl⟩ ?_;simp[bE,ak,ho,hu,c3,Ar,aK,aa,ret]
     ·exact hs.elim
    ·exact hs.elim
   ·exact hs.elim
  ·exact hs.elim
 ·rename_i n et i hu KZ;rw[KZ]at hi
  have Ar:aq (E d) ix=.raw (.int .i64 i):=by
   obtain⟨y,h1,h2,_⟩:=hi;simp only[aj,SE.den,ar7]at h1;subst h1;exact bS h2
  split at hs
  ·rename_i s j off ext aK hh;rw[hh]at hx;obtain⟨id,cs,g1,g2,g3⟩:=hx;split at hs
   ·rename_i hc;simp only[ar6,Bool.not_eq_true',decide_eq_true_eq,Nat.blt_eq,atN]at hc;obtain⟨⟨⟨c1,c2⟩,c3⟩,c4⟩:=hc;have jV:s≠0:=by intro h;subst h;simp at c1
    refine .at (x:=.ptr id (off+i.toNat*s) 0 s) hs hJ hn rfl ⟨id,cs,g1,g2,rfl⟩ ?_;have:i<n:=by omega
    simp[bE,ak,ho,hu,g3,Ar,aK,jV,c2,this,c4,ret]
   ·exact hs.elim
  ·exact hs.elim
  ·exact hs.elim
 ·exact hs.elim
end Go.Ev
namespace Go.Ev
variable{P:Program}{N:Nat}{σ ah:St}{R R':Rs}{φ aH:Ph}{E:Nat→Env}{ν:List IV}
variable{C:Cr}{Q:IV→Prop}{K:List (List IV→Prop)}{V:SS}{d:Nat}{o:Oper}{k:PV SE→SS→af}
theorem Q7{op:BinOp}{t:TypeId}{x y x' y':Operand}{u v:Value}(h:u≠.nilIface):eqGuard op t x y u v=eqGuard op t x' y' u v:=by
 unfold eqGuard;cases u<;>first|exact absurd rfl h|rfl|(cases v<;>rfl)
theorem Of{op:BinOp}{t:TypeId}{x y x' y':Operand}{a b:IV}{u v:Value}(ha:ib a=some u)(hb:ib b=some v)(h:u≠.nilIface):oT P op t x y a b=oT P op t x' y' a b:=by
 unfold oT;split<;>first|rfl|skip
 rw[ha,hb];simp only;rw[Q7 (x:=x) (y:=y) (x':=x') (y':=y') h]
theorem Xl{op:BinOp}{t:TypeId}{a b z:IV}(h:da P op t a b=some z){f g:Bool}{xa xb:IV}(ha:aV f R σ xa a)(hb:aV g R σ xb b)(ox oy:Operand):oT P op t ox oy xa xb=some z:=by
 unfold da at h;split at h
 ·cases h
 ·rename_i u v bc hu hv;rw[BO ha hu,BO hb hv,Of (x':=.func 0) (y':=.func 0) hu hv (fun hc=>bc hc)];exact h
 ·cases h
variable(hJ:J (aj P ν) R φ V.g V.l E σ)(hn:ν.length=V.n)
include hJ hn
theorem Og(v:Value):hZ (lift v) (lift v):=by
 unfold lift;split
 ·refine .agg _ _ rfl fun i c e h1 h2=>?_;rw[h1]at h2;cases h2;rw[asi]at h1;obtain⟨u,_,rfl⟩:=ar_.1 h1;exact .raw u
 ·exact .raw _
omit hJ hn in
theorem Oh{op:BinOp}{t:TypeId}{x y:Operand}{a b z:IV}(h:oT P op t x y a b=some z):hZ z z:=by
 unfold oT at h;split at h<;>first|(cases h;exact .raw _)|skip
 ·split at h
  ·cases h;exact .raw _
  ·cases h
 ·split at h
  ·obtain⟨v,_,rfl⟩:=ar_.1 h;unfold lift;split
   ·refine .agg _ _ rfl fun i c e h1 h2=>?_;rw[h1]at h2;cases h2;rw[asi]at h1;obtain⟨u,_,rfl⟩:=ar_.1 h1;exact .raw u
   ·exact .raw _
  ·split at h
   ·split at h
    ·cases h;exact .raw _
    ·cases h;exact .raw _
    ·cases h
   ·split at h
    ·cases h;exact .raw _
    ·cases h;exact .raw _
    ·cases h
theorem Ia{op:BinOp}{t yt:TypeId}{x y:Operand}{a b:SE}(ho:o.op=.binOp op t x y yt){f g:Bool}(ha:∀z,a.den P ν=some z→aV f R σ (aq (E d) x) z)(hb:∀z,b.den P ν=some z→aV g R σ (aq (E d) y) z)
 (hs:(vk (.ok (.bin op t a b)) V k).sat P C Q K ν):cN P C Q K ν E V.ln k (bE P E d o σ):=by
 obtain⟨⟨z,hz⟩,hk⟩:=hs;obtain⟨h1,h2⟩:=ph hz;simp only[SE.den,ass]at h1;obtain⟨u,h3,v,h4,h5⟩:=h1;have h6:=Xl h5 (ha u h3) (hb v h4) x y;exact .at (x:=z) hk hJ hn rfl ⟨z,hz,Oh h6,h2⟩ (by simp[bE,ak,ho,h6,ret])
theorem aft{op:UnOp}{t:TypeId}{x:Operand}(ho:o.op=.unOp op t x)(hs:(fE P d o V k).sat P C Q K ν):cN P C Q K ν E V.ln k (bE P E d o σ):=by
 unfold fE at hs;rw[ho]at hs;simp only at hs;have hx:=aW hJ d 0 x
 have main:∀a:SE,(∀z,a.den P ν=some z→aV true R σ (aq (E d) x) z)→(vk (.ok (.un op a)) V k).sat P C Q K ν→cN P C Q K ν E V.ln k (bE P E d o σ):=by
  intro a ha hs;obtain⟨⟨z,hz⟩,hk⟩:=hs;obtain⟨h1,h2⟩:=ph hz;simp only[SE.den,ass]at h1;obtain⟨u,h3,h4⟩:=h1;unfold UH at h4;split at h4
  ·rename_i v;have hv:=bS (ha _ h3);obtain⟨r,hr,rfl⟩:=ar_.1 h4;exact .at (x:=lift r) hk hJ hn rfl ⟨_,hz,Og hJ hn r,h2⟩ (by simp[bE,ak,ho,hv,hr,ret])
  ·cases h4
 split at hs
 ·rename_i t' hh;rw[hh]at hx;have hb:=N7 hJ hn hx;split at hs
  ·refine .at (x:=.raw (.bool (!t'))) hs hJ hn rfl ⟨_,rfl,.raw _,rfl⟩ ?_;simp[bE,ak,ho,hb,ret,Op.unary,aJ,lift,pure]
  ·exact hs.elim
 ·rename_i a _ hh;rw[hh]at hx;obtain⟨y,h1,h2,_⟩:=hx;exact main a (fun z hz=>by have cH:a.den P ν=some y:=h1;rw[hz]at cH;cases cH;exact h2.mono hJ.AE) hs
 ·rename_i f a hh;rw[hh]at hx;obtain⟨y,h1,h2,_⟩:=hx;exact main a (fun z hz=>by have cH:a.den P ν=some y:=h1;rw[hz]at cH;cases cH;exact h2.cu) hs
 ·exact hs.elim
theorem afu{src dst:TypeId}{x:Operand}(ho:o.op=.convert src dst x)(hs:(fE P d o V k).sat P C Q K ν):cN P C Q K ν E V.ln k (bE P E d o σ):=by
 unfold fE at hs;rw[ho]at hs;simp only at hs;have hx:=aW hJ d src x
 have main:∀a:SE,(∀z,a.den P ν=some z→aV true R σ (aq (E d) x) z)→(vk (.ok (.cv src dst a)) V k).sat P C Q K ν→cN P C Q K ν E V.ln k (bE P E d o σ):=by
  intro a ha hs;obtain⟨⟨z,hz⟩,hk⟩:=hs;obtain⟨h1,h2⟩:=ph hz;simp only[SE.den,ass]at h1;obtain⟨u,h3,h4⟩:=h1;unfold UI at h4;split at h4
  ·rename_i b;have hv:=bS (ha _ h3);split at h4
   ·rename_i q Cs M7;cases h4;exact .at (x:=.raw (.string b)) hk hJ hn rfl ⟨_,hz,.raw _,h2⟩ (by simp[bE,ak,ho,hv,Cs,M7,ret])
   ·cases h4
  ·rename_i v hnv;have hv:=bS (ha _ h3);obtain⟨r,hr,rfl⟩:=ar_.1 h4;refine .at (x:=lift r) hk hJ hn rfl ⟨_,hz,Og hJ hn r,h2⟩ ?_;unfold bE ak;rw[ho];simp only[hv,hr,ret]
  ·cases h4
 split at hs
 ·rename_i a hh;rw[hh]at hx;obtain⟨y,h1,h2,_⟩:=hx;exact main a (fun z hz=>by have cH:a.den P ν=some y:=h1;rw[hz]at cH;cases cH;exact h2.mono hJ.AE) hs
 ·rename_i f a hh;rw[hh]at hx;obtain⟨y,h1,h2,_⟩:=hx;exact main a (fun z hz=>by have cH:a.den P ν=some y:=h1;rw[hz]at cH;cases cH;exact h2.cu) hs
 ·exact hs.elim
theorem Q8{x:Operand}{i:Nat}(ho:o.op=.extract x i)(hs:(fE P d o V k).sat P C Q K ν):cN P C Q K ν E V.ln k (bE P E d o σ):=by
 unfold fE at hs;rw[ho]at hs;simp only at hs;have hx:=aW hJ d 0 x;split at hs
 ·rename_i vs hh;rw[hh]at hx;obtain⟨xs,h1,h2⟩:=hx;split at hs
  ·rename_i cs hi;obtain⟨a,ha,hr⟩:=h2.zO hi;refine .here (x:=a) (pv:=.ag cs) (ai:=σ) (by simp[bE,ak,ho,h1,ha,ret]) hJ ?_ hn rfl hs;simpa[sK,VR]using hr
  ·rename_i c hi;obtain⟨a,ha,hr⟩:=h2.zO hi;refine .at (x:=a) hs hJ hn rfl ?_ (by simp[bE,ak,ho,h1,ha,ret]);simpa[sK]using hr
  ·exact hs.elim
 ·exact hs.elim
theorem Xm{t:TypeId}{x:Operand}{f:Nat}(ho:o.op=.field t x f)(hs:(fE P d o V k).sat P C Q K ν):cN P C Q K ν E V.ln k (bE P E d o σ):=by
 unfold fE at hs;rw[ho]at hs;simp only at hs;have hx:=aW hJ d t x;split at hs
 ·rename_i cs fo sz hh hf;rw[hh]at hx;obtain⟨xs,h1,h2⟩:=hx;obtain⟨fields,fd,g1,g2,g3,rfl⟩:=FO hf;rw[g1]at hs;simp only at hs;split at hs
  ·rename_i hc;simp only[ar6,atN,Option.isSome_iff_exists]at hc;obtain⟨hle,b,hb⟩:=hc;rw[g2]at hs hb;simp only[asC,asU]at hs hb
   obtain⟨pv,hk,qe⟩:∃pv,(k pv V).sat P C Q K ν∧(if isAgg P fd.type=true then pv=.ag ((cs.drop fd.offset).take sz)else∃c,(cs.drop fd.offset).take sz=[c]∧pv=.one c):=by
    split at hs
    ·rename_i ha;split at hs
     ·exact⟨_,hs,by rw[if_pos ha]⟩
     ·exact hs.elim
    ·rename_i ha;split at hs
     ·rename_i c nH;exact⟨_,hs,by rw[if_neg ha];exact⟨c,nH,rfl⟩⟩
     ·exact hs.elim
   obtain⟨v,hv,hr⟩:=rZ g3 hb h2 hle qe;exact .here (x:=v) (pv:=pv) (ai:=σ) (by simp[bE,ak,ho,h1,g1,g2,hv,ret]) hJ hr hn rfl hk
  ·exact hs.elim
 ·exact hs.elim
end Go.Ev
namespace Go.Ev
variable{P:Program}{N:Nat}{σ ah:St}{R R':Rs}{φ aH:Ph}{E:Nat→Env}{ν:List IV}
variable{C:Cr}{Q:IV→Prop}{K:List (List IV→Prop)}{V:SS}{d:Nat}{o:Oper}{k:PV SE→SS→af}
theorem zW{s:Nat}{es:List IV}(h:iz s es=true):(∀e∈es,(cellsOf e).length=s)∧∀c∈flat es,Ev.ab c=true:=by
 unfold iz at h;rw[asl]at h;refine⟨fun e he=>?_,fun c hc=>?_⟩
 ·have:=h e he;simp only[ar6,beq_iff_eq]at this;exact this.1
 ·obtain⟨e,he,qB⟩:=aug.1 hc;have:=h e he;simp only[ar6,asl]at this;exact this.2 c qB
theorem BQ(a b:List IV):flat (a++b)=flat a++flat b:=by simp[flat]
def pj(fr:Bool)(R:Rs)(σ:St)(cs ds:List IV):Prop:=∀(j:Nat) x d,cs[j]?=some x→ds[j]?=some d→aV fr R σ x d
theorem JI{fr:Bool}{x:IV}{s:Nat}{es:List IV}(bu:0<s)(h:aV fr R σ x (.tree s es))(bf:iz s es=true):
 j8 x=some es.length∧∃new,eG s es.length σ x=some new∧new.length=es.length*s∧pj fr R σ new (flat es)∧new.all Ev.ab=true:=by
 obtain⟨h1,h2⟩:=zW bf;generalize hz:IV.tree s es=z at h;cases h with
 |nil s' aZ=>injection hz with a b;subst a b;exact⟨rfl,[],by simp[eG],by simp,fun j x d h=>by simp at h,rfl⟩
 |emp s' aZ=>injection hz with a b;subst a b;exact⟨rfl,[],by simp[eG],by simp,fun j x d h=>by simp at h,rfl⟩
 |pure _ hf hp=>
  subst hz;refine⟨rfl,flat es,by simp[eG,flat],na h1,fun j x d hx hd=>?_,asl.2 h2⟩;rw[hx]at hd;cases hd;refine .pure x hf ?_;obtain⟨e,he,qB⟩:=aug.1 (ash hx);cases hp with|tree _ _ hh=>exact hh e he x qB
 |sl id off len cap ep s' m cs ar mn aB hR az a1 a2 aZ hl hb hm bD hh=>
  injection hz with a b
  subst a b hl
  have ab3:pj fr R σ ((cs.drop off).take (es.length*s)) (flat es):=by
   intro j x d hx hd;have hj:j<es.length*s:=by have:=(ar5.1 hd).1;rw[na h1]at this;exact this
   rw[asF,if_pos hj,atz]at hx
   have hi:j/s<es.length:=by
    rw[Nat.div_lt_iff_lt_mul bu];exact hj
   have he:es[j/s]?=some es[j/s]:=ar4 hi;have FA:j % s<(cellsOf es[j/s]).length:=by rw[h1 _ (asb hi)];exact Nat.mod_lt _ bu
   have qB:(cellsOf es[j/s])[j % s]?=some (cellsOf es[j/s])[j % s]:=ar4 FA;have hjj:j/s*s+j % s=j:=Nat.div_add_mod' j s;have hf:=Bq h1 he qB;rw[hjj,hd]at hf;cases hf;exact hh _ _ _ x _ he qB (by rw[show off+j/s*s+j % s=off+j by omega];exact hx)
  refine⟨rfl,(cs.drop off).take (es.length*s),?_,by simp;omega,ab3,?_⟩
  ·simp only[eG];rw[if_pos ⟨trivial,ar9 _⟩,az];simp only;rw[if_pos ⟨a1,a2,by omega⟩]
  ·rw[asl];intro c hc;obtain⟨j,hj⟩:=atT hc;have aa:=(ar5.1 hj).1;have dT:j<(flat es).length:=by rw[na h1];simp at aa;omega
   exact(ab3 j c _ hj (ar4 dT)).ab (h2 _ (asb dT))
 |raw v=>cases hz
 |cY=>cases hz
 |agg=>cases hz
 |av=>cases hz
theorem Oi{L:List (LO SE)}{Γ:Gm SE}(h:J (aj P ν) R φ Γ L E σ){k s:Nat}{st cut fr:Bool}{z:SE}{x:IV}{es:List IV}(hk:L[k]?=some (.row s st cut fr z))(hz:z.den P ν=some (.tree s es))(hx:cw (aj P ν) R φ L σ x (.sr k)):
 j8 x=some es.length∧∃new,eG s es.length σ x=some new∧new.length=es.length*s∧pj fr R σ new (flat es)∧new.all Ev.ab=true:=by
 obtain⟨bu,gF,g1,g2,g3⟩:=h.obj k _ hk;have mQ:z.den P ν=some (.tree s gF):=g1;rw[hz]at mQ;cases mQ;obtain⟨s2,Xb,aaq,Xc,z2,K5,a1,a2,a3⟩:=hx;rw[hk]at a1;cases a1;have r6:z.den P ν=some (.tree s K5):=a2;rw[hz]at r6;cases r6;rcases a3 with⟨_,b2,b3⟩|⟨id,cs,ar,mn,cap,b1,b2,rfl,b4,b5,b6⟩
 ·have:es=[]:=List.eq_nil_of_length_eq_zero b2;subst this;rcases b3 with rfl|rfl
  ·exact⟨rfl,[],by simp[eG],by simp,fun j x d h=>by simp at h,rfl⟩
  ·exact⟨rfl,[],by simp[eG],by simp,fun j x d h=>by simp at h,rfl⟩
 ·rcases g3 with⟨g3,_⟩|⟨bp,cm,g_,o7,g3,g4,g5,g6,g7,g8,g9⟩
  ·rw[b1]at g3;cases g3
  ·rw[b1]at g3;cases g3;rw[b2]at g4;cases g4;refine⟨by simp[j8],cs.take (es.length*s),?_,by simp;omega,fun j x d hx hd=>?_,?_⟩
   ·simp only[eG];rw[if_pos ⟨trivial,by simp⟩,b2];simp only;rw[if_pos ⟨g5,ar9 _,by omega⟩];simp
   ·rw[asF]at hx;split at hx
    ·exact g9 j x d hx hd
    ·cases hx
   ·rw[asl]at g8⊢;exact fun c hc=>g8 c (atn hc)
theorem U1{fr cL:Bool}{cs ds cm l6:List IV}(h:pj fr R σ cs ds)(hl:cs.length=ds.length)(h':pj cL R σ cm l6):pj (fr||cL) R σ (cs++cm) (ds++l6):=by
 intro j x d hx hd;by_cases hj:j<cs.length
 ·rw[asf hj]at hx;rw[asf (by omega)]at hd;exact(h j x d hx hd).wide (fun h=>by simp[h])
 ·rw[asw (by omega)]at hx;rw[asw (by omega),←hl]at hd;exact(h' _ x d hx hd).wide (fun h=>by simp[h])
end Go.Ev
