/- Lemmas over the model, without conditions of their own: calls on expressions. -/
import Derived.Test.YtggffkaadeagbaaGreatEvM
import Derived.Test.YtggffkaadeagbaaGreatEvI
open List renaming getElem?_eq_some_iff->ar5,getElem?_eq_getElem->ar4,getElem?_map->asi,mem_of_getElem?->ash,getElem?_of_mem->atT,length_map->atC,length_cons->asS,isEmpty_iff->atg,ext_getElem?->auY,getElem?_eq_none_iff->aub,length->asJ,all_eq_true->asl,append_nil->asp,append_assoc->asv,mapM_cons->at7,mapM_nil->av6,getElem?_append_left->asf,mem_cons_of_mem->atE,mem_flatMap->aug
open Nat renaming eq_of_beq_eq_true->asd,le_refl->ar9,lt_of_lt_of_le->auw,lt_or_ge->avI,zero_le->asT,blt->as_,ble_eq->atN,beq_eq->asL,zero_add->atx
open Option renaming bind_eq_some_iff->ass,map_eq_some_iff->ar_
open Go.Fence renaming wide->asz
open Array renaming getElem?_eq_none->atY,getElem?_eq_getElem->asy,getElem?_eq_some_iff->asW
open Option.some renaming inj->aus,injEq->ar7
open List.cons renaming injEq->as5
open Prod.mk renaming injEq->asx
open Bool renaming and_eq_true->ar6,false_eq_true->asD,false_or->aun
open Go.ResultVar renaming tmp->axW,cell->axX
set_option linter.all false
namespace Go.Ev
variable{P:Program}{N:Nat}{σ ah:St}{R R':Rs}{φ aH:Ph}{E:Nat→Env}{ν:List IV}
abbrev Ve(ins:List (List IV)):List (LO IV):=ins.map fun cs=>.var (cs.map .v)
abbrev MF(ins:List (List IV))(R:Rs)(φ:Ph)(E:Nat→Env)(σ:St):Prop:=J (α:=IV) some R φ [] (Ve ins) E σ
def DV(φ:Ph)(ins:List (List IV))(ps:List IV):Prop:=
 ps.length=ins.length∧∀i cs p,ins[i]?=some cs→ps[i]?=some p→∃id,φ i=some id∧p=.ptr id 0 0 cs.length
def BZ(P:Program)(f:FuncId)(ins:List (List IV))(xs:List IV)(outs:List (List IV))(z:IV):Prop:=
 ∀R φ E σ ps args,MF ins R φ E σ→DV φ ins ps→All2 hZ args xs→∀KW:Nat→IV→St→Prop,
  (∀R' aH ah v,MF outs R' aH E ah→DV aH outs ps→hZ v z→∃b,∀N,b≤N→KW N v ah)→∃b,∀N,b≤N→dD P N f (ps++args) σ (KW N)
def xm{α:Type}(ev:α→Option IV)(ds:List (Cl α))(cs:List IV):Prop:=All2 (fun(c:Cl α) u=>∃e,c=.v e∧ev e=some u) ds cs
theorem adK{α:Type}{ev:α→Option IV}{Γ:Gm α}{L:List (LO α)}(h:J ev R φ Γ L E σ){k:Nat}{ds:List (Cl α)}{cs:List IV}(hk:L[k]?=some (.var ds))(hc:xm ev ds cs):
 ∃id cx,φ k=some id∧R id=none∧σ.at id=some (.cells cx 0 0)∧cx.length=cs.length∧∀(j:Nat) x u,cx[j]?=some x→cs[j]?=some u→hZ x u∧ab u=true:=by
 obtain⟨id,cx,h1,h2,h3,h4⟩:=h.obj k _ hk;refine⟨id,cx,h1,h2,h3,by rw[h4.len,hc.len],fun j x u hx hu=>?_⟩;have hj:j<ds.length:=by rw[hc.len];exact(ar5.1 hu).1
 obtain⟨e,he,yD⟩:=hc.get (ar4 hj) hu;have:=h4.get hx (ar4 hj);rw[he]at this;obtain⟨y,y1,y2,y3⟩:=this;rw[yD]at y1;cases y1;exact⟨y2,y3⟩
theorem getElem?_inj{ks:List Nat}(AJ:ks.Nodup){i i' k:Nat}(h1:ks[i]?=some k)(h2:ks[i']?=some k):i=i':=by
 exact(List.getElem?_inj (ar5.1 h1).1 AJ).1 (h1.trans h2.symm)
theorem Vf{α:Type}{ev gN:α→Option IV}{Γ:Gm α}{L L':List (LO α)}(RL:∀e z,ev e=some z→gN e=some z)(h:J ev R φ Γ L E σ){ks:List Nat}(AJ:ks.Nodup)
 {ins outs:List (List IV)}{f:FuncId}{xs ps args:List IV}{z:IV}(eQ:ks.length=ins.length)(xD:∀(i k:Nat) (cs:List IV),ks[i]?=some k→ins[i]?=some cs→∃ds:List (Cl α),L[k]?=some (LO.var ds)∧xm ev ds cs)
 (RJ:DV (fun i=>(ks[i]?).bind φ) ins ps)(bg:All2 hZ args xs)(hr:BZ P f ins xs outs z)(ho:outs.length=ins.length)(hlL:L'.length=L.length)
 (hLo:∀j,j∉ks→L'[j]?=L[j]?)(hLk:∀(i k:Nat) (cs:List IV),ks[i]?=some k→outs[i]?=some cs→∃ds:List (Cl α),L'[k]?=some (LO.var ds)∧xm gN ds cs)
 (KW:Nat→IV→St→Prop)(Oy:∀R' ah v,J gN R' φ Γ L' E ah→hZ v z→∃b,∀N,b≤N→KW N v ah):
 ∃b,∀N,b≤N→dD P N f (ps++args) σ (KW N):=by
 let cQ:Nat→Bool:=fun i=>ks.any fun k=>match φ k with
  |some id=>Nat.beq i id
  |none=>false
 have DU:∀i,cQ i=true↔∃k∈ks,φ k=some i:=fun i=>by
  simp only[cQ,List.any_eq_true];constructor
  ·rintro⟨k,hk,hh⟩;refine⟨k,hk,?_⟩;split at hh
   ·rename_i id hid;rw[hid,asd hh]
   ·cases hh
  ·rintro⟨k,hk,hh⟩;exact⟨k,hk,by rw[hh];simp⟩
 have az:=JQ cQ h.top
 let φ0:Ph:=fun i=>(ks[i]?).bind φ
 have aaH:∀i id,φ0 i=some id→∃k,ks[i]?=some k∧φ k=some id:=fun i id hi=>by
  simp only[φ0]at hi;exact ass.1 hi
 have Ui:∀(i:Nat) (cs:List IV),ins[i]?=some cs→∃(k id:Nat) (cx:List IV),ks[i]?=some k∧φ k=some id∧R id=none∧σ.at id=some (.cells cx 0 0)∧cx.length=cs.length∧∀(j:Nat) x u,cx[j]?=some x→cs[j]?=some u→hZ x u∧ab u=true:=fun i cs hi=>by
  have cU:i<ks.length:=by rw[eQ];exact(ar5.1 hi).1
  have hk:=ar4 cU;obtain⟨ds,d1,d2⟩:=xD i _ cs hk hi;obtain⟨id,cx,a⟩:=adK h d1 d2;exact⟨_,id,cx,hk,a⟩
 have l7:MF ins (fun _=>none) φ0 E (σ.only cQ):=by
  refine⟨fun d t pv hg=>(by cases hg),fun j ob hj=>?_,fun j j' id h1 h2=>?_,fun j id hj=>?_,fun id m hm=>(by cases hm),fun id m cs ar mn hm=>(by cases hm),T.Ff _ _,fun id hid=>?_⟩
  ·rw[asi]at hj;obtain⟨cs,bD,rfl⟩:=ar_.1 hj;obtain⟨k,id,cx,k1,k2,k3,k4,k5,k6⟩:=Ui j cs bD;refine⟨id,cx,by simp[φ0,k1,k2],rfl,?_,.mk (by simp[k5]) fun q x c hx hc=>?_⟩
   ·rw[az,(DU id).2 ⟨k,ash k1,k2⟩];simpa using k4
   ·rw[asi]at hc;obtain⟨u,hu,rfl⟩:=ar_.1 hc;obtain⟨c1,c2⟩:=k6 q x u hx hu;exact⟨u,rfl,c1,c2⟩
  ·obtain⟨k,k1,k2⟩:=aaH j id h1;obtain⟨k',Lg,k2'⟩:=aaH j' id h2;have:=h.inj k k' id k2 k2';subst this;exact getElem?_inj AJ k1 Lg
  ·obtain⟨k,k1,k2⟩:=aaH j id hj;refine⟨?_,(h.lt k id k2).2⟩;have:=(ar5.1 k1).1;simp;omega
  ·rw[az];split
   ·exact h.top id hid
   ·rfl
 suffices Vd:∀R1 dt ai v,MF outs R1 dt E ai→DV dt outs ps→hZ v z→σ.n≤ai.n→(∀id,id<σ.n→cQ id=false→ai.at id=none)→∃b,∀N,b≤N→KW N v (σ.back ai cQ) by
  obtain⟨b,hb⟩:=hr _ _ _ _ ps args l7 RJ bg (fun N v ai=>σ.n≤ai.n→(∀id,id<σ.n→cQ id=false→ai.at id=none)→KW N v (σ.back ai cQ)) fun R1 dt ai v h1 h2 h3=>by
   by_cases hc:σ.n≤ai.n∧∀id,id<σ.n→cQ id=false→ai.at id=none
   ·obtain⟨b,hb⟩:=Vd R1 dt ai v h1 h2 h3 hc.1 hc.2;exact⟨b,fun N hN _ _=>hb N hN⟩
   ·exact⟨0,fun N _ h3 h4=>absurd ⟨h3,h4⟩ hc⟩
  refine⟨b,fun N hN ι us w hi lq=>((hb N hN).frame cQ h.top ι us w hi lq).mono fun ed w' hR=>?_⟩;obtain⟨v,ah,⟨ai,iN,rfl,hle,_,BW⟩,GN⟩:=hR;exact⟨v,σ.back ai cQ,iN hle BW,GN⟩
 intro R1 dt ai v bk hP1 hv hle BW;have Il:=bk.top;have AI:=JR (σ:=σ) (ai:=ai) cQ hle Il;have hold:∀id,id<σ.n→cQ id=false→(σ.back ai cQ).at id=σ.at id:=fun id h1 h2=>by rw[AI,if_pos ⟨h1,h2⟩]
 have dG:∀id ob,ai.at id=some ob→¬(id<σ.n∧cQ id=false):=fun id ob ho hc=>by rw[BW id hc.1 hc.2]at ho;cases ho
 have Im:∀id ob,ai.at id=some ob→(σ.back ai cQ).at id=some ob:=fun id ob ho=>by rw[AI,if_neg (dG id ob ho)];exact ho
 let R2:Rs:=fun i=>if i<σ.n∧cQ i=false then R i else R1 i
 have hRk:∀k id,k∈ks→φ k=some id→R id=none:=fun k id hk hid=>by
  obtain⟨i,hi⟩:=atT hk;have cU:i<ins.length:=by rw[←eQ];exact(ar5.1 hi).1
  obtain⟨k',bp,cx,k1,k2,k3,_⟩:=Ui i _ (ar4 cU);rw[hi]at k1;cases k1;rw[hid]at k2;cases k2;exact k3
 have yg:∀id m,R id=some m→id<σ.n∧cQ id=false:=fun id m hm=>by
  refine⟨h.qb id m hm,?_⟩;cases hv:cQ id with
  |false=>rfl
  |true=>
   obtain⟨k,hk,hid⟩:=(DU id).1 hv;rw[hRk k id hk hid]at hm;cases hm
 have ry:∀j id,j∉ks→φ j=some id→id<σ.n∧cQ id=false:=fun j id hj hid=>by
  refine⟨(h.lt j id hid).2,?_⟩;cases hv:cQ id with
  |false=>rfl
  |true=>
   obtain⟨k,hk,iv⟩:=(DU id).1 hv;exact absurd (h.inj j k id hid iv▸hk) hj
 have wz:∀id m cs ar mn,R2 id=some m→(σ.back ai cQ).at id=some (.cells cs ar mn)→m≤cs.length:=fun id m cs ar mn hm ha=>by
  simp only[R2]at hm;rw[AI]at ha;split at hm
  ·rename_i hc;rw[if_pos hc]at ha;exact h.fits id m cs ar mn hm ha
  ·rename_i hc;rw[if_neg hc]at ha;exact bk.fits id m cs ar mn hm ha
 have pM:ic R σ R2 (σ.back ai cQ):=by
  refine⟨fun id m hm=>⟨m,by simp only[R2];rw[if_pos (yg id m hm)];exact hm,ar9 _⟩,fun id m cs ar mn hm ha=>⟨cs,ar,?_,ar9 _,fun _ _=>rfl⟩,wz⟩;rw[hold id (yg id m hm).1 (yg id m hm).2];exact ha
 have ab6:∀k,k∈ks→∃(i:Nat) (cs:List IV) (ds:List (Cl α)),ks[i]?=some k∧outs[i]?=some cs∧L'[k]?=some (.var ds)∧xm gN ds cs:=fun k hk=>by
  obtain⟨i,hi⟩:=atT hk;have cU:i<outs.length:=by rw[ho,←eQ];exact(ar5.1 hi).1
  obtain⟨ds,d1,d2⟩:=hLk i k _ hi (ar4 cU);exact⟨i,_,ds,hi,ar4 cU,d1,d2⟩
 have XF:∀k,k∈ks→∃ds:List (Cl α),L[k]?=some (.var ds):=fun k hk=>by
  obtain⟨i,hi⟩:=atT hk;have cU:i<ins.length:=by rw[←eQ];exact(ar5.1 hi).1
  obtain⟨ds,d1,_⟩:=xD i k _ hi (ar4 cU);exact⟨ds,d1⟩
 have hs:jU ev gN R φ L σ R2 φ L' (σ.back ai cQ) (fun _=>False):=by
  refine⟨RL,pM,fun j cs hj=>?_,fun j kt eP hj=>?_,fun j s1 rX rG rY z1 hj _=>?_⟩
  ·by_cases bB:j∈ks
   ·obtain⟨_,_,ds,_,_,d1,_⟩:=ab6 j bB;exact⟨⟨ds,d1⟩,rfl⟩
   ·exact⟨⟨cs,by rw[hLo j bB];exact hj⟩,rfl⟩
  ·have bB:j∉ks:=fun hc=>by obtain⟨ds,hd⟩:=XF j hc;rw[hj]at hd;cases hd
   exact⟨⟨eP,by rw[hLo j bB];exact hj⟩,rfl⟩
  ·have bB:j∉ks:=fun hc=>by obtain⟨ds,hd⟩:=XF j hc;rw[hj]at hd;cases hd
   exact⟨⟨rX,rY,z1,by rw[hLo j bB];exact hj,fun e he=>⟨e,RL _ _ he,rfl⟩⟩,rfl,fun id cs ar mn hid ha=>⟨cs,mn,by rw[hold id (ry j id bB hid).1 (ry j id bB hid).2];exact ha,rfl,fun h=>h⟩⟩
 refine Oy R2 (σ.back ai cQ) v ⟨fun d t pv hg=>(h.slot d t pv hg).step hs (PV.aS _),fun j ob hj=>?_,h.inj,fun j id hj=>?_,fun id m hm=>?_,wz,T.Ff _ _,fun id hid=>?_⟩ hv
 ·by_cases bB:j∈ks
  ·obtain⟨i,cs,ds,i1,i2,i3,i4⟩:=ab6 j bB;rw[i3]at hj;cases hj;have cU:i<ps.length:=by rw[hP1.1];exact(ar5.1 i2).1
   obtain⟨id,p1,p2⟩:=hP1.2 i cs _ i2 (ar4 cU);have KZ:i<ins.length:=by rw[←ho];exact(ar5.1 i2).1
   obtain⟨qz,q1,q2⟩:=RJ.2 i _ _ (ar4 KZ) (ar4 cU);rw[p2]at q2;injection q2 with q2 _ _ _
   subst q2;have aaI:φ j=some id:=by simpa[i1]using q1
   have dr:(Ve outs)[i]?=some (.var (cs.map .v)):=by rw[asi,i2];rfl
   obtain⟨bp,cx,o1,o2,o3,o4⟩:=bk.obj i _ dr;rw[p1]at o1;cases o1;refine⟨id,cx,aaI,?_,Im id _ o3,.mk (by rw[o4.len,atC,i4.len]) fun q x c hx hc=>?_⟩
   ·simp only[R2];rw[if_neg (dG id _ o3)];exact o2
   ·have hq:q<cs.length:=by rw[←i4.len];exact(ar5.1 hc).1
    have XG:(cs.map Cl.v)[q]?=some (.v cs[q]):=by rw[asi,ar4 hq];rfl
    obtain⟨y,y1,y2,y3⟩:=o4.get hx XG;cases y1;obtain⟨e,rfl,he⟩:=i4.get hc (ar4 hq);exact⟨_,he,y2,y3⟩
  ·rw[hLo j bB]at hj;exact(h.obj j ob hj).step hs rfl (fun id hid=>⟨hold id (ry j id bB hid).1 (ry j id bB hid).2,by simp only[R2];rw[if_pos (ry j id bB hid)]⟩) (LO.aS _)
 ·have:=h.lt j id hj;exact⟨by rw[hlL];exact this.1,auw this.2 hle⟩
 ·simp only[R2]at hm;split at hm
  ·exact auw (h.qb id m hm) hle
  ·exact bk.qb id m hm
 ·have iv:ai.n≤id:=hid;rw[AI,if_neg (by omega)];exact Il id iv
end Go.Ev
namespace Go.Ev
variable{P:Program}{N:Nat}{σ ah:St}{ι:Io}{w:World}{ro:Nat}
def afF(w:World)(s:Nat)(es:List IV)(u:Value)(w':World):Prop:=
 (w'.os=w.os∧w'.tape=w.tape∧w'.output=w.output∧w.heap.size≤w'.heap.size∧∀b,b<w.heap.size→w'.heap[b]?=w.heap[b]?)∧
 ((es=[]∧u=.slice none 0 0)∨
  es≠[]∧∃b c el cap,w.heap.size≤b∧u=.slice (some ⟨b,0,none⟩) es.length cap∧w'.heap[b]?=some (.cells c el (0,0))∧es.length≤cap∧cap*s≤c.size∧
   ∀(k:Nat) (x:IV),(flat es)[k]?=some x→∃v,x=.raw v∧c[k]?=some v)
def afG(w:World)(s:Nat)(es:List IV):Ending→World→Prop
 |.returned u,w'=>afF w s es u w'
 |_,_=>False
def jt(P:Program)(s:Nat)(f:FuncId)(xs:List IV)(es:List IV):Prop:=
 0<s∧(∀e∈es,(cellsOf e).length=s)∧(∀c∈flat es,(∃v,c=.raw v)∧ab c=true)∧∀M w us,sE M w→ax (eW M) xs us→CallsIn asz 0 P f us.toArray w (afG w s es)
def DW(n s:Nat)(es:List IV):IV:=if es.isEmpty then .raw (.slice none 0 0)else .sl n 0 es.length none 0 s
def vB(es:List IV):Ob:=.cells (flat es) 0 0
theorem r7{s:Nat}:∀{es:List IV},(∀e∈es,(cellsOf e).length=s)→(flat es).length=es.length*s
 |[],_=>by simp[flat]
 |e::es,h=>by
  have:=r7 (es:=es) fun e he=>h e (by simp[he]);have he:=h e (by simp);unfold flat at this⊢;rw[List.flatMap_cons,List.length_append,this,he,asS,Nat.add_mul];omega
theorem Inv.ab7{w':World}{ob:Ob}{l:Loc}(h:Inv N ι σ w)(hN:σ.n<N)(aK:w.heap.size≤w'.heap.size)(hold:∀b,b<w.heap.size→w'.heap[b]?=w.heap[b]?)
 (vl:w'.os=w.os)(xr:w'.tape=w.tape)(xu:w'.output=w.output)(hl:w.heap.size≤l.b)(fi:l.b<w'.heap.size)(dr:j9 (dF ι σ.n 0 l) w' σ.n ob):
 Inv N (dF ι σ.n 0 l) (σ.add ob) w'∧Le ro ι w σ (dF ι σ.n 0 l) w' (σ.add ob):=by
 have jI:=h.fresh σ.n (ar9 _) hN;refine⟨h.change (qz:=σ.n) (kc (jI 0)) (fun i hi e=>by simp[dF,hi]) ?_ ?_ aK (fun b hb _=>hold b hb) dr (fun j=>by simp) ⟨by simp,by simp⟩ ?_,?_⟩
 ·intro id b hb;rcases lK hb with hb|⟨h1,h2⟩
  ·exact .inl hb
  ·exact .inr ⟨h1,by omega⟩
 ·intro b hb;rcases lK hb with hb|⟨h1,h2⟩
  ·have:=h.jA _ _ hb;omega
  ·omega
 ·intro id hid aa e;simp only[St.kz]at hid;have:id≠σ.n:=by omega
  simp[dF,this,h.fresh id (by omega) aa e]
 ·refine⟨kc (jI 0),?_,?_,?_,?_,by simp,vl,xr,xu,aK,fun b hb _=>hold b hb,fun _ _ h=>.inl h⟩
  ·intro id b hb;rcases lK hb with hb|⟨h1,h2⟩
   ·exact .inl hb
   ·exact .inr (by omega)
  ·intro id hn hr e;simp only[St.kz]at hr;have:id≠σ.n:=by omega
   simp[dF,this]
  ·intro id hn hr;simp only[St.kz]at hr;have:id≠σ.n:=by omega
   rw[St.gI,if_neg (fun hc=>this hc.symm),hn]
  ·intro id hr hn;rw[St.gI,if_neg (by omega)]
theorem Inv.adL{w':World}(h:Inv N ι σ w)(aK:w.heap.size≤w'.heap.size)(hold:∀b,b<w.heap.size→w'.heap[b]?=w.heap[b]?)
 (vl:w'.os=w.os)(xr:w'.tape=w.tape)(xu:w'.output=w.output):∃ay,(∀v u,Rv ι v u→Rv ay v u)∧Inv N ay σ w'∧Le ro ι w σ ay w' σ:=by
 have hp:Dp true ι.m w (.raw (.int .i64 0)) (.int .i64 0) w':=⟨fun _=>none,fun _ _ hb=>(by cases hb),fun _ _ hb=>(by cases hb),fun hc=>(by cases hc),.raw _,vl,xr,xu,aK,hold⟩;obtain⟨ay,h1,h2,h3⟩:=xc (ro:=ro) h (fun hc=>by cases hc) hp;exact⟨ay,fun v u hv=>hv.mono h3.ext,h2,h3⟩
theorem jt.call{s:Nat}{f:FuncId}{args xs es:List IV}(h:jt P s f xs es)(hr:∀N ι us w,Inv N ι σ w→ax ι args us→∃M,sE M w∧ax (eW M) xs us):
 eK P ro f args σ (DW σ.n s es) (if es.isEmpty then σ else σ.add (vB es)):=by
 obtain⟨hs,bD,_,h⟩:=h;refine⟨by split<;>simp,fun N hN ι us w hi lq=>?_⟩;obtain⟨M,hM,tO⟩:=hr N ι us w hi lq;refine(h M w us hM tO).mono fun e w' hR=>?_;cases e with
 |panicked ch=>exact hR.elim
 |outgrown=>exact hR.elim
 |returned u=>
  obtain⟨⟨h1,h2,h3,h4,h5⟩,hu⟩:=hR;by_cases he:es.isEmpty
  ·rw[if_pos he]at hN⊢;obtain⟨ay,g1,g2,g3⟩:=hi.adL (ro:=ro) h4 h5 h1 h2 h3;refine⟨ay,?_,g2,g3⟩;unfold DW;rw[if_pos he];rcases hu with⟨_,rfl⟩|⟨a0,_⟩
   ·exact .raw _
   ·exact absurd (atg.1 he) a0
  ·rw[if_neg he]at hN⊢;unfold DW;rw[if_neg he];rcases hu with⟨rfl,_⟩|⟨_,b,c,el,cap,a1,rfl,a3,a4,a5,a6⟩
   ·simp at he
   ·have hlen:=r7 bD;have hle:es.length*s≤cap*s:=Nat.mul_le_mul_right s a4
    have fB:b<w'.heap.size:=by
     rcases avI b w'.heap.size with aa|tL
     ·exact aa
     ·rw[atY tL]at a3;cases a3
    have bn:=bX ι σ.n 0 ⟨b,es.length*s,c.size⟩;have jI:∀e,ι σ.n e=none:=hi.fresh σ.n (ar9 _) (by simp only[St.kz]at hN;omega)
    obtain⟨g1,g2⟩:=hi.ab7 (ro:=ro) (w':=w') (ob:=vB es) (l:=⟨b,es.length*s,c.size⟩) (by simp only[St.kz]at hN;omega) h4 h5 h1 h2 h3 a1 fB (by
     refine⟨⟨ar9 _,fun e he=>?_⟩,⟨_,bn,hlen.symm⟩,fun e e1 e2=>?_⟩
     ·have:e≠0:=by omega
      simp[dF,this,jI]
     ·have:e=0:=by omega
      subst this;refine⟨_,c,el,bn,by rw[hlen];exact ar9 _,a3,rfl,fun k x hk hx=>?_⟩;obtain⟨v,rfl,hv⟩:=a6 k x hx;exact⟨v,hv,.raw _⟩)
    exact⟨_,.sl σ.n 0 es.length none 0 s ⟨b,es.length*s,c.size⟩ cap ⟨b,0,none⟩ bn (by simp) (by simpa using a5) hs a4 (fun k hk=>by cases hk) (fun _=>rfl),g1,g2⟩
def GO(s:Nat)(es:List IV)(v:IV)(ah:St):Prop:=
 (es=[]∧v=.raw (.slice none 0 0))∨es≠[]∧∃id cs ar mn cap,ah.at id=some (.cells cs ar mn)∧mn≤ar∧v=.sl id 0 es.length cap ar s∧es.length*s≤cs.length∧
  ∀(k:Nat) (x:IV),(flat es)[k]?=some x→∃u,x=.raw u∧cs[k]?=some (.raw u)
theorem jt.CI{s:Nat}{f:FuncId}{xs es:List IV}{RW:IV→St→Prop}(hs:0<s)(bD:∀e∈es,(cellsOf e).length=s)(bf:∀c∈flat es,(∃v,c=.raw v)∧ab c=true)(h:dD P N f xs ⟨0,.lf⟩ RW)(hc:∀v ah,RW v ah→GO s es v ah):jt P s f xs es:=by
 refine⟨hs,bD,bf,fun M w us hM hr=>?_⟩;refine(h (eW M) us w (EA hM) hr).mono fun e w' hR=>?_;obtain⟨v,ah,qK,hR⟩:=hR;cases e with
 |panicked ch=>exact hR.elim
 |outgrown=>exact hR.elim
 |returned u=>
  obtain⟨ay,h1,h2,h3⟩:=hR;have sF:∀b,b<w.heap.size→w'.heap[b]?=w.heap[b]? :=fun b hb=>h3.frame b hb fun id ho=>(by obtain⟨_,_,h,_⟩:=ho;cases h);refine⟨⟨h3.os,h3.tape,h3.output,h3.size,sF⟩,?_⟩;rcases hc v ah qK with⟨rfl,rfl⟩|⟨bc,id,cs,ar,mn,cap,a1,a2,rfl,a3,a4⟩
  ·cases h1;exact .inl ⟨rfl,rfl⟩
  ·obtain⟨_,_,o3⟩:=h2.obj id _ a1;obtain⟨l,c,el,b1,b2,b3,b4,b5⟩:=o3 ar a2 (ar9 _);cases h1 with
   |sl _ _ _ _ _ _ l' GM a hl hn gH aZ hle fv ha=>
    rw[b1]at hl;cases hl;have om:0<es.length:=List.length_pos_iff.2 bc
    have hb:w.heap.size≤l.b:=by
     rcases h3.own id l.b ⟨ar,l,b1,rfl⟩with ho|ho
     ·obtain⟨_,_,h,_⟩:=ho;cases h
     ·exact ho
    rw[ha (by omega)];refine .inr ⟨bc,l.b,c,el,GM,hb,rfl,b3,hle,by rw[←b4];omega,fun k x hx=>?_⟩;obtain⟨u,rfl,hu⟩:=a4 k x hx
    have hk:k<l.n:=by
     have:=(ar5.1 hx).1;rw[r7 bD]at this;omega
    obtain⟨y,hy,hr⟩:=b5 k _ hk hu;cases hr;exact⟨_,rfl,hy⟩
end Go.Ev
namespace Go.Ev
variable{P:Program}{N:Nat}{σ ah:St}{ι:Io}{w:World}{ro:Nat}
theorem Sd(v:Value):Rv ι (lift v) v:=by
 unfold lift;split
 ·rename_i cs
  have:Rv ι (.agg (cs.toList.map .raw)) (.agg cs.toList.toArray):=.agg _ _ (by simp) fun i c u h1 h2=>by
   rw[asi,h2]at h1;cases h1;exact .raw _
  simpa using this
 ·exact .raw _
theorem JT{v u:Value}(h:Rv ι (lift v) u):u=v:=by
 unfold lift at h;split at h
 ·rename_i cs;cases h with
  |agg _ vs hl hh=>
   have:vs=cs.toList:=by
    apply auY;intro i;cases hi:vs[i]? with
    |none=>
     rw[aub]at hi;rw[atC]at hl;exact(aub.2 (by omega)).symm
    |some a=>
     have aa:=(ar5.1 hi).1;rw[atC]at hl;have h2:cs.toList[i]?=some cs.toList[i]:=ar4 (by omega);have:=hh i _ a (by rw[asi,h2];rfl) hi;cases this;exact h2.symm
   rw[this]
 ·cases h;rfl
def zo(d:IV)(i:Nat):Value×IV×Nat:=
 match d with
 |.av [k,x]=>((ib k).getD Go.undef,x,i)
 |_=>(Go.undef,.undef,i)
def jG(ds:List IV):List (Value×IV×Nat):=ds.zipIdx.map fun p=>zo p.1 p.2
def r8(ds:List IV):Prop:=∀d∈ds,∃k v,d=.av [lift k,lift v]
theorem pZ(v:Value):ib (lift v)=some v:=by
 have hr:∀vs:List Value,f_ (vs.map .raw)=some vs:=by
  intro vs;induction vs with
  |nil=>rfl
  |cons v vs ih=>simp only[List.map_cons,f_,ih]
 unfold lift;split
 ·simp only[ib,oR,hr]
 ·rfl
theorem p4{ds:List IV}{i:Nat}{e:Value×IV×Nat}(h:(jG ds)[i]?=some e):∃d,ds[i]?=some d∧e=zo d i:=by
 unfold jG at h;rw[asi,List.getElem?_zipIdx]at h;cases hd:ds[i]? with
 |none=>rw[hd]at h;simp at h
 |some d=>rw[hd]at h;simp at h;exact⟨d,rfl,h.symm⟩
theorem p5(ds:List IV):(jG ds).length=ds.length:=by simp[jG]
def an3(w:World)(ds:List IV)(u:Value)(w':World):Prop:=
 (w'.os=w.os∧w'.tape=w.tape∧w'.output=w.output∧w.heap.size≤w'.heap.size∧∀b,b<w.heap.size→w'.heap[b]?=w.heap[b]?)∧
 ∃b res,w.heap.size≤b∧u=.map (some b)∧w'.heap[b]?=some (.map res ds.length)∧res.size=ds.length∧∀(i:Nat) d (r:MapEntry),ds[i]?=some d→res[i]?=some r→d=.av [lift r.key,lift r.val]∧r.born=i
def an4(w:World)(ds:List IV):Ending→World→Prop
 |.returned u,w'=>an3 w ds u w'
 |_,_=>False
def lE(P:Program)(f:FuncId)(xs:List IV)(ds:List IV):Prop:=
 r8 ds∧∀M w us,sE M w→ax (eW M) xs us→CallsIn asz 0 P f us.toArray w (an4 w ds)
theorem lE.call{f:FuncId}{args xs ds:List IV}(h:lE P f xs ds)(hr:∀N ι us w,Inv N ι σ w→ax ι args us→∃M,sE M w∧ax (eW M) xs us):
 eK P ro f args σ (.map σ.n) (σ.add (.map (jG ds) ds.length)):=by
 obtain⟨dI,h⟩:=h;refine⟨by simp,fun N hN ι us w hi lq=>?_⟩;obtain⟨M,hM,tO⟩:=hr N ι us w hi lq;refine(h M w us hM tO).mono fun e w' hR=>?_;cases e with
 |panicked ch=>exact hR.elim
 |outgrown=>exact hR.elim
 |returned u=>
  obtain⟨⟨h1,h2,h3,h4,h5⟩,b,res,a1,rfl,a3,a4,a5⟩:=hR
  have fB:b<w'.heap.size:=by
   rcases avI b w'.heap.size with aa|tL
   ·exact aa
   ·rw[atY tL]at a3;cases a3
  have bn:=bX ι σ.n 0 ⟨b,1,1⟩
  obtain⟨g1,g2⟩:=hi.ab7 (ro:=ro) (w':=w') (ob:=.map (jG ds) ds.length) (l:=⟨b,1,1⟩) (by simp only[St.kz]at hN;omega) h4 h5 h1 h2 h3 a1 fB (by
   refine⟨_,res,bn,a3,by rw[p5,a4],fun i e r he hr=>?_⟩;obtain⟨d,hd,rfl⟩:=p4 he;obtain⟨rfl,hb⟩:=a5 i d r hd hr;refine⟨by simp[zo,pZ],?_,by simp[zo,hb]⟩;exact Sd _)
  exact⟨_,.map σ.n ⟨b,1,1⟩ bn,g1,g2⟩
def Vh(ds:List IV)(v:IV)(ah:St):Prop:=
 ∃id es,v=.map id∧ah.at id=some (.map es ds.length)∧es.length=ds.length∧∀(i:Nat) (e:Value×IV×Nat) d,es[i]?=some e→ds[i]?=some d→e.2.2=i∧∃vv,e.2.1=lift vv∧d=.av [lift e.1,lift vv]
theorem lE.CI{f:FuncId}{xs ds:List IV}{RW:IV→St→Prop}(dI:r8 ds)(h:dD P N f xs ⟨0,.lf⟩ RW)(hc:∀v ah,RW v ah→Vh ds v ah):lE P f xs ds:=by
 refine⟨dI,fun M w us hM hr=>?_⟩;refine(h (eW M) us w (EA hM) hr).mono fun e w' hR=>?_;obtain⟨v,ah,qK,hR⟩:=hR;cases e with
 |panicked ch=>exact hR.elim
 |outgrown=>exact hR.elim
 |returned u=>
  obtain⟨ay,h1,h2,h3⟩:=hR;have sF:∀b,b<w.heap.size→w'.heap[b]?=w.heap[b]? :=fun b hb=>h3.frame b hb fun id ho=>(by obtain⟨_,_,h,_⟩:=ho;cases h);refine⟨⟨h3.os,h3.tape,h3.output,h3.size,sF⟩,?_⟩;obtain⟨id,es,rfl,a1,a2,a3⟩:=hc v ah qK;obtain⟨l,res,b1,b2,b3⟩:=h2.obj id _ a1;cases h1 with
  |map _ l' hl=>
   rw[b1]at hl;cases hl
   have hb:w.heap.size≤l.b:=by
    rcases h3.own id l.b ⟨0,l,b1,rfl⟩with ho|ho
    ·obtain⟨_,_,h,_⟩:=ho;cases h
    ·exact ho
   refine⟨l.b,res,hb,rfl,b2,by rw[←b3.1,a2],fun i d r hd hr=>?_⟩
   have hi:i<es.length:=by
    have:=(ar5.1 hd).1;omega
   have he:=ar4 hi;obtain⟨c1,c2,c3⟩:=b3.2 i _ r he hr;obtain⟨d1,vv,d2,d3⟩:=a3 i _ d he hd;rw[d2]at c2;have:=JT c2;refine⟨by rw[d3,c1,this],by rw[c3,d1]⟩
end Go.Ev
namespace Go.Ev
variable{P:Program}{N:Nat}{σ ah:St}{ι:Io}{w:World}{ro:Nat}
theorem Oz{a b:Value}(h:lift a=lift b):a=b:=by
 have:=pZ a;rw[h,pZ]at this;exact(aus this).symm
def ajG(w:World)(ds:List IV)(u:Value):Prop:=
 ∃b res,u=.map (some b)∧w.heap[b]?=some (.map res ds.length)∧res.size=ds.length∧∀(i:Nat) d (r:MapEntry),ds[i]?=some d→res[i]?=some r→d=.av [lift r.key,lift r.val]∧r.born=i
def AK(es:List (Value×IV×Nat))(ds:List IV):Prop:=
 es.length=ds.length∧∀(i:Nat) (e:Value×IV×Nat) d,es[i]?=some e→ds[i]?=some d→e.2.2=i∧∃vv,e.2.1=lift vv∧d=.av [lift e.1,lift vv]
def rq(P:Program)(f:FuncId)(ds xs:List IV)(z:IV):Prop:=
 r8 ds∧(∃v,z=.raw v∧ab z=true)∧∀M w u us,sE M w→ajG w ds u→ax (eW M) xs us→CallsIn asz 0 P f (u::us).toArray w (ae5 false true M w z)
theorem rq.call{f:FuncId}{args xs ds:List IV}{z:IV}{id:Nat}{es:List (Value×IV×Nat)}(h:rq P f ds xs z)(az:σ.at id=some (.map es ds.length))(gh:AK es ds)(hc:uf true σ args xs):
 eK P ro f (.map id::args) σ z σ:=by
 refine⟨ar9 _,fun N hN ι us w hi hr=>?_⟩;cases us with
 |nil=>have:=hr.1;simp at this
 |cons u us=>
  have hu:=hr.2 0 _ _ rfl rfl;have tO:ax ι args us:=⟨by have:=hr.1;simpa using this,fun i c v h1 h2=>hr.2 (i+1) c v (by simpa using h1) (by simpa using h2)⟩;cases hu with
  |map _ l hl=>
   obtain⟨l',res,b1,b2,b3⟩:=hi.obj id _ az;rw[hl]at b1;cases b1;refine(h.2.2 (allM w) w (.map (some l.b)) us An ⟨l.b,res,rfl,b2,by rw[←b3.1,gh.1],fun i d r hd hr=>?_⟩ (hc.rv hi tO)).mono fun e w' hR=>?_
   ·have aa:i<es.length:=by
     have:=(ar5.1 hd).1;rw[gh.1];exact this
    have he:=ar4 aa;obtain⟨c1,c2,c3⟩:=b3.2 i _ r he hr;obtain⟨d1,vv,d2,d3⟩:=gh.2 i _ d he hd;rw[d2]at c2;have:=JT c2;exact⟨by rw[d3,c1,this],by rw[c3,d1]⟩
   ·cases e with
    |returned u=>exact xc hi (fun hn=>by cases hn) hR.2
    |panicked ch=>exact absurd hR.1 (by simp)
    |outgrown=>exact hR.elim
theorem rq.CI{f:FuncId}{xs ds:List IV}{z:IV}{RW:IV→St→Prop}(dI:r8 ds)(hz:∃v,z=.raw v∧ab z=true)(h:dD P N f (.map 0::xs) ((⟨0,.lf⟩:St).add (.map (jG ds) ds.length)) RW)
 (hc:∀v ah,RW v ah→v=z∧∃es,ah.at 0=some (.map es ds.length)∧AK es ds):rq P f ds xs z:=by
 refine⟨dI,hz,fun M w u us hM ZQ hr=>?_⟩;obtain⟨b,res,rfl,m1,m2,m3⟩:=ZQ;have bn:=bX (eW M) 0 0 ⟨b,1,1⟩;have iV:Ext (eW M) (dF (eW M) 0 0 ⟨b,1,1⟩):=kc rfl
 have kP:∀id b',Own (dF (eW M) 0 0 ⟨b,1,1⟩) id b'→id=0∧b'=b:=fun id b' ho=>by
  rcases lK ho with ho|ho
  ·obtain⟨_,_,h,_⟩:=ho;cases h
  ·exact ho
 have aa:b<w.heap.size:=by
  rcases avI b w.heap.size with aa|tL
  ·exact aa
  ·rw[atY tL]at m1;cases m1
 have hi:Inv N (dF (eW M) 0 0 ⟨b,1,1⟩) ((⟨0,.lf⟩:St).add (.map (jG ds) ds.length)) w:=by
  refine⟨hM,fun b' c id hb ho=>?_,fun id b' ho=>by rw[(kP id b' ho).2];exact aa,fun id hid _ e=>?_,fun i j b' h1 h2=>by rw[(kP i b' h1).1,(kP j b' h2).1],fun id o ho=>?_,fun id hid=>?_⟩
  ·rw[(kP id b' ho).2]at hb;obtain⟨e,f,hh⟩:=hM b c hb;rw[m1]at hh;cases hh
  ·have:id≠0:=by simp only[St.kz]at hid;omega
   simp[dF,this]
  ·rw[St.gI]at ho;split at ho
   ·rename_i h0;subst h0;cases ho;refine⟨_,res,bn,m1,by rw[p5,m2],fun i e r he hr=>?_⟩;obtain⟨d,hd,rfl⟩:=p4 he;obtain⟨rfl,hb⟩:=m3 i d r hd hr;exact⟨by simp[zo,pZ],Sd _,by simp[zo,hb]⟩
   ·cases ho
  ·simp only[St.kz]at hid;rw[St.gI,if_neg (by show¬0=id;omega)];rfl
 have lq:ax (dF (eW M) 0 0 ⟨b,1,1⟩) (.map 0::xs) (.map (some b)::us):=by
  refine⟨by simp[hr.1],fun i=>?_⟩;cases i with
  |zero=>intro c v h1 h2;simp at h1 h2;subst h1 h2;exact .map 0 ⟨b,1,1⟩ bn
  |succ i=>intro c v h1 h2;simp at h1 h2;exact(hr.2 i c v h1 h2).mono iV
 refine(h _ _ w hi lq).mono fun e w' hR=>?_;obtain⟨v,ah,qK,hR⟩:=hR;cases e with
 |panicked ch=>exact hR.elim
 |outgrown=>exact hR.elim
 |returned u=>
  obtain⟨ay,h1,h2,h3⟩:=hR;obtain⟨rfl,es,a1,a2,a3⟩:=hc v ah qK;obtain⟨vz,rfl,_⟩:=hz;have hu:u=vz:=by cases h1;rfl
  subst hu;refine⟨rfl,fun _=>none,fun _ _ hb=>(by cases hb),fun _ _ hb=>(by cases hb),fun hc=>(by cases hc),.raw _,h3.os,h3.tape,h3.output,h3.size,fun b' wa=>?_⟩;by_cases Hp:b'=b
  ·subst Hp;obtain⟨l,afH,c1,c2,c3⟩:=h2.obj 0 _ a1;have:=h3.ext.1 0 0 _ bn;have jV:ay 0 0=some l:=c1;have ab8:ay 0 0=some ⟨b',1,1⟩:=this;rw[jV]at ab8;cases ab8;rw[c2,m1]
   congr 2
   have aK:afH.size=res.size:=by rw[←c3.1,a2,m2]
   apply Array.ext aK;intro i Nz WI;have he:i<es.length:=by rw[c3.1];exact Nz
   have hd:i<ds.length:=by rw[←a2];exact he
   obtain⟨d1,d2,d3⟩:=c3.2 i es[i] afH[i] (ar4 he) (asy Nz);obtain⟨e1,vv,e2,e3⟩:=a3 i es[i] ds[i] (ar4 he) (ar4 hd);obtain⟨f1,f2⟩:=m3 i ds[i] res[i] (ar4 hd) (asy WI);rw[e2]at d2;have hv:=JT d2;rw[e3]at f1;simp only[IV.av.injEq,as5,and_true]at f1;have k1:=Oz f1.1;have k2:=Oz f1.2
   have:∀x y:MapEntry,x.key=y.key→x.val=y.val→x.born=y.born→x=y:=by
    intro x y;cases x;cases y;simp only;rintro rfl rfl rfl;rfl
   exact this _ _ (by rw[d1,k1]) (by rw[hv,k2]) (by rw[d3,e1,f2])
  ·exact h3.frame b' wa fun id ho=>absurd (kP id b' ho).2 Hp
end Go.Ev
namespace Go.Ev
variable{P:Program}{N:Nat}{σ ah:St}{R R':Rs}{φ aH:Ph}{E:Nat→Env}{ν:List IV}{ro:Nat}{ι:Io}{w:World}
variable{C:Cr}{Q:IV→Prop}{K:List (List IV→Prop)}{V:SS}{d:Nat}{o:Oper}{k:PV SE→SS→af}{L:List (LO SE)}{Γ:Gm SE}
theorem adM{fr:Bool}{x z:IV}(hi:(fun(_:Nat)=>(none:Option Nat))=R)(HD:σ=⟨0,.lf⟩)(h:aV fr R σ x z):∀{u:Value},Rv ι x u→Rv (eW ι.m) z u:=by
 induction h with
 |raw v=>intro u h;cases h;exact .raw v
 |nil s hs=>intro u h;cases h;exact .dW s none 0 hs (fun _=>rfl)
 |emp s hs=>intro u h;cases h;exact .dW s _ 0 hs (fun h=>by cases h)
 |cY t x y _ ih=>intro u h;cases h with|cY _ _ v hh=>exact .cY t y v (ih hh)
 |agg cs ds hl _ ih=>
  intro u h;cases h with
  |agg _ vs cd hh=>
   refine .agg ds vs (hl▸cd) fun i d v h1 h2=>?_;have cU:i<cs.length:=by have:=(ar5.1 h1).1;omega
   exact ih i _ d (ar4 cU) h1 (hh i _ v (ar4 cU) h2)
 |av cs ds hl _ ih=>
  intro u h;cases h with
  |av _ vs cd hh=>
   refine .av ds vs (hl▸cd) fun i d v h1 h2=>?_;have cU:i<cs.length:=by have:=(ar5.1 h1).1;omega
   exact ih i _ d (ar4 cU) h1 (hh i _ v (ar4 cU) h2)
 |pure x hf hp=>intro u h;exact hp.rv h (fun _ _ h=>h)
 |sl id off len cap ep s m cs ar mn es hR=>rw[←hi]at hR;cases hR
theorem dC.ajH{f:FuncId}{args xs:List IV}{z:IV}(h:dC P false false f xs z)(hc:All2 hZ args xs):eK P ro f args σ z σ:=by
 refine⟨ar9 _,fun N hN ι us w hi hr=>?_⟩
 have tO:ax (eW ι.m) xs us:=⟨hc.len▸hr.1,fun i c v h1 h2=>by
  have cU:i<args.length:=by have:=(ar5.1 h1).1;rw[hc.len];exact this
  exact adM rfl rfl (hc.get (ar4 cU) h1) (hr.2 i _ v (ar4 cU) h2)⟩
 refine(h ι.m w us hi.mem tO).mono fun e w' hR=>?_;cases e with
 |returned u=>exact xc hi (fun _ _ _=>Iff.rfl) hR.2
 |panicked ch=>exact absurd hR.1 (by simp)
 |outgrown=>exact hR.elim
theorem jt.EB{s:Nat}{f:FuncId}{args xs es:List IV}(h:jt P s f xs es)(hc:uf true σ args xs):eK P ro f args σ (DW σ.n s es) (if es.isEmpty then σ else σ.add (vB es)):=
 h.call fun _ _ _ w hi hr=>⟨allM w,An,hc.rv hi hr⟩
theorem lE.EB{f:FuncId}{args xs ds:List IV}(h:lE P f xs ds)(hc:uf true σ args xs):eK P ro f args σ (.map σ.n) (σ.add (.map (jG ds) ds.length)):=
 h.call fun _ _ _ w hi hr=>⟨allM w,An,hc.rv hi hr⟩
def MG(n:Nat):IV→Bool
 |.av vs=>vs.length==n
 |_=>false
def aD(P:Program)(f:FuncId)(z:IV):Bool:=
 match P.funcs[f]? with
 |some fn=>fn.resultTypes.size==1||MG fn.resultTypes.size z
 |none=>false
def iE(P:Program)(C:Cr):Prop:=∀f new xs z,C f new xs z→(f<P.funcs.size→dC P false new f xs z∧Pure z∧aD P f z=true)∧
 (∀g,g<P.funcs.size→f=P.funcs.size+g→∃s es nI aB,xs=.tree s es::nI∧z=.tree s aB∧BX P s g es nI aB)∧
 (∀g,g<P.funcs.size→f=2*P.funcs.size+g→∃ins nI outs z0,xs=.agg (ins.map IV.agg)::nI∧z=.av (z0::outs.map IV.agg)∧outs.map asJ=ins.map asJ∧(∀cs∈outs,∀u∈cs,ab u=true)∧BZ P g ins nI outs z0)∧
 (∀g,g<P.funcs.size→f=3*P.funcs.size+g→∃t:Nat,xs=[.int t]∧Dz P g t)∧
 (∀g,g<P.funcs.size→f=4*P.funcs.size+g→∃es,z=.tree (cA P g) es∧jt P (cA P g) g xs es)∧
 (∀g,g<P.funcs.size→f=5*P.funcs.size+g→∃ds,z=.av ds∧lE P g xs ds)∧
 ∀g,g<P.funcs.size→f=6*P.funcs.size+g→∃ds nI,xs=.av ds::nI∧rq P g ds nI z
theorem Lh{c:Cl SE}{fr:Bool}{z:SE}{V':SS}(hp:ui [c]=true)(hr:wj V c=some (fr,z,V')){x:IV}(hx:cw (aj P ν) R φ V.l σ x c):∃y,z.den P ν=some y∧hZ x y:=by
 cases c<;>simp only[ui]at hp<;>first|(cases hp;done)|skip
 ·simp only[wj,ar7,asx]at hr;obtain⟨rfl,rfl,rfl⟩:=hr;obtain⟨y,h1,h2,_⟩:=hx;exact⟨y,h1,h2⟩
 ·rename_i b s;simp only[wj,ar7,asx]at hr;obtain⟨rfl,rfl,rfl⟩:=hr;obtain⟨h1,rfl⟩:=hx;refine⟨.tree s [],by simp[SE.den,h1],?_⟩;cases b
  ·exact .emp s h1
  ·exact .nil s h1
theorem Li{c:Cl SE}{fr:Bool}{z:SE}{V':SS}(hp:ui [c]=true)(hr:wj V c=some (fr,z,V')):V'=V:=by
 cases c<;>simp only[ui]at hp<;>first|(cases hp;done)|skip
 all_goals
  simp only[wj,ar7,asx]at hr;exact hr.2.2.symm
theorem XH{c:Cl SE}{cs:List (Cl SE)}(h:ui (c::cs)=true):ui [c]=true∧ui cs=true:=by
 cases c<;>simp only[ui]at h⊢<;>first|(cases h;done)|exact⟨trivial,h⟩
theorem Ip:∀{cs:List (Cl SE)} {fr:Bool} {zs:List SE} {V':SS},ui cs=true→sN V cs=some (fr,zs,V')→V'=V∧∀{xs:List IV},All2 (cw (aj P ν) R φ V.l σ) xs cs→∃ys,All2 (fun(z:SE) y=>z.den P ν=some y) zs ys∧All2 hZ xs ys
 |[],fr,zs,V',_,hr=>by
  simp only[sN,ar7,asx]at hr;obtain⟨rfl,rfl,rfl⟩:=hr;refine⟨rfl,fun{xs} hx=>?_⟩;cases xs with
  |nil=>exact⟨[],trivial,trivial⟩
  |cons=>exact hx.elim
 |c::cs,fr,zs,V',hp,hr=>by
  obtain⟨h1,h2⟩:=XH hp;simp only[sN]at hr;split at hr
  ·rename_i f1 z V1 kN;have e0:=Li h1 kN;rw[e0]at hr;split at hr
   ·rename_i f2 zs' V2 OA;simp only[ar7,asx]at hr;obtain⟨rfl,rfl,rfl⟩:=hr;obtain⟨rfl,h3⟩:=Ip h2 OA;refine⟨rfl,fun{xs} hx=>?_⟩;cases xs with
    |nil=>exact hx.elim
    |cons x xs=>
     obtain⟨y,a1,a2⟩:=Lh h1 kN hx.1;obtain⟨ys,b1,b2⟩:=h3 hx.2;exact⟨y::ys,⟨a1,b1⟩,⟨a2,b2⟩⟩
   ·cases hr
  ·cases hr
theorem JU{V':SS}{pv:PV SE}{fr:Bool}{z:SE}(h:J (aj P ν) R φ V.g V.l E σ)(hr:sO V pv=some (fr,z,V'))(ht:∀vs,pv≠.tu vs):
 ∃R',iQ P ν R φ V σ R' V'∧J (aj P ν) R' φ V'.g V'.l E σ∧∀x,VR (aj P ν) R φ V.l σ x pv→∃y,z.den P ν=some y∧aV fr R' σ x y:=by
 cases pv with
 |one c=>
  obtain⟨R',h1,h2,h3⟩:=DM h hr;exact⟨R',h1,h2,fun x hx=>by obtain⟨y,a,b,_⟩:=h3 x hx;exact⟨y,a,b⟩⟩
 |ag cs=>
  simp only[sO]at hr;split at hr
  ·rename_i f zs V1 kN;simp only[ar7,asx]at hr;obtain⟨rfl,rfl,rfl⟩:=hr;obtain⟨R',h1,h2,_,h3⟩:=uy h kN;refine⟨R',h1,h2,fun x hx=>?_⟩;obtain⟨xs,rfl,v_⟩:=hx;obtain⟨ys,a,b,_⟩:=h3 xs v_;exact⟨.agg ys,ey a,.agg xs ys b.len fun i c e h1 h2=>b.get h1 h2⟩
  ·cases hr
 |tu vs=>exact absurd rfl (ht vs)
theorem Vi{V':SS}{pv:PV SE}{fr:Bool}{z:SE}(hp:od pv=true)(hr:sO V pv=some (fr,z,V')):V'=V∧∀{x:IV},VR (aj P ν) R φ V.l σ x pv→∃y,z.den P ν=some y∧hZ x y:=by
 cases pv with
 |one c=>exact⟨Li hp hr,fun{x} hx=>Lh hp hr hx⟩
 |ag cs=>
  simp only[sO]at hr;split at hr
  ·rename_i f zs V1 kN;simp only[ar7,asx]at hr;obtain⟨rfl,rfl,rfl⟩:=hr;obtain⟨h1,h2⟩:=Ip (P:=P) (ν:=ν) (R:=R) (φ:=φ) (σ:=σ) hp kN;refine⟨h1,fun{x} hx=>?_⟩;obtain⟨xs,rfl,v_⟩:=hx;obtain⟨ys,a,b⟩:=h2 v_;exact⟨.agg ys,ey a,.agg xs ys b.len fun i c e h1 h2=>b.get h1 h2⟩
  ·cases hr
 |tu vs=>cases hp
theorem AL:∀{cP:List (PV SE)} {V V':SS} {R:Rs} {zs:List SE},J (aj P ν) R φ V.g V.l E σ→sR V cP=some (zs,V')→Bm cP=true→
 ∃R',iQ P ν R φ V σ R' V'∧J (aj P ν) R' φ V'.g V'.l E σ∧∀xs,All2 (VR (aj P ν) R φ V.l σ) xs cP→∃ys,All2 (fun(z:SE) y=>z.den P ν=some y) zs ys∧All2 (aV true R' σ) xs ys
 |[],V,V',R,zs,h,hr,_=>by
  simp only[sR,ar7,asx]at hr;obtain⟨rfl,rfl⟩:=hr;refine⟨R,.refl h,h,fun xs hx=>?_⟩;cases xs with
  |nil=>exact⟨[],trivial,trivial⟩
  |cons=>exact hx.elim
 |pv::cP,V,V',R,zs,h,hr,ht=>by
  have ht':(∀vs,pv≠.tu vs)∧Bm cP=true:=by
   cases pv<;>simp_all[Bm]
  simp only[sR]at hr;split at hr
  ·rename_i f z V1 kN;split at hr
   ·rename_i zs' V2 OA;simp only[ar7,asx]at hr;obtain⟨rfl,rfl⟩:=hr;obtain⟨R1,a1,a2,a3⟩:=JU h kN ht'.1;obtain⟨R2,b1,b2,b3⟩:=AL a2 OA ht'.2;refine⟨R2,a1.trans b1,b2,fun xs hx=>?_⟩;cases xs with
    |nil=>exact hx.elim
    |cons x xs=>
     obtain⟨y,c1,c2⟩:=a3 x hx.1;obtain⟨ys,d1,d2⟩:=b3 xs (hx.2.mono fun _ _ bR=>a1.vr bR);exact⟨y::ys,⟨c1,d1⟩,⟨(c2.mono b1.2.2.2.grow).cu,d2⟩⟩
   ·cases hr
  ·cases hr
theorem wU:∀{cP:List (PV SE)} {V':SS} {zs:List SE},sR V cP=some (zs,V')→cP.all od=true→
 V'=V∧∀{xs:List IV},All2 (VR (aj P ν) R φ V.l σ) xs cP→∃ys,All2 (fun(z:SE) y=>z.den P ν=some y) zs ys∧All2 hZ xs ys
 |[],V',zs,hr,_=>by
  simp only[sR,ar7,asx]at hr;obtain⟨rfl,rfl⟩:=hr;refine⟨rfl,fun{xs} hx=>?_⟩;cases xs with
  |nil=>exact⟨[],trivial,trivial⟩
  |cons=>exact hx.elim
 |pv::cP,V',zs,hr,hp=>by
  simp only[List.all_cons,ar6]at hp;simp only[sR]at hr;split at hr
  ·rename_i f z V1 kN;obtain⟨e1,a1⟩:=Vi (P:=P) (ν:=ν) (R:=R) (φ:=φ) (σ:=σ) hp.1 kN;rw[e1]at hr;split at hr
   ·rename_i zs' V2 OA;simp only[ar7,asx]at hr;obtain⟨rfl,rfl⟩:=hr;obtain⟨e2,b1⟩:=wU OA hp.2;refine⟨e2,fun{xs} hx=>?_⟩;cases xs with
    |nil=>exact hx.elim
    |cons x xs=>
     obtain⟨y,c1,c2⟩:=a1 hx.1;obtain⟨ys,d1,d2⟩:=b1 hx.2;exact⟨y::ys,⟨c1,d1⟩,⟨c2,d2⟩⟩
   ·cases hr
  ·cases hr
theorem DX{t:TypeId}{e:SE}{z:IV}{f:af}(hz:e.den P ν=some z)(hp:Pure z)(hs:(qV P t e f).sat P C Q K ν):f.sat P C Q K ν∧VR (aj P ν) R φ L σ z (ofType P t e)∧sK (aj P ν) R φ L σ z (isAgg P t,ew (ofType P t e)):=by
 unfold qV at hs;unfold ofType;by_cases ha:isAgg P t=true
 ·rw[if_pos ha]at hs;obtain⟨⟨y,hy⟩,hk⟩:=hs;simp only[SE.den,hz,Option.bind_some]at hy;split at hy
  ·rename_i cs;split at hy
   ·rename_i hc
    have aT:All2 (cw (aj P ν) R φ L σ) cs ((List.range ((aI P t).getD 0)).map fun j=>Cl.v (SE.bM e j)):=by
     refine .mk (by simp[hc.1]) fun i a b h1 h2=>?_;have hi:=(ar5.1 h1).1;rw[asi,List.getElem?_range (by omega)]at h2;simp only[Option.map_some,ar7]at h2;subst h2;have bf:Ev.ab a=true:=(asl.1 hc.2) a (ash h1);have H8:Pure a:=by cases hp with|agg _ hh=>exact hh a (ash h1)
     exact⟨a,by simp[aj,SE.den,hz,h1,xU,bf],.pure a rfl H8,bf⟩
    simp only[ha,if_true];exact⟨hk,⟨cs,rfl,aT⟩,by simp only[sK,if_true,ew];exact⟨cs,rfl,aT⟩⟩
   ·cases hy
  ·cases hy
 ·rw[if_neg ha]at hs;obtain⟨⟨y,hy⟩,hk⟩:=hs;obtain⟨h1,h2⟩:=ph hy;rw[hz]at h1;cases h1;have hv:cw (aj P ν) R φ L σ z (.v (.ok e)):=⟨z,hy,.pure z rfl hp,h2⟩;rw[if_neg ha];refine⟨hk,hv,?_⟩;simp only[sK,ew];rw[if_neg (by simpa using ha)];exact⟨_,rfl,hv⟩
theorem Iq{e:SE}{vs:List IV}{f:af}(hz:e.den P ν=some (.av vs))(hp:∀v∈vs,Pure v):∀{ts:List TypeId} {j:Nat},(NR P e j ts f).sat P C Q K ν→j+ts.length=vs.length→f.sat P C Q K ν∧All2 (sK (aj P ν) R φ L σ) (vs.drop j) (Jt P e j ts)
 |[],j,hs,hl=>by
  simp at hl;rw[List.drop_of_length_le (by omega)];exact⟨hs,trivial⟩
 |t::ts,j,hs,hl=>by
  simp at hl;have hj:j<vs.length:=by omega
  have hd:(SE.proj e j).den P ν=some vs[j]:=by simp[SE.den,hz,hj]
  obtain⟨h1,_,h3⟩:=DX (R:=R) (φ:=φ) (L:=L) (σ:=σ) hd (hp _ (List.getElem_mem hj)) hs;obtain⟨h4,h5⟩:=Iq hz hp h1 (by omega);refine⟨h4,?_⟩;rw[List.drop_eq_getElem_cons hj];exact⟨h3,h5⟩
theorem aaJ{fn:Func}{e:SE}{z:IV}(hz:e.den P ν=some z)(hp:Pure z)(ht:fn.resultTypes.size≠1→MG fn.resultTypes.size z=true)(hs:(Mw P fn V e k).sat P C Q K ν):∃pv,(k pv V).sat P C Q K ν∧VR (aj P ν) R φ L σ z pv:=by
 unfold Mw at hs;split at hs
 ·rename_i t _;obtain⟨h1,h2,_⟩:=DX (R:=R) (φ:=φ) (L:=L) (σ:=σ) hz hp hs;exact⟨_,h1,h2⟩
 ·rename_i hn
  have aK:fn.resultTypes.size≠1:=by
   intro h;have:fn.resultTypes.toList.length=1:=by simpa using h
   obtain⟨t,ht⟩:=List.length_eq_one_iff.1 this;exact hn t ht
  have:=ht aK;unfold MG at this;split at this
  ·rename_i vs;have hl:vs.length=fn.resultTypes.size:=by simpa using this
   obtain⟨h1,h2⟩:=Iq (R:=R) (φ:=φ) (L:=L) (σ:=σ) (j:=0) hz (fun v hv=>by cases hp with|av _ hh=>exact hh v hv) hs (by simp[hl]);exact⟨_,h1,vs,rfl,by simpa using h2⟩
  ·cases this
end Go.Ev
namespace Go.Ev
variable{P:Program}{N:Nat}{σ ah:St}{R R':Rs}{φ aH:Ph}{E:Nat→Env}{ν:List IV}{ro:Nat}{ι:Io}{w:World}{cfg:aL}{self:mZ}
variable{C:Cr}{Q:IV→Prop}{K:List (List IV→Prop)}{V:SS}{d f0:Nat}{o:Oper}{k:PV SE→SS→af}{L:List (LO SE)}{Γ:Gm SE}
theorem afI{ys:List IV}{bs:List (Nat×Nat)}(h:All2 (fun y (p:Nat×Nat)=>∃id cs,φ p.1=some id∧L[p.1]?=some (.var cs)∧y=.ptr id 0 0 p.2) ys bs):All2 (VR (aj P ν) R φ L σ) ys (bs.map fun(p:Nat×Nat)=>.one (.pt p.1 0 p.2)):=
 h.map (f:=fun(p:Nat×Nat)=>PV.one (Cl.pt p.1 0 p.2)) fun _ _ h=>h
theorem jO{x:IV}{g:FuncId}{bs:List (Nat×Nat)}{args:List IV}{fn:Func}(hx:VR (aj P ν) R φ L σ x (.one (.fn g bs)))(bA:P.funcs[g]?=some fn)(hb:fn.body.isSome=true)(kL:(fn.name != "runtime.NumGoroutine")=true):
 ∃ys,gd P x args=some (.enter g (args++ys))∧All2 (VR (aj P ν) R φ L σ) ys (bs.map fun(p:Nat×Nat)=>.one (.pt p.1 0 p.2)):=by
 rcases hx with⟨rfl,rfl⟩|⟨ys,rfl,h⟩
 ·refine⟨[],?_,trivial⟩;simp only[gd,bA,hb,kL,Array.size_empty,asp];simp
 ·refine⟨ys,?_,afI h⟩;simp only[gd,bA,hb,kL,List.nil_append,Bool.and_self,if_true]
theorem Fg{xs ys:List IV}(h:All2 (aV true R σ) xs ys):uf true σ xs ys:=⟨h.len,fun _ _ _ h1 h2=>(h.get h1 h2).can⟩
def an5(P:Program)(C:Cr)(Q:IV→Prop)(K:List (List IV→Prop))(ν:List IV)(E:Nat→Env)(lv:Nat×Nat)(k:PV SE→SS→af)(φ:Ph)(σ:St)(res:FuncId→List IV→Prop):Prop:=
 ∃g args z R1 pv V1 μ,res g args∧(∀ro,eK P ro g args σ z σ)∧J (aj P (ν++μ)) R1 φ V1.g V1.l E σ∧VR (aj P (ν++μ)) R1 φ V1.l σ z pv∧(ν++μ).length=V1.n∧V1.ln=lv∧(k pv V1).sat P C Q K (ν++μ)
theorem OB(hC:iE P C)(hJ:J (aj P ν) R φ V.g V.l E σ)(hn:ν.length=V.n){c:Call}{f:Operand}{g:FuncId}(ho:o.op=.call c)(hc:c.callee=.value f)(hf:bG P d V 0 f=.one (.fn g [])){zs:List SE}{V':SS}{fn:Func}
 (hr:sR V (gO P d V c.args.toList c.argTypes.toList)=some (zs,V'))(bA:P.funcs[g]?=some fn)(hb:fn.body.isSome=true)(kL:(fn.name != "runtime.NumGoroutine")=true)(ht:Bm (gO P d V c.args.toList c.argTypes.toList)=true)
 (hs:(af.call g (!(gO P d V c.args.toList c.argTypes.toList).all od) (dN zs) (Mw P fn {V' with n:=V'.n+1} (.var V'.n) k)).sat P C Q K ν):
 an5 P C Q K ν E V.ln k φ σ (fun g args=>ak P 0 (aq (E d)) o σ=some (.enter g args)):=by
 obtain⟨xs,z,h1,h2,h3⟩:=hs;obtain⟨iX,hpz,htu⟩:=(hC _ _ _ _ h2).1 (asW.1 bA).1;have bg:=fI hJ d c.args.toList c.argTypes.toList;have nP:=aW hJ d 0 f;rw[hf]at nP;obtain⟨ys,gY,qg⟩:=jO (args:=c.args.toList.map (aq (E d))) nP bA hb kL
 have yh:ys=[]:=by
  cases ys with
  |nil=>rfl
  |cons=>exact qg.elim
 subst yh;rw[asp]at gY
 have dZ:ak P 0 (aq (E d)) o σ=some (.enter g (c.args.toList.map (aq (E d)))):=by
  simp only[ak,ho,hc];exact gY
 have an6:fn.resultTypes.size≠1→MG fn.resultTypes.size z=true:=by
  intro bc;unfold aD at htu;rw[bA]at htu;simp only[Bool.or_eq_true,beq_iff_eq]at htu;exact htu.resolve_left bc
 have pk:∀{us:List IV},All2 (fun(z:SE) y=>z.den P ν=some y) zs us→xs=us:=by
  intro us hu;unfold h_ at h1;rw[ey hu]at h1;cases h1;rfl
 obtain⟨R1,dK,bk,jk⟩:=AL hJ hr ht;obtain⟨us,b1,b2⟩:=jk _ bg;have il:=pk b1;subst il
 have afJ:∀ro,eK P ro g (c.args.toList.map (aq (E d))) σ z σ:=by
  intro ro;by_cases aT:(gO P d V c.args.toList c.argTypes.toList).all od=true
  ·rw[aT]at iX;obtain⟨_,iW⟩:=wU (P:=P) (ν:=ν) (R:=R) (φ:=φ) (σ:=σ) hr aT;obtain⟨oU,c1,c2⟩:=iW bg;have:=pk c1;subst this;exact dC.ajH iX c2
  ·have hf:(gO P d V c.args.toList c.argTypes.toList).all od=false:=by simpa using aT
   rw[hf]at iX;exact dC.EB iX (Fg b2)
 have cX:ν.length=V'.n:=by rw[hn,dK.2.1]
 have dP:=bk.up (gN:=aj P (ν++[z])) (fun e y h=>SE.cI P e h);have gS:(SE.var V'.n).den P (ν++[z])=some z:=by simp[SE.den,←cX]
 obtain⟨pv,hk,hv⟩:=aaJ (R:=R1) (φ:=φ) (L:=V'.l) (σ:=σ) gS hpz an6 h3;exact⟨g,_,z,R1,pv,{V' with n:=V'.n+1},[z],dZ,afJ,dP,hv,by simp[cX],dK.2.2.1,hk⟩
theorem Lj(hC:iE P C)(hJ:J (aj P ν) R φ V.g V.l E σ)(hn:ν.length=V.n){c:Call}{f:Operand}{g:FuncId}(ho:o.op=.call c)(hc:c.callee=.value f)(hf:bG P d V 0 f=.one (.fn g []))
 (hs:(N1 P g (gO P d V c.args.toList c.argTypes.toList) V k).sat P C Q K ν):
 ∃args v ai R1 dt pv V1 μ,ak P 0 (aq (E d)) o σ=some (.enter g args)∧(∀ro,eK P ro g args σ v ai)∧(ai=σ∨∃ob,ai=σ.add ob)∧J (aj P (ν++μ)) R1 dt V1.g V1.l E ai∧VR (aj P (ν++μ)) R1 dt V1.l ai v pv∧(ν++μ).length=V1.n∧V1.ln=V.ln∧(k pv V1).sat P C Q K (ν++μ):=by
 unfold N1 at hs;split at hs<;>first|(exact hs.elim)|skip
 rename_i zs V' fn hr bA;split at hs<;>first|(exact hs.elim)|skip
 rename_i bJ;simp only[ar6]at bJ;obtain⟨ht,hb,kL⟩:=bJ;obtain⟨xs,z,h1,h2,h3⟩:=hs;obtain⟨es,rfl,Hs⟩:=(hC _ _ _ _ h2).2.2.2.2.1 g (asW.1 bA).1 rfl;have bg:=fI hJ d c.args.toList c.argTypes.toList;have nP:=aW hJ d 0 f;rw[hf]at nP;obtain⟨ys,gY,qg⟩:=jO (args:=c.args.toList.map (aq (E d))) nP bA hb kL
 have yh:ys=[]:=by
  cases ys with
  |nil=>rfl
  |cons=>exact qg.elim
 subst yh;rw[asp]at gY
 have dZ:ak P 0 (aq (E d)) o σ=some (.enter g (c.args.toList.map (aq (E d)))):=by
  simp only[ak,ho,hc];exact gY
 obtain⟨R1,dK,l7,jk⟩:=AL hJ hr ht;obtain⟨us,c1,c2⟩:=jk _ bg
 have il:xs=us:=by
  unfold h_ at h1;rw[ey c1]at h1;cases h1;rfl
 subst il;have cX:ν.length=V'.n:=by rw[hn,dK.2.1]
 have bk:=l7.up (gN:=aj P (ν++[IV.tree (cA P g) es])) (fun e y h=>SE.cI P e h);have gS:(SE.var V'.n).den P (ν++[IV.tree (cA P g) es])=some (.tree (cA P g) es):=by simp[SE.den,←cX]
 have jj:(V'.l++[LO.row (cA P g) false false false (SE.var V'.n)])[V'.l.length]?=some (.row (cA P g) false false false (.var V'.n)):=by simp
 have qf:∀ro,eK P ro g (c.args.toList.map (aq (E d))) σ _ _:=fun ro=>Hs.EB (ro:=ro) (σ:=σ) (Fg c2);obtain⟨bu,bD,bf,_⟩:=Hs;by_cases he:es.isEmpty
 ·have j_:=atg.1 he;subst j_;refine⟨_,_,_,R1,φ,.one (.sr V'.l.length),{V' with n:=V'.n+1,l:=V'.l++[.row (cA P g) false false false (.var V'.n)]},[.tree (cA P g) []],dZ,qf,.inl rfl,?_,?_,by simp[cX],dK.2.2.1,h3⟩
  ·exact(bk.AG (fr:=false) bu gS).2
  ·exact⟨cA P g,false,false,false,_,[],jj,gS,.inl ⟨xk l7 (ar9 _),rfl,.inl rfl⟩⟩
 ·have hif:(if es.isEmpty then σ else σ.add (vB es))=σ.add (vB es):=if_neg he;have nP:DW σ.n (cA P g) es=.sl σ.n 0 es.length none 0 (cA P g):=if_neg he;have hlen:=r7 bD;refine⟨_,_,_,R1,bP φ V'.l.length σ.n,.one (.sr V'.l.length),{V' with n:=V'.n+1,l:=V'.l++[.row (cA P g) false false false (.var V'.n)]},[.tree (cA P g) es],dZ,qf,.inr ⟨_,hif⟩,?_,?_,by simp[cX],dK.2.2.1,h3⟩
  ·rw[hif];refine bk.xM (vB es) _ ⟨bu,es,gS,bD,.inr ⟨σ.n,flat es,0,0,by simp[bP],by simp[vB],ar9 _,by rw[hlen];exact ar9 _,?_,asl.2 fun c hc=>(bf c hc).2,fun j x d hx hd=>?_⟩⟩
   ·cases hR:R1 σ.n with
    |none=>rfl
    |some m=>exact absurd (l7.qb _ _ hR) (Nat.lt_irrefl _)
   ·rw[hx]at hd;cases hd;obtain⟨v,rfl⟩:=(bf x (ash hx)).1;exact .raw _
  ·rw[hif,nP];exact⟨cA P g,false,false,false,_,es,jj,gS,.inr ⟨σ.n,flat es,0,0,none,by simp[bP],by simp[vB],by simp,asT _,fun _ _=>hlen.symm,fun c hc=>by cases hc⟩⟩
theorem Lk(hC:iE P C)(hJ:J (aj P ν) R φ V.g V.l E σ)(hn:ν.length=V.n){c:Call}{f:Operand}{g:FuncId}{kt:TypeId}(CP:aaf P g=some kt)(ho:o.op=.call c)(hc:c.callee=.value f)(hf:bG P d V 0 f=.one (.fn g []))
 (hs:(JB P g kt (gO P d V c.args.toList c.argTypes.toList) V k).sat P C Q K ν):
 ∃args v ai R1 dt pv V1 μ,ak P 0 (aq (E d)) o σ=some (.enter g args)∧(∀ro,eK P ro g args σ v ai)∧(ai=σ∨∃ob,ai=σ.add ob)∧J (aj P (ν++μ)) R1 dt V1.g V1.l E ai∧VR (aj P (ν++μ)) R1 dt V1.l ai v pv∧(ν++μ).length=V1.n∧V1.ln=V.ln∧(k pv V1).sat P C Q K (ν++μ):=by
 unfold JB at hs;split at hs<;>first|(exact hs.elim)|skip
 rename_i zs V' fn hr bA;split at hs<;>first|(exact hs.elim)|skip
 rename_i bJ;simp only[ar6]at bJ;obtain⟨ht,hb,kL⟩:=bJ;obtain⟨xs,z,h1,h2,h3⟩:=hs;obtain⟨ds,rfl,Hs⟩:=(hC _ _ _ _ h2).2.2.2.2.2.1 g (asW.1 bA).1 rfl;have bg:=fI hJ d c.args.toList c.argTypes.toList;have nP:=aW hJ d 0 f;rw[hf]at nP;obtain⟨ys,gY,qg⟩:=jO (args:=c.args.toList.map (aq (E d))) nP bA hb kL
 have yh:ys=[]:=by
  cases ys with
  |nil=>rfl
  |cons=>exact qg.elim
 subst yh;rw[asp]at gY
 have dZ:ak P 0 (aq (E d)) o σ=some (.enter g (c.args.toList.map (aq (E d)))):=by
  simp only[ak,ho,hc];exact gY
 obtain⟨R1,dK,l7,jk⟩:=AL hJ hr ht;obtain⟨us,c1,c2⟩:=jk _ bg
 have il:xs=us:=by
  unfold h_ at h1;rw[ey c1]at h1;cases h1;rfl
 subst il;have cX:ν.length=V'.n:=by rw[hn,dK.2.1]
 have d_:¬gk kt=true:=by
  unfold aaf at CP;rw[bA]at CP;simp only at CP;split at CP<;>first|(cases CP;done)|skip
  split at CP<;>first|(cases CP;done)|skip
  split at CP<;>first|(cases CP;done)|skip
  rename_i bc;cases CP;exact bc
 have bk:=l7.up (gN:=aj P (ν++[IV.av ds])) (fun e y h=>SE.cI P e h);have gS:(SE.var V'.n).den P (ν++[IV.av ds])=some (.av ds):=by simp[SE.den,←cX]
 have qf:∀ro,eK P ro g (c.args.toList.map (aq (E d))) σ _ _:=fun ro=>Hs.EB (ro:=ro) (σ:=σ) (Fg c2);obtain⟨dI,_⟩:=Hs;refine⟨_,_,_,R1,bP φ V'.l.length σ.n,.one (.mp V'.l.length),{V' with n:=V'.n+1,l:=V'.l++[.mp kt (.var V'.n)]},[.av ds],dZ,qf,.inr ⟨_,rfl⟩,?_,?_,by simp[cX],dK.2.2.1,h3⟩
 ·refine bk.xM (.map (jG ds) ds.length) _ ?_;rw[gw,if_neg d_];refine⟨σ.n,jG ds,ds.length,ds,gS,by simp[bP],l7.qJ,by simp,?_,(p5 ds).symm,fun i e he=>?_⟩
  ·refine .mk (p5 ds) fun i e d he hd=>?_;obtain⟨d',vp,rfl⟩:=p4 he;rw[hd]at vp;cases vp;obtain⟨kk,v,rfl⟩:=dI d (ash hd);refine⟨lift v,by simp[zo,pZ],?_⟩;show aV true _ _ (lift v) (lift v);unfold lift;split
   ·exact .agg _ _ rfl fun i c e h1 h2=>by
     rw[h1]at h2;cases h2;rw[asi]at h1;obtain⟨u,_,rfl⟩:=ar_.1 h1;exact .raw _
   ·exact .raw _
  ·obtain⟨d',vp,rfl⟩:=p4 he;obtain⟨kk,v,rfl⟩:=dI d' (ash vp);rfl
 ·exact⟨σ.n,kt,.var V'.n,by simp[bP],by simp,(if_neg d_).symm⟩
theorem Se{fr:Bool}{u:IV}{v:Value}(h:aV fr R σ u (lift v)):u=lift v:=by
 unfold lift at h⊢;split at h
 ·rename_i cs;obtain⟨xs,rfl,il⟩:=BV h
  congr 1
  apply auY;intro i;cases hi:xs[i]? with
  |none=>
   rw[aub]at hi;have:=il.len;exact(aub.2 (by omega)).symm
  |some a=>
   have aa:=(ar5.1 hi).1;rw[il.len]at aa;have hb:=ar4 aa;have:=il.get hi hb;rw[hb];simp only[List.getElem_map]at this⊢;rw[bS this]
 ·exact bS h
theorem Ll{es:List (Value×IV×Nat)}{clock:Nat}{ds:List IV}(he:yP R σ es ds)(hc:Canon es clock)(dI:r8 ds):clock=ds.length∧AK es ds:=by
 refine⟨by rw[hc.1,All2.len he],All2.len he,fun i e d h1 hd=>?_⟩;obtain⟨kk,vv,Ni⟩:=dI d (ash hd);obtain⟨zv,h8,h9⟩:=All2.get he h1 hd;rw[Ni]at h8;simp only[IV.av.injEq,as5,and_true]at h8;obtain⟨h8a,rfl⟩:=h8;exact⟨hc.2 i e h1,vv,Se h9,by rw[Ni,h8a]⟩
theorem OC(hC:iE P C)(hJ:J (aj P ν) R φ V.g V.l E σ)(hn:ν.length=V.n){c:Call}{f:Operand}{g:FuncId}(ho:o.op=.call c)(hc:c.callee=.value f)(hf:bG P d V 0 f=.one (.fn g []))
 (hs:(UB P g (gO P d V c.args.toList c.argTypes.toList) V k).sat P C Q K ν):
 ∃args v ai R1 dt pv V1 μ,ak P 0 (aq (E d)) o σ=some (.enter g args)∧(∀ro,eK P ro g args σ v ai)∧ai=σ∧J (aj P (ν++μ)) R1 dt V1.g V1.l E ai∧VR (aj P (ν++μ)) R1 dt V1.l ai v pv∧(ν++μ).length=V1.n∧V1.ln=V.ln∧(k pv V1).sat P C Q K (ν++μ):=by
 have bg:=fI hJ d c.args.toList c.argTypes.toList;unfold UB at hs;split at hs<;>first|(exact hs.elim)|skip
 rename_i j rest CN;rw[CN]at bg;split at hs<;>first|(exact hs.elim)|skip
 rename_i kt ik zs V' fn hj hr bA;split at hs<;>first|(exact hs.elim)|skip
 rename_i bJ;simp only[ar6,Bool.not_eq_true']at bJ;obtain⟨⟨ht,js⟩,hb,kL⟩:=bJ;have d_:¬gk kt=true:=by rw[js];simp
 obtain⟨xs,z,h1,h2,h3⟩:=hs;obtain⟨ds,nI,rfl,mv⟩:=(hC _ _ _ _ h2).2.2.2.2.2.2 g (asW.1 bA).1 rfl;have nP:=aW hJ d 0 f;rw[hf]at nP;obtain⟨ys,gY,qg⟩:=jO (args:=c.args.toList.map (aq (E d))) nP bA hb kL
 have yh:ys=[]:=by
  cases ys with
  |nil=>rfl
  |cons=>exact qg.elim
 subst yh;rw[asp]at gY
 have dZ:ak P 0 (aq (E d)) o σ=some (.enter g (c.args.toList.map (aq (E d)))):=by
  simp only[ak,ho,hc];exact gY
 generalize FT:c.args.toList.map (aq (E d))=al at bg dZ;cases al with
 |nil=>exact bg.elim
 |cons a al=>
  obtain⟨zp,fw⟩:=bg;obtain⟨id,lB,gF,g1,g2,g3⟩:=zp;rw[hj]at g2;cases g2;rw[if_neg d_]at g3;subst g3;have dr:=hJ.obj j _ hj;rw[gw,if_neg d_]at dr;obtain⟨bp,es,clock,l6,c1,c2,c3,c4,c5,c6⟩:=dr;rw[g1]at c2;cases c2;have jV:ik.den P ν=some (.av l6):=c1;obtain⟨R1,dK,l7,jk⟩:=AL hJ hr ht;obtain⟨us,e1,e2⟩:=jk _ fw
  have il:IV.av ds::nI=.av l6::us:=by
   have aT:All2 (fun(z:SE) y=>z.den P ν=some y) (ik::zs) (.av l6::us):=⟨jV,e1⟩;unfold h_ at h1;rw[ey aT]at h1;cases h1;rfl
  simp only[as5,IV.av.injEq]at il;obtain⟨rfl,rfl⟩:=il;have cX:ν.length=V'.n:=by rw[hn,dK.2.1]
  have bk:=l7.up (gN:=aj P (ν++[z])) (fun e y h=>SE.cI P e h);have gS:(SE.var V'.n).den P (ν++[z])=some z:=by simp[SE.den,←cX]
  obtain⟨eu,xz⟩:=Ll c5 c6 mv.1;subst eu;obtain⟨vz,rfl,vT⟩:=mv.2.1;exact⟨_,.raw vz,σ,R1,φ,.one (.v (.var V'.n)),{V' with n:=V'.n+1},[.raw vz],dZ,fun ro=>mv.call c4 xz (Fg e2),rfl,bk,⟨.raw vz,gS,.raw _,vT⟩,by simp[cX],dK.2.2.1,h3⟩
theorem eL(e:Env)(dst:Option Nat)(x:IV):(e.put dst x).n=e.n:=by simp[Env.mU]
theorem B8{V1:SS}{x:IV}{pv:PV SE}{dst:Option Nat}(hJ:J (aj P ν) R φ V1.g V1.l E σ)(hx:VR (aj P ν) R φ V1.l σ x pv)(hd:∀t,dst=some t→t<(E d).n):J (aj P ν) R φ (V1.bH d dst pv).g (V1.bH d dst pv).l (qs E d ((E d).put dst x)) σ:=by
 cases dst with
 |none=>exact hJ.Un (FI:=V1.g) d none x (fun t h=>by cases h) (fun _=>rfl)
 |some t=>exact hJ.put d (hd t rfl) hx
theorem B9{V1:SS}{x:IV}{dst:Option Nat}(hJ:J (aj P ν) R φ V1.g V1.l E σ):J (aj P ν) R φ (V1.jm d dst).g (V1.jm d dst).l (qs E d ((E d).put dst x)) σ:=by
 cases dst with
 |none=>exact hJ.Un (FI:=V1.g) d none x (fun t h=>by cases h) (fun _=>rfl)
 |some t=>exact hJ.Un (FI:=Bk d t V1.g) d (some t) x (fun t' h=>by cases h;rfl) (fun h=>by cases h)
@[simp] theorem DY(V1:SS)(dst:Option Nat)(pv:PV SE):(V1.bH d dst pv).n=V1.n:=by cases dst<;>rfl
@[simp] theorem Vj(V1:SS)(dst:Option Nat)(pv:PV SE):(V1.bH d dst pv).ln=V1.ln:=by cases dst<;>rfl
@[simp] theorem anm(V1:SS)(dst:Option Nat)(pv:PV SE):(V1.bH d dst pv).l=V1.l:=by cases dst<;>rfl
@[simp] theorem DZ(V1:SS)(dst:Option Nat):(V1.jm d dst).n=V1.n:=by cases dst<;>rfl
@[simp] theorem B_(V1:SS)(dst:Option Nat):(V1.jm d dst).ln=V1.ln:=by cases dst<;>rfl
theorem J.refine(hJ:J (aj P ν) R φ V.g V.l E σ){t:Nat}{e:SE}{b:Bool}(hg:cn d t V.g=some (.one (.v e))∨∃f,cn d t V.g=some (.one (.w f e)))(he:e.den P ν=some (.bool b)):(E d).at t=.raw (.bool b)∧J (aj P ν) R φ (V.bH d (some t) (.one (.v (.b b)))).g V.l E σ:=by
 have az:(E d).at t=.raw (.bool b):=by
  rcases hg with hg|⟨f,hg⟩
  ·obtain⟨y,h1,h2,_⟩:=hJ.slot d t _ hg;have cH:e.den P ν=some y:=h1;rw[he]at cH;cases cH;exact bS h2
  ·obtain⟨y,h1,h2,_⟩:=hJ.slot d t _ hg;have cH:e.den P ν=some y:=h1;rw[he]at cH;cases cH;exact bS h2
 refine⟨az,{hJ with slot:=fun d' t' CH OD=>?_}⟩;rcases mP OD with⟨rfl,rfl,rfl⟩|⟨_,h3⟩
 ·exact⟨.raw (.bool b),rfl,by rw[az];exact .raw _,rfl⟩
 ·exact hJ.slot d' t' CH (Gt V.g h3).2
theorem OE(hJ:J (aj P ν) R φ V.g V.l E σ)(cb:(E d).n=V.nt){ops:Array Oper}:
 (sP ops d V o=.run→aF o ops (E d)=true)∧(sP ops d V o=.skip→aF o ops (E d)=false)∧
 ∀t e want,sP ops d V o=.test t e want→(cn d t V.g=some (.one (.v e))∨∃f,cn d t V.g=some (.one (.w f e)))∧∀b,(E d).at t=.raw (.bool b)→aF o ops (E d)=(b==want):=by
 unfold sP aF;cases o.guard with
 |none=>simp
 |some p=>
  obtain⟨j,want⟩:=p;simp only;cases hd:(ops[j]?).bind (·.dst)with
  |none=>simp
  |some t=>
   simp only;by_cases aa:as_ t V.nt=true
   ·rw[cb,aa];simp only[Bool.not_true,if_true];cases hg:cn d t V.g with
    |none=>simp
    |some pv=>
     have hs:=hJ.slot d t pv hg;cases pv with
     |ag|tu=>simp
     |one c=>
      cases c with
      |v e=>
       cases e with
       |b x=>
        obtain⟨y,h1,h2,_⟩:=hs;simp only[aj,SE.den,ar7]at h1;subst h1;rw[bS h2];simp only;refine⟨fun h=>?_,fun h=>?_,fun t e w h=>?_⟩
        ·simp only[asD,if_false]at h;split at h
         ·assumption
         ·cases h
        ·simp only[asD,if_false]at h;split at h
         ·cases h
         ·rename_i hh;simpa using hh
        ·simp only[asD,if_false]at h;split at h<;>cases h
       |_=>
        refine⟨fun h=>by simp at h,fun h=>by simp at h,fun t' e' w' h=>?_⟩;simp only[asD,if_false,Want.test.injEq]at h;obtain⟨rfl,rfl,rfl⟩:=h;exact⟨.inl hg,fun b hb=>by rw[hb]⟩
      |w f e=>
       refine⟨fun h=>by simp at h,fun h=>by simp at h,fun t' e' w' h=>?_⟩;simp only[asD,if_false,Want.test.injEq]at h;obtain⟨rfl,rfl,rfl⟩:=h;exact⟨.inr ⟨f,hg⟩,fun b hb=>by rw[hb]⟩
      |_=>simp
   ·have fR:as_ t V.nt=false:=by cases h:as_ t V.nt;rfl;exact absurd h aa
    rw[fR];simp
end Go.Ev
namespace Go.Ev
variable{P:Program}{N:Nat}{σ ah:St}{R R':Rs}{φ aH:Ph}{E:Nat→Env}{ν:List IV}{ro:Nat}{ι:Io}{w:World}{cfg:aL}{self:mZ}
variable{C:Cr}{Q:IV→Prop}{K:List (List IV→Prop)}{V:SS}{d f0:Nat}{o:Oper}{k:PV SE→SS→af}{L:List (LO SE)}{Γ:Gm SE}{rd:Option Nat}{df:List Df}
def XR(P:Program)(ν:List IV)(R:Rs)(φ:Ph)(L:List (LO SE))(σ:St):yV→Ex→Prop
 |.normal,x=>x=.normal
 |.exit i,x=>x=.exit i
 |.ret,x=>x=.ret
 |.bC t pv,x=>∃v,x=.bC (.cY t v)∧VR (aj P ν) R φ L σ v pv
structure vC(P:Program)(d:Nat)(E:Nat→Env)(K:List (List IV→Prop))(ν:List IV)(nt:Nat)(V':SS)(μ:List IV)(K':List (List IV→Prop))(R':Rs)(aH:Ph)(E':Nat→Env)(ah:St):Prop where
 hK:K<+:K'
 fN:K'.length=V'.lv
 cb:V'.nt=nt
 hJ:J (aj P (ν++μ)) R' aH V'.g V'.l E' ah
 hn:(ν++μ).length=V'.n
 hE:∀j,j<d→E' j=E j
 Ir:(E' d).n=(E d).n
def KW(P:Program)(C:Cr)(Q:IV→Prop)(d:Nat)(E:Nat→Env)(K:List (List IV→Prop))(ν:List IV)(nt:Nat)(k:yV→SS→af)(CW:Nat→jx):Prop:=
 ∀ex (V':SS) μ K' R' aH E' ah x,vC P d E K ν nt V' μ K' R' aH E' ah→XR P (ν++μ) R' aH V'.l ah ex x→(k ex V').sat P C Q K' (ν++μ)→∃b,∀N,b≤N→ah.n≤N∧CW N x (E' d) ah
def KP(P:Program)(C:Cr)(Q:IV→Prop)(d:Nat)(E:Nat→Env)(K:List (List IV→Prop))(ν:List IV)(nt:Nat)(kx:Kx)(CW:Nat→IV→Env→St→Prop):Prop:=
 ∀t pv (V':SS) μ K' R' aH E' ah v,vC P d E K ν nt V' μ K' R' aH E' ah→VR (aj P (ν++μ)) R' aH V'.l ah v pv→(kx t pv V').sat P C Q K' (ν++μ)→∃b,∀N,b≤N→ah.n≤N∧CW N (.cY t v) (E' d) ah
def KS(P:Program)(C:Cr)(Q:IV→Prop)(d:Nat)(E:Nat→Env)(K:List (List IV→Prop))(ν:List IV)(nt:Nat)(k:SS→af)(CW:Nat→Env→St→Prop):Prop:=
 ∀(V':SS) μ K' R' aH E' ah,vC P d E K ν nt V' μ K' R' aH E' ah→(k V').sat P C Q K' (ν++μ)→∃b,∀N,b≤N→ah.n≤N∧CW N (E' d) ah
def oO(P:Program)(C:Cr)(Q:IV→Prop)(self:mZ):Prop:=
 ∀d f c (V:SS) k ν K R φ E σ CW rd df,(self d f c V k).sat P C Q K ν→J (aj P ν) R φ V.g V.l E σ→ν.length=V.n→K.length=V.lv→(E d).n=V.nt→KW P C Q d E K ν V.nt k CW→∃b,∀N,b≤N→cT P N rd c (E d) df σ (CW N)
theorem vC.trans{nt:Nat}{V1 V2:SS}{zq μ2:List IV}{K1 K2:List (List IV→Prop)}{R1 R2:Rs}{dt CL:Ph}{E1 E2:Nat→Env}{ai c7:St}(h1:K<+:K1)(h2:∀j,j<d→E1 j=E j)(h3:(E1 d).n=(E d).n)
 (h:vC P d E1 K1 (ν++zq) nt V2 μ2 K2 R2 CL E2 c7):vC P d E K ν nt V2 (zq++μ2) K2 R2 CL E2 c7 where
 hK:=h1.trans h.hK
 fN:=h.fN
 cb:=h.cb
 hJ:=by rw[←asv];exact h.hJ
 hn:=by rw[←asv];exact h.hn
 hE:=fun j hj=>(h.hE j hj).trans (h2 j hj)
 Ir:=h.Ir.trans h3
theorem KW.fwd{nt:Nat}{kk:yV→SS→af}{CW:Nat→jx}{zq:List IV}{K1:List (List IV→Prop)}{E1:Nat→Env}(h:KW P C Q d E K ν nt kk CW)(h1:K<+:K1)(h2:∀j,j<d→E1 j=E j)(h3:(E1 d).n=(E d).n):KW P C Q d E1 K1 (ν++zq) nt kk CW:=
 fun ex V' μ K' R' aH E' ah x hf hx hs=>h ex V' (zq++μ) K' R' aH E' ah x (vC.trans (V1:=V') (R1:=R') (dt:=aH) (ai:=ah) h1 h2 h3 hf) (by rw[←asv];exact hx) (by rw[←asv];exact hs)
theorem KP.fwd{nt:Nat}{kk:Kx}{CW:Nat→IV→Env→St→Prop}{zq:List IV}{K1:List (List IV→Prop)}{E1:Nat→Env}(h:KP P C Q d E K ν nt kk CW)(h1:K<+:K1)(h2:∀j,j<d→E1 j=E j)(h3:(E1 d).n=(E d).n):KP P C Q d E1 K1 (ν++zq) nt kk CW:=
 fun t pv V' μ K' R' aH E' ah v hf hv hs=>h t pv V' (zq++μ) K' R' aH E' ah v (vC.trans (V1:=V') (R1:=R') (dt:=aH) (ai:=ah) h1 h2 h3 hf) (by rw[←asv];exact hv) (by rw[←asv];exact hs)
theorem KW.kp{nt:Nat}{kk:yV→SS→af}{CW:Nat→jx}(h:KW P C Q d E K ν nt kk CW):KP P C Q d E K ν nt (fun t pv V=>kk (.bC t pv) V) (fun N v e σ=>CW N (.bC v) e σ):=
 fun t pv V' μ K' R' aH E' ah v hf hv hs=>h (.bC t pv) V' μ K' R' aH E' ah _ hf ⟨v,rfl,hv⟩ hs
theorem KS.fwd{nt:Nat}{kk:SS→af}{CW:Nat→Env→St→Prop}{zq:List IV}{K1:List (List IV→Prop)}{E1:Nat→Env}(h:KS P C Q d E K ν nt kk CW)(h1:K<+:K1)(h2:∀j,j<d→E1 j=E j)(h3:(E1 d).n=(E d).n):KS P C Q d E1 K1 (ν++zq) nt kk CW:=
 fun V' μ K' R' aH E' ah hf hs=>h V' (zq++μ) K' R' aH E' ah (vC.trans (V1:=V') (R1:=R') (dt:=aH) (ai:=ah) h1 h2 h3 hf) (by rw[←asv];exact hs)
theorem vC.here(hJ:J (aj P ν) R φ V.g V.l E σ)(hn:ν.length=V.n)(hK:K.length=V.lv):vC P d E K ν V.nt V [] K R φ E σ:=
 ⟨List.prefix_refl _,hK,rfl,by rw[asp];exact hJ,by rw[asp];exact hn,fun _ _=>rfl,rfl⟩
theorem KS.now{kk:SS→af}{CW:Nat→Env→St→Prop}(h:KS P C Q d E K ν V.nt kk CW)(hJ:J (aj P ν) R φ V.g V.l E σ)(hn:ν.length=V.n)(hK:K.length=V.lv)(hs:(kk V).sat P C Q K ν):∃b,∀N,b≤N→σ.n≤N∧CW N (E d) σ:=
 h V [] K R φ E σ (.here hJ hn hK) (by rw[asp];exact hs)
theorem KW.now{kk:yV→SS→af}{CW:Nat→jx}(h:KW P C Q d E K ν V.nt kk CW)(hJ:J (aj P ν) R φ V.g V.l E σ)(hn:ν.length=V.n)(hK:K.length=V.lv){ex:yV}{x:Ex}(hx:XR P ν R φ V.l σ ex x)(hs:(kk ex V).sat P C Q K ν):∃b,∀N,b≤N→σ.n≤N∧CW N x (E d) σ:=
 h ex V [] K R φ E σ x (.here hJ hn hK) (by rw[asp];exact hx) (by rw[asp];exact hs)
theorem XI(hJ:J (aj P ν) R φ V.g V.l E σ){t:TypeId}{pa pv:PV SE}{x:IV}(hx:VR (aj P ν) R φ V.l σ x pa)(hl:N0 P t pa V=some pv):
 ∃id off ext s cx v,x=.ptr id off 0 ext∧aI P t=some s∧σ.at id=some (.cells cx 0 0)∧s≤ext∧partOf P t cx off=some v∧VR (aj P ν) R φ V.l σ v pv:=by
 unfold N0 at hl;split at hl<;>first|(cases hl;done)|skip
 rename_i s b j off ext aK CN;split at hl<;>first|(cases hl;done)|skip
 rename_i cs hj;split at hl<;>first|(cases hl;done)|skip
 rename_i hle;simp only[ar6,atN]at hle;obtain⟨id,p6,h1,h2,rfl⟩:=hx;obtain⟨bp,cx,h3,h4,h5,h6⟩:=hJ.obj j _ hj;rw[h1]at h3;cases h3
 have qe:if isAgg P t=true then pv=.ag ((cs.drop off).take s)else∃c,(cs.drop off).take s=[c]∧pv=.one c:=by
  split at hl
  ·rename_i ha;cases hl;rw[if_pos ha]
  ·rename_i ha;rw[if_neg ha];split at hl
   ·rename_i c hc;cases hl;exact⟨c,hc,rfl⟩
   ·cases hl
 obtain⟨v,hv,hr⟩:=rZ aK CN h6 hle.2 qe;exact⟨id,off,ext,s,cx,v,rfl,aK,h5,hle.1,hv,hr⟩
def vU(P:Program)(e:Env)(σ:St)(r:ResultVar):Option IV:=
 match r with
 |.tmp t=>some (e.at t)
 |.cell a t=>match e.at a with
  |.ptr id off ep ext=>match aI P t,σ.at id with
   |some s,some (.cells cs ar mn)=>if s≤ext∧mn≤ep∧ep≤ar then partOf P t cs off else none
   |_,_=>none
  |_=>none
theorem lj(hJ:J (aj P ν) R φ V.g V.l E σ):∀{rs:List ResultVar} {cP:List (PV SE)},kT P d V rs=some cP→∃vs,rs.mapM (vU P (E d) σ)=some vs∧All2 (VR (aj P ν) R φ V.l σ) vs cP
 |[],cP,h=>by
  simp only[kT,ar7]at h;subst h;exact⟨[],rfl,trivial⟩
 |.tmp t::rs,cP,h=>by
  simp only[kT]at h;split at h
  ·rename_i jb hp;cases h;obtain⟨vs,h1,h2⟩:=lj hJ hp;refine⟨(E d).at t::vs,by simp[at7,vU,h1],?_,h2⟩;exact aW hJ d 0 (.tmp t)
  ·cases h
 |.cell a t::rs,cP,h=>by
  simp only[kT]at h;split at h
  ·rename_i pa H8;split at h
   ·rename_i pv jb hl hp;cases h;obtain⟨vs,h1,h2⟩:=lj hJ hp;obtain⟨id,off,ext,s,cx,v,g1,g2,g3,g4,g5,g6⟩:=XI hJ (hJ.slot d a pa H8) hl;refine⟨v::vs,?_,g6,h2⟩;have:vU P (E d) σ (.cell a t)=some v:=by simp[vU,g1,g2,g3,g4,g5]
    simp[at7,this,h1]
   ·cases h
  ·cases h
def D0:List IV→IV
 |[v]=>v
 |l=>.av l
theorem JV{vs:List IV}{cP:List (PV SE)}(h:All2 (VR (aj P ν) R φ L σ) vs cP):VR (aj P ν) R φ L σ (D0 vs) (DH cP):=by
 have conv:∀{x:IV} {pv:PV SE},VR (aj P ν) R φ L σ x pv→sK (aj P ν) R φ L σ x (match pv with|.one c=>(false,[c])|.ag cs=>(true,cs)|.tu _=>(false,[.un])):=by
  intro x pv hx;cases pv with
  |one c=>exact⟨c,rfl,hx⟩
  |ag cs=>exact hx
  |tu vs=>exact⟨.un,rfl,trivial⟩
 match vs,cP,h with
 |[],[],_=>trivial
 |[v],[pv],h=>exact h.1
 |v::v'::vs,pv::CH::cP,h=>exact⟨_,rfl,h.map fun _ _ bR=>conv bR⟩
theorem jW{fn:Func}{e:Env}{vs:List IV}(h:fn.results.toList.mapM (vU P e σ)=some vs):bt P fn e σ=some (D0 vs):=by
 unfold bt;simp only
 have arY:∀r,(match r with
  |axW t=>some (e.at t)
  |axX a t=>match e.at a with
   |.ptr id off ep ext=>match aI P t,σ.at id with
    |some s,some (.cells cs ar mn)=>if s≤ext∧mn≤ep∧ep≤ar then partOf P t cs off else none
    |_,_=>none
   |_=>none)=vU P e σ r:=fun r=>rfl
 generalize hl:fn.results.toList=l at h⊢
 match l,h with
 |[],h=>simp[av6]at h;subst h;rfl
 |[r],h=>
  simp only[at7,av6]at h;cases ho:vU P e σ r with
  |none=>rw[ho]at h;simp at h
  |some v=>rw[ho]at h;simp at h;subst h;exact ho
 |r::r'::rs,h=>
  have hlen:∃v v' vZ,vs=v::v'::vZ:=by
   simp only[at7]at h;cases h1:vU P e σ r with
   |none=>rw[h1]at h;simp at h
   |some v=>
    cases h2:vU P e σ r' with
    |none=>rw[h1,h2]at h;simp at h
    |some v'=>
     cases h3:rs.mapM (vU P e σ)with
     |none=>rw[h1,h2,h3]at h;simp at h
     |some vZ=>rw[h1,h2,h3]at h;simp at h;exact⟨v,v',vZ,h.symm⟩
  obtain⟨v,v',vZ,rfl⟩:=hlen;have h':(r::r'::rs).mapM (vU P e σ)=some (v::v'::vZ):=h;have e2:(match(r::r'::rs).mapM (vU P e σ)with|some vs=>some (IV.av vs)|none=>none)=some (D0 (v::v'::vZ)):=by rw[h'];rfl
  exact e2
end Go.Ev
namespace Go.Ev
variable{P:Program}{N:Nat}{σ ah:St}{R R':Rs}{φ aH:Ph}{E:Nat→Env}{ν:List IV}{ro:Nat}{ι:Io}{w:World}{cfg:aL}{self:mZ}
variable{C:Cr}{Q:IV→Prop}{K:List (List IV→Prop)}{V:SS}{d f0:Nat}{o:Oper}{k:PV SE→SS→af}{L:List (LO SE)}{Γ:Gm SE}{rd:Option Nat}{df:List Df}
theorem gp(E:Nat→Env)(d:Nat)(e:Env){j:Nat}(h:j≠d):qs E d e j=E j:=by simp[qs,h]
theorem FU{α:Type}{d t:Nat}{pv:PV α}:∀{g h:List (Nat×Nat×PV α)},cn d t (g++h)=some pv→cn d t g=some pv∨cn d t h=some pv
 |[],h,hg=>.inr hg
 |(a,b,q)::g,h,hg=>by
  simp only[List.cons_append,cn]at hg⊢;split at hg
  ·rename_i hc;rw[if_pos hc];exact .inl hg
  ·rename_i hc;rw[if_neg hc];exact FU hg
theorem fq{α:Type}{d d' t:Nat}{pv:PV SE}:∀{cP:List (PV SE)} {j:Nat},cn d' t (setArgs d j cP)=some pv→d'=d∧j≤t∧cP[t- j]?=some pv
 |[],j,h=>by cases h
 |q::cP,j,h=>by
  simp only[setArgs]at h;rcases mP h with⟨rfl,rfl,rfl⟩|⟨bc,h2⟩
  ·simp
  ·obtain⟨rfl,h3,h4⟩:=fq (α:=α) h2;refine⟨rfl,by omega,?_⟩;rw[show t- j=(t-(j+1))+1 by omega];simpa using h4
theorem tE{d d' t:Nat}{pv:PV SE}:∀{g:List (Nat×Nat×PV SE)},cn d' t (jn d g)=some pv→d'≠d∧cn d' t g=some pv
 |[],h=>by cases h
 |(a,b,q)::g,h=>by
  simp only[jn]at h;split at h
  ·rename_i hc;have xA:=asd hc;obtain⟨h1,h2⟩:=tE h;refine⟨h1,?_⟩;unfold cn;rw[if_neg]
   ·exact h2
   ·simp only[ar6,asL];rintro⟨rfl,_⟩;exact h1 xA
  ·rename_i hc;have xA:a≠d:=by intro h;subst h;simp at hc
   rcases mP h with⟨rfl,rfl,rfl⟩|⟨bc,h2⟩
   ·exact⟨xA,by simp[cn]⟩
   ·obtain⟨h3,h4⟩:=tE h2;refine⟨h3,?_⟩;unfold cn;rw[if_neg (by simpa only[ar6,asL]using bc)];exact h4
theorem Is:∀(args:List IV) (j:Nat) (e:Env) (t:Nat),j+args.length≤e.n→((args.zipIdx j).foldl (fun e (p:IV×Nat)=>e.put (some p.2) p.1) e).n=e.n∧
 (((args.zipIdx j).foldl (fun e (p:IV×Nat)=>e.put (some p.2) p.1) e).at t=if j≤t∧t<j+args.length then(args[t- j]?).getD .undef else e.at t)
 |[],j,e,t,_=>by simp;intro h1 h2;omega
 |a::args,j,e,t,h=>by
  simp only[asS]at h;simp only[List.zipIdx_cons,List.foldl_cons];obtain⟨h1,h2⟩:=Is args (j+1) (e.put (some j) a) t (by rw[eL];omega);refine⟨by rw[h1,eL],?_⟩;rw[h2];by_cases hc:j+1≤t∧t<j+1+args.length
  ·rw[if_pos hc,if_pos ⟨by omega,by simp;omega⟩,show t- j=(t-(j+1))+1 by omega];simp
  ·rw[if_neg hc];by_cases ht:t=j
   ·subst ht;rw[if_pos ⟨ar9 _,by simp⟩,Env.cJ,if_pos ⟨by omega,rfl⟩];simp
   ·rw[if_neg (by simp;omega),CG _ _ _ _ (by simpa using fun h=>ht h.symm)]
theorem cC{args:List IV}{n t:Nat}(h:args.length≤n):(bY args n).n=n∧(t<args.length→(bY args n).at t=(args[t]?).getD .undef):=by
 obtain⟨h1,h2⟩:=Is args 0 ⟨n,.lf⟩ t (by simpa using h);refine⟨h1,fun ht=>?_⟩;have:=h2;rw[if_pos ⟨asT _,by omega⟩]at this;exact this
theorem XJ(hJ:J (aj P ν) R φ V.g V.l E σ){args:List IV}{cP:List (PV SE)}{n:Nat}(h:All2 (VR (aj P ν) R φ V.l σ) args cP)(hl:args.length≤n):
 J (aj P ν) R φ (setArgs (d+1) 0 cP++jn (d+1) V.g) V.l (qs E (d+1) (bY args n)) σ:=by
 refine{hJ with slot:=fun d' t pv hg=>?_};rcases FU hg with hg|hg
 ·obtain⟨rfl,_,h3⟩:=fq (α:=IV) hg;have ht:t<args.length:=by rw[h.len];have:=(ar5.1 h3).1;simpa using this
  rw[bZ,(cC hl).2 ht,ar4 ht];exact h.get (ar4 ht) (by simpa using h3)
 ·obtain⟨h1,h2⟩:=tE hg;rw[gp _ _ _ h1];exact hJ.slot d' t pv h2
theorem zr(hJ:J (aj P ν) R φ V.g V.l E σ)(d:Nat):J (aj P ν) R φ (jn d V.g) V.l E σ:=hJ.less fun _ _ _ h=>(tE h).2
theorem Ca(bn:oO P C Q self)(hJ:J (aj P ν) R φ V.g V.l E σ)(hn:ν.length=V.n)(hK:K.length=V.lv)(cb:(E d).n=V.nt){g:FuncId}{dst:Option Nat}{args:List IV}{cP:List (PV SE)}(bg:All2 (VR (aj P ν) R φ V.l σ) args cP)
 {kx:Kx}(hs:(rV P cfg self kx d f0 dst g cP V k).sat P C Q K ν){RW PW:Nat→IV→St→Prop}
 (hk:∀(pv:PV SE) (V':SS) μ K' R' aH E' ah v,vC P d E K ν V.nt V' μ K' R' aH E' ah→E' d=E d→VR (aj P (ν++μ)) R' aH V'.l ah v pv→(k pv V').sat P C Q K' (ν++μ)→∃b,∀N,b≤N→ah.n≤N∧RW N v ah)
 (XK:∀t (pv:PV SE) (V':SS) μ K' R' aH E' ah v,vC P d E K ν V.nt V' μ K' R' aH E' ah→E' d=E d→VR (aj P (ν++μ)) R' aH V'.l ah v pv→(kx t pv V').sat P C Q K' (ν++μ)→∃b,∀N,b≤N→ah.n≤N∧PW N (.cY t v) ah):
 ∃fn,P.funcs[g]?=some fn∧fn.body.isSome=true∧(fn.name != "runtime.NumGoroutine")=true∧∃b,∀N,b≤N→wA P N g args σ (RW N) (PW N):=by
 unfold rV at hs;split at hs<;>first|(exact hs.elim)|skip
 rename_i fn bA;split at hs<;>first|(exact hs.elim)|skip
 rename_i body hb;split at hs<;>first|(exact hs.elim)|skip
 split at hs<;>first|(exact hs.elim)|skip
 rename_i hc;simp only[ar6,atN]at hc;have hl:args.length≤fn.ntmps:=by rw[bg.len];exact hc.1
 refine⟨fn,bA,by simp[hb],hc.2,?_⟩;have bk:=XJ (d:=d) hJ bg hl
 obtain⟨b,wa⟩:=bn (d+1) _ body {V with g:=setArgs (d+1) 0 cP++jn (d+1) V.g,nt:=fn.ntmps} _ ν K R φ (qs E (d+1) (bY args fn.ntmps)) σ
  (fun N ex e1 ai=>ai.n≤N∧(((ex=.normal∨ex=.ret)∧∃v,bt P fn e1 ai=some v∧RW N v ai)∨∃v,ex=.bC v∧PW N v ai)) none [] hs bk hn hK (by rw[bZ,(cC (t:=0) hl).1]) (by
   intro ex V' μ K' R' aH E' ah x hf hx aZ;have mR:E' d=E d:=by rw[hf.hE d (by omega),gp _ _ _ (by omega)]
   have main:∀jb,kT P (d+1) V' fn.results.toList=some jb→(k (DH jb) {V' with g:=jn (d+1) V'.g,nt:=V.nt}).sat P C Q K' (ν++μ)→∃b,∀N,b≤N→ah.n≤N∧ah.n≤N∧∃v,bt P fn (E' (d+1)) ah=some v∧RW N v ah:=by
    intro jb hr db;obtain⟨vs,h1,h2⟩:=lj hf.hJ hr;have hv:=JV h2
    obtain⟨b,hb⟩:=hk (DH jb) {V' with g:=jn (d+1) V'.g,nt:=V.nt} μ K' R' aH E' ah (D0 vs)
     ⟨hf.hK,hf.fN,rfl,zr hf.hJ (d+1),hf.hn,fun j hj=>by rw[hf.hE j (by omega),gp _ _ _ (by omega)],by rw[mR]⟩ mR hv db
    exact⟨b,fun N hN=>⟨(hb N hN).1,(hb N hN).1,D0 vs,jW h1,(hb N hN).2⟩⟩
   cases ex with
   |exit i=>exact aZ.elim
   |bC t pv=>
    obtain⟨v,rfl,hv⟩:=hx
    obtain⟨b,hb⟩:=XK t pv {V' with g:=jn (d+1) V'.g,nt:=V.nt} μ K' R' aH E' ah v
     ⟨hf.hK,hf.fN,rfl,zr hf.hJ (d+1),hf.hn,fun j hj=>by rw[hf.hE j (by omega),gp _ _ _ (by omega)],by rw[mR]⟩ mR hv aZ
    exact⟨b,fun N hN=>⟨(hb N hN).1,(hb N hN).1,.inr ⟨_,rfl,(hb N hN).2⟩⟩⟩
   |normal=>
    obtain rfl:=hx;simp only at aZ;split at aZ
    ·rename_i jb hr;obtain⟨b,hb⟩:=main jb hr aZ;exact⟨b,fun N hN=>⟨(hb N hN).1,(hb N hN).2.1,.inl ⟨.inl rfl,(hb N hN).2.2⟩⟩⟩
    ·exact aZ.elim
   |ret=>
    obtain rfl:=hx;simp only at aZ;split at aZ
    ·rename_i jb hr;obtain⟨b,hb⟩:=main jb hr aZ;exact⟨b,fun N hN=>⟨(hb N hN).1,(hb N hN).2.1,.inl ⟨.inr rfl,(hb N hN).2.2⟩⟩⟩
    ·exact aZ.elim)
 refine⟨b,fun N hN=>?_⟩;have:=wa N hN;rw[bZ]at this;exact wA.body bA hb hl this
end Go.Ev
namespace Go.Ev
variable{P:Program}{N:Nat}{σ ah:St}{R R':Rs}{φ aH:Ph}{E:Nat→Env}{ν qi vs:List IV}{n:Nat}{args:List SE}{dR:List (Nat×Nat)}
theorem adN{qi a b:List IV}:∀(e:SE),e.wk qi.length=true→e.den P (qi++a)=e.den P (qi++b):=by
 intro e;induction e with
 |var x=>
  intro h;simp only[SE.wk]at h;have hx:x<qi.length:=by simpa using h
  simp[SE.den,asf hx]
 |i|k|b|s|raw|an=>intro _;rfl
 |ok e ih|qL _ e ih|bM e _ ih|len e ih|rB e ih|tr _ e ih|tp e ih|proj e _ ih|un _ e ih|cv _ _ e ih|rw e ih|rws e ih=>intro h;simp only[SE.wk]at h;simp only[SE.den,ih h]
 |idx _ e f fm eH|CK _ e f _ fm eH|ac e f fm eH|cat _ _ e f fm eH|bin _ _ e f fm eH|mx _ e f fm eH|As e f fm eH|has _ e f fm eH|dec _ e f fm eH=>
  intro h;simp only[SE.wk,ar6]at h;simp only[SE.den,fm h.1,eH h.2]
 |Bl _ e f g fm eH AB|sub _ e f g fm eH AB|HN _ e f g fm eH AB|Gx e f g fm eH AB|ins _ e f g fm eH AB|get _ e f g fm eH AB=>
  intro h;simp only[SE.wk,ar6]at h;simp only[SE.den,fm h.1.1,eH h.1.2,AB h.2]
structure Ins(P:Program)(n:Nat)(args:List SE)(ν qi vs:List IV):Prop where
 len:qi.length=n
 pre:∃μ,ν=qi++μ
 args:All2 (fun(e:SE) y=>e.den P ν=some y) args vs
theorem kr(hI:Ins P n args ν qi vs){h e:SE}(hc:uO n args h e=true){y:IV}(hy:e.den P ν=some y):h.den P (qi++vs)=some y:=by
 obtain⟨hl,⟨μ,rfl⟩,ha⟩:=hI;unfold uO at hc;split at hc
 ·rename_i x;split at hc
  ·rename_i hx;have iJ:x<qi.length:=by rw[hl];simpa using hx
   have:=SE.eq_eq hc;subst this;simp only[SE.den,asf iJ]at hy⊢;exact hy
  ·rename_i hx;have iJ:n≤x:=by simpa using hx
   split at hc
   ·rename_i a hax;have:=SE.eq_eq hc;subst this;have aa:x- n<vs.length:=by rw[←ha.len];exact(ar5.1 hax).1
    have hv:=ha.get hax (ar4 aa);rw[hy]at hv;simp only[SE.den];rw[List.getElem?_append_right (by omega),hl,ar4 aa];exact hv.symm
   ·cases hc
 ·simp only[ar6]at hc;obtain⟨h1,h2⟩:=hc;have:=SE.eq_eq h2;subst this;rw[←hl]at h1;rw[adN (b:=μ) h h1];exact hy
variable{H V:SS}
def kj(φ:Ph)(H:SS)(dR:List (Nat×Nat)):Ph:=fun k=>if isLive H.l k=true then(rD dR k).bind φ else none
theorem OF{α:Type}{l:List (Nat×α)}{k:Nat}{a:α}(h:rD l k=some a):(k,a)∈l:=by
 induction l with
 |nil=>cases h
 |cons p l ih=>
  obtain⟨x,y⟩:=p;simp only[rD]at h;split at h
  ·rename_i hc;cases h;rw[asd hc];simp
  ·exact atE _ (ih h)
theorem afK(h:aac dR=true){k k' e:Nat}(h1:rD dR k=some e)(h2:rD dR k'=some e):k=k':=by
 unfold aac at h;rw[asl]at h;have:=h _ (OF h1);rw[asl]at this;have:=this _ (OF h2);simpa using this
theorem JW{l:List (LO SE)}:∀{os:List (LO SE)} {k:Nat},NZ n args dR l k os=true→∀{j:Nat} {o:LO SE},os[j]?=some o→o≠.dead→∃k' o',rD dR (k+j)=some k'∧l[k']?=some o'∧zQ n args dR o o'=true
 |[],k,_,j,o,h,_=>by simp at h
 |a::os,k,hc,j,o,h,hd=>by
  simp only[NZ,ar6]at hc;cases j with
  |zero=>
   simp at h;subst h;have bw:=hc.1;split at bw
   ·exact absurd rfl hd
   ·split at bw
    ·rename_i k' hk;split at bw
     ·rename_i o' ho;exact⟨k',o',hk,ho,bw⟩
     ·cases bw
    ·cases bw
  |succ j=>
   simp at h;obtain⟨k',o',h1,h2,h3⟩:=JW hc.2 h hd;exact⟨k',o',by rw[show k+(j+1)=k+1+j by omega];exact h1,h2,h3⟩
theorem OG{l:List (LO SE)}{k:Nat}(h:isLive l k=true):∃o,l[k]?=some o∧o≠.dead:=by
 unfold isLive at h;split at h
 ·cases h
 ·cases h
 ·rename_i h1 h2;cases hk:l[k]? with
  |none=>exact absurd hk h2
  |some o=>exact⟨o,rfl,fun hc=>h1 (by rw[hk,hc])⟩
theorem lQ{α β:Type}{f:α→α→Bool}{r:β→α→Prop}{r':β→α→Prop}:∀{xs:List β} {as bs:List α},(∀x a b,a∈as→f a b=true→r x b→r' x a)→lA f as bs=true→All2 r xs bs→All2 r' xs as
 |[],[],[],_,_,_=>trivial
 |x::xs,a::as,b::bs,hf,h,hx=>by
  simp only[lA,ar6]at h;exact⟨hf x a b (by simp) h.1 hx.1,lQ (fun x a b ha=>hf x a b (by simp[ha])) h.2 hx.2⟩
 |[],a::as,[],_,h,_=>by cases h
 |[],[],b::bs,_,h,_=>by cases h
 |[],_::_,_::_,_,_,hx=>hx.elim
 |_::_,[],[],_,_,hx=>hx.elim
 |_::_,_::_,[],_,h,_=>by cases h
 |_::_,[],_::_,_,h,_=>by cases h
variable(hI:Ins P n args ν qi vs)(hJ:J (aj P ν) R φ V.g V.l E σ)(hL:NZ n args dR V.l 0 H.l=true)
include hI hJ hL
theorem AM{h e:Cl SE}{x:IV}(zu:∀k∈sQ h,isLive H.l k=true)(hc:qt n args dR h e=true)(hx:cw (aj P ν) R φ V.l σ x e):cw (aj P (qi++vs)) R (kj φ H dR) H.l σ x h:=by
 have key:∀k k',DG dR k k'=true→isLive H.l k=true→∃o o',H.l[k]?=some o∧V.l[k']?=some o'∧zQ n args dR o o'=true∧kj φ H dR k=φ k':=by
  intro k k' hk hl;obtain⟨o,h1,h2⟩:=OG hl;obtain⟨k2,o',h3,h4,h5⟩:=JW hL h1 h2;rw[atx]at h3;unfold DG at hk;rw[h3]at hk;have:=asd hk;subst this;exact⟨o,o',h1,h4,h5,by simp[kj,hl,h3]⟩
 cases h with
 |un=>trivial
 |v a=>
  cases e<;>simp only[qt]at hc<;>first|(cases hc;done)|skip
  ·obtain⟨y,h1,h2⟩:=hx;exact⟨y,kr hI hc h1,h2⟩
  ·rename_i b s;obtain⟨h1,h2⟩:=hx;refine⟨.tree s [],kr hI hc (by simp[SE.den,h1]),?_,rfl⟩;subst h2;cases b
   ·exact .emp s h1
   ·exact .nil s h1
 |w f a=>
  cases e<;>simp only[qt,ar6]at hc<;>first|(cases hc;done)|skip
  ·obtain⟨hf,hc⟩:=hc;obtain⟨y,h1,h2,h3⟩:=hx;subst hf;exact⟨y,kr hI hc h1,h2.mono hJ.AE,h3⟩
  ·rename_i f' b;obtain⟨hf,hc⟩:=hc;obtain⟨y,h1,h2,h3⟩:=hx;exact⟨y,kr hI hc h1,h2.wide (fun h=>by subst h;simpa using hf),h3⟩
  ·rename_i b s;obtain⟨h1,h2⟩:=hx;refine⟨.tree s [],kr hI hc (by simp[SE.den,h1]),?_,rfl⟩;subst h2;cases b
   ·exact .emp s h1
   ·exact .nil s h1
 |nl a s=>
  cases e<;>simp only[qt,ar6,asL,beq_iff_eq]at hc<;>first|(cases hc;done)|skip
  obtain⟨rfl,rfl⟩:=hc;exact hx
 |pt k o x'=>
  cases e<;>simp only[qt,ar6,asL]at hc<;>first|(cases hc;done)|skip
  obtain⟨⟨rfl,rfl⟩,hk⟩:=hc;obtain⟨id,cs,h1,h2,h3⟩:=hx;obtain⟨o1,o2,g1,g2,g3,g4⟩:=key _ _ hk (zu k (by simp[sQ]));rw[h2]at g2;cases g2;cases o1<;>simp only[zQ]at g3<;>first|(cases g3;done)|skip
  exact⟨id,_,by rw[g4];exact h1,g1,h3⟩
 |tp a=>
  cases e<;>simp only[qt]at hc<;>first|(cases hc;done)|skip
  obtain⟨ds,h1,h2⟩:=hx;exact⟨ds,h1,lQ (fun d a b _ bR ⟨y,h3,h4⟩=>⟨y,kr hI bR h3,h4⟩) hc h2⟩
 |tw f a=>cases e<;>simp[qt]at hc
 |sr k=>
  cases e<;>simp only[qt]at hc<;>first|(cases hc;done)|skip
  obtain⟨s,st,cut,fr,z,es,h1,h2,h3⟩:=hx;obtain⟨o1,o2,g1,g2,g3,g4⟩:=key _ _ hc (zu k (by simp[sQ]));rw[h1]at g2;cases g2;cases o1<;>simp only[zQ,ar6,asL,beq_iff_eq]at g3<;>first|(cases g3;done)|skip
  obtain⟨⟨⟨⟨rfl,rfl⟩,Om⟩,tK⟩,hz⟩:=g3;refine⟨_,_,_,_,_,es,g1,kr hI hz h2,?_⟩;rcases h3 with⟨a1,a2,a3⟩|⟨id,cs,ar,mn,cap,a1,a2,a3,a4,a5,a6⟩
  ·exact .inl ⟨by rw[g4];exact a1,a2,a3⟩
  ·exact .inr ⟨id,cs,ar,mn,cap,by rw[g4];exact a1,a2,a3,a4,fun hn xA=>a5 hn (by subst xA;simpa using Om),a6⟩
 |sv k lo=>cases e<;>simp[qt]at hc
 |pr k i off ext=>cases e<;>simp[qt]at hc
 |mp k=>
  cases e<;>simp only[qt]at hc<;>first|(cases hc;done)|skip
  obtain⟨id,kt,es,h1,h2,h3⟩:=hx;obtain⟨o1,o2,g1,g2,g3,g4⟩:=key _ _ hc (zu k (by simp[sQ]));rw[h2]at g2;cases g2;cases o1<;>simp only[zQ,ar6,asL]at g3<;>first|(cases g3;done)|skip
  obtain⟨⟨rfl,_⟩,_⟩:=g3;exact⟨id,_,_,by rw[g4];exact h1,g1,h3⟩
 |fn f a=>
  cases e<;>simp only[qt,ar6,asL]at hc<;>first|(cases hc;done)|skip
  obtain⟨rfl,hl⟩:=hc;rcases hx with⟨rfl,h2⟩|⟨ys,h1,h2⟩
  ·have:a=[]:=by cases a with|nil=>rfl|cons=>cases hl
   subst this;exact .inl ⟨rfl,h2⟩
  ·refine .inr ⟨ys,h1,?_⟩;refine lQ (fun y p q hp xL ⟨id,cs,h3,h4,h5⟩=>?_) hl h2;simp only[ar6,asL]at xL;obtain⟨o1,o2,g1,g2,g3,g4⟩:=key _ _ xL.2 (zu p.1 (by simp only[sQ];exact List.mem_map_of_mem hp));rw[h4]at g2;cases g2;cases o1<;>simp only[zQ]at g3<;>first|(cases g3;done)|skip
   exact⟨id,_,by rw[g4];exact h3,g1,by rw[xL.1];exact h5⟩
theorem aaK{h e:PV SE}{x:IV}(zu:∀k∈NV h,isLive H.l k=true)(hc:HR n args dR h e=true)(hx:VR (aj P ν) R φ V.l σ x e):VR (aj P (qi++vs)) R (kj φ H dR) H.l σ x h:=by
 cases h with
 |one c=>
  cases e<;>simp only[HR]at hc<;>first|(cases hc;done)|skip
  exact AM hI hJ hL zu hc hx
 |ag cs=>
  cases e<;>simp only[HR]at hc<;>first|(cases hc;done)|skip
  obtain⟨xs,h1,h2⟩:=hx;exact⟨xs,h1,lQ (r:=cw (aj P ν) R φ V.l σ) (fun x a b ha bR hx=>AM hI hJ hL (fun k hk=>zu k (aug.2 ⟨a,ha,hk⟩)) bR hx) hc h2⟩
 |tu us=>
  cases e<;>simp only[HR]at hc<;>first|(cases hc;done)|skip
  obtain⟨xs,h1,h2⟩:=hx;refine⟨xs,h1,lQ (fun x a b ha bR hx=>?_) hc h2⟩;simp only[ar6,beq_iff_eq]at bR;have hla:∀c∈a.2,∀k∈sQ c,isLive H.l k=true:=fun c hc k hk=>zu k (aug.2 ⟨a,ha,aug.2 ⟨c,hc,hk⟩⟩);unfold sK at hx⊢;rw[bR.1];split at hx
  ·rename_i hb;rw[if_pos hb];obtain⟨ys,h3,h4⟩:=hx;exact⟨ys,h3,lQ (r:=cw (aj P ν) R φ V.l σ) (fun x c c' hca nH hx=>AM hI hJ hL (hla c hca) nH hx) bR.2 h4⟩
  ·rename_i hb;rw[if_neg hb];obtain⟨c,h3,h4⟩:=hx;have fi:=bR.2;rw[h3]at fi;obtain⟨a1,a2⟩:=a;cases a2 with
   |nil=>cases fi
   |cons c' r=>
    cases r with
    |cons=>simp[lA]at fi
    |nil=>
     simp only[lA,Bool.and_true]at fi;exact⟨c',rfl,AM hI hJ hL (hla c' (by simp)) fi h4⟩
omit hI hJ hL in
theorem JX{m:Nat}(hJ:J (aj P ν) R φ V.g V.l E σ)(hl:qi.length=n)(hp:∃μ,ν=qi++μ)(h:inst n m H V=some (args,dR)){vs:List IV}(hv:All2 (fun(e:SE) y=>e.den P ν=some y) args vs):
 vs.length=m∧J (aj P (qi++vs)) R (kj φ H dR) H.g H.l E σ:=by
 unfold inst at h;split at h
 ·cases h
 ·rename_i hlr;have aaL:GB H=true:=by simpa using hlr
  split at h<;>first|(cases h;done)|skip
  split at h<;>first|(cases h;done)|skip
  split at h<;>first|(cases h;done)|skip
  split at h<;>first|(cases h;done)|skip
  rename_i hc;simp only[ar7,asx]at h;obtain⟨e1,e2⟩:=h;rw[e1,e2]at hc;simp only[ar6,asL]at hc;obtain⟨⟨⟨c1,c2⟩,c3⟩,c4⟩:=hc;have hI:Ins P n args ν qi vs:=⟨hl,hp,hv⟩;unfold GB at aaL;simp only[ar6,asl]at aaL;obtain⟨l1,l2⟩:=aaL
  have JS:∀{k id},kj φ H dR k=some id→isLive H.l k=true∧∃k',rD dR k=some k'∧φ k'=some id:=by
   intro k id hk;unfold kj at hk;split at hk
   ·rename_i fN;obtain⟨k',h1,h2⟩:=ass.1 hk;exact⟨fN,k',h1,h2⟩
   ·cases hk
  refine⟨by rw[←hv.len];exact c4,fun d t pv hg=>?_,fun k o ho=>?_,fun k k' id h1 h2=>?_,fun k id hk=>?_,hJ.qb,hJ.fits,hJ.wf,hJ.top⟩
  ·have iY:(d,t,pv)∈H.g:=by
    have:∀{g:List (Nat×Nat×PV SE)},cn d t g=some pv→(d,t,pv)∈g:=by
     intro g;induction g with
     |nil=>intro h;cases h
     |cons p g ih=>
      obtain⟨a,b,q⟩:=p;intro h;rcases mP h with⟨rfl,rfl,rfl⟩|⟨_,h2⟩
      ·simp
      ·exact atE _ (ih h2)
    exact this hg
   unfold afo at c1;rw[asl]at c1;have:=c1 _ iY;simp only at this;split at this
   ·rename_i CH qe;exact aaK hI hJ c2 (fun k hk=>l1 _ iY k hk) this (hJ.slot d t CH qe)
   ·cases this
  ·by_cases hd:o=.dead
   ·subst hd;trivial
   ·obtain⟨k',o',h1,h2,h3⟩:=JW c2 ho hd;rw[atx]at h1
    have fN:isLive H.l k=true:=by
     unfold isLive;rw[ho];cases o<;>first|rfl|exact absurd rfl hd
    have tD:kj φ H dR k=φ k':=by simp[kj,fN,h1]
    have dr:=hJ.obj k' o' h2;cases o with
    |dead=>exact absurd rfl hd
    |var cs=>
     cases o'<;>simp only[zQ]at h3<;>first|(cases h3;done)|skip
     obtain⟨id,cx,g1,g2,g3,g4⟩:=dr;have hrefs:=l2 _ (ash ho);simp only at hrefs;rw[asl]at hrefs;exact⟨id,cx,by rw[tD];exact g1,g2,g3,lQ (r:=cw (aj P ν) R φ V.l σ) (fun x a b ha bR hx=>AM hI hJ c2 (fun k hk=>hrefs k (aug.2 ⟨a,ha,hk⟩)) bR hx) h3 g4⟩
    |row s st cut fr z=>
     cases o'<;>simp only[zQ,ar6,asL,beq_iff_eq]at h3<;>first|(cases h3;done)|skip
     obtain⟨⟨⟨⟨rfl,rfl⟩,Om⟩,tK⟩,hz⟩:=h3;obtain⟨bu,es,g1,g2,g3⟩:=dr;refine⟨bu,es,kr hI hz g1,g2,?_⟩;rcases g3 with⟨a1,a2⟩|⟨id,cs,ar,mn,a1,a2,a3,a4,a5,a6,a7⟩
     ·exact .inl ⟨by rw[tD];exact a1,a2⟩
     ·exact .inr ⟨id,cs,ar,mn,by rw[tD];exact a1,a2,a3,a4,a5,a6,fun j x y hx hy=>(a7 j x y hx hy).wide (fun h=>by subst h;simpa using tK)⟩
    |mp kt z=>
     cases o'<;>simp only[zQ,ar6,asL]at h3<;>first|(cases h3;done)|skip
     obtain⟨⟨rfl,hz⟩,Ru⟩:=h3;rw[gw]at dr⊢;split at dr
     ·rename_i d_;rw[if_pos d_];rcases dr with⟨h0,id,ba,p,g1,g2,g3,g4⟩|⟨h0,id,m,ds,seen,rem,rest,g1,g2,g3,_,g5,g6⟩
      ·exact .inl ⟨h0,id,ba,p,kr hI hz g1,by rw[tD];exact g2,g3,g4⟩
      ·have Ky:as_ kt 1000000=false:=by
        cases hb:as_ kt 1000000 with
        |false=>rfl
        |true=>exact absurd (show kt<1000000 by simpa using hb) (Nat.not_lt.2 h0)
       have zp:=l2 _ (ash ho);simp only[Ky,aun]at zp;rw[Ky,aun]at Ru;unfold afn at zp;split at zp<;>first|(cases zp;done)|skip
       rename_i lB z2 afL;refine .inr ⟨h0,id,m,ds,seen,rem,rest,kr hI hz g1,by rw[tD];exact g2,g3,⟨lB,z2,afL⟩,?_,g6⟩;unfold kj;rw[if_pos (by unfold isLive;rw[afL])];unfold DG at Ru;split at Ru<;>first|(cases Ru;done)|skip
       rename_i e' j_;have:=asd Ru;rw[j_,←this];exact g5
     ·rename_i d_;rw[if_neg d_];obtain⟨id,es,clock,ds,g1,g2,g3,g4,g5⟩:=dr;exact⟨id,es,clock,ds,kr hI hz g1,by rw[tD];exact g2,g3,g4,g5⟩
  ·obtain⟨_,a,Lm,D1⟩:=JS h1;obtain⟨_,b,cK,fB⟩:=JS h2;have:=hJ.inj a b id D1 fB;subst this;exact afK c3 Lm cK
  ·obtain⟨fN,a,Lm,D1⟩:=JS hk;obtain⟨o,ho,_⟩:=OG fN;exact⟨cO ho,(hJ.lt a id D1).2⟩
end Go.Ev
