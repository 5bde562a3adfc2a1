/- Lemmas over the model, without conditions of their own: calls on expressions. -/
import Derived.Test.YtggffkaadeagbaaGreatEvM
import Derived.Test.YtggffkaadeagbaaGreatEvI
open List renaming getElem?_eq_some_iff->aqF,getElem?_eq_getElem->aqE,getElem?_map->aqU,mem_of_getElem?->aqS,getElem?_of_mem->asq,length_map->ar8,length_cons->ary,isEmpty_iff->arP,ext_getElem?->at7,getElem?_eq_none_iff->asI,length->ari,all_eq_true->aqW,append_nil->aqY,append_assoc->aq4,mapM_cons->asG,mapM_nil->auH,getElem?_append_left->aqQ,mem_cons_of_mem->arW,mem_flatMap->asL
open Nat renaming eq_of_beq_eq_true->aqO,le_refl->aqK,lt_of_lt_of_le->as4,lt_or_ge->auk,zero_le->arw,blt->arH,ble_eq->asj,beq_eq->ark,zero_add->ar4
open Option renaming bind_eq_some_iff->aqZ,map_eq_some_iff->aqL
open Go.Fence renaming wide->arb
open Array renaming getElem?_eq_none->asw,getElem?_eq_getElem->aq7,getElem?_eq_some_iff->arA
open Option.some renaming inj->atu,injEq->aqH
open List.cons renaming injEq->arF
open Prod.mk renaming injEq->aq6
open Bool renaming and_eq_true->aqG,false_eq_true->ara,false_or->asR
open Go.ResultVar renaming tmp->aww,cell->awx
set_option linter.all false
namespace Go.Ev
variable{P:Program}{N:Nat}{σ ah:St}{R R':Rs}{φ aG:Ph}{E:Nat→Env}{ν:List IV}
abbrev VB(ins:List (List IV)):List (LO IV):=ins.map fun cs=>.var (cs.map .v)
abbrev Na(ins:List (List IV))(R:Rs)(φ:Ph)(E:Nat→Env)(σ:St):Prop:=J (α:=IV) some R φ [] (VB ins) E σ
def DP(φ:Ph)(ins:List (List IV))(ps:List IV):Prop:=
 ps.length=ins.length∧∀i cs p,ins[i]?=some cs→ps[i]?=some p→∃id,φ i=some id∧p=.ptr id 0 0 cs.length
def BC(P:Program)(f:FuncId)(ins:List (List IV))(xs:List IV)(outs:List (List IV))(z:IV):Prop:=
 ∀R φ E σ ps args,Na ins R φ E σ→DP φ ins ps→All2 il args xs→∀KW:Nat→IV→St→Prop,
  (∀R' aG ah v,Na outs R' aG E ah→DP aG outs ps→il v z→∃b,∀N,b≤N→KW N v ah)→∃b,∀N,b≤N→dF P N f (ps++args) σ (KW N)
def wN{α:Type}(ev:α→Option IV)(ds:List (Cl α))(cs:List IV):Prop:=All2 (fun(c:Cl α) u=>∃e,c=.v e∧ev e=some u) ds cs
theorem adz{α:Type}{ev:α→Option IV}{Γ:Gm α}{L:List (LO α)}(h:J ev R φ Γ L E σ){k:Nat}{ds:List (Cl α)}{cs:List IV}(hk:L[k]?=some (.var ds))(hc:wN ev ds cs):
 ∃id cA,φ k=some id∧R id=none∧σ.at id=some (.cells cA 0 0)∧cA.length=cs.length∧∀(j:Nat) x u,cA[j]?=some x→cs[j]?=some u→il x u∧af u=true:=by
 obtain⟨id,cA,h1,h2,h3,h4⟩:=h.obj k _ hk;refine⟨id,cA,h1,h2,h3,by rw[h4.len,hc.len],fun j x u hx hu=>?_⟩;have hj:j<ds.length:=by rw[hc.len];exact(aqF.1 hu).1
 obtain⟨e,he,x_⟩:=hc.get (aqE hj) hu;have:=h4.get hx (aqE hj);rw[he]at this;obtain⟨y,y1,y2,y3⟩:=this;rw[x_]at y1;cases y1;exact⟨y2,y3⟩
theorem getElem?_inj{ks:List Nat}(oD:ks.Nodup){i i' k:Nat}(h1:ks[i]?=some k)(h2:ks[i']?=some k):i=i':=by
 exact(List.getElem?_inj (aqF.1 h1).1 oD).1 (h1.trans h2.symm)
theorem VC{α:Type}{ev gW:α→Option IV}{Γ:Gm α}{L L':List (LO α)}(yk:∀e z,ev e=some z→gW e=some z)(h:J ev R φ Γ L E σ){ks:List Nat}(oD:ks.Nodup)
 {ins outs:List (List IV)}{f:FuncId}{xs ps args:List IV}{z:IV}(d_:ks.length=ins.length)(w7:∀(i k:Nat) (cs:List IV),ks[i]?=some k→ins[i]?=some cs→∃ds:List (Cl α),L[k]?=some (LO.var ds)∧wN ev ds cs)
 (FP:DP (fun i=>(ks[i]?).bind φ) ins ps)(bc:All2 il args xs)(hr:BC P f ins xs outs z)(ho:outs.length=ins.length)(hlL:L'.length=L.length)
 (hLo:∀j,j∉ks→L'[j]?=L[j]?)(hLk:∀(i k:Nat) (cs:List IV),ks[i]?=some k→outs[i]?=some cs→∃ds:List (Cl α),L'[k]?=some (LO.var ds)∧wN gW ds cs)
 (KW:Nat→IV→St→Prop)(O4:∀R' ah v,J gW R' φ Γ L' E ah→il v z→∃b,∀N,b≤N→KW N v ah):
 ∃b,∀N,b≤N→dF P N f (ps++args) σ (KW N):=by
 let c9:Nat→Bool:=fun i=>ks.any fun k=>match φ k with
  |some id=>Nat.beq i id
  |none=>false
 have DO:∀i,c9 i=true↔∃k∈ks,φ k=some i:=fun i=>by
  simp only[c9,List.any_eq_true];constructor
  ·rintro⟨k,hk,hh⟩;refine⟨k,hk,?_⟩;split at hh
   ·rename_i id hid;rw[hid,aqO hh]
   ·cases hh
  ·rintro⟨k,hk,hh⟩;exact⟨k,hk,by rw[hh];simp⟩
 have aA:=J7 c9 h.top
 let φ0:Ph:=fun i=>(ks[i]?).bind φ
 have aaF:∀i id,φ0 i=some id→∃k,ks[i]?=some k∧φ k=some id:=fun i id hi=>by
  simp only[φ0]at hi;exact aqZ.1 hi
 have UE:∀(i:Nat) (cs:List IV),ins[i]?=some cs→∃(k id:Nat) (cA:List IV),ks[i]?=some k∧φ k=some id∧R id=none∧σ.at id=some (.cells cA 0 0)∧cA.length=cs.length∧∀(j:Nat) x u,cA[j]?=some x→cs[j]?=some u→il x u∧af u=true:=fun i cs hi=>by
  have cT:i<ks.length:=by rw[d_];exact(aqF.1 hi).1
  have hk:=aqE cT;obtain⟨ds,d1,d2⟩:=w7 i _ cs hk hi;obtain⟨id,cA,a⟩:=adz h d1 d2;exact⟨_,id,cA,hk,a⟩
 have j8:Na ins (fun _=>none) φ0 E (σ.only c9):=by
  refine⟨fun d t pv hg=>(by cases hg),fun j ob hj=>?_,fun j j' id h1 h2=>?_,fun j id hj=>?_,fun id m hm=>(by cases hm),fun id m cs au mn hm=>(by cases hm),T.Fj _ _,fun id hid=>?_⟩
  ·rw[aqU]at hj;obtain⟨cs,bC,rfl⟩:=aqL.1 hj;obtain⟨k,id,cA,k1,k2,k3,k4,k5,k6⟩:=UE j cs bC;refine⟨id,cA,by simp[φ0,k1,k2],rfl,?_,.mk (by simp[k5]) fun q x c hx hc=>?_⟩
   ·rw[aA,(DO id).2 ⟨k,aqS k1,k2⟩];simpa using k4
   ·rw[aqU]at hc;obtain⟨u,hu,rfl⟩:=aqL.1 hc;obtain⟨c1,c2⟩:=k6 q x u hx hu;exact⟨u,rfl,c1,c2⟩
  ·obtain⟨k,k1,k2⟩:=aaF j id h1;obtain⟨k',LB,k2'⟩:=aaF j' id h2;have:=h.inj k k' id k2 k2';subst this;exact getElem?_inj oD k1 LB
  ·obtain⟨k,k1,k2⟩:=aaF j id hj;refine⟨?_,(h.lt k id k2).2⟩;have:=(aqF.1 k1).1;simp;omega
  ·rw[aA];split
   ·exact h.top id hid
   ·rfl
 suffices VA:∀R1 du ai v,Na outs R1 du E ai→DP du outs ps→il v z→σ.n≤ai.n→(∀id,id<σ.n→c9 id=false→ai.at id=none)→∃b,∀N,b≤N→KW N v (σ.back ai c9) by
  obtain⟨b,hb⟩:=hr _ _ _ _ ps args j8 FP bc (fun N v ai=>σ.n≤ai.n→(∀id,id<σ.n→c9 id=false→ai.at id=none)→KW N v (σ.back ai c9)) fun R1 du ai v h1 h2 h3=>by
   by_cases hc:σ.n≤ai.n∧∀id,id<σ.n→c9 id=false→ai.at id=none
   ·obtain⟨b,hb⟩:=VA R1 du ai v h1 h2 h3 hc.1 hc.2;exact⟨b,fun N hN _ _=>hb N hN⟩
   ·exact⟨0,fun N _ h3 h4=>absurd ⟨h3,h4⟩ hc⟩
  refine⟨b,fun N hN ι us w hi lq=>((hb N hN).frame c9 h.top ι us w hi lq).mono fun ed w' hR=>?_⟩;obtain⟨v,ah,⟨ai,iU,rfl,hle,_,Bz⟩,aaE⟩:=hR;exact⟨v,σ.back ai c9,iU hle Bz,aaE⟩
 intro R1 du ai v bz hP1 hv hle Bz;have Is:=bz.top;have xH:=J8 (σ:=σ) (ai:=ai) c9 hle Is;have hold:∀id,id<σ.n→c9 id=false→(σ.back ai c9).at id=σ.at id:=fun id h1 h2=>by rw[xH,if_pos ⟨h1,h2⟩]
 have eR:∀id ob,ai.at id=some ob→¬(id<σ.n∧c9 id=false):=fun id ob ho hc=>by rw[Bz id hc.1 hc.2]at ho;cases ho
 have It:∀id ob,ai.at id=some ob→(σ.back ai c9).at id=some ob:=fun id ob ho=>by rw[xH,if_neg (eR id ob ho)];exact ho
 let R2:Rs:=fun i=>if i<σ.n∧c9 i=false then R i else R1 i
 have hRk:∀k id,k∈ks→φ k=some id→R id=none:=fun k id hk hid=>by
  obtain⟨i,hi⟩:=asq hk;have cT:i<ins.length:=by rw[←d_];exact(aqF.1 hi).1
  obtain⟨k',br,cA,k1,k2,k3,_⟩:=UE i _ (aqE cT);rw[hi]at k1;cases k1;rw[hid]at k2;cases k2;exact k3
 have xI:∀id m,R id=some m→id<σ.n∧c9 id=false:=fun id m hm=>by
  refine⟨h.p6 id m hm,?_⟩;cases hv:c9 id with
  |false=>rfl
  |true=>
   obtain⟨k,hk,hid⟩:=(DO id).1 hv;rw[hRk k id hk hid]at hm;cases hm
 have q9:∀j id,j∉ks→φ j=some id→id<σ.n∧c9 id=false:=fun j id hj hid=>by
  refine⟨(h.lt j id hid).2,?_⟩;cases hv:c9 id with
  |false=>rfl
  |true=>
   obtain⟨k,hk,iH⟩:=(DO id).1 hv;exact absurd (h.inj j k id hid iH▸hk) hj
 have vU:∀id m cs au mn,R2 id=some m→(σ.back ai c9).at id=some (.cells cs au mn)→m≤cs.length:=fun id m cs au mn hm ha=>by
  simp only[R2]at hm;rw[xH]at ha;split at hm
  ·rename_i hc;rw[if_pos hc]at ha;exact h.fits id m cs au mn hm ha
  ·rename_i hc;rw[if_neg hc]at ha;exact bz.fits id m cs au mn hm ha
 have pI:iv R σ R2 (σ.back ai c9):=by
  refine⟨fun id m hm=>⟨m,by simp only[R2];rw[if_pos (xI id m hm)];exact hm,aqK _⟩,fun id m cs au mn hm ha=>⟨cs,au,?_,aqK _,fun _ _=>rfl⟩,vU⟩;rw[hold id (xI id m hm).1 (xI id m hm).2];exact ha
 have ab4:∀k,k∈ks→∃(i:Nat) (cs:List IV) (ds:List (Cl α)),ks[i]?=some k∧outs[i]?=some cs∧L'[k]?=some (.var ds)∧wN gW ds cs:=fun k hk=>by
  obtain⟨i,hi⟩:=asq hk;have cT:i<outs.length:=by rw[ho,←d_];exact(aqF.1 hi).1
  obtain⟨ds,d1,d2⟩:=hLk i k _ hi (aqE cT);exact⟨i,_,ds,hi,aqE cT,d1,d2⟩
 have XM:∀k,k∈ks→∃ds:List (Cl α),L[k]?=some (.var ds):=fun k hk=>by
  obtain⟨i,hi⟩:=asq hk;have cT:i<ins.length:=by rw[←d_];exact(aqF.1 hi).1
  obtain⟨ds,d1,_⟩:=w7 i k _ hi (aqE cT);exact⟨ds,d1⟩
 have hs:jZ ev gW R φ L σ R2 φ L' (σ.back ai c9) (fun _=>False):=by
  refine⟨yk,pI,fun j cs hj=>?_,fun j kt eP hj=>?_,fun j s1 rS ry rT z1 hj _=>?_⟩
  ·by_cases bD:j∈ks
   ·obtain⟨_,_,ds,_,_,d1,_⟩:=ab4 j bD;exact⟨⟨ds,d1⟩,rfl⟩
   ·exact⟨⟨cs,by rw[hLo j bD];exact hj⟩,rfl⟩
  ·have bD:j∉ks:=fun hc=>by obtain⟨ds,hd⟩:=XM j hc;rw[hj]at hd;cases hd
   exact⟨⟨eP,by rw[hLo j bD];exact hj⟩,rfl⟩
  ·have bD:j∉ks:=fun hc=>by obtain⟨ds,hd⟩:=XM j hc;rw[hj]at hd;cases hd
   exact⟨⟨rS,rT,z1,by rw[hLo j bD];exact hj,fun e he=>⟨e,yk _ _ he,rfl⟩⟩,rfl,fun id cs au mn hid ha=>⟨cs,mn,by rw[hold id (q9 j id bD hid).1 (q9 j id bD hid).2];exact ha,rfl,fun h=>h⟩⟩
 refine O4 R2 (σ.back ai c9) v ⟨fun d t pv hg=>(h.slot d t pv hg).step hs (PV.aU _),fun j ob hj=>?_,h.inj,fun j id hj=>?_,fun id m hm=>?_,vU,T.Fj _ _,fun id hid=>?_⟩ hv
 ·by_cases bD:j∈ks
  ·obtain⟨i,cs,ds,i1,i2,i3,i4⟩:=ab4 j bD;rw[i3]at hj;cases hj;have cT:i<ps.length:=by rw[hP1.1];exact(aqF.1 i2).1
   obtain⟨id,p1,p2⟩:=hP1.2 i cs _ i2 (aqE cT);have Ln:i<ins.length:=by rw[←ho];exact(aqF.1 i2).1
   obtain⟨qv,q1,q2⟩:=FP.2 i _ _ (aqE Ln) (aqE cT);rw[p2]at q2;injection q2 with q2 _ _ _
   subst q2;have aaG:φ j=some id:=by simpa[i1]using q1
   have dt:(VB outs)[i]?=some (.var (cs.map .v)):=by rw[aqU,i2];rfl
   obtain⟨br,cA,o1,o2,o3,o4⟩:=bz.obj i _ dt;rw[p1]at o1;cases o1;refine⟨id,cA,aaG,?_,It id _ o3,.mk (by rw[o4.len,ar8,i4.len]) fun q x c hx hc=>?_⟩
   ·simp only[R2];rw[if_neg (eR id _ o3)];exact o2
   ·have hq:q<cs.length:=by rw[←i4.len];exact(aqF.1 hc).1
    have XN:(cs.map Cl.v)[q]?=some (.v cs[q]):=by rw[aqU,aqE hq];rfl
    obtain⟨y,y1,y2,y3⟩:=o4.get hx XN;cases y1;obtain⟨e,rfl,he⟩:=i4.get hc (aqE hq);exact⟨_,he,y2,y3⟩
  ·rw[hLo j bD]at hj;exact(h.obj j ob hj).step hs rfl (fun id hid=>⟨hold id (q9 j id bD hid).1 (q9 j id bD hid).2,by simp only[R2];rw[if_pos (q9 j id bD hid)]⟩) (LO.aU _)
 ·have:=h.lt j id hj;exact⟨by rw[hlL];exact this.1,as4 this.2 hle⟩
 ·simp only[R2]at hm;split at hm
  ·exact as4 (h.p6 id m hm) hle
  ·exact bz.p6 id m hm
 ·have iH:ai.n≤id:=hid;rw[xH,if_neg (by omega)];exact Is id iH
end Go.Ev
namespace Go.Ev
variable{P:Program}{N:Nat}{σ ah:St}{ι:Io}{w:World}{ro:Nat}
def afx(w:World)(s:Nat)(es:List IV)(u:Value)(w':World):Prop:=
 (w'.os=w.os∧w'.tape=w.tape∧w'.output=w.output∧w.heap.size≤w'.heap.size∧∀b,b<w.heap.size→w'.heap[b]?=w.heap[b]?)∧
 ((es=[]∧u=.slice none 0 0)∨
  es≠[]∧∃b c el cap,w.heap.size≤b∧u=.slice (some ⟨b,0,none⟩) es.length cap∧w'.heap[b]?=some (.cells c el (0,0))∧es.length≤cap∧cap*s≤c.size∧
   ∀(k:Nat) (x:IV),(flat es)[k]?=some x→∃v,x=.raw v∧c[k]?=some v)
def afy(w:World)(s:Nat)(es:List IV):Ending→World→Prop
 |.returned u,w'=>afx w s es u w'
 |_,_=>False
def jF(P:Program)(s:Nat)(f:FuncId)(xs:List IV)(es:List IV):Prop:=
 0<s∧(∀e∈es,(cellsOf e).length=s)∧(∀c∈flat es,(∃v,c=.raw v)∧af c=true)∧∀M w us,tK M w→ax (eo M) xs us→CallsIn arb 0 P f us.toArray w (afy w s es)
def DQ(n s:Nat)(es:List IV):IV:=if es.isEmpty then .raw (.slice none 0 0)else .sl n 0 es.length none 0 s
def vh(es:List IV):Ob:=.cells (flat es) 0 0
theorem rW{s:Nat}:∀{es:List IV},(∀e∈es,(cellsOf e).length=s)→(flat es).length=es.length*s
 |[],_=>by simp[flat]
 |e::es,h=>by
  have:=rW (es:=es) fun e he=>h e (by simp[he]);have he:=h e (by simp);unfold flat at this⊢;rw[List.flatMap_cons,List.length_append,this,he,ary,Nat.add_mul];omega
theorem Inv.ab5{w':World}{ob:Ob}{l:Loc}(h:Inv N ι σ w)(hN:σ.n<N)(aL:w.heap.size≤w'.heap.size)(hold:∀b,b<w.heap.size→w'.heap[b]?=w.heap[b]?)
 (uZ:w'.os=w.os)(wS:w'.tape=w.tape)(wT:w'.output=w.output)(hl:w.heap.size≤l.b)(eN:l.b<w'.heap.size)(dt:ki (dG ι σ.n 0 l) w' σ.n ob):
 Inv N (dG ι σ.n 0 l) (σ.add ob) w'∧Le ro ι w σ (dG ι σ.n 0 l) w' (σ.add ob):=by
 have jP:=h.fresh σ.n (aqK _) hN;refine⟨h.change (qv:=σ.n) (kj (jP 0)) (fun i hi e=>by simp[dG,hi]) ?_ ?_ aL (fun b hb _=>hold b hb) dt (fun j=>by simp) ⟨by simp,by simp⟩ ?_,?_⟩
 ·intro id b hb;rcases lI hb with hb|⟨h1,h2⟩
  ·exact .inl hb
  ·exact .inr ⟨h1,by omega⟩
 ·intro b hb;rcases lI hb with hb|⟨h1,h2⟩
  ·have:=h.iw _ _ hb;omega
  ·omega
 ·intro id hid aa e;simp only[St.kK]at hid;have:id≠σ.n:=by omega
  simp[dG,this,h.fresh id (by omega) aa e]
 ·refine⟨kj (jP 0),?_,?_,?_,?_,by simp,uZ,wS,wT,aL,fun b hb _=>hold b hb,fun _ _ h=>.inl h⟩
  ·intro id b hb;rcases lI hb with hb|⟨h1,h2⟩
   ·exact .inl hb
   ·exact .inr (by omega)
  ·intro id hn hr e;simp only[St.kK]at hr;have:id≠σ.n:=by omega
   simp[dG,this]
  ·intro id hn hr;simp only[St.kK]at hr;have:id≠σ.n:=by omega
   rw[St.gP,if_neg (fun hc=>this hc.symm),hn]
  ·intro id hr hn;rw[St.gP,if_neg (by omega)]
theorem Inv.adA{w':World}(h:Inv N ι σ w)(aL:w.heap.size≤w'.heap.size)(hold:∀b,b<w.heap.size→w'.heap[b]?=w.heap[b]?)
 (uZ:w'.os=w.os)(wS:w'.tape=w.tape)(wT:w'.output=w.output):∃aC,(∀v u,Rv ι v u→Rv aC v u)∧Inv N aC σ w'∧Le ro ι w σ aC w' σ:=by
 have hp:JC true ι.m w (.raw (.int .i64 0)) (.int .i64 0) w':=⟨fun _=>none,fun _ _ hb=>(by cases hb),fun _ _ hb=>(by cases hb),fun hc=>(by cases hc),.raw _,uZ,wS,wT,aL,hold⟩;obtain⟨aC,h1,h2,h3⟩:=EI (ro:=ro) h (fun hc=>by cases hc) hp;exact⟨aC,fun v u hv=>hv.mono h3.ext,h2,h3⟩
theorem jF.call{s:Nat}{f:FuncId}{args xs es:List IV}(h:jF P s f xs es)(hr:∀N ι us w,Inv N ι σ w→ax ι args us→∃M,tK M w∧ax (eo M) xs us):
 gy P ro f args σ (DQ σ.n s es) (if es.isEmpty then σ else σ.add (vh es)):=by
 obtain⟨hs,bC,_,h⟩:=h;refine⟨by split<;>simp,fun N hN ι us w hi lq=>?_⟩;obtain⟨M,hM,oh⟩:=hr N ι us w hi lq;refine(h M w us hM oh).mono fun e w' hR=>?_;cases e with
 |panicked ch=>exact hR.elim
 |outgrown=>exact hR.elim
 |returned u=>
  obtain⟨⟨h1,h2,h3,h4,h5⟩,hu⟩:=hR;by_cases he:es.isEmpty
  ·rw[if_pos he]at hN⊢;obtain⟨aC,g1,g2,g3⟩:=hi.adA (ro:=ro) h4 h5 h1 h2 h3;refine⟨aC,?_,g2,g3⟩;unfold DQ;rw[if_pos he];rcases hu with⟨_,rfl⟩|⟨a0,_⟩
   ·exact .raw _
   ·exact absurd (arP.1 he) a0
  ·rw[if_neg he]at hN⊢;unfold DQ;rw[if_neg he];rcases hu with⟨rfl,_⟩|⟨_,b,c,el,cap,a1,rfl,a3,a4,a5,a6⟩
   ·simp at he
   ·have hlen:=rW bC;have hle:es.length*s≤cap*s:=Nat.mul_le_mul_right s a4
    have e_:b<w'.heap.size:=by
     rcases auk b w'.heap.size with aa|sg
     ·exact aa
     ·rw[asw sg]at a3;cases a3
    have aW:=bX ι σ.n 0 ⟨b,es.length*s,c.size⟩;have jP:∀e,ι σ.n e=none:=hi.fresh σ.n (aqK _) (by simp only[St.kK]at hN;omega)
    obtain⟨g1,g2⟩:=hi.ab5 (ro:=ro) (w':=w') (ob:=vh es) (l:=⟨b,es.length*s,c.size⟩) (by simp only[St.kK]at hN;omega) h4 h5 h1 h2 h3 a1 e_ (by
     refine⟨⟨aqK _,fun e he=>?_⟩,⟨_,aW,hlen.symm⟩,fun e e1 e2=>?_⟩
     ·have:e≠0:=by omega
      simp[dG,this,jP]
     ·have:e=0:=by omega
      subst this;refine⟨_,c,el,aW,by rw[hlen];exact aqK _,a3,rfl,fun k x hk hx=>?_⟩;obtain⟨v,rfl,hv⟩:=a6 k x hx;exact⟨v,hv,.raw _⟩)
    exact⟨_,.sl σ.n 0 es.length none 0 s ⟨b,es.length*s,c.size⟩ cap ⟨b,0,none⟩ aW (by simp) (by simpa using a5) hs a4 (fun k hk=>by cases hk) (fun _=>rfl),g1,g2⟩
def GZ(s:Nat)(es:List IV)(v:IV)(ah:St):Prop:=
 (es=[]∧v=.raw (.slice none 0 0))∨es≠[]∧∃id cs au mn cap,ah.at id=some (.cells cs au mn)∧mn≤au∧v=.sl id 0 es.length cap au s∧es.length*s≤cs.length∧
  ∀(k:Nat) (x:IV),(flat es)[k]?=some x→∃u,x=.raw u∧cs[k]?=some (.raw u)
theorem jF.Cp{s:Nat}{f:FuncId}{xs es:List IV}{RW:IV→St→Prop}(hs:0<s)(bC:∀e∈es,(cellsOf e).length=s)(bo:∀c∈flat es,(∃v,c=.raw v)∧af c=true)(h:dF P N f xs ⟨0,.lf⟩ RW)(hc:∀v ah,RW v ah→GZ s es v ah):jF P s f xs es:=by
 refine⟨hs,bC,bo,fun M w us hM hr=>?_⟩;refine(h (eo M) us w (EH hM) hr).mono fun e w' hR=>?_;obtain⟨v,ah,qG,hR⟩:=hR;cases e with
 |panicked ch=>exact hR.elim
 |outgrown=>exact hR.elim
 |returned u=>
  obtain⟨aC,h1,h2,h3⟩:=hR;have sE:∀b,b<w.heap.size→w'.heap[b]?=w.heap[b]? :=fun b hb=>h3.frame b hb fun id ho=>(by obtain⟨_,_,h,_⟩:=ho;cases h);refine⟨⟨h3.os,h3.tape,h3.output,h3.size,sE⟩,?_⟩;rcases hc v ah qG with⟨rfl,rfl⟩|⟨aT,id,cs,au,mn,cap,a1,a2,rfl,a3,a4⟩
  ·cases h1;exact .inl ⟨rfl,rfl⟩
  ·obtain⟨_,_,o3⟩:=h2.obj id _ a1;obtain⟨l,c,el,b1,b2,b3,b4,b5⟩:=o3 au a2 (aqK _);cases h1 with
   |sl _ _ _ _ _ _ l' GY a hl hn gN bf hle fw ha=>
    rw[b1]at hl;cases hl;have sj:0<es.length:=List.length_pos_iff.2 aT
    have hb:w.heap.size≤l.b:=by
     rcases h3.own id l.b ⟨au,l,b1,rfl⟩with ho|ho
     ·obtain⟨_,_,h,_⟩:=ho;cases h
     ·exact ho
    rw[ha (by omega)];refine .inr ⟨aT,l.b,c,el,GY,hb,rfl,b3,hle,by rw[←b4];omega,fun k x hx=>?_⟩;obtain⟨u,rfl,hu⟩:=a4 k x hx
    have hk:k<l.n:=by
     have:=(aqF.1 hx).1;rw[rW bC]at this;omega
    obtain⟨y,hy,hr⟩:=b5 k _ hk hu;cases hr;exact⟨_,rfl,hy⟩
end Go.Ev
namespace Go.Ev
variable{P:Program}{N:Nat}{σ ah:St}{ι:Io}{w:World}{ro:Nat}
theorem SM(v:Value):Rv ι (lift v) v:=by
 unfold lift;split
 ·rename_i cs
  have:Rv ι (.agg (cs.toList.map .raw)) (.agg cs.toList.toArray):=.agg _ _ (by simp) fun i c u h1 h2=>by
   rw[aqU,h2]at h1;cases h1;exact .raw _
  simpa using this
 ·exact .raw _
theorem J_{v u:Value}(h:Rv ι (lift v) u):u=v:=by
 unfold lift at h;split at h
 ·rename_i cs;cases h with
  |agg _ vs hl hh=>
   have:vs=cs.toList:=by
    apply at7;intro i;cases hi:vs[i]? with
    |none=>
     rw[asI]at hi;rw[ar8]at hl;exact(asI.2 (by omega)).symm
    |some a=>
     have aa:=(aqF.1 hi).1;rw[ar8]at hl;have h2:cs.toList[i]?=some cs.toList[i]:=aqE (by omega);have:=hh i _ a (by rw[aqU,h2];rfl) hi;cases this;exact h2.symm
   rw[this]
 ·cases h;rfl
def yP(d:IV)(i:Nat):Value×IV×Nat:=
 match d with
 |.av [k,x]=>((iu k).getD Go.undef,x,i)
 |_=>(Go.undef,.undef,i)
def jN(ds:List IV):List (Value×IV×Nat):=ds.zipIdx.map fun p=>yP p.1 p.2
def rX(ds:List IV):Prop:=∀d∈ds,∃k v,d=.av [lift k,lift v]
theorem pT(v:Value):iu (lift v)=some v:=by
 have hr:∀vs:List Value,gg (vs.map .raw)=some vs:=by
  intro vs;induction vs with
  |nil=>rfl
  |cons v vs ih=>simp only[List.map_cons,gg,ih]
 unfold lift;split
 ·simp only[iu,oJ,hr]
 ·rfl
theorem pU{ds:List IV}{i:Nat}{e:Value×IV×Nat}(h:(jN ds)[i]?=some e):∃d,ds[i]?=some d∧e=yP d i:=by
 unfold jN at h;rw[aqU,List.getElem?_zipIdx]at h;cases hd:ds[i]? with
 |none=>rw[hd]at h;simp at h
 |some d=>rw[hd]at h;simp at h;exact⟨d,rfl,h.symm⟩
theorem pV(ds:List IV):(jN ds).length=ds.length:=by simp[jN]
def amW(w:World)(ds:List IV)(u:Value)(w':World):Prop:=
 (w'.os=w.os∧w'.tape=w.tape∧w'.output=w.output∧w.heap.size≤w'.heap.size∧∀b,b<w.heap.size→w'.heap[b]?=w.heap[b]?)∧
 ∃b res,w.heap.size≤b∧u=.map (some b)∧w'.heap[b]?=some (.map res ds.length)∧res.size=ds.length∧∀(i:Nat) d (r:MapEntry),ds[i]?=some d→res[i]?=some r→d=.av [lift r.key,lift r.val]∧r.born=i
def amX(w:World)(ds:List IV):Ending→World→Prop
 |.returned u,w'=>amW w ds u w'
 |_,_=>False
def lF(P:Program)(f:FuncId)(xs:List IV)(ds:List IV):Prop:=
 rX ds∧∀M w us,tK M w→ax (eo M) xs us→CallsIn arb 0 P f us.toArray w (amX w ds)
theorem lF.call{f:FuncId}{args xs ds:List IV}(h:lF P f xs ds)(hr:∀N ι us w,Inv N ι σ w→ax ι args us→∃M,tK M w∧ax (eo M) xs us):
 gy P ro f args σ (.map σ.n) (σ.add (.map (jN ds) ds.length)):=by
 obtain⟨dJ,h⟩:=h;refine⟨by simp,fun N hN ι us w hi lq=>?_⟩;obtain⟨M,hM,oh⟩:=hr N ι us w hi lq;refine(h M w us hM oh).mono fun e w' hR=>?_;cases e with
 |panicked ch=>exact hR.elim
 |outgrown=>exact hR.elim
 |returned u=>
  obtain⟨⟨h1,h2,h3,h4,h5⟩,b,res,a1,rfl,a3,a4,a5⟩:=hR
  have e_:b<w'.heap.size:=by
   rcases auk b w'.heap.size with aa|sg
   ·exact aa
   ·rw[asw sg]at a3;cases a3
  have aW:=bX ι σ.n 0 ⟨b,1,1⟩
  obtain⟨g1,g2⟩:=hi.ab5 (ro:=ro) (w':=w') (ob:=.map (jN ds) ds.length) (l:=⟨b,1,1⟩) (by simp only[St.kK]at hN;omega) h4 h5 h1 h2 h3 a1 e_ (by
   refine⟨_,res,aW,a3,by rw[pV,a4],fun i e r he hr=>?_⟩;obtain⟨d,hd,rfl⟩:=pU he;obtain⟨rfl,hb⟩:=a5 i d r hd hr;refine⟨by simp[yP,pT],?_,by simp[yP,hb]⟩;exact SM _)
  exact⟨_,.map σ.n ⟨b,1,1⟩ aW,g1,g2⟩
def VD(ds:List IV)(v:IV)(ah:St):Prop:=
 ∃id es,v=.map id∧ah.at id=some (.map es ds.length)∧es.length=ds.length∧∀(i:Nat) (e:Value×IV×Nat) d,es[i]?=some e→ds[i]?=some d→e.2.2=i∧∃vv,e.2.1=lift vv∧d=.av [lift e.1,lift vv]
theorem lF.Cp{f:FuncId}{xs ds:List IV}{RW:IV→St→Prop}(dJ:rX ds)(h:dF P N f xs ⟨0,.lf⟩ RW)(hc:∀v ah,RW v ah→VD ds v ah):lF P f xs ds:=by
 refine⟨dJ,fun M w us hM hr=>?_⟩;refine(h (eo M) us w (EH hM) hr).mono fun e w' hR=>?_;obtain⟨v,ah,qG,hR⟩:=hR;cases e with
 |panicked ch=>exact hR.elim
 |outgrown=>exact hR.elim
 |returned u=>
  obtain⟨aC,h1,h2,h3⟩:=hR;have sE:∀b,b<w.heap.size→w'.heap[b]?=w.heap[b]? :=fun b hb=>h3.frame b hb fun id ho=>(by obtain⟨_,_,h,_⟩:=ho;cases h);refine⟨⟨h3.os,h3.tape,h3.output,h3.size,sE⟩,?_⟩;obtain⟨id,es,rfl,a1,a2,a3⟩:=hc v ah qG;obtain⟨l,res,b1,b2,b3⟩:=h2.obj id _ a1;cases h1 with
  |map _ l' hl=>
   rw[b1]at hl;cases hl
   have hb:w.heap.size≤l.b:=by
    rcases h3.own id l.b ⟨0,l,b1,rfl⟩with ho|ho
    ·obtain⟨_,_,h,_⟩:=ho;cases h
    ·exact ho
   refine⟨l.b,res,hb,rfl,b2,by rw[←b3.1,a2],fun i d r hd hr=>?_⟩
   have hi:i<es.length:=by
    have:=(aqF.1 hd).1;omega
   have he:=aqE hi;obtain⟨c1,c2,c3⟩:=b3.2 i _ r he hr;obtain⟨d1,vv,d2,d3⟩:=a3 i _ d he hd;rw[d2]at c2;have:=J_ c2;refine⟨by rw[d3,c1,this],by rw[c3,d1]⟩
end Go.Ev
namespace Go.Ev
variable{P:Program}{N:Nat}{σ ah:St}{ι:Io}{w:World}{ro:Nat}
theorem O5{a b:Value}(h:lift a=lift b):a=b:=by
 have:=pT a;rw[h,pT]at this;exact(atu this).symm
def ai9(w:World)(ds:List IV)(u:Value):Prop:=
 ∃b res,u=.map (some b)∧w.heap[b]?=some (.map res ds.length)∧res.size=ds.length∧∀(i:Nat) d (r:MapEntry),ds[i]?=some d→res[i]?=some r→d=.av [lift r.key,lift r.val]∧r.born=i
def Ac(es:List (Value×IV×Nat))(ds:List IV):Prop:=
 es.length=ds.length∧∀(i:Nat) (e:Value×IV×Nat) d,es[i]?=some e→ds[i]?=some d→e.2.2=i∧∃vv,e.2.1=lift vv∧d=.av [lift e.1,lift vv]
def q6(P:Program)(f:FuncId)(ds xs:List IV)(z:IV):Prop:=
 rX ds∧(∃v,z=.raw v∧af z=true)∧∀M w u us,tK M w→ai9 w ds u→ax (eo M) xs us→CallsIn arb 0 P f (u::us).toArray w (aeR false true M w z)
theorem q6.call{f:FuncId}{args xs ds:List IV}{z:IV}{id:Nat}{es:List (Value×IV×Nat)}(h:q6 P f ds xs z)(aA:σ.at id=some (.map es ds.length))(gl:Ac es ds)(hc:Da true σ args xs):
 gy P ro f (.map id::args) σ z σ:=by
 refine⟨aqK _,fun N hN ι us w hi hr=>?_⟩;cases us with
 |nil=>have:=hr.1;simp at this
 |cons u us=>
  have hu:=hr.2 0 _ _ rfl rfl;have oh:ax ι args us:=⟨by have:=hr.1;simpa using this,fun i c v h1 h2=>hr.2 (i+1) c v (by simpa using h1) (by simpa using h2)⟩;cases hu with
  |map _ l hl=>
   obtain⟨l',res,b1,b2,b3⟩:=hi.obj id _ aA;rw[hl]at b1;cases b1;refine(h.2.2 (allM w) w (.map (some l.b)) us zO ⟨l.b,res,rfl,b2,by rw[←b3.1,gl.1],fun i d r hd hr=>?_⟩ (hc.rv hi oh)).mono fun e w' hR=>?_
   ·have aa:i<es.length:=by
     have:=(aqF.1 hd).1;rw[gl.1];exact this
    have he:=aqE aa;obtain⟨c1,c2,c3⟩:=b3.2 i _ r he hr;obtain⟨d1,vv,d2,d3⟩:=gl.2 i _ d he hd;rw[d2]at c2;have:=J_ c2;exact⟨by rw[d3,c1,this],by rw[c3,d1]⟩
   ·cases e with
    |returned u=>exact EI hi (fun hn=>by cases hn) hR.2
    |panicked ch=>exact absurd hR.1 (by simp)
    |outgrown=>exact hR.elim
theorem q6.Cp{f:FuncId}{xs ds:List IV}{z:IV}{RW:IV→St→Prop}(dJ:rX ds)(hz:∃v,z=.raw v∧af z=true)(h:dF P N f (.map 0::xs) ((⟨0,.lf⟩:St).add (.map (jN ds) ds.length)) RW)
 (hc:∀v ah,RW v ah→v=z∧∃es,ah.at 0=some (.map es ds.length)∧Ac es ds):q6 P f ds xs z:=by
 refine⟨dJ,hz,fun M w u us hM ZM hr=>?_⟩;obtain⟨b,res,rfl,m1,m2,m3⟩:=ZM;have aW:=bX (eo M) 0 0 ⟨b,1,1⟩;have jb:Ext (eo M) (dG (eo M) 0 0 ⟨b,1,1⟩):=kj rfl
 have kV:∀id b',Own (dG (eo M) 0 0 ⟨b,1,1⟩) id b'→id=0∧b'=b:=fun id b' ho=>by
  rcases lI ho with ho|ho
  ·obtain⟨_,_,h,_⟩:=ho;cases h
  ·exact ho
 have aa:b<w.heap.size:=by
  rcases auk b w.heap.size with aa|sg
  ·exact aa
  ·rw[asw sg]at m1;cases m1
 have hi:Inv N (dG (eo M) 0 0 ⟨b,1,1⟩) ((⟨0,.lf⟩:St).add (.map (jN ds) ds.length)) w:=by
  refine⟨hM,fun b' c id hb ho=>?_,fun id b' ho=>by rw[(kV id b' ho).2];exact aa,fun id hid _ e=>?_,fun i j b' h1 h2=>by rw[(kV i b' h1).1,(kV j b' h2).1],fun id o ho=>?_,fun id hid=>?_⟩
  ·rw[(kV id b' ho).2]at hb;obtain⟨e,f,hh⟩:=hM b c hb;rw[m1]at hh;cases hh
  ·have:id≠0:=by simp only[St.kK]at hid;omega
   simp[dG,this]
  ·rw[St.gP]at ho;split at ho
   ·rename_i h0;subst h0;cases ho;refine⟨_,res,aW,m1,by rw[pV,m2],fun i e r he hr=>?_⟩;obtain⟨d,hd,rfl⟩:=pU he;obtain⟨rfl,hb⟩:=m3 i d r hd hr;exact⟨by simp[yP,pT],SM _,by simp[yP,hb]⟩
   ·cases ho
  ·simp only[St.kK]at hid;rw[St.gP,if_neg (by show¬0=id;omega)];rfl
 have lq:ax (dG (eo M) 0 0 ⟨b,1,1⟩) (.map 0::xs) (.map (some b)::us):=by
  refine⟨by simp[hr.1],fun i=>?_⟩;cases i with
  |zero=>intro c v h1 h2;simp at h1 h2;subst h1 h2;exact .map 0 ⟨b,1,1⟩ aW
  |succ i=>intro c v h1 h2;simp at h1 h2;exact(hr.2 i c v h1 h2).mono jb
 refine(h _ _ w hi lq).mono fun e w' hR=>?_;obtain⟨v,ah,qG,hR⟩:=hR;cases e with
 |panicked ch=>exact hR.elim
 |outgrown=>exact hR.elim
 |returned u=>
  obtain⟨aC,h1,h2,h3⟩:=hR;obtain⟨rfl,es,a1,a2,a3⟩:=hc v ah qG;obtain⟨vz,rfl,_⟩:=hz;have hu:u=vz:=by cases h1;rfl
  subst hu;refine⟨rfl,fun _=>none,fun _ _ hb=>(by cases hb),fun _ _ hb=>(by cases hb),fun hc=>(by cases hc),.raw _,h3.os,h3.tape,h3.output,h3.size,fun b' pY=>?_⟩;by_cases Hv:b'=b
  ·subst Hv;obtain⟨l,afz,c1,c2,c3⟩:=h2.obj 0 _ a1;have:=h3.ext.1 0 0 _ aW;have j2:aC 0 0=some l:=c1;have ab6:aC 0 0=some ⟨b',1,1⟩:=this;rw[j2]at ab6;cases ab6;rw[c2,m1]
   congr 2
   have aL:afz.size=res.size:=by rw[←c3.1,a2,m2]
   apply Array.ext aL;intro i N3 WQ;have he:i<es.length:=by rw[c3.1];exact N3
   have hd:i<ds.length:=by rw[←a2];exact he
   obtain⟨d1,d2,d3⟩:=c3.2 i es[i] afz[i] (aqE he) (aq7 N3);obtain⟨e1,vv,e2,e3⟩:=a3 i es[i] ds[i] (aqE he) (aqE hd);obtain⟨f1,f2⟩:=m3 i ds[i] res[i] (aqE hd) (aq7 WQ);rw[e2]at d2;have hv:=J_ d2;rw[e3]at f1;simp only[IV.av.injEq,arF,and_true]at f1;have k1:=O5 f1.1;have k2:=O5 f1.2
   have:∀x y:MapEntry,x.key=y.key→x.val=y.val→x.born=y.born→x=y:=by
    intro x y;cases x;cases y;simp only;rintro rfl rfl rfl;rfl
   exact this _ _ (by rw[d1,k1]) (by rw[hv,k2]) (by rw[d3,e1,f2])
  ·exact h3.frame b' pY fun id ho=>absurd (kV id b' ho).2 Hv
end Go.Ev
namespace Go.Ev
variable{P:Program}{N:Nat}{σ ah:St}{R R':Rs}{φ aG:Ph}{E:Nat→Env}{ν:List IV}{ro:Nat}{ι:Io}{w:World}
variable{C:Cr}{Q:IV→Prop}{K:List (List IV→Prop)}{V:SS}{d:Nat}{o:Oper}{k:PV SE→SS→ab}{L:List (LO SE)}{Γ:Gm SE}
theorem adB{fr:Bool}{x z:IV}(hi:(fun(_:Nat)=>(none:Option Nat))=R)(HJ:σ=⟨0,.lf⟩)(h:aY fr R σ x z):∀{u:Value},Rv ι x u→Rv (eo ι.m) z u:=by
 induction h with
 |raw v=>intro u h;cases h;exact .raw v
 |nil s hs=>intro u h;cases h;exact .dN s none 0 hs (fun _=>rfl)
 |emp s hs=>intro u h;cases h;exact .dN s _ 0 hs (fun h=>by cases h)
 |da t x y _ ih=>intro u h;cases h with|da _ _ v hh=>exact .da t y v (ih hh)
 |agg cs ds hl _ ih=>
  intro u h;cases h with
  |agg _ vs cd hh=>
   refine .agg ds vs (hl▸cd) fun i d v h1 h2=>?_;have cT:i<cs.length:=by have:=(aqF.1 h1).1;omega
   exact ih i _ d (aqE cT) h1 (hh i _ v (aqE cT) h2)
 |av cs ds hl _ ih=>
  intro u h;cases h with
  |av _ vs cd hh=>
   refine .av ds vs (hl▸cd) fun i d v h1 h2=>?_;have cT:i<cs.length:=by have:=(aqF.1 h1).1;omega
   exact ih i _ d (aqE cT) h1 (hh i _ v (aqE cT) h2)
 |pure x hf hp=>intro u h;exact hp.rv h (fun _ _ h=>h)
 |sl id off len cap ep s m cs au mn es hR=>rw[←hi]at hR;cases hR
theorem eV.ai_{f:FuncId}{args xs:List IV}{z:IV}(h:eV P false false f xs z)(hc:All2 il args xs):gy P ro f args σ z σ:=by
 refine⟨aqK _,fun N hN ι us w hi hr=>?_⟩
 have oh:ax (eo ι.m) xs us:=⟨hc.len▸hr.1,fun i c v h1 h2=>by
  have cT:i<args.length:=by have:=(aqF.1 h1).1;rw[hc.len];exact this
  exact adB rfl rfl (hc.get (aqE cT) h1) (hr.2 i _ v (aqE cT) h2)⟩
 refine(h ι.m w us hi.mem oh).mono fun e w' hR=>?_;cases e with
 |returned u=>exact EI hi (fun _ _ _=>Iff.rfl) hR.2
 |panicked ch=>exact absurd hR.1 (by simp)
 |outgrown=>exact hR.elim
theorem jF.EJ{s:Nat}{f:FuncId}{args xs es:List IV}(h:jF P s f xs es)(hc:Da true σ args xs):gy P ro f args σ (DQ σ.n s es) (if es.isEmpty then σ else σ.add (vh es)):=
 h.call fun _ _ _ w hi hr=>⟨allM w,zO,hc.rv hi hr⟩
theorem lF.EJ{f:FuncId}{args xs ds:List IV}(h:lF P f xs ds)(hc:Da true σ args xs):gy P ro f args σ (.map σ.n) (σ.add (.map (jN ds) ds.length)):=
 h.call fun _ _ _ w hi hr=>⟨allM w,zO,hc.rv hi hr⟩
def Nb(n:Nat):IV→Bool
 |.av vs=>vs.length==n
 |_=>false
def aN(P:Program)(f:FuncId)(z:IV):Bool:=
 match P.funcs[f]? with
 |some fn=>fn.resultTypes.size==1||Nb fn.resultTypes.size z
 |none=>false
def iP(P:Program)(C:Cr):Prop:=∀f new xs z,C f new xs z→(f<P.funcs.size→eV P false new f xs z∧Pure z∧aN P f z=true)∧
 (∀g,g<P.funcs.size→f=P.funcs.size+g→∃s es nD aB,xs=.tree s es::nD∧z=.tree s aB∧BA P s g es nD aB)∧
 (∀g,g<P.funcs.size→f=2*P.funcs.size+g→∃ins nD outs z0,xs=.agg (ins.map IV.agg)::nD∧z=.av (z0::outs.map IV.agg)∧outs.map ari=ins.map ari∧(∀cs∈outs,∀u∈cs,af u=true)∧BC P g ins nD outs z0)∧
 (∀g,g<P.funcs.size→f=3*P.funcs.size+g→∃t:Nat,xs=[.int t]∧Dl P g t)∧
 (∀g,g<P.funcs.size→f=4*P.funcs.size+g→∃es,z=.tree (cF P g) es∧jF P (cF P g) g xs es)∧
 (∀g,g<P.funcs.size→f=5*P.funcs.size+g→∃ds,z=.av ds∧lF P g xs ds)∧
 ∀g,g<P.funcs.size→f=6*P.funcs.size+g→∃ds nD,xs=.av ds::nD∧q6 P g ds nD z
theorem LC{c:Cl SE}{fr:Bool}{z:SE}{V':SS}(hp:tU [c]=true)(hr:vK V c=some (fr,z,V')){x:IV}(hx:cz (aj P ν) R φ V.l σ x c):∃y,z.den P ν=some y∧il x y:=by
 cases c<;>simp only[tU]at hp<;>first|(cases hp;done)|skip
 ·simp only[vK,aqH,aq6]at hr;obtain⟨rfl,rfl,rfl⟩:=hr;obtain⟨y,h1,h2,_⟩:=hx;exact⟨y,h1,h2⟩
 ·rename_i b s;simp only[vK,aqH,aq6]at hr;obtain⟨rfl,rfl,rfl⟩:=hr;obtain⟨h1,rfl⟩:=hx;refine⟨.tree s [],by simp[SE.den,h1],?_⟩;cases b
  ·exact .emp s h1
  ·exact .nil s h1
theorem LD{c:Cl SE}{fr:Bool}{z:SE}{V':SS}(hp:tU [c]=true)(hr:vK V c=some (fr,z,V')):V'=V:=by
 cases c<;>simp only[tU]at hp<;>first|(cases hp;done)|skip
 all_goals
  simp only[vK,aqH,aq6]at hr;exact hr.2.2.symm
theorem XO{c:Cl SE}{cs:List (Cl SE)}(h:tU (c::cs)=true):tU [c]=true∧tU cs=true:=by
 cases c<;>simp only[tU]at h⊢<;>first|(cases h;done)|exact⟨trivial,h⟩
theorem Iu:∀{cs:List (Cl SE)} {fr:Bool} {zs:List SE} {V':SS},tU cs=true→sM V cs=some (fr,zs,V')→V'=V∧∀{xs:List IV},All2 (cz (aj P ν) R φ V.l σ) xs cs→∃ys,All2 (fun(z:SE) y=>z.den P ν=some y) zs ys∧All2 il xs ys
 |[],fr,zs,V',_,hr=>by
  simp only[sM,aqH,aq6]at hr;obtain⟨rfl,rfl,rfl⟩:=hr;refine⟨rfl,fun{xs} hx=>?_⟩;cases xs with
  |nil=>exact⟨[],trivial,trivial⟩
  |cons=>exact hx.elim
 |c::cs,fr,zs,V',hp,hr=>by
  obtain⟨h1,h2⟩:=XO hp;simp only[sM]at hr;split at hr
  ·rename_i f1 z V1 qa;have e0:=LD h1 qa;rw[e0]at hr;split at hr
   ·rename_i f2 zs' V2 O6;simp only[aqH,aq6]at hr;obtain⟨rfl,rfl,rfl⟩:=hr;obtain⟨rfl,h3⟩:=Iu h2 O6;refine⟨rfl,fun{xs} hx=>?_⟩;cases xs with
    |nil=>exact hx.elim
    |cons x xs=>
     obtain⟨y,a1,a2⟩:=LC h1 qa hx.1;obtain⟨ys,b1,b2⟩:=h3 hx.2;exact⟨y::ys,⟨a1,b1⟩,⟨a2,b2⟩⟩
   ·cases hr
  ·cases hr
theorem Ka{V':SS}{pv:PV SE}{fr:Bool}{z:SE}(h:J (aj P ν) R φ V.g V.l E σ)(hr:sN V pv=some (fr,z,V'))(ht:∀vs,pv≠.tu vs):
 ∃R',iY P ν R φ V σ R' V'∧J (aj P ν) R' φ V'.g V'.l E σ∧∀x,VR (aj P ν) R φ V.l σ x pv→∃y,z.den P ν=some y∧aY fr R' σ x y:=by
 cases pv with
 |one c=>
  obtain⟨R',h1,h2,h3⟩:=Dy h hr;exact⟨R',h1,h2,fun x hx=>by obtain⟨y,a,b,_⟩:=h3 x hx;exact⟨y,a,b⟩⟩
 |ag cs=>
  simp only[sN]at hr;split at hr
  ·rename_i f zs V1 qa;simp only[aqH,aq6]at hr;obtain⟨rfl,rfl,rfl⟩:=hr;obtain⟨R',h1,h2,_,h3⟩:=ua h qa;refine⟨R',h1,h2,fun x hx=>?_⟩;obtain⟨xs,rfl,vH⟩:=hx;obtain⟨ys,a,b,_⟩:=h3 xs vH;exact⟨.agg ys,ew a,.agg xs ys b.len fun i c e h1 h2=>b.get h1 h2⟩
  ·cases hr
 |tu vs=>exact absurd rfl (ht vs)
theorem VE{V':SS}{pv:PV SE}{fr:Bool}{z:SE}(hp:nV pv=true)(hr:sN V pv=some (fr,z,V')):V'=V∧∀{x:IV},VR (aj P ν) R φ V.l σ x pv→∃y,z.den P ν=some y∧il x y:=by
 cases pv with
 |one c=>exact⟨LD hp hr,fun{x} hx=>LC hp hr hx⟩
 |ag cs=>
  simp only[sN]at hr;split at hr
  ·rename_i f zs V1 qa;simp only[aqH,aq6]at hr;obtain⟨rfl,rfl,rfl⟩:=hr;obtain⟨h1,h2⟩:=Iu (P:=P) (ν:=ν) (R:=R) (φ:=φ) (σ:=σ) hp qa;refine⟨h1,fun{x} hx=>?_⟩;obtain⟨xs,rfl,vH⟩:=hx;obtain⟨ys,a,b⟩:=h2 vH;exact⟨.agg ys,ew a,.agg xs ys b.len fun i c e h1 h2=>b.get h1 h2⟩
  ·cases hr
 |tu vs=>cases hp
theorem Ad:∀{c8:List (PV SE)} {V V':SS} {R:Rs} {zs:List SE},J (aj P ν) R φ V.g V.l E σ→sQ V c8=some (zs,V')→AP c8=true→
 ∃R',iY P ν R φ V σ R' V'∧J (aj P ν) R' φ V'.g V'.l E σ∧∀xs,All2 (VR (aj P ν) R φ V.l σ) xs c8→∃ys,All2 (fun(z:SE) y=>z.den P ν=some y) zs ys∧All2 (aY true R' σ) xs ys
 |[],V,V',R,zs,h,hr,_=>by
  simp only[sQ,aqH,aq6]at hr;obtain⟨rfl,rfl⟩:=hr;refine⟨R,.refl h,h,fun xs hx=>?_⟩;cases xs with
  |nil=>exact⟨[],trivial,trivial⟩
  |cons=>exact hx.elim
 |pv::c8,V,V',R,zs,h,hr,ht=>by
  have ht':(∀vs,pv≠.tu vs)∧AP c8=true:=by
   cases pv<;>simp_all[AP]
  simp only[sQ]at hr;split at hr
  ·rename_i f z V1 qa;split at hr
   ·rename_i zs' V2 O6;simp only[aqH,aq6]at hr;obtain⟨rfl,rfl⟩:=hr;obtain⟨R1,a1,a2,a3⟩:=Ka h qa ht'.1;obtain⟨R2,b1,b2,b3⟩:=Ad a2 O6 ht'.2;refine⟨R2,a1.trans b1,b2,fun xs hx=>?_⟩;cases xs with
    |nil=>exact hx.elim
    |cons x xs=>
     obtain⟨y,c1,c2⟩:=a3 x hx.1;obtain⟨ys,d1,d2⟩:=b3 xs (hx.2.mono fun _ _ bT=>a1.vr bT);exact⟨y::ys,⟨c1,d1⟩,⟨(c2.mono b1.2.2.2.grow).cC,d2⟩⟩
   ·cases hr
  ·cases hr
theorem wv:∀{c8:List (PV SE)} {V':SS} {zs:List SE},sQ V c8=some (zs,V')→c8.all nV=true→
 V'=V∧∀{xs:List IV},All2 (VR (aj P ν) R φ V.l σ) xs c8→∃ys,All2 (fun(z:SE) y=>z.den P ν=some y) zs ys∧All2 il xs ys
 |[],V',zs,hr,_=>by
  simp only[sQ,aqH,aq6]at hr;obtain⟨rfl,rfl⟩:=hr;refine⟨rfl,fun{xs} hx=>?_⟩;cases xs with
  |nil=>exact⟨[],trivial,trivial⟩
  |cons=>exact hx.elim
 |pv::c8,V',zs,hr,hp=>by
  simp only[List.all_cons,aqG]at hp;simp only[sQ]at hr;split at hr
  ·rename_i f z V1 qa;obtain⟨e1,a1⟩:=VE (P:=P) (ν:=ν) (R:=R) (φ:=φ) (σ:=σ) hp.1 qa;rw[e1]at hr;split at hr
   ·rename_i zs' V2 O6;simp only[aqH,aq6]at hr;obtain⟨rfl,rfl⟩:=hr;obtain⟨e2,b1⟩:=wv O6 hp.2;refine⟨e2,fun{xs} hx=>?_⟩;cases xs with
    |nil=>exact hx.elim
    |cons x xs=>
     obtain⟨y,c1,c2⟩:=a1 hx.1;obtain⟨ys,d1,d2⟩:=b1 hx.2;exact⟨y::ys,⟨c1,d1⟩,⟨c2,d2⟩⟩
   ·cases hr
  ·cases hr
theorem DT{t:TypeId}{e:SE}{z:IV}{f:ab}(hz:e.den P ν=some z)(hp:Pure z)(hs:(qR P t e f).sat P C Q K ν):f.sat P C Q K ν∧VR (aj P ν) R φ L σ z (ofType P t e)∧sJ (aj P ν) R φ L σ z (isAgg P t,er (ofType P t e)):=by
 unfold qR at hs;unfold ofType;by_cases ha:isAgg P t=true
 ·rw[if_pos ha]at hs;obtain⟨⟨y,hy⟩,hk⟩:=hs;simp only[SE.den,hz,Option.bind_some]at hy;split at hy
  ·rename_i cs;split at hy
   ·rename_i hc
    have bp:All2 (cz (aj P ν) R φ L σ) cs ((List.range ((aH P t).getD 0)).map fun j=>Cl.v (SE.bN e j)):=by
     refine .mk (by simp[hc.1]) fun i a b h1 h2=>?_;have hi:=(aqF.1 h1).1;rw[aqU,List.getElem?_range (by omega)]at h2;simp only[Option.map_some,aqH]at h2;subst h2;have bo:Ev.af a=true:=(aqW.1 hc.2) a (aqS h1);have Ic:Pure a:=by cases hp with|agg _ hh=>exact hh a (aqS h1)
     exact⟨a,by simp[aj,SE.den,hz,h1,xx,bo],.pure a rfl Ic,bo⟩
    simp only[ha,if_true];exact⟨hk,⟨cs,rfl,bp⟩,by simp only[sJ,if_true,er];exact⟨cs,rfl,bp⟩⟩
   ·cases hy
  ·cases hy
 ·rw[if_neg ha]at hs;obtain⟨⟨y,hy⟩,hk⟩:=hs;obtain⟨h1,h2⟩:=oY hy;rw[hz]at h1;cases h1;have hv:cz (aj P ν) R φ L σ z (.v (.ok e)):=⟨z,hy,.pure z rfl hp,h2⟩;rw[if_neg ha];refine⟨hk,hv,?_⟩;simp only[sJ,er];rw[if_neg (by simpa using ha)];exact⟨_,rfl,hv⟩
theorem Iv{e:SE}{vs:List IV}{f:ab}(hz:e.den P ν=some (.av vs))(hp:∀v∈vs,Pure v):∀{ts:List TypeId} {j:Nat},(Ol P e j ts f).sat P C Q K ν→j+ts.length=vs.length→f.sat P C Q K ν∧All2 (sJ (aj P ν) R φ L σ) (vs.drop j) (JK P e j ts)
 |[],j,hs,hl=>by
  simp at hl;rw[List.drop_of_length_le (by omega)];exact⟨hs,trivial⟩
 |t::ts,j,hs,hl=>by
  simp at hl;have hj:j<vs.length:=by omega
  have hd:(SE.proj e j).den P ν=some vs[j]:=by simp[SE.den,hz,hj]
  obtain⟨h1,_,h3⟩:=DT (R:=R) (φ:=φ) (L:=L) (σ:=σ) hd (hp _ (List.getElem_mem hj)) hs;obtain⟨h4,h5⟩:=Iv hz hp h1 (by omega);refine⟨h4,?_⟩;rw[List.drop_eq_getElem_cons hj];exact⟨h3,h5⟩
theorem aaH{fn:Func}{e:SE}{z:IV}(hz:e.den P ν=some z)(hp:Pure z)(ht:fn.resultTypes.size≠1→Nb fn.resultTypes.size z=true)(hs:(M1 P fn V e k).sat P C Q K ν):∃pv,(k pv V).sat P C Q K ν∧VR (aj P ν) R φ L σ z pv:=by
 unfold M1 at hs;split at hs
 ·rename_i t _;obtain⟨h1,h2,_⟩:=DT (R:=R) (φ:=φ) (L:=L) (σ:=σ) hz hp hs;exact⟨_,h1,h2⟩
 ·rename_i hn
  have aL:fn.resultTypes.size≠1:=by
   intro h;have:fn.resultTypes.toList.length=1:=by simpa using h
   obtain⟨t,ht⟩:=List.length_eq_one_iff.1 this;exact hn t ht
  have:=ht aL;unfold Nb at this;split at this
  ·rename_i vs;have hl:vs.length=fn.resultTypes.size:=by simpa using this
   obtain⟨h1,h2⟩:=Iv (R:=R) (φ:=φ) (L:=L) (σ:=σ) (j:=0) hz (fun v hv=>by cases hp with|av _ hh=>exact hh v hv) hs (by simp[hl]);exact⟨_,h1,vs,rfl,by simpa using h2⟩
  ·cases this
end Go.Ev
namespace Go.Ev
variable{P:Program}{N:Nat}{σ ah:St}{R R':Rs}{φ aG:Ph}{E:Nat→Env}{ν:List IV}{ro:Nat}{ι:Io}{w:World}{cfg:bj}{self:mZ}
variable{C:Cr}{Q:IV→Prop}{K:List (List IV→Prop)}{V:SS}{d f0:Nat}{o:Oper}{k:PV SE→SS→ab}{L:List (LO SE)}{Γ:Gm SE}
theorem afA{ys:List IV}{bs:List (Nat×Nat)}(h:All2 (fun y (p:Nat×Nat)=>∃id cs,φ p.1=some id∧L[p.1]?=some (.var cs)∧y=.ptr id 0 0 p.2) ys bs):All2 (VR (aj P ν) R φ L σ) ys (bs.map fun(p:Nat×Nat)=>.one (.pt p.1 0 p.2)):=
 h.map (f:=fun(p:Nat×Nat)=>PV.one (Cl.pt p.1 0 p.2)) fun _ _ h=>h
theorem jT{x:IV}{g:FuncId}{bs:List (Nat×Nat)}{args:List IV}{fn:Func}(hx:VR (aj P ν) R φ L σ x (.one (.fn g bs)))(bO:P.funcs[g]?=some fn)(hb:fn.body.isSome=true)(kR:(fn.name != "runtime.NumGoroutine")=true):
 ∃ys,gj P x args=some (.enter g (args++ys))∧All2 (VR (aj P ν) R φ L σ) ys (bs.map fun(p:Nat×Nat)=>.one (.pt p.1 0 p.2)):=by
 rcases hx with⟨rfl,rfl⟩|⟨ys,rfl,h⟩
 ·refine⟨[],?_,trivial⟩;simp only[gj,bO,hb,kR,Array.size_empty,aqY];simp
 ·refine⟨ys,?_,afA h⟩;simp only[gj,bO,hb,kR,List.nil_append,Bool.and_self,if_true]
theorem Fk{xs ys:List IV}(h:All2 (aY true R σ) xs ys):Da true σ xs ys:=⟨h.len,fun _ _ _ h1 h2=>(h.get h1 h2).can⟩
def amY(P:Program)(C:Cr)(Q:IV→Prop)(K:List (List IV→Prop))(ν:List IV)(E:Nat→Env)(lv:Nat×Nat)(k:PV SE→SS→ab)(φ:Ph)(σ:St)(res:FuncId→List IV→Prop):Prop:=
 ∃g args z R1 pv V1 μ,res g args∧(∀ro,gy P ro g args σ z σ)∧J (aj P (ν++μ)) R1 φ V1.g V1.l E σ∧VR (aj P (ν++μ)) R1 φ V1.l σ z pv∧(ν++μ).length=V1.n∧V1.ln=lv∧(k pv V1).sat P C Q K (ν++μ)
theorem O7(hC:iP P C)(hJ:J (aj P ν) R φ V.g V.l E σ)(hn:ν.length=V.n){c:Call}{f:Operand}{g:FuncId}(ho:o.op=.call c)(hc:c.callee=.value f)(hf:bI P d V 0 f=.one (.fn g [])){zs:List SE}{V':SS}{fn:Func}
 (hr:sQ V (gX P d V c.args.toList c.argTypes.toList)=some (zs,V'))(bO:P.funcs[g]?=some fn)(hb:fn.body.isSome=true)(kR:(fn.name != "runtime.NumGoroutine")=true)(ht:AP (gX P d V c.args.toList c.argTypes.toList)=true)
 (hs:(ab.call g (!(gX P d V c.args.toList c.argTypes.toList).all nV) (dO zs) (M1 P fn {V' with n:=V'.n+1} (.var V'.n) k)).sat P C Q K ν):
 amY P C Q K ν E V.ln k φ σ (fun g args=>ak P 0 (aq (E d)) o σ=some (.enter g args)):=by
 obtain⟨xs,z,h1,h2,h3⟩:=hs;obtain⟨jc,hpz,htu⟩:=(hC _ _ _ _ h2).1 (arA.1 bO).1;have bc:=fG hJ d c.args.toList c.argTypes.toList;have nM:=aZ hJ d 0 f;rw[hf]at nM;obtain⟨ys,ij,qb⟩:=jT (args:=c.args.toList.map (aq (E d))) nM bO hb kR
 have xJ:ys=[]:=by
  cases ys with
  |nil=>rfl
  |cons=>exact qb.elim
 subst xJ;rw[aqY]at ij
 have ef:ak P 0 (aq (E d)) o σ=some (.enter g (c.args.toList.map (aq (E d)))):=by
  simp only[ak,ho,hc];exact ij
 have amZ:fn.resultTypes.size≠1→Nb fn.resultTypes.size z=true:=by
  intro aT;unfold aN at htu;rw[bO]at htu;simp only[Bool.or_eq_true,beq_iff_eq]at htu;exact htu.resolve_left aT
 have o9:∀{us:List IV},All2 (fun(z:SE) y=>z.den P ν=some y) zs us→xs=us:=by
  intro us hu;unfold ir at h1;rw[ew hu]at h1;cases h1;rfl
 obtain⟨R1,cg,bz,jq⟩:=Ad hJ hr ht;obtain⟨us,b1,b2⟩:=jq _ bc;have iC:=o9 b1;subst iC
 have afB:∀ro,gy P ro g (c.args.toList.map (aq (E d))) σ z σ:=by
  intro ro;by_cases bp:(gX P d V c.args.toList c.argTypes.toList).all nV=true
  ·rw[bp]at jc;obtain⟨_,nC⟩:=wv (P:=P) (ν:=ν) (R:=R) (φ:=φ) (σ:=σ) hr bp;obtain⟨oM,c1,c2⟩:=nC bc;have:=o9 c1;subst this;exact eV.ai_ jc c2
  ·have hf:(gX P d V c.args.toList c.argTypes.toList).all nV=false:=by simpa using bp
   rw[hf]at jc;exact eV.EJ jc (Fk b2)
 have dD:ν.length=V'.n:=by rw[hn,cg.2.1]
 have eQ:=bz.up (gW:=aj P (ν++[z])) (fun e y h=>SE.cR P e h);have hZ:(SE.var V'.n).den P (ν++[z])=some z:=by simp[SE.den,←dD]
 obtain⟨pv,hk,hv⟩:=aaH (R:=R1) (φ:=φ) (L:=V'.l) (σ:=σ) hZ hpz amZ h3;exact⟨g,_,z,R1,pv,{V' with n:=V'.n+1},[z],ef,afB,eQ,hv,by simp[dD],cg.2.2.1,hk⟩
theorem LF(hC:iP P C)(hJ:J (aj P ν) R φ V.g V.l E σ)(hn:ν.length=V.n){c:Call}{f:Operand}{g:FuncId}(ho:o.op=.call c)(hc:c.callee=.value f)(hf:bI P d V 0 f=.one (.fn g []))
 (hs:(Oy P g (gX P d V c.args.toList c.argTypes.toList) V k).sat P C Q K ν):
 ∃args v ai R1 du pv V1 μ,ak P 0 (aq (E d)) o σ=some (.enter g args)∧(∀ro,gy P ro g args σ v ai)∧(ai=σ∨∃ob,ai=σ.add ob)∧J (aj P (ν++μ)) R1 du V1.g V1.l E ai∧VR (aj P (ν++μ)) R1 du V1.l ai v pv∧(ν++μ).length=V1.n∧V1.ln=V.ln∧(k pv V1).sat P C Q K (ν++μ):=by
 unfold Oy at hs;split at hs<;>first|(exact hs.elim)|skip
 rename_i zs V' fn hr bO;split at hs<;>first|(exact hs.elim)|skip
 rename_i bK;simp only[aqG]at bK;obtain⟨ht,hb,kR⟩:=bK;obtain⟨xs,z,h1,h2,h3⟩:=hs;obtain⟨es,rfl,Hy⟩:=(hC _ _ _ _ h2).2.2.2.2.1 g (arA.1 bO).1 rfl;have bc:=fG hJ d c.args.toList c.argTypes.toList;have nM:=aZ hJ d 0 f;rw[hf]at nM;obtain⟨ys,ij,qb⟩:=jT (args:=c.args.toList.map (aq (E d))) nM bO hb kR
 have xJ:ys=[]:=by
  cases ys with
  |nil=>rfl
  |cons=>exact qb.elim
 subst xJ;rw[aqY]at ij
 have ef:ak P 0 (aq (E d)) o σ=some (.enter g (c.args.toList.map (aq (E d)))):=by
  simp only[ak,ho,hc];exact ij
 obtain⟨R1,cg,j8,jq⟩:=Ad hJ hr ht;obtain⟨us,c1,c2⟩:=jq _ bc
 have iC:xs=us:=by
  unfold ir at h1;rw[ew c1]at h1;cases h1;rfl
 subst iC;have dD:ν.length=V'.n:=by rw[hn,cg.2.1]
 have bz:=j8.up (gW:=aj P (ν++[IV.tree (cF P g) es])) (fun e y h=>SE.cR P e h);have hZ:(SE.var V'.n).den P (ν++[IV.tree (cF P g) es])=some (.tree (cF P g) es):=by simp[SE.den,←dD]
 have jo:(V'.l++[LO.row (cF P g) false false false (SE.var V'.n)])[V'.l.length]?=some (.row (cF P g) false false false (.var V'.n)):=by simp
 have p_:∀ro,gy P ro g (c.args.toList.map (aq (E d))) σ _ _:=fun ro=>Hy.EJ (ro:=ro) (σ:=σ) (Fk c2);obtain⟨bA,bC,bo,_⟩:=Hy;by_cases he:es.isEmpty
 ·have gO:=arP.1 he;subst gO;refine⟨_,_,_,R1,φ,.one (.sr V'.l.length),{V' with n:=V'.n+1,l:=V'.l++[.row (cF P g) false false false (.var V'.n)]},[.tree (cF P g) []],ef,p_,.inl rfl,?_,?_,by simp[dD],cg.2.2.1,h3⟩
  ·exact(bz.Aa (fr:=false) bA hZ).2
  ·exact⟨cF P g,false,false,false,_,[],jo,hZ,.inl ⟨wL j8 (aqK _),rfl,.inl rfl⟩⟩
 ·have hif:(if es.isEmpty then σ else σ.add (vh es))=σ.add (vh es):=if_neg he;have nM:DQ σ.n (cF P g) es=.sl σ.n 0 es.length none 0 (cF P g):=if_neg he;have hlen:=rW bC;refine⟨_,_,_,R1,bQ φ V'.l.length σ.n,.one (.sr V'.l.length),{V' with n:=V'.n+1,l:=V'.l++[.row (cF P g) false false false (.var V'.n)]},[.tree (cF P g) es],ef,p_,.inr ⟨_,hif⟩,?_,?_,by simp[dD],cg.2.2.1,h3⟩
  ·rw[hif];refine bz.xm (vh es) _ ⟨bA,es,hZ,bC,.inr ⟨σ.n,flat es,0,0,by simp[bQ],by simp[vh],aqK _,by rw[hlen];exact aqK _,?_,aqW.2 fun c hc=>(bo c hc).2,fun j x d hx hd=>?_⟩⟩
   ·cases hR:R1 σ.n with
    |none=>rfl
    |some m=>exact absurd (j8.p6 _ _ hR) (Nat.lt_irrefl _)
   ·rw[hx]at hd;cases hd;obtain⟨v,rfl⟩:=(bo x (aqS hx)).1;exact .raw _
  ·rw[hif,nM];exact⟨cF P g,false,false,false,_,es,jo,hZ,.inr ⟨σ.n,flat es,0,0,none,by simp[bQ],by simp[vh],by simp,arw _,fun _ _=>hlen.symm,fun c hc=>by cases hc⟩⟩
theorem LG(hC:iP P C)(hJ:J (aj P ν) R φ V.g V.l E σ)(hn:ν.length=V.n){c:Call}{f:Operand}{g:FuncId}{kt:TypeId}(Cx:aab P g=some kt)(ho:o.op=.call c)(hc:c.callee=.value f)(hf:bI P d V 0 f=.one (.fn g []))
 (hs:(JR P g kt (gX P d V c.args.toList c.argTypes.toList) V k).sat P C Q K ν):
 ∃args v ai R1 du pv V1 μ,ak P 0 (aq (E d)) o σ=some (.enter g args)∧(∀ro,gy P ro g args σ v ai)∧(ai=σ∨∃ob,ai=σ.add ob)∧J (aj P (ν++μ)) R1 du V1.g V1.l E ai∧VR (aj P (ν++μ)) R1 du V1.l ai v pv∧(ν++μ).length=V1.n∧V1.ln=V.ln∧(k pv V1).sat P C Q K (ν++μ):=by
 unfold JR at hs;split at hs<;>first|(exact hs.elim)|skip
 rename_i zs V' fn hr bO;split at hs<;>first|(exact hs.elim)|skip
 rename_i bK;simp only[aqG]at bK;obtain⟨ht,hb,kR⟩:=bK;obtain⟨xs,z,h1,h2,h3⟩:=hs;obtain⟨ds,rfl,Hy⟩:=(hC _ _ _ _ h2).2.2.2.2.2.1 g (arA.1 bO).1 rfl;have bc:=fG hJ d c.args.toList c.argTypes.toList;have nM:=aZ hJ d 0 f;rw[hf]at nM;obtain⟨ys,ij,qb⟩:=jT (args:=c.args.toList.map (aq (E d))) nM bO hb kR
 have xJ:ys=[]:=by
  cases ys with
  |nil=>rfl
  |cons=>exact qb.elim
 subst xJ;rw[aqY]at ij
 have ef:ak P 0 (aq (E d)) o σ=some (.enter g (c.args.toList.map (aq (E d)))):=by
  simp only[ak,ho,hc];exact ij
 obtain⟨R1,cg,j8,jq⟩:=Ad hJ hr ht;obtain⟨us,c1,c2⟩:=jq _ bc
 have iC:xs=us:=by
  unfold ir at h1;rw[ew c1]at h1;cases h1;rfl
 subst iC;have dD:ν.length=V'.n:=by rw[hn,cg.2.1]
 have dV:¬gp kt=true:=by
  unfold aab at Cx;rw[bO]at Cx;simp only at Cx;split at Cx<;>first|(cases Cx;done)|skip
  split at Cx<;>first|(cases Cx;done)|skip
  split at Cx<;>first|(cases Cx;done)|skip
  rename_i aT;cases Cx;exact aT
 have bz:=j8.up (gW:=aj P (ν++[IV.av ds])) (fun e y h=>SE.cR P e h);have hZ:(SE.var V'.n).den P (ν++[IV.av ds])=some (.av ds):=by simp[SE.den,←dD]
 have p_:∀ro,gy P ro g (c.args.toList.map (aq (E d))) σ _ _:=fun ro=>Hy.EJ (ro:=ro) (σ:=σ) (Fk c2);obtain⟨dJ,_⟩:=Hy;refine⟨_,_,_,R1,bQ φ V'.l.length σ.n,.one (.mp V'.l.length),{V' with n:=V'.n+1,l:=V'.l++[.mp kt (.var V'.n)]},[.av ds],ef,p_,.inr ⟨_,rfl⟩,?_,?_,by simp[dD],cg.2.2.1,h3⟩
 ·refine bz.xm (.map (jN ds) ds.length) _ ?_;rw[gB,if_neg dV];refine⟨σ.n,jN ds,ds.length,ds,hZ,by simp[bQ],j8.qF,by simp,?_,(pV ds).symm,fun i e he=>?_⟩
  ·refine .mk (pV ds) fun i e d he hd=>?_;obtain⟨d',u9,rfl⟩:=pU he;rw[hd]at u9;cases u9;obtain⟨kk,v,rfl⟩:=dJ d (aqS hd);refine⟨lift v,by simp[yP,pT],?_⟩;show aY true _ _ (lift v) (lift v);unfold lift;split
   ·exact .agg _ _ rfl fun i c e h1 h2=>by
     rw[h1]at h2;cases h2;rw[aqU]at h1;obtain⟨u,_,rfl⟩:=aqL.1 h1;exact .raw _
   ·exact .raw _
  ·obtain⟨d',u9,rfl⟩:=pU he;obtain⟨kk,v,rfl⟩:=dJ d' (aqS u9);rfl
 ·exact⟨σ.n,kt,.var V'.n,by simp[bQ],by simp,(if_neg dV).symm⟩
theorem SN{fr:Bool}{u:IV}{v:Value}(h:aY fr R σ u (lift v)):u=lift v:=by
 unfold lift at h⊢;split at h
 ·rename_i cs;obtain⟨xs,rfl,iC⟩:=By h
  congr 1
  apply at7;intro i;cases hi:xs[i]? with
  |none=>
   rw[asI]at hi;have:=iC.len;exact(asI.2 (by omega)).symm
  |some a=>
   have aa:=(aqF.1 hi).1;rw[iC.len]at aa;have hb:=aqE aa;have:=iC.get hi hb;rw[hb];simp only[List.getElem_map]at this⊢;rw[bV this]
 ·exact bV h
theorem LH{es:List (Value×IV×Nat)}{clock:Nat}{ds:List IV}(he:yp R σ es ds)(hc:Canon es clock)(dJ:rX ds):clock=ds.length∧Ac es ds:=by
 refine⟨by rw[hc.1,All2.len he],All2.len he,fun i e d h1 hd=>?_⟩;obtain⟨kk,vv,KV⟩:=dJ d (aqS hd);obtain⟨zv,h8,h9⟩:=All2.get he h1 hd;rw[KV]at h8;simp only[IV.av.injEq,arF,and_true]at h8;obtain⟨h8a,rfl⟩:=h8;exact⟨hc.2 i e h1,vv,SN h9,by rw[KV,h8a]⟩
theorem O8(hC:iP P C)(hJ:J (aj P ν) R φ V.g V.l E σ)(hn:ν.length=V.n){c:Call}{f:Operand}{g:FuncId}(ho:o.op=.call c)(hc:c.callee=.value f)(hf:bI P d V 0 f=.one (.fn g []))
 (hs:(UX P g (gX P d V c.args.toList c.argTypes.toList) V k).sat P C Q K ν):
 ∃args v ai R1 du pv V1 μ,ak P 0 (aq (E d)) o σ=some (.enter g args)∧(∀ro,gy P ro g args σ v ai)∧ai=σ∧J (aj P (ν++μ)) R1 du V1.g V1.l E ai∧VR (aj P (ν++μ)) R1 du V1.l ai v pv∧(ν++μ).length=V1.n∧V1.ln=V.ln∧(k pv V1).sat P C Q K (ν++μ):=by
 have bc:=fG hJ d c.args.toList c.argTypes.toList;unfold UX at hs;split at hs<;>first|(exact hs.elim)|skip
 rename_i j rest Cv;rw[Cv]at bc;split at hs<;>first|(exact hs.elim)|skip
 rename_i kt iA zs V' fn hj hr bO;split at hs<;>first|(exact hs.elim)|skip
 rename_i bK;simp only[aqG,Bool.not_eq_true']at bK;obtain⟨⟨ht,jE⟩,hb,kR⟩:=bK;have dV:¬gp kt=true:=by rw[jE];simp
 obtain⟨xs,z,h1,h2,h3⟩:=hs;obtain⟨ds,nD,rfl,ll⟩:=(hC _ _ _ _ h2).2.2.2.2.2.2 g (arA.1 bO).1 rfl;have nM:=aZ hJ d 0 f;rw[hf]at nM;obtain⟨ys,ij,qb⟩:=jT (args:=c.args.toList.map (aq (E d))) nM bO hb kR
 have xJ:ys=[]:=by
  cases ys with
  |nil=>rfl
  |cons=>exact qb.elim
 subst xJ;rw[aqY]at ij
 have ef:ak P 0 (aq (E d)) o σ=some (.enter g (c.args.toList.map (aq (E d)))):=by
  simp only[ak,ho,hc];exact ij
 generalize LI:c.args.toList.map (aq (E d))=al at bc ef;cases al with
 |nil=>exact bc.elim
 |cons a al=>
  obtain⟨yQ,fY⟩:=bc;obtain⟨id,lA,gK,g1,g2,g3⟩:=yQ;rw[hj]at g2;cases g2;rw[if_neg dV]at g3;subst g3;have dt:=hJ.obj j _ hj;rw[gB,if_neg dV]at dt;obtain⟨br,es,clock,l6,c1,c2,c3,c4,c5,c6⟩:=dt;rw[g1]at c2;cases c2;have j2:iA.den P ν=some (.av l6):=c1;obtain⟨R1,cg,j8,jq⟩:=Ad hJ hr ht;obtain⟨us,e1,e2⟩:=jq _ fY
  have iC:IV.av ds::nD=.av l6::us:=by
   have bp:All2 (fun(z:SE) y=>z.den P ν=some y) (iA::zs) (.av l6::us):=⟨j2,e1⟩;unfold ir at h1;rw[ew bp]at h1;cases h1;rfl
  simp only[arF,IV.av.injEq]at iC;obtain⟨rfl,rfl⟩:=iC;have dD:ν.length=V'.n:=by rw[hn,cg.2.1]
  have bz:=j8.up (gW:=aj P (ν++[z])) (fun e y h=>SE.cR P e h);have hZ:(SE.var V'.n).den P (ν++[z])=some z:=by simp[SE.den,←dD]
  obtain⟨dU,wX⟩:=LH c5 c6 ll.1;subst dU;obtain⟨vz,rfl,vB⟩:=ll.2.1;exact⟨_,.raw vz,σ,R1,φ,.one (.v (.var V'.n)),{V' with n:=V'.n+1},[.raw vz],ef,fun ro=>ll.call c4 wX (Fk e2),rfl,bz,⟨.raw vz,hZ,.raw _,vB⟩,by simp[dD],cg.2.2.1,h3⟩
theorem eK(e:Env)(dst:Option Nat)(x:IV):(e.put dst x).n=e.n:=by simp[Env.mU]
theorem BD{V1:SS}{x:IV}{pv:PV SE}{dst:Option Nat}(hJ:J (aj P ν) R φ V1.g V1.l E σ)(hx:VR (aj P ν) R φ V1.l σ x pv)(hd:∀t,dst=some t→t<(E d).n):J (aj P ν) R φ (V1.bJ d dst pv).g (V1.bJ d dst pv).l (qn E d ((E d).put dst x)) σ:=by
 cases dst with
 |none=>exact hJ.UJ (FR:=V1.g) d none x (fun t h=>by cases h) (fun _=>rfl)
 |some t=>exact hJ.put d (hd t rfl) hx
theorem BE{V1:SS}{x:IV}{dst:Option Nat}(hJ:J (aj P ν) R φ V1.g V1.l E σ):J (aj P ν) R φ (V1.js d dst).g (V1.js d dst).l (qn E d ((E d).put dst x)) σ:=by
 cases dst with
 |none=>exact hJ.UJ (FR:=V1.g) d none x (fun t h=>by cases h) (fun _=>rfl)
 |some t=>exact hJ.UJ (FR:=AN d t V1.g) d (some t) x (fun t' h=>by cases h;rfl) (fun h=>by cases h)
@[simp] theorem DU(V1:SS)(dst:Option Nat)(pv:PV SE):(V1.bJ d dst pv).n=V1.n:=by cases dst<;>rfl
@[simp] theorem VF(V1:SS)(dst:Option Nat)(pv:PV SE):(V1.bJ d dst pv).ln=V1.ln:=by cases dst<;>rfl
@[simp] theorem amh(V1:SS)(dst:Option Nat)(pv:PV SE):(V1.bJ d dst pv).l=V1.l:=by cases dst<;>rfl
@[simp] theorem DV(V1:SS)(dst:Option Nat):(V1.js d dst).n=V1.n:=by cases dst<;>rfl
@[simp] theorem BF(V1:SS)(dst:Option Nat):(V1.js d dst).ln=V1.ln:=by cases dst<;>rfl
theorem J.refine(hJ:J (aj P ν) R φ V.g V.l E σ){t:Nat}{e:SE}{b:Bool}(hg:ct d t V.g=some (.one (.v e))∨∃f,ct d t V.g=some (.one (.w f e)))(he:e.den P ν=some (.bool b)):(E d).at t=.raw (.bool b)∧J (aj P ν) R φ (V.bJ d (some t) (.one (.v (.b b)))).g V.l E σ:=by
 have aA:(E d).at t=.raw (.bool b):=by
  rcases hg with hg|⟨f,hg⟩
  ·obtain⟨y,h1,h2,_⟩:=hJ.slot d t _ hg;have cW:e.den P ν=some y:=h1;rw[he]at cW;cases cW;exact bV h2
  ·obtain⟨y,h1,h2,_⟩:=hJ.slot d t _ hg;have cW:e.den P ν=some y:=h1;rw[he]at cW;cases cW;exact bV h2
 refine⟨aA,{hJ with slot:=fun d' t' Co DW=>?_}⟩;rcases mL DW with⟨rfl,rfl,rfl⟩|⟨_,h3⟩
 ·exact⟨.raw (.bool b),rfl,by rw[aA];exact .raw _,rfl⟩
 ·exact hJ.slot d' t' Co (GB V.g h3).2
theorem O9(hJ:J (aj P ν) R φ V.g V.l E σ)(cb:(E d).n=V.nt){ops:Array Oper}:
 (sO ops d V o=.run→aJ o ops (E d)=true)∧(sO ops d V o=.skip→aJ o ops (E d)=false)∧
 ∀t e want,sO ops d V o=.test t e want→(ct d t V.g=some (.one (.v e))∨∃f,ct d t V.g=some (.one (.w f e)))∧∀b,(E d).at t=.raw (.bool b)→aJ o ops (E d)=(b==want):=by
 unfold sO aJ;cases o.guard with
 |none=>simp
 |some p=>
  obtain⟨j,want⟩:=p;simp only;cases hd:(ops[j]?).bind (·.dst)with
  |none=>simp
  |some t=>
   simp only;by_cases aa:arH t V.nt=true
   ·rw[cb,aa];simp only[Bool.not_true,if_true];cases hg:ct d t V.g with
    |none=>simp
    |some pv=>
     have hs:=hJ.slot d t pv hg;cases pv with
     |ag|tu=>simp
     |one c=>
      cases c with
      |v e=>
       cases e with
       |b x=>
        obtain⟨y,h1,h2,_⟩:=hs;simp only[aj,SE.den,aqH]at h1;subst h1;rw[bV h2];simp only;refine⟨fun h=>?_,fun h=>?_,fun t e w h=>?_⟩
        ·simp only[ara,if_false]at h;split at h
         ·assumption
         ·cases h
        ·simp only[ara,if_false]at h;split at h
         ·cases h
         ·rename_i hh;simpa using hh
        ·simp only[ara,if_false]at h;split at h<;>cases h
       |_=>
        refine⟨fun h=>by simp at h,fun h=>by simp at h,fun t' e' w' h=>?_⟩;simp only[ara,if_false,Want.test.injEq]at h;obtain⟨rfl,rfl,rfl⟩:=h;exact⟨.inl hg,fun b hb=>by rw[hb]⟩
      |w f e=>
       refine⟨fun h=>by simp at h,fun h=>by simp at h,fun t' e' w' h=>?_⟩;simp only[ara,if_false,Want.test.injEq]at h;obtain⟨rfl,rfl,rfl⟩:=h;exact⟨.inr ⟨f,hg⟩,fun b hb=>by rw[hb]⟩
      |_=>simp
   ·have fR:arH t V.nt=false:=by cases h:arH t V.nt;rfl;exact absurd h aa
    rw[fR];simp
end Go.Ev
namespace Go.Ev
variable{P:Program}{N:Nat}{σ ah:St}{R R':Rs}{φ aG:Ph}{E:Nat→Env}{ν:List IV}{ro:Nat}{ι:Io}{w:World}{cfg:bj}{self:mZ}
variable{C:Cr}{Q:IV→Prop}{K:List (List IV→Prop)}{V:SS}{d f0:Nat}{o:Oper}{k:PV SE→SS→ab}{L:List (LO SE)}{Γ:Gm SE}{rd:Option Nat}{df:List Df}
def XR(P:Program)(ν:List IV)(R:Rs)(φ:Ph)(L:List (LO SE))(σ:St):yw→Ex→Prop
 |.normal,x=>x=.normal
 |.exit i,x=>x=.exit i
 |.ret,x=>x=.ret
 |.bU t pv,x=>∃v,x=.bU (.da t v)∧VR (aj P ν) R φ L σ v pv
structure vi(P:Program)(d:Nat)(E:Nat→Env)(K:List (List IV→Prop))(ν:List IV)(nt:Nat)(V':SS)(μ:List IV)(K':List (List IV→Prop))(R':Rs)(aG:Ph)(E':Nat→Env)(ah:St):Prop where
 hK:K<+:K'
 fK:K'.length=V'.lv
 cb:V'.nt=nt
 hJ:J (aj P (ν++μ)) R' aG V'.g V'.l E' ah
 hn:(ν++μ).length=V'.n
 hE:∀j,j<d→E' j=E j
 Iw:(E' d).n=(E d).n
def KW(P:Program)(C:Cr)(Q:IV→Prop)(d:Nat)(E:Nat→Env)(K:List (List IV→Prop))(ν:List IV)(nt:Nat)(k:yw→SS→ab)(CW:Nat→jG):Prop:=
 ∀ex (V':SS) μ K' R' aG E' ah x,vi P d E K ν nt V' μ K' R' aG E' ah→XR P (ν++μ) R' aG V'.l ah ex x→(k ex V').sat P C Q K' (ν++μ)→∃b,∀N,b≤N→ah.n≤N∧CW N x (E' d) ah
def KP(P:Program)(C:Cr)(Q:IV→Prop)(d:Nat)(E:Nat→Env)(K:List (List IV→Prop))(ν:List IV)(nt:Nat)(kx:Kx)(CW:Nat→IV→Env→St→Prop):Prop:=
 ∀t pv (V':SS) μ K' R' aG E' ah v,vi P d E K ν nt V' μ K' R' aG E' ah→VR (aj P (ν++μ)) R' aG V'.l ah v pv→(kx t pv V').sat P C Q K' (ν++μ)→∃b,∀N,b≤N→ah.n≤N∧CW N (.da t v) (E' d) ah
def KS(P:Program)(C:Cr)(Q:IV→Prop)(d:Nat)(E:Nat→Env)(K:List (List IV→Prop))(ν:List IV)(nt:Nat)(k:SS→ab)(CW:Nat→Env→St→Prop):Prop:=
 ∀(V':SS) μ K' R' aG E' ah,vi P d E K ν nt V' μ K' R' aG E' ah→(k V').sat P C Q K' (ν++μ)→∃b,∀N,b≤N→ah.n≤N∧CW N (E' d) ah
def oE(P:Program)(C:Cr)(Q:IV→Prop)(self:mZ):Prop:=
 ∀d f c (V:SS) k ν K R φ E σ CW rd df,(self d f c V k).sat P C Q K ν→J (aj P ν) R φ V.g V.l E σ→ν.length=V.n→K.length=V.lv→(E d).n=V.nt→KW P C Q d E K ν V.nt k CW→∃b,∀N,b≤N→dz P N rd c (E d) df σ (CW N)
theorem vi.trans{nt:Nat}{V1 V2:SS}{yR μ2:List IV}{K1 K2:List (List IV→Prop)}{R1 R2:Rs}{du Cs:Ph}{E1 E2:Nat→Env}{ai dc:St}(h1:K<+:K1)(h2:∀j,j<d→E1 j=E j)(h3:(E1 d).n=(E d).n)
 (h:vi P d E1 K1 (ν++yR) nt V2 μ2 K2 R2 Cs E2 dc):vi P d E K ν nt V2 (yR++μ2) K2 R2 Cs E2 dc where
 hK:=h1.trans h.hK
 fK:=h.fK
 cb:=h.cb
 hJ:=by rw[←aq4];exact h.hJ
 hn:=by rw[←aq4];exact h.hn
 hE:=fun j hj=>(h.hE j hj).trans (h2 j hj)
 Iw:=h.Iw.trans h3
theorem KW.fwd{nt:Nat}{kk:yw→SS→ab}{CW:Nat→jG}{yR:List IV}{K1:List (List IV→Prop)}{E1:Nat→Env}(h:KW P C Q d E K ν nt kk CW)(h1:K<+:K1)(h2:∀j,j<d→E1 j=E j)(h3:(E1 d).n=(E d).n):KW P C Q d E1 K1 (ν++yR) nt kk CW:=
 fun ex V' μ K' R' aG E' ah x hf hx hs=>h ex V' (yR++μ) K' R' aG E' ah x (vi.trans (V1:=V') (R1:=R') (du:=aG) (ai:=ah) h1 h2 h3 hf) (by rw[←aq4];exact hx) (by rw[←aq4];exact hs)
theorem KP.fwd{nt:Nat}{kk:Kx}{CW:Nat→IV→Env→St→Prop}{yR:List IV}{K1:List (List IV→Prop)}{E1:Nat→Env}(h:KP P C Q d E K ν nt kk CW)(h1:K<+:K1)(h2:∀j,j<d→E1 j=E j)(h3:(E1 d).n=(E d).n):KP P C Q d E1 K1 (ν++yR) nt kk CW:=
 fun t pv V' μ K' R' aG E' ah v hf hv hs=>h t pv V' (yR++μ) K' R' aG E' ah v (vi.trans (V1:=V') (R1:=R') (du:=aG) (ai:=ah) h1 h2 h3 hf) (by rw[←aq4];exact hv) (by rw[←aq4];exact hs)
theorem KW.kp{nt:Nat}{kk:yw→SS→ab}{CW:Nat→jG}(h:KW P C Q d E K ν nt kk CW):KP P C Q d E K ν nt (fun t pv V=>kk (.bU t pv) V) (fun N v e σ=>CW N (.bU v) e σ):=
 fun t pv V' μ K' R' aG E' ah v hf hv hs=>h (.bU t pv) V' μ K' R' aG E' ah _ hf ⟨v,rfl,hv⟩ hs
theorem KS.fwd{nt:Nat}{kk:SS→ab}{CW:Nat→Env→St→Prop}{yR:List IV}{K1:List (List IV→Prop)}{E1:Nat→Env}(h:KS P C Q d E K ν nt kk CW)(h1:K<+:K1)(h2:∀j,j<d→E1 j=E j)(h3:(E1 d).n=(E d).n):KS P C Q d E1 K1 (ν++yR) nt kk CW:=
 fun V' μ K' R' aG E' ah hf hs=>h V' (yR++μ) K' R' aG E' ah (vi.trans (V1:=V') (R1:=R') (du:=aG) (ai:=ah) h1 h2 h3 hf) (by rw[←aq4];exact hs)
theorem vi.here(hJ:J (aj P ν) R φ V.g V.l E σ)(hn:ν.length=V.n)(hK:K.length=V.lv):vi P d E K ν V.nt V [] K R φ E σ:=
 ⟨List.prefix_refl _,hK,rfl,by rw[aqY];exact hJ,by rw[aqY];exact hn,fun _ _=>rfl,rfl⟩
theorem KS.now{kk:SS→ab}{CW:Nat→Env→St→Prop}(h:KS P C Q d E K ν V.nt kk CW)(hJ:J (aj P ν) R φ V.g V.l E σ)(hn:ν.length=V.n)(hK:K.length=V.lv)(hs:(kk V).sat P C Q K ν):∃b,∀N,b≤N→σ.n≤N∧CW N (E d) σ:=
 h V [] K R φ E σ (.here hJ hn hK) (by rw[aqY];exact hs)
theorem KW.now{kk:yw→SS→ab}{CW:Nat→jG}(h:KW P C Q d E K ν V.nt kk CW)(hJ:J (aj P ν) R φ V.g V.l E σ)(hn:ν.length=V.n)(hK:K.length=V.lv){ex:yw}{x:Ex}(hx:XR P ν R φ V.l σ ex x)(hs:(kk ex V).sat P C Q K ν):∃b,∀N,b≤N→σ.n≤N∧CW N x (E d) σ:=
 h ex V [] K R φ E σ x (.here hJ hn hK) (by rw[aqY];exact hx) (by rw[aqY];exact hs)
theorem XP(hJ:J (aj P ν) R φ V.g V.l E σ){t:TypeId}{pa pv:PV SE}{x:IV}(hx:VR (aj P ν) R φ V.l σ x pa)(hl:Ox P t pa V=some pv):
 ∃id off ext s cA v,x=.ptr id off 0 ext∧aH P t=some s∧σ.at id=some (.cells cA 0 0)∧s≤ext∧partOf P t cA off=some v∧VR (aj P ν) R φ V.l σ v pv:=by
 unfold Ox at hl;split at hl<;>first|(cases hl;done)|skip
 rename_i s b j off ext aL Cv;split at hl<;>first|(cases hl;done)|skip
 rename_i cs hj;split at hl<;>first|(cases hl;done)|skip
 rename_i hle;simp only[aqG,asj]at hle;obtain⟨id,pZ,h1,h2,rfl⟩:=hx;obtain⟨br,cA,h3,h4,h5,h6⟩:=hJ.obj j _ hj;rw[h1]at h3;cases h3
 have p8:if isAgg P t=true then pv=.ag ((cs.drop off).take s)else∃c,(cs.drop off).take s=[c]∧pv=.one c:=by
  split at hl
  ·rename_i ha;cases hl;rw[if_pos ha]
  ·rename_i ha;rw[if_neg ha];split at hl
   ·rename_i c hc;cases hl;exact⟨c,hc,rfl⟩
   ·cases hl
 obtain⟨v,hv,hr⟩:=rU aL Cv h6 hle.2 p8;exact⟨id,off,ext,s,cA,v,rfl,aL,h5,hle.1,hv,hr⟩
def vC(P:Program)(e:Env)(σ:St)(r:ResultVar):Option IV:=
 match r with
 |.tmp t=>some (e.at t)
 |.cell a t=>match e.at a with
  |.ptr id off ep ext=>match aH P t,σ.at id with
   |some s,some (.cells cs au mn)=>if s≤ext∧mn≤ep∧ep≤au then partOf P t cs off else none
   |_,_=>none
  |_=>none
theorem lh(hJ:J (aj P ν) R φ V.g V.l E σ):∀{rs:List ResultVar} {c8:List (PV SE)},kY P d V rs=some c8→∃vs,rs.mapM (vC P (E d) σ)=some vs∧All2 (VR (aj P ν) R φ V.l σ) vs c8
 |[],c8,h=>by
  simp only[kY,aqH]at h;subst h;exact⟨[],rfl,trivial⟩
 |.tmp t::rs,c8,h=>by
  simp only[kY]at h;split at h
  ·rename_i jg hp;cases h;obtain⟨vs,h1,h2⟩:=lh hJ hp;refine⟨(E d).at t::vs,by simp[asG,vC,h1],?_,h2⟩;exact aZ hJ d 0 (.tmp t)
  ·cases h
 |.cell a t::rs,c8,h=>by
  simp only[kY]at h;split at h
  ·rename_i pa Ic;split at h
   ·rename_i pv jg hl hp;cases h;obtain⟨vs,h1,h2⟩:=lh hJ hp;obtain⟨id,off,ext,s,cA,v,g1,g2,g3,g4,g5,g6⟩:=XP hJ (hJ.slot d a pa Ic) hl;refine⟨v::vs,?_,g6,h2⟩;have:vC P (E d) σ (.cell a t)=some v:=by simp[vC,g1,g2,g3,g4,g5]
    simp[asG,this,h1]
   ·cases h
  ·cases h
def DX:List IV→IV
 |[v]=>v
 |l=>.av l
theorem Kb{vs:List IV}{c8:List (PV SE)}(h:All2 (VR (aj P ν) R φ L σ) vs c8):VR (aj P ν) R φ L σ (DX vs) (Du c8):=by
 have conv:∀{x:IV} {pv:PV SE},VR (aj P ν) R φ L σ x pv→sJ (aj P ν) R φ L σ x (match pv with|.one c=>(false,[c])|.ag cs=>(true,cs)|.tu _=>(false,[.un])):=by
  intro x pv hx;cases pv with
  |one c=>exact⟨c,rfl,hx⟩
  |ag cs=>exact hx
  |tu vs=>exact⟨.un,rfl,trivial⟩
 match vs,c8,h with
 |[],[],_=>trivial
 |[v],[pv],h=>exact h.1
 |v::v'::vs,pv::Co::c8,h=>exact⟨_,rfl,h.map fun _ _ bT=>conv bT⟩
theorem j9{fn:Func}{e:Env}{vs:List IV}(h:fn.results.toList.mapM (vC P e σ)=some vs):bE P fn e σ=some (DX vs):=by
 unfold bE;simp only
 have aqw:∀r,(match r with
  |aww t=>some (e.at t)
  |awx a t=>match e.at a with
   |.ptr id off ep ext=>match aH P t,σ.at id with
    |some s,some (.cells cs au mn)=>if s≤ext∧mn≤ep∧ep≤au then partOf P t cs off else none
    |_,_=>none
   |_=>none)=vC P e σ r:=fun r=>rfl
 generalize hl:fn.results.toList=l at h⊢
 match l,h with
 |[],h=>simp[auH]at h;subst h;rfl
 |[r],h=>
  simp only[asG,auH]at h;cases ho:vC P e σ r with
  |none=>rw[ho]at h;simp at h
  |some v=>rw[ho]at h;simp at h;subst h;exact ho
 |r::r'::rs,h=>
  have hlen:∃v v' vG,vs=v::v'::vG:=by
   simp only[asG]at h;cases h1:vC P e σ r with
   |none=>rw[h1]at h;simp at h
   |some v=>
    cases h2:vC P e σ r' with
    |none=>rw[h1,h2]at h;simp at h
    |some v'=>
     cases h3:rs.mapM (vC P e σ)with
     |none=>rw[h1,h2,h3]at h;simp at h
     |some vG=>rw[h1,h2,h3]at h;simp at h;exact⟨v,v',vG,h.symm⟩
  obtain⟨v,v',vG,rfl⟩:=hlen;have h':(r::r'::rs).mapM (vC P e σ)=some (v::v'::vG):=h;have e2:(match(r::r'::rs).mapM (vC P e σ)with|some vs=>some (IV.av vs)|none=>none)=some (DX (v::v'::vG)):=by rw[h'];rfl
  exact e2
end Go.Ev
namespace Go.Ev
variable{P:Program}{N:Nat}{σ ah:St}{R R':Rs}{φ aG:Ph}{E:Nat→Env}{ν:List IV}{ro:Nat}{ι:Io}{w:World}{cfg:bj}{self:mZ}
variable{C:Cr}{Q:IV→Prop}{K:List (List IV→Prop)}{V:SS}{d f0:Nat}{o:Oper}{k:PV SE→SS→ab}{L:List (LO SE)}{Γ:Gm SE}{rd:Option Nat}{df:List Df}
theorem gr(E:Nat→Env)(d:Nat)(e:Env){j:Nat}(h:j≠d):qn E d e j=E j:=by simp[qn,h]
theorem F5{α:Type}{d t:Nat}{pv:PV α}:∀{g h:List (Nat×Nat×PV α)},ct d t (g++h)=some pv→ct d t g=some pv∨ct d t h=some pv
 |[],h,hg=>.inr hg
 |(a,b,q)::g,h,hg=>by
  simp only[List.cons_append,ct]at hg⊢;split at hg
  ·rename_i hc;rw[if_pos hc];exact .inl hg
  ·rename_i hc;rw[if_neg hc];exact F5 hg
theorem fm{α:Type}{d d' t:Nat}{pv:PV SE}:∀{c8:List (PV SE)} {j:Nat},ct d' t (setArgs d j c8)=some pv→d'=d∧j≤t∧c8[t- j]?=some pv
 |[],j,h=>by cases h
 |q::c8,j,h=>by
  simp only[setArgs]at h;rcases mL h with⟨rfl,rfl,rfl⟩|⟨aT,h2⟩
  ·simp
  ·obtain⟨rfl,h3,h4⟩:=fm (α:=α) h2;refine⟨rfl,by omega,?_⟩;rw[show t- j=(t-(j+1))+1 by omega];simpa using h4
theorem tC{d d' t:Nat}{pv:PV SE}:∀{g:List (Nat×Nat×PV SE)},ct d' t (jt d g)=some pv→d'≠d∧ct d' t g=some pv
 |[],h=>by cases h
 |(a,b,q)::g,h=>by
  simp only[jt]at h;split at h
  ·rename_i hc;have wY:=aqO hc;obtain⟨h1,h2⟩:=tC h;refine⟨h1,?_⟩;unfold ct;rw[if_neg]
   ·exact h2
   ·simp only[aqG,ark];rintro⟨rfl,_⟩;exact h1 wY
  ·rename_i hc;have wY:a≠d:=by intro h;subst h;simp at hc
   rcases mL h with⟨rfl,rfl,rfl⟩|⟨aT,h2⟩
   ·exact⟨wY,by simp[ct]⟩
   ·obtain⟨h3,h4⟩:=tC h2;refine⟨h3,?_⟩;unfold ct;rw[if_neg (by simpa only[aqG,ark]using aT)];exact h4
theorem Ix:∀(args:List IV) (j:Nat) (e:Env) (t:Nat),j+args.length≤e.n→((args.zipIdx j).foldl (fun e (p:IV×Nat)=>e.put (some p.2) p.1) e).n=e.n∧
 (((args.zipIdx j).foldl (fun e (p:IV×Nat)=>e.put (some p.2) p.1) e).at t=if j≤t∧t<j+args.length then(args[t- j]?).getD .undef else e.at t)
 |[],j,e,t,_=>by simp;intro h1 h2;omega
 |a::args,j,e,t,h=>by
  simp only[ary]at h;simp only[List.zipIdx_cons,List.foldl_cons];obtain⟨h1,h2⟩:=Ix args (j+1) (e.put (some j) a) t (by rw[eK];omega);refine⟨by rw[h1,eK],?_⟩;rw[h2];by_cases hc:j+1≤t∧t<j+1+args.length
  ·rw[if_pos hc,if_pos ⟨by omega,by simp;omega⟩,show t- j=(t-(j+1))+1 by omega];simp
  ·rw[if_neg hc];by_cases ht:t=j
   ·subst ht;rw[if_pos ⟨aqK _,by simp⟩,Env.cS,if_pos ⟨by omega,rfl⟩];simp
   ·rw[if_neg (by simp;omega),Cn _ _ _ _ (by simpa using fun h=>ht h.symm)]
theorem cL{args:List IV}{n t:Nat}(h:args.length≤n):(cE args n).n=n∧(t<args.length→(cE args n).at t=(args[t]?).getD .undef):=by
 obtain⟨h1,h2⟩:=Ix args 0 ⟨n,.lf⟩ t (by simpa using h);refine⟨h1,fun ht=>?_⟩;have:=h2;rw[if_pos ⟨arw _,by omega⟩]at this;exact this
theorem XQ(hJ:J (aj P ν) R φ V.g V.l E σ){args:List IV}{c8:List (PV SE)}{n:Nat}(h:All2 (VR (aj P ν) R φ V.l σ) args c8)(hl:args.length≤n):
 J (aj P ν) R φ (setArgs (d+1) 0 c8++jt (d+1) V.g) V.l (qn E (d+1) (cE args n)) σ:=by
 refine{hJ with slot:=fun d' t pv hg=>?_};rcases F5 hg with hg|hg
 ·obtain⟨rfl,_,h3⟩:=fm (α:=IV) hg;have ht:t<args.length:=by rw[h.len];have:=(aqF.1 h3).1;simpa using this
  rw[bY,(cL hl).2 ht,aqE ht];exact h.get (aqE ht) (by simpa using h3)
 ·obtain⟨h1,h2⟩:=tC hg;rw[gr _ _ _ h1];exact hJ.slot d' t pv h2
theorem yS(hJ:J (aj P ν) R φ V.g V.l E σ)(d:Nat):J (aj P ν) R φ (jt d V.g) V.l E σ:=hJ.less fun _ _ _ h=>(tC h).2
theorem BG(aW:oE P C Q self)(hJ:J (aj P ν) R φ V.g V.l E σ)(hn:ν.length=V.n)(hK:K.length=V.lv)(cb:(E d).n=V.nt){g:FuncId}{dst:Option Nat}{args:List IV}{c8:List (PV SE)}(bc:All2 (VR (aj P ν) R φ V.l σ) args c8)
 {kx:Kx}(hs:(rP P cfg self kx d f0 dst g c8 V k).sat P C Q K ν){RW PW:Nat→IV→St→Prop}
 (hk:∀(pv:PV SE) (V':SS) μ K' R' aG E' ah v,vi P d E K ν V.nt V' μ K' R' aG E' ah→E' d=E d→VR (aj P (ν++μ)) R' aG V'.l ah v pv→(k pv V').sat P C Q K' (ν++μ)→∃b,∀N,b≤N→ah.n≤N∧RW N v ah)
 (XS:∀t (pv:PV SE) (V':SS) μ K' R' aG E' ah v,vi P d E K ν V.nt V' μ K' R' aG E' ah→E' d=E d→VR (aj P (ν++μ)) R' aG V'.l ah v pv→(kx t pv V').sat P C Q K' (ν++μ)→∃b,∀N,b≤N→ah.n≤N∧PW N (.da t v) ah):
 ∃fn,P.funcs[g]?=some fn∧fn.body.isSome=true∧(fn.name != "runtime.NumGoroutine")=true∧∃b,∀N,b≤N→vV P N g args σ (RW N) (PW N):=by
 unfold rP at hs;split at hs<;>first|(exact hs.elim)|skip
 rename_i fn bO;split at hs<;>first|(exact hs.elim)|skip
 rename_i body hb;split at hs<;>first|(exact hs.elim)|skip
 split at hs<;>first|(exact hs.elim)|skip
 rename_i hc;simp only[aqG,asj]at hc;have hl:args.length≤fn.ntmps:=by rw[bc.len];exact hc.1
 refine⟨fn,bO,by simp[hb],hc.2,?_⟩;have bz:=XQ (d:=d) hJ bc hl
 obtain⟨b,pY⟩:=aW (d+1) _ body {V with g:=setArgs (d+1) 0 c8++jt (d+1) V.g,nt:=fn.ntmps} _ ν K R φ (qn E (d+1) (cE args fn.ntmps)) σ
  (fun N ex e1 ai=>ai.n≤N∧(((ex=.normal∨ex=.ret)∧∃v,bE P fn e1 ai=some v∧RW N v ai)∨∃v,ex=.bU v∧PW N v ai)) none [] hs bz hn hK (by rw[bY,(cL (t:=0) hl).1]) (by
   intro ex V' μ K' R' aG E' ah x hf hx bf;have mN:E' d=E d:=by rw[hf.hE d (by omega),gr _ _ _ (by omega)]
   have main:∀jg,kY P (d+1) V' fn.results.toList=some jg→(k (Du jg) {V' with g:=jt (d+1) V'.g,nt:=V.nt}).sat P C Q K' (ν++μ)→∃b,∀N,b≤N→ah.n≤N∧ah.n≤N∧∃v,bE P fn (E' (d+1)) ah=some v∧RW N v ah:=by
    intro jg hr dE;obtain⟨vs,h1,h2⟩:=lh hf.hJ hr;have hv:=Kb h2
    obtain⟨b,hb⟩:=hk (Du jg) {V' with g:=jt (d+1) V'.g,nt:=V.nt} μ K' R' aG E' ah (DX vs)
     ⟨hf.hK,hf.fK,rfl,yS hf.hJ (d+1),hf.hn,fun j hj=>by rw[hf.hE j (by omega),gr _ _ _ (by omega)],by rw[mN]⟩ mN hv dE
    exact⟨b,fun N hN=>⟨(hb N hN).1,(hb N hN).1,DX vs,j9 h1,(hb N hN).2⟩⟩
   cases ex with
   |exit i=>exact bf.elim
   |bU t pv=>
    obtain⟨v,rfl,hv⟩:=hx
    obtain⟨b,hb⟩:=XS t pv {V' with g:=jt (d+1) V'.g,nt:=V.nt} μ K' R' aG E' ah v
     ⟨hf.hK,hf.fK,rfl,yS hf.hJ (d+1),hf.hn,fun j hj=>by rw[hf.hE j (by omega),gr _ _ _ (by omega)],by rw[mN]⟩ mN hv bf
    exact⟨b,fun N hN=>⟨(hb N hN).1,(hb N hN).1,.inr ⟨_,rfl,(hb N hN).2⟩⟩⟩
   |normal=>
    obtain rfl:=hx;simp only at bf;split at bf
    ·rename_i jg hr;obtain⟨b,hb⟩:=main jg hr bf;exact⟨b,fun N hN=>⟨(hb N hN).1,(hb N hN).2.1,.inl ⟨.inl rfl,(hb N hN).2.2⟩⟩⟩
    ·exact bf.elim
   |ret=>
    obtain rfl:=hx;simp only at bf;split at bf
    ·rename_i jg hr;obtain⟨b,hb⟩:=main jg hr bf;exact⟨b,fun N hN=>⟨(hb N hN).1,(hb N hN).2.1,.inl ⟨.inr rfl,(hb N hN).2.2⟩⟩⟩
    ·exact bf.elim)
 refine⟨b,fun N hN=>?_⟩;have:=pY N hN;rw[bY]at this;exact vV.body bO hb hl this
end Go.Ev
namespace Go.Ev
variable{P:Program}{N:Nat}{σ ah:St}{R R':Rs}{φ aG:Ph}{E:Nat→Env}{ν qc vs:List IV}{n:Nat}{args:List SE}{dS:List (Nat×Nat)}
theorem adC{qc a b:List IV}:∀(e:SE),e.vL qc.length=true→e.den P (qc++a)=e.den P (qc++b):=by
 intro e;induction e with
 |var x=>
  intro h;simp only[SE.vL]at h;have hx:x<qc.length:=by simpa using h
  simp[SE.den,aqQ hx]
 |i|k|b|s|raw|an=>intro _;rfl
 |ok e ih|rM _ e ih|bN e _ ih|len e ih|rj e ih|tr _ e ih|tp e ih|proj e _ ih|un _ e ih|cv _ _ e ih|rw e ih|rws e ih=>intro h;simp only[SE.vL]at h;simp only[SE.den,ih h]
 |idx _ e f fk eH|FX _ e f _ fk eH|ac e f fk eH|cat _ _ e f fk eH|bin _ _ e f fk eH|mx _ e f fk eH|FY e f fk eH|has _ e f fk eH|dec _ e f fk eH=>
  intro h;simp only[SE.vL,aqG]at h;simp only[SE.den,fk h.1,eH h.2]
 |Dr _ e f g fk eH zZ|sub _ e f g fk eH zZ|Oi _ e f g fk eH zZ|GH e f g fk eH zZ|ins _ e f g fk eH zZ|get _ e f g fk eH zZ=>
  intro h;simp only[SE.vL,aqG]at h;simp only[SE.den,fk h.1.1,eH h.1.2,zZ h.2]
structure Ins(P:Program)(n:Nat)(args:List SE)(ν qc vs:List IV):Prop where
 len:qc.length=n
 pre:∃μ,ν=qc++μ
 args:All2 (fun(e:SE) y=>e.den P ν=some y) args vs
theorem kE(hI:Ins P n args ν qc vs){h e:SE}(hc:ux n args h e=true){y:IV}(hy:e.den P ν=some y):h.den P (qc++vs)=some y:=by
 obtain⟨hl,⟨μ,rfl⟩,ha⟩:=hI;unfold ux at hc;split at hc
 ·rename_i x;split at hc
  ·rename_i hx;have ib:x<qc.length:=by rw[hl];simpa using hx
   have:=SE.eq_eq hc;subst this;simp only[SE.den,aqQ ib]at hy⊢;exact hy
  ·rename_i hx;have ib:n≤x:=by simpa using hx
   split at hc
   ·rename_i a hax;have:=SE.eq_eq hc;subst this;have aa:x- n<vs.length:=by rw[←ha.len];exact(aqF.1 hax).1
    have hv:=ha.get hax (aqE aa);rw[hy]at hv;simp only[SE.den];rw[List.getElem?_append_right (by omega),hl,aqE aa];exact hv.symm
   ·cases hc
 ·simp only[aqG]at hc;obtain⟨h1,h2⟩:=hc;have:=SE.eq_eq h2;subst this;rw[←hl]at h1;rw[adC (b:=μ) h h1];exact hy
variable{H V:SS}
def ky(φ:Ph)(H:SS)(dS:List (Nat×Nat)):Ph:=fun k=>if isLive H.l k=true then(rm dS k).bind φ else none
theorem O_{α:Type}{l:List (Nat×α)}{k:Nat}{a:α}(h:rm l k=some a):(k,a)∈l:=by
 induction l with
 |nil=>cases h
 |cons p l ih=>
  obtain⟨x,y⟩:=p;simp only[rm]at h;split at h
  ·rename_i hc;cases h;rw[aqO hc];simp
  ·exact arW _ (ih h)
theorem afC(h:Z9 dS=true){k k' e:Nat}(h1:rm dS k=some e)(h2:rm dS k'=some e):k=k':=by
 unfold Z9 at h;rw[aqW]at h;have:=h _ (O_ h1);rw[aqW]at this;have:=this _ (O_ h2);simpa using this
theorem Kc{l:List (LO SE)}:∀{os:List (LO SE)} {k:Nat},Ow n args dS l k os=true→∀{j:Nat} {o:LO SE},os[j]?=some o→o≠.dead→∃k' o',rm dS (k+j)=some k'∧l[k']?=some o'∧zl n args dS o o'=true
 |[],k,_,j,o,h,_=>by simp at h
 |a::os,k,hc,j,o,h,hd=>by
  simp only[Ow,aqG]at hc;cases j with
  |zero=>
   simp at h;subst h;have bH:=hc.1;split at bH
   ·exact absurd rfl hd
   ·split at bH
    ·rename_i k' hk;split at bH
     ·rename_i o' ho;exact⟨k',o',hk,ho,bH⟩
     ·cases bH
    ·cases bH
  |succ j=>
   simp at h;obtain⟨k',o',h1,h2,h3⟩:=Kc hc.2 h hd;exact⟨k',o',by rw[show k+(j+1)=k+1+j by omega];exact h1,h2,h3⟩
theorem Pa{l:List (LO SE)}{k:Nat}(h:isLive l k=true):∃o,l[k]?=some o∧o≠.dead:=by
 unfold isLive at h;split at h
 ·cases h
 ·cases h
 ·rename_i h1 h2;cases hk:l[k]? with
  |none=>exact absurd hk h2
  |some o=>exact⟨o,rfl,fun hc=>h1 (by rw[hk,hc])⟩
theorem lQ{α β:Type}{f:α→α→Bool}{r:β→α→Prop}{r':β→α→Prop}:∀{xs:List β} {as bs:List α},(∀x a b,a∈as→f a b=true→r x b→r' x a)→lz f as bs=true→All2 r xs bs→All2 r' xs as
 |[],[],[],_,_,_=>trivial
 |x::xs,a::as,b::bs,hf,h,hx=>by
  simp only[lz,aqG]at h;exact⟨hf x a b (by simp) h.1 hx.1,lQ (fun x a b ha=>hf x a b (by simp[ha])) h.2 hx.2⟩
 |[],a::as,[],_,h,_=>by cases h
 |[],[],b::bs,_,h,_=>by cases h
 |[],_::_,_::_,_,_,hx=>hx.elim
 |_::_,[],[],_,_,hx=>hx.elim
 |_::_,_::_,[],_,h,_=>by cases h
 |_::_,[],_::_,_,h,_=>by cases h
variable(hI:Ins P n args ν qc vs)(hJ:J (aj P ν) R φ V.g V.l E σ)(hL:Ow n args dS V.l 0 H.l=true)
include hI hJ hL
theorem Ae{h e:Cl SE}{x:IV}(yU:∀k∈sP h,isLive H.l k=true)(hc:qo n args dS h e=true)(hx:cz (aj P ν) R φ V.l σ x e):cz (aj P (qc++vs)) R (ky φ H dS) H.l σ x h:=by
 have key:∀k k',Dt dS k k'=true→isLive H.l k=true→∃o o',H.l[k]?=some o∧V.l[k']?=some o'∧zl n args dS o o'=true∧ky φ H dS k=φ k':=by
  intro k k' hk hl;obtain⟨o,h1,h2⟩:=Pa hl;obtain⟨k2,o',h3,h4,h5⟩:=Kc hL h1 h2;rw[ar4]at h3;unfold Dt at hk;rw[h3]at hk;have:=aqO hk;subst this;exact⟨o,o',h1,h4,h5,by simp[ky,hl,h3]⟩
 cases h with
 |un=>trivial
 |v a=>
  cases e<;>simp only[qo]at hc<;>first|(cases hc;done)|skip
  ·obtain⟨y,h1,h2⟩:=hx;exact⟨y,kE hI hc h1,h2⟩
  ·rename_i b s;obtain⟨h1,h2⟩:=hx;refine⟨.tree s [],kE hI hc (by simp[SE.den,h1]),?_,rfl⟩;subst h2;cases b
   ·exact .emp s h1
   ·exact .nil s h1
 |w f a=>
  cases e<;>simp only[qo,aqG]at hc<;>first|(cases hc;done)|skip
  ·obtain⟨hf,hc⟩:=hc;obtain⟨y,h1,h2,h3⟩:=hx;subst hf;exact⟨y,kE hI hc h1,h2.mono hJ.z8,h3⟩
  ·rename_i f' b;obtain⟨hf,hc⟩:=hc;obtain⟨y,h1,h2,h3⟩:=hx;exact⟨y,kE hI hc h1,h2.wide (fun h=>by subst h;simpa using hf),h3⟩
  ·rename_i b s;obtain⟨h1,h2⟩:=hx;refine⟨.tree s [],kE hI hc (by simp[SE.den,h1]),?_,rfl⟩;subst h2;cases b
   ·exact .emp s h1
   ·exact .nil s h1
 |nl a s=>
  cases e<;>simp only[qo,aqG,ark,beq_iff_eq]at hc<;>first|(cases hc;done)|skip
  obtain⟨rfl,rfl⟩:=hc;exact hx
 |pt k o x'=>
  cases e<;>simp only[qo,aqG,ark]at hc<;>first|(cases hc;done)|skip
  obtain⟨⟨rfl,rfl⟩,hk⟩:=hc;obtain⟨id,cs,h1,h2,h3⟩:=hx;obtain⟨o1,o2,g1,g2,g3,g4⟩:=key _ _ hk (yU k (by simp[sP]));rw[h2]at g2;cases g2;cases o1<;>simp only[zl]at g3<;>first|(cases g3;done)|skip
  exact⟨id,_,by rw[g4];exact h1,g1,h3⟩
 |tp a=>
  cases e<;>simp only[qo]at hc<;>first|(cases hc;done)|skip
  obtain⟨ds,h1,h2⟩:=hx;exact⟨ds,h1,lQ (fun d a b _ bT ⟨y,h3,h4⟩=>⟨y,kE hI bT h3,h4⟩) hc h2⟩
 |tw f a=>cases e<;>simp[qo]at hc
 |sr k=>
  cases e<;>simp only[qo]at hc<;>first|(cases hc;done)|skip
  obtain⟨s,st,cut,fr,z,es,h1,h2,h3⟩:=hx;obtain⟨o1,o2,g1,g2,g3,g4⟩:=key _ _ hc (yU k (by simp[sP]));rw[h1]at g2;cases g2;cases o1<;>simp only[zl,aqG,ark,beq_iff_eq]at g3<;>first|(cases g3;done)|skip
  obtain⟨⟨⟨⟨rfl,rfl⟩,OV⟩,tI⟩,hz⟩:=g3;refine⟨_,_,_,_,_,es,g1,kE hI hz h2,?_⟩;rcases h3 with⟨a1,a2,a3⟩|⟨id,cs,au,mn,cap,a1,a2,a3,a4,a5,a6⟩
  ·exact .inl ⟨by rw[g4];exact a1,a2,a3⟩
  ·exact .inr ⟨id,cs,au,mn,cap,by rw[g4];exact a1,a2,a3,a4,fun hn wY=>a5 hn (by subst wY;simpa using OV),a6⟩
 |sv k lo=>cases e<;>simp[qo]at hc
 |pr k i off ext=>cases e<;>simp[qo]at hc
 |mp k=>
  cases e<;>simp only[qo]at hc<;>first|(cases hc;done)|skip
  obtain⟨id,kt,es,h1,h2,h3⟩:=hx;obtain⟨o1,o2,g1,g2,g3,g4⟩:=key _ _ hc (yU k (by simp[sP]));rw[h2]at g2;cases g2;cases o1<;>simp only[zl,aqG,ark]at g3<;>first|(cases g3;done)|skip
  obtain⟨⟨rfl,_⟩,_⟩:=g3;exact⟨id,_,_,by rw[g4];exact h1,g1,h3⟩
 |fn f a=>
  cases e<;>simp only[qo,aqG,ark]at hc<;>first|(cases hc;done)|skip
  obtain⟨rfl,hl⟩:=hc;rcases hx with⟨rfl,h2⟩|⟨ys,h1,h2⟩
  ·have:a=[]:=by cases a with|nil=>rfl|cons=>cases hl
   subst this;exact .inl ⟨rfl,h2⟩
  ·refine .inr ⟨ys,h1,?_⟩;refine lQ (fun y p q hp xl ⟨id,cs,h3,h4,h5⟩=>?_) hl h2;simp only[aqG,ark]at xl;obtain⟨o1,o2,g1,g2,g3,g4⟩:=key _ _ xl.2 (yU p.1 (by simp only[sP];exact List.mem_map_of_mem hp));rw[h4]at g2;cases g2;cases o1<;>simp only[zl]at g3<;>first|(cases g3;done)|skip
   exact⟨id,_,by rw[g4];exact h3,g1,by rw[xl.1];exact h5⟩
theorem aaI{h e:PV SE}{x:IV}(yU:∀k∈Oq h,isLive H.l k=true)(hc:HW n args dS h e=true)(hx:VR (aj P ν) R φ V.l σ x e):VR (aj P (qc++vs)) R (ky φ H dS) H.l σ x h:=by
 cases h with
 |one c=>
  cases e<;>simp only[HW]at hc<;>first|(cases hc;done)|skip
  exact Ae hI hJ hL yU hc hx
 |ag cs=>
  cases e<;>simp only[HW]at hc<;>first|(cases hc;done)|skip
  obtain⟨xs,h1,h2⟩:=hx;exact⟨xs,h1,lQ (r:=cz (aj P ν) R φ V.l σ) (fun x a b ha bT hx=>Ae hI hJ hL (fun k hk=>yU k (asL.2 ⟨a,ha,hk⟩)) bT hx) hc h2⟩
 |tu us=>
  cases e<;>simp only[HW]at hc<;>first|(cases hc;done)|skip
  obtain⟨xs,h1,h2⟩:=hx;refine⟨xs,h1,lQ (fun x a b ha bT hx=>?_) hc h2⟩;simp only[aqG,beq_iff_eq]at bT;have yV:∀c∈a.2,∀k∈sP c,isLive H.l k=true:=fun c hc k hk=>yU k (asL.2 ⟨a,ha,asL.2 ⟨c,hc,hk⟩⟩);unfold sJ at hx⊢;rw[bT.1];split at hx
  ·rename_i hb;rw[if_pos hb];obtain⟨ys,h3,h4⟩:=hx;exact⟨ys,h3,lQ (r:=cz (aj P ν) R φ V.l σ) (fun x c c' hca lZ hx=>Ae hI hJ hL (yV c hca) lZ hx) bT.2 h4⟩
  ·rename_i hb;rw[if_neg hb];obtain⟨c,h3,h4⟩:=hx;have eN:=bT.2;rw[h3]at eN;obtain⟨a1,a2⟩:=a;cases a2 with
   |nil=>cases eN
   |cons c' r=>
    cases r with
    |cons=>simp[lz]at eN
    |nil=>
     simp only[lz,Bool.and_true]at eN;exact⟨c',rfl,Ae hI hJ hL (yV c' (by simp)) eN h4⟩
omit hI hJ hL in
theorem Kd{m:Nat}(hJ:J (aj P ν) R φ V.g V.l E σ)(hl:qc.length=n)(hp:∃μ,ν=qc++μ)(h:inst n m H V=some (args,dS)){vs:List IV}(hv:All2 (fun(e:SE) y=>e.den P ν=some y) args vs):
 vs.length=m∧J (aj P (qc++vs)) R (ky φ H dS) H.g H.l E σ:=by
 unfold inst at h;split at h
 ·cases h
 ·rename_i hlr;have aaJ:GL H=true:=by simpa using hlr
  split at h<;>first|(cases h;done)|skip
  split at h<;>first|(cases h;done)|skip
  split at h<;>first|(cases h;done)|skip
  split at h<;>first|(cases h;done)|skip
  rename_i hc;simp only[aqH,aq6]at h;obtain⟨e1,e2⟩:=h;rw[e1,e2]at hc;simp only[aqG,ark]at hc;obtain⟨⟨⟨c1,c2⟩,c3⟩,c4⟩:=hc;have hI:Ins P n args ν qc vs:=⟨hl,hp,hv⟩;unfold GL at aaJ;simp only[aqG,aqW]at aaJ;obtain⟨l1,l2⟩:=aaJ
  have J9:∀{k id},ky φ H dS k=some id→isLive H.l k=true∧∃k',rm dS k=some k'∧φ k'=some id:=by
   intro k id hk;unfold ky at hk;split at hk
   ·rename_i fK;obtain⟨k',h1,h2⟩:=aqZ.1 hk;exact⟨fK,k',h1,h2⟩
   ·cases hk
  refine⟨by rw[←hv.len];exact c4,fun d t pv hg=>?_,fun k o ho=>?_,fun k k' id h1 h2=>?_,fun k id hk=>?_,hJ.p6,hJ.fits,hJ.wf,hJ.top⟩
  ·have iJ:(d,t,pv)∈H.g:=by
    have:∀{g:List (Nat×Nat×PV SE)},ct d t g=some pv→(d,t,pv)∈g:=by
     intro g;induction g with
     |nil=>intro h;cases h
     |cons p g ih=>
      obtain⟨a,b,q⟩:=p;intro h;rcases mL h with⟨rfl,rfl,rfl⟩|⟨_,h2⟩
      ·simp
      ·exact arW _ (ih h2)
    exact this hg
   unfold afa at c1;rw[aqW]at c1;have:=c1 _ iJ;simp only at this;split at this
   ·rename_i Co p8;exact aaI hI hJ c2 (fun k hk=>l1 _ iJ k hk) this (hJ.slot d t Co p8)
   ·cases this
  ·by_cases hd:o=.dead
   ·subst hd;trivial
   ·obtain⟨k',o',h1,h2,h3⟩:=Kc c2 ho hd;rw[ar4]at h1
    have fK:isLive H.l k=true:=by
     unfold isLive;rw[ho];cases o<;>first|rfl|exact absurd rfl hd
    have tB:ky φ H dS k=φ k':=by simp[ky,fK,h1]
    have dt:=hJ.obj k' o' h2;cases o with
    |dead=>exact absurd rfl hd
    |var cs=>
     cases o'<;>simp only[zl]at h3<;>first|(cases h3;done)|skip
     obtain⟨id,cA,g1,g2,g3,g4⟩:=dt;have hrefs:=l2 _ (aqS ho);simp only at hrefs;rw[aqW]at hrefs;exact⟨id,cA,by rw[tB];exact g1,g2,g3,lQ (r:=cz (aj P ν) R φ V.l σ) (fun x a b ha bT hx=>Ae hI hJ c2 (fun k hk=>hrefs k (asL.2 ⟨a,ha,hk⟩)) bT hx) h3 g4⟩
    |row s st cut fr z=>
     cases o'<;>simp only[zl,aqG,ark,beq_iff_eq]at h3<;>first|(cases h3;done)|skip
     obtain⟨⟨⟨⟨rfl,rfl⟩,OV⟩,tI⟩,hz⟩:=h3;obtain⟨bA,es,g1,g2,g3⟩:=dt;refine⟨bA,es,kE hI hz g1,g2,?_⟩;rcases g3 with⟨a1,a2⟩|⟨id,cs,au,mn,a1,a2,a3,a4,a5,a6,a7⟩
     ·exact .inl ⟨by rw[tB];exact a1,a2⟩
     ·exact .inr ⟨id,cs,au,mn,by rw[tB];exact a1,a2,a3,a4,a5,a6,fun j x y hx hy=>(a7 j x y hx hy).wide (fun h=>by subst h;simpa using tI)⟩
    |mp kt z=>
     cases o'<;>simp only[zl,aqG,ark]at h3<;>first|(cases h3;done)|skip
     obtain⟨⟨rfl,hz⟩,Sa⟩:=h3;rw[gB]at dt⊢;split at dt
     ·rename_i dV;rw[if_pos dV];rcases dt with⟨h0,id,ba,p,g1,g2,g3,g4⟩|⟨h0,id,m,ds,seen,rem,rest,g1,g2,g3,_,g5,g6⟩
      ·exact .inl ⟨h0,id,ba,p,kE hI hz g1,by rw[tB];exact g2,g3,g4⟩
      ·have KY:arH kt 1000000=false:=by
        cases hb:arH kt 1000000 with
        |false=>rfl
        |true=>exact absurd (show kt<1000000 by simpa using hb) (Nat.not_lt.2 h0)
       have yQ:=l2 _ (aqS ho);simp only[KY,asR]at yQ;rw[KY,asR]at Sa;unfold ae_ at yQ;split at yQ<;>first|(cases yQ;done)|skip
       rename_i lA z2 afD;refine .inr ⟨h0,id,m,ds,seen,rem,rest,kE hI hz g1,by rw[tB];exact g2,g3,⟨lA,z2,afD⟩,?_,g6⟩;unfold ky;rw[if_pos (by unfold isLive;rw[afD])];unfold Dt at Sa;split at Sa<;>first|(cases Sa;done)|skip
       rename_i e' gO;have:=aqO Sa;rw[gO,←this];exact g5
     ·rename_i dV;rw[if_neg dV];obtain⟨id,es,clock,ds,g1,g2,g3,g4,g5⟩:=dt;exact⟨id,es,clock,ds,kE hI hz g1,by rw[tB];exact g2,g3,g4,g5⟩
  ·obtain⟨_,a,SO,Iy⟩:=J9 h1;obtain⟨_,b,cD,e_⟩:=J9 h2;have:=hJ.inj a b id Iy e_;subst this;exact afC c3 SO cD
  ·obtain⟨fK,a,SO,Iy⟩:=J9 hk;obtain⟨o,ho,_⟩:=Pa fK;exact⟨c7 ho,(hJ.lt a id Iy).2⟩
end Go.Ev
