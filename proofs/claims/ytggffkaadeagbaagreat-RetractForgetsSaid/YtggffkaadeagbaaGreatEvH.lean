/- Lemmas over the model, without conditions of their own: contracts of calls of plain values. -/
import Derived.Test.YtggffkaadeagbaaGreatEvG
open List renaming mem_of_getElem?->ash,getElem?_eq_some_iff->ar5,getElem?_eq_getElem->ar4,isEmpty_iff->atg,all_eq_true->asl,getElem_of_mem->auK,mk_mem_zipIdx_iff_getElem?->atd,foldl_cons->asI,mem_cons_of_mem->atE,filter_cons->awG,mem_cons_self->aup,getElem?_zipIdx->awi,getElem_zipIdx->avi,mem_cons->asZ
open Array renaming getD_eq_getD_getElem?->atl
open Go.Fence renaming wide->asz
open Nat renaming le_refl->ar9,le_trans->asr,blt->as_,beq->ase,ble->as4,blt_eq->av5,beq_eq->asL,testBit->ast
open Bool renaming and_eq_true->ar6,or_eq_true->asP
open Option renaming map_eq_some_iff->ar_
set_option linter.all false
namespace Go.Ev
variable{P:Program}{N ro:Nat}{ι:Io}{w:World}{σ:St}
inductive Pure:IV→Prop
 |raw (v:Value):Pure (.raw v)
 |agg (cs:List IV) (h:∀c∈cs,Pure c):Pure (.agg cs)
 |av (cs:List IV) (h:∀c∈cs,Pure c):Pure (.av cs)
 |emp:Pure .emp
 |cY (t:TypeId) (x:IV) (h:Pure x):Pure (.cY t x)
 |tree (s:Nat) (es:List IV) (h:∀e∈es,∀c∈cellsOf e,Pure c):Pure (.tree s es)
 |fn (f:Fn) (as bs:List IV) (h:∀c∈as,Pure c) (h2:∀c∈bs,Pure c):Pure (.fn f as bs)
abbrev eW(M:Fz):Io:=⟨fun _ _=>none,M⟩
theorem Pure.rv{M:Fz}{x:IV}(hp:Pure x):∀{v:Value},Rv ι x v→(∀b c,ι.m b=some c→M b=some c)→Rv (eW M) x v:=by
 induction hp with
 |raw v=>intro u h _;cases h;exact .raw v
 |agg cs _ ih=>intro u h hM;cases h with|agg _ vs hl hh=>exact .agg cs vs hl fun i c v h1 h2=>ih c (ash h1) (hh i c v h1 h2) hM
 |av cs _ ih=>intro u h hM;cases h with|av _ vs hl hh=>exact .av cs vs hl fun i c v h1 h2=>ih c (ash h1) (hh i c v h1 h2) hM
 |emp=>intro u h _;cases h;exact .emp _
 |cY t x _ ih=>intro u h hM;cases h with|cY _ _ v hh=>exact .cY t x v (ih hh hM)
 |tree s es _ ih=>
  intro u h hM;cases h with
  |tree _ _ b off c us hs hc bD hu hh=>exact .tree s es b off c us hs hc bD (fun k hk=>A7 hM (hu k hk)) fun i e j c h1 h2=>ih e (ash h1) c (ash h2) (hh i e j c h1 h2) hM
  |dW _ a c hs hn=>exact .dW s a c hs hn
 |fn f as bs _ _ ih eH=>
  intro u h hM;cases h with
  |fn _ _ _ cs ds hl hh fi wg=>exact .fn f as bs cs ds hl (fun i c v h1 h2=>ih c (ash h1) (hh i c v h1 h2) hM) fi (fun i c v h1 h2=>eH c (ash h1) (wg i c v h1 h2) hM)
inductive Can(fr:Bool)(σ:St):IV→IV→Prop
 |raw (v:Value):Can fr σ (.raw v) (.raw v)
 |nil (s:Nat) (hs:0<s):Can fr σ (.raw (.slice none 0 0)) (.tree s [])
 |emp (s:Nat) (hs:0<s):Can fr σ .emp (.tree s [])
 |cY (t:TypeId) (x y:IV) (h:Can fr σ x y):Can fr σ (.cY t x) (.cY t y)
 |agg (cs ds:List IV) (hl:cs.length=ds.length) (h:∀(i:Nat) c d,cs[i]?=some c→ds[i]?=some d→Can fr σ c d):Can fr σ (.agg cs) (.agg ds)
 |av (cs ds:List IV) (hl:cs.length=ds.length) (h:∀(i:Nat) c d,cs[i]?=some c→ds[i]?=some d→Can fr σ c d):Can fr σ (.av cs) (.av ds)
 |pure (x:IV) (hf:fr=true) (hp:Pure x):Can fr σ x x
 |dW (s:Nat):Can fr σ (.tree s []) (.tree s [])
 |sl (id off len:Nat) (cap:Option Nat) (ep s:Nat) (cs:List IV) (ar mn:Nat) (es:List IV) (az:σ.at id=some (.cells cs ar mn)) (h1:mn≤ep) (h2:ep≤ar) (hl:es.length=len) (hb:off+len*s≤cs.length)
   (bD:∀e∈es,(cellsOf e).length=s) (h:∀(i:Nat) e (j:Nat) c d,es[i]?=some e→(cellsOf e)[j]?=some d→cs[off+i*s+j]?=some c→Can fr σ c d):Can fr σ (.sl id off len cap ep s) (.tree s es)
theorem Can.rv{fr:Bool}{M:Fz}{x z:IV}(hi:Inv N ι σ w)(hM:∀b c el,w.heap[b]?=some (.cells c el (0,0))→(∃id,Own ι id b)→M b=some c)(hm:fr=true→∀b c,ι.m b=some c→M b=some c)
 (h:Can fr σ x z):∀{u:Value},Rv ι x u→Rv (eW M) z u:=by
 induction h with
 |raw v=>intro u h;cases h;exact .raw v
 |nil s hs=>intro u h;cases h;exact .dW s none 0 hs (fun _=>rfl)
 |emp s hs=>intro u h;cases h;exact .dW s _ 0 hs (fun _=>rfl)
 |cY t x y _ ih=>intro u h;cases h with|cY _ _ v hh=>exact .cY t y v (ih hh)
 |agg cs ds hl _ ih=>
  intro u h;cases h with
  |agg _ vs cd hh=>
   refine .agg ds vs (hl▸cd) fun i d v h1 h2=>?_;have cU:i<cs.length:=by have:=(ar5.1 h1).1;omega
   exact ih i _ d (ar4 cU) h1 (hh i _ v (ar4 cU) h2)
 |av cs ds hl _ ih=>
  intro u h;cases h with
  |av _ vs cd hh=>
   refine .av ds vs (hl▸cd) fun i d v h1 h2=>?_;have cU:i<cs.length:=by have:=(ar5.1 h1).1;omega
   exact ih i _ d (ar4 cU) h1 (hh i _ v (ar4 cU) h2)
 |pure x hf hp=>intro u h;exact hp.rv h (hm hf)
 |dW s=>
  intro u h;cases h with
  |tree _ _ b off c us hs hc bD hu hh=>exact .dW s _ c hs (by simp)
  |dW _ a c hs hn=>exact .dW s a c hs hn
 |sl id off len cap ep s cs ar mn es az h1 h2 hl hb bD _ ih=>
  intro u h;cases h with
  |sl _ _ _ _ _ _ l c a cd hn gH hs hle fv ha=>
   obtain⟨⟨_,_⟩,_,Ui⟩:=hi.obj id _ az;obtain⟨l',ca,el,fi,tQ,aiX,arj,ji⟩:=Ui ep h1 h2;rw[cd]at fi;cases fi;have hMb:M l.b=some ca:=hM _ _ _ aiX ⟨id,ep,l,cd,rfl⟩;subst hl;by_cases he:es=[]
   ·subst he;exact .dW s (some a) c hs (by simp)
   ·have om:0<es.length:=by cases es with|nil=>exact absurd rfl he|cons=>simp
    have Hr:=ha (by omega);subst Hr;refine .tree s es l.b off c (fun k=>ca.getD (off+k) Go.undef) hs hle bD (fun k hk=>?_) (fun i e j d cH CA=>?_)
    ·obtain⟨x,hx⟩:∃x,cs[off+k]?=some x:=⟨_,ar4 (by omega)⟩;obtain⟨v,hv,_⟩:=ji (off+k) x (by omega) hx;show(M l.b).bind _=_;rw[hMb];simp[atl,hv]
    ·have cU:=(ar5.1 cH).1;have kb:j<s:=by have:=(ar5.1 CA).1;rw[bD e (ash cH)]at this;exact this
     have hmul:i*s+s≤es.length*s:=by
      have:(i+1)*s≤es.length*s:=Nat.mul_le_mul_right s cU;rw[Nat.add_mul]at this;omega
     obtain⟨x,hx⟩:∃x,cs[off+i*s+j]?=some x:=⟨_,ar4 (by omega)⟩;obtain⟨v,hv,hr⟩:=ji (off+i*s+j) x (by omega) hx;have:=ih i e j x d cH CA hx hr;simp only[atl];rw[show off+(i*s+j)=off+i*s+j by omega,hv];exact this
def sE(M:Fz)(w:World):Prop:=∀b c,M b=some c→∃e f,w.heap[b]?=some (.cells c e f)
theorem sE.lt{M:Fz}(h:sE M w){b:Nat}{c:Array Value}(hb:M b=some c):b<w.heap.size:=by
 obtain⟨e,f,hh⟩:=h b c hb;rcases Nat.lt_or_ge b w.heap.size with aa|tL
 ·exact aa
 ·rw[Array.getElem?_eq_none tL]at hh;cases hh
def Dp(new:Bool)(M:Fz)(w:World)(z:IV)(u:Value)(w':World):Prop:=
 ∃M',sE M' w'∧(∀b c,M' b=some c→(new=false∧M b=some c)∨w.heap.size≤b)∧(new=false→∀b c,M b=some c→M' b=some c)∧Rv (eW M') z u∧
  w'.os=w.os∧w'.tape=w.tape∧w'.output=w.output∧w.heap.size≤w'.heap.size∧∀b,b<w.heap.size→w'.heap[b]?=w.heap[b]?
def ae5(bC new:Bool)(M:Fz)(w:World)(z:IV):Ending→World→Prop
 |.returned u,w'=>bC=false∧Dp new M w z u w'
 |.panicked ch,w'=>bC=true∧∃u,ch=[{v:=u,recovered:=false}]∧Dp new M w z u w'
 |.outgrown,_=>False
def dC(P:Program)(bC new:Bool)(f:FuncId)(xs:List IV)(z:IV):Prop:=
 ∀M w us,sE M w→ax (eW M) xs us→CallsIn asz 0 P f us.toArray w (ae5 bC new M w z)
theorem EA{M:Fz}(hM:sE M w):Inv N (eW M) ⟨0,.lf⟩ w:=
 ⟨hM,fun _ _ _ _ h=>(by obtain⟨_,_,h,_⟩:=h;cases h),fun _ _ h=>(by obtain⟨_,_,h,_⟩:=h;cases h),fun _ _ _ _=>rfl,fun _ _ _ h=>(by obtain⟨_,_,h,_⟩:=h;cases h),fun _ _ h=>(by cases h),fun _ _=>rfl⟩
def rA(new:Bool)(M:Fz)(w w':World):Fz:=fun b=>
 if b<w.heap.size then(if new then none else M b)else match w'.heap[b]? with
  |some (.cells c _ _)=>some c
  |_=>none
theorem RN{M:Fz}{new:Bool}{ah:St}{v z:IV}{w':World}{u:Value}(hM:sE M w)(hc:Can (!new) ah v z)(hu:Rv ι v u)(hi:Inv N ι ah w')(hl:Le 0 (eW M) w ⟨0,.lf⟩ ι w' ah):Dp new M w z u w':=by
 have sF:∀b,b<w.heap.size→w'.heap[b]?=w.heap[b]? :=fun b hb=>hl.frame b hb fun id ho=>(by obtain⟨_,_,h,_⟩:=ho;cases h);refine⟨rA new M w w',?_,?_,?_,?_,hl.os,hl.tape,hl.output,hl.size,sF⟩
 ·intro b c hb;unfold rA at hb;split at hb
  ·rename_i aa;split at hb
   ·cases hb
   ·rw[sF b aa];exact hM b c hb
  ·split at hb
   ·rename_i c' e f hh;cases hb;exact⟨e,f,hh⟩
   ·cases hb
 ·intro b c hb;unfold rA at hb;split at hb
  ·split at hb
   ·cases hb
   ·rename_i hn;exact .inl ⟨by simpa using hn,hb⟩
  ·exact .inr (by omega)
 ·intro hn b c hb;have aa:=hM.lt hb;unfold rA;rw[if_pos aa,if_neg (by simp[hn])];exact hb
 ·refine hc.rv hi ?_ ?_ hu
  ·intro b c el hh ho;obtain⟨id,ho⟩:=ho;rcases hl.own id b ho with ho|tL
   ·obtain⟨_,_,h,_⟩:=ho;cases h
   ·unfold rA;rw[if_neg (by omega),hh]
  ·intro hn b c hb;have CB:new=false:=by simpa using hn
   rcases hl.xq b c hb with wa|tL
   ·have aa:=hM.lt wa;unfold rA;rw[if_pos aa,if_neg (by simp[CB])];exact wa
   ·obtain⟨e,f,hh⟩:=hi.mem b c hb;unfold rA;rw[if_neg (by omega),hh]
theorem dC.of{new:Bool}{f:FuncId}{xs:List IV}{v z:IV}{ah:St}(h:eK P 0 f xs ⟨0,.lf⟩ v ah)(hc:Can (!new) ah v z):dC P false new f xs z:=by
 intro M w us hM hr;refine(h.2 ah.n (ar9 _) (eW M) us w (EA hM) hr).mono fun e w' hR=>?_;cases e with
 |returned u=>
  obtain⟨ay,h1,h2,h3⟩:=hR;exact⟨rfl,RN hM hc h1 h2 h3⟩
 |panicked ch=>exact hR.elim
 |outgrown=>exact hR.elim
theorem xc{M:Fz}{new:Bool}{z:IV}{u:Value}{w':World}(hi:Inv N ι σ w)(hM:new=false→∀b c,ι.m b=some c↔M b=some c)(h:Dp new M w z u w'):∃ay,Rv ay z u∧Inv N ay σ w'∧Le ro ι w σ ay w' σ:=by
 obtain⟨M',h1,h2,h3,h4,h5,h6,h7,h8,h9⟩:=h;have hm:sE ι.m w:=hi.mem
 have hold:∀b c,ι.m b=some c→(fun b=>if b<w.heap.size then ι.m b else M' b) b=some c:=by
  intro b c hb;simp only[if_pos (hm.lt hb)];exact hb
 have anB:∀b c,M' b=some c→(fun b=>if b<w.heap.size then ι.m b else M' b) b=some c:=by
  intro b c hb;by_cases aa:b<w.heap.size
  ·simp only[if_pos aa];rcases h2 b c hb with⟨hn,wa⟩|tL
   ·exact(hM hn b c).2 wa
   ·omega
  ·simp only[if_neg aa];exact hb
 have iV:Ext ι ⟨ι.f,fun b=>if b<w.heap.size then ι.m b else M' b⟩:=⟨fun _ _ _ h=>h,hold⟩;refine⟨⟨ι.f,fun b=>if b<w.heap.size then ι.m b else M' b⟩,h4.mono ⟨fun _ _ _ h=>(by cases h),anB⟩,⟨?_,?_,?_,hi.fresh,hi.inj,?_,hi.wf⟩,⟨iV,fun _ _ h=>.inl h,fun _ _ _ _=>rfl,fun _ h _=>h,fun _ _ _=>rfl,ar9 _,h5,h6,h7,h8,fun b hb _=>h9 b hb,?_⟩⟩
 ·intro b c hb;simp only at hb;split at hb
  ·rename_i aa;obtain⟨e,f,hh⟩:=hi.mem b c hb;exact⟨e,f,by rw[h9 b aa];exact hh⟩
  ·exact h1 b c hb
 ·intro b c id hb ho;simp only at hb;split at hb
  ·exact hi.sep b c id hb ho
  ·rename_i tL;exact tL (hi.jA id b ho)
 ·intro id b ho;exact Nat.lt_of_lt_of_le (hi.jA id b ho) h8
 ·intro id o ho;exact(hi.obj id o ho).keep iV (fun _=>rfl) fun b hb=>h9 b (hi.jA id b hb)
 ·intro b c hb;simp only at hb;split at hb
  ·exact .inl hb
  ·rename_i tL;exact .inr (by omega)
theorem ax.pure{M:Fz}{xs:List IV}{us:List Value}(hp:∀x∈xs,Pure x)(h:ax ι xs us)(hM:∀b c,ι.m b=some c→M b=some c):ax (eW M) xs us:=
 ⟨h.1,fun i c v h1 h2=>(hp c (ash h1)).rv (h.2 i c v h1 h2) hM⟩
def uf(fr:Bool)(σ:St)(cs ds:List IV):Prop:=cs.length=ds.length∧∀(i:Nat) c d,cs[i]?=some c→ds[i]?=some d→Can fr σ c d
theorem uf.nil{fr:Bool}:uf fr σ [] []:=⟨rfl,fun i c d h=>by simp at h⟩
theorem uf.cons{fr:Bool}{c d:IV}{cs ds:List IV}(h:Can fr σ c d)(hs:uf fr σ cs ds):uf fr σ (c::cs) (d::ds):=by
 refine⟨by simp[hs.1],fun i=>?_⟩;cases i with
 |zero=>intro c' v' h1 h2;simp at h1 h2;subst h1 h2;exact h
 |succ i=>intro c' v' h1 h2;simp at h1 h2;exact hs.2 i c' v' h1 h2
def allM(w:World):Fz:=fun b=>match w.heap[b]? with
 |some (.cells c _ _)=>some c
 |_=>none
theorem RO{b:Nat}{c:Array Value}{e:TypeId}{f:Nat×Nat}(h:w.heap[b]?=some (.cells c e f)):allM w b=some c:=by unfold allM;rw[h]
theorem An:sE (allM w) w:=by
 intro b c hb;unfold allM at hb;split at hb
 ·rename_i hh;cases hb;exact⟨_,_,hh⟩
 ·cases hb
theorem uf.rv{xs zs:List IV}{us:List Value}(hc:uf true σ xs zs)(hi:Inv N ι σ w)(h:ax ι xs us):ax (eW (allM w)) zs us:=by
 refine⟨hc.1▸h.1,fun i z u h1 h2=>?_⟩;have cU:i<xs.length:=by have:=(ar5.1 h1).1;have:=hc.1;omega
 refine(hc.2 i _ z (ar4 cU) h1).rv hi (fun b c el hh _=>RO hh) (fun _ b c hb=>?_) (h.2 i _ u (ar4 cU) h2);obtain⟨e,f,hh⟩:=hi.mem b c hb;exact RO hh
theorem dC.call{f:FuncId}{xs:List IV}{z:IV}(h:dC P false false f xs z)(hp:∀x∈xs,Pure x):eK P ro f xs σ z σ:=by
 refine⟨ar9 _,fun N hN ι us w hi hr=>?_⟩;refine(h ι.m w us hi.mem (hr.pure hp fun _ _ h=>h)).mono fun e w' hR=>?_;cases e with
 |returned u=>exact xc hi (fun _ _ _=>Iff.rfl) hR.2
 |panicked ch=>exact absurd hR.1 (by simp)
 |outgrown=>exact hR.elim
theorem dC.EB{f:FuncId}{args xs:List IV}{z:IV}(h:dC P false true f xs z)(hc:uf true σ args xs):eK P ro f args σ z σ:=by
 refine⟨ar9 _,fun N hN ι us w hi hr=>?_⟩;refine(h (allM w) w us An (hc.rv hi hr)).mono fun e w' hR=>?_;cases e with
 |returned u=>exact xc hi (fun hn=>by cases hn) hR.2
 |panicked ch=>exact absurd hR.1 (by simp)
 |outgrown=>exact hR.elim
theorem dC.bC{f:FuncId}{xs:List IV}{z:IV}(h:dC P true false f xs z)(hp:∀x∈xs,Pure x):Jl P ro f xs σ z σ:=by
 refine⟨ar9 _,fun N hN ι us w hi hr=>?_⟩;refine(h ι.m w us hi.mem (hr.pure hp fun _ _ h=>h)).mono fun e w' hR=>?_;cases e with
 |returned u=>exact absurd hR.1 (by simp)
 |panicked ch=>
  obtain⟨_,u,rfl,hR⟩:=hR;obtain⟨ay,h1,h2,h3⟩:=xc (ro:=ro) hi (fun _ _ _=>Iff.rfl) hR;exact⟨ay,⟨u,rfl,h1⟩,h2,h3⟩
 |outgrown=>exact hR.elim
theorem dC.cu{bC:Bool}{f:FuncId}{xs:List IV}{z:IV}(h:dC P bC true f xs z):dC P bC false f xs z:=by
 have key:∀{M:Fz} {w w':World} {u:Value},sE M w→Dp true M w z u w'→Dp false M w z u w':=by
  intro M w w' u hM h;obtain⟨M',h1,h2,h3,h4,h5,h6,h7,h8,h9⟩:=h;have dG:∀b c,M' b=some c→w.heap.size≤b:=fun b c hb=>(h2 b c hb).elim (fun h=>by cases h.1) fun h=>h;refine⟨fun b=>if b<w.heap.size then M b else M' b,?_,?_,?_,h4.mono ⟨fun _ _ _ h=>(by cases h),?_⟩,h5,h6,h7,h8,h9⟩
  ·intro b c hb;simp only at hb;split at hb
   ·rename_i aa;rw[h9 b aa];exact hM b c hb
   ·exact h1 b c hb
  ·intro b c hb;simp only at hb;split at hb
   ·exact .inl ⟨rfl,hb⟩
   ·rename_i tL;exact .inr (by omega)
  ·intro _ b c hb;simp only[if_pos (hM.lt hb)];exact hb
  ·intro b c hb;have:=dG b c hb;simp only[if_neg (show¬b<w.heap.size by omega)];exact hb
 intro M w us hM hr;refine(h M w us hM hr).mono fun e w' hR=>?_;cases e with
 |returned u=>exact⟨hR.1,key hM hR.2⟩
 |panicked ch=>obtain⟨h1,u,h2,h3⟩:=hR;exact⟨h1,u,h2,key hM h3⟩
 |outgrown=>exact hR.elim
def bY(args:List IV)(n:Nat):Env:=args.zipIdx.foldl (fun e (v,i)=>e.put (some i) v) ⟨n,.lf⟩
section body
variable{S:Self}{f:FuncId}{fn:Func}{c:Code}{args:List IV}{e1:Env}{df:List Df}{ai ah:St}{ex:Ex}{v:IV}
theorem NC{m:Nat}{mi mo:Option IV}{R:Ending→World→Prop}(hC:dL P S)(hk:br S)(bA:P.funcs[f]?=some fn)(hb:fn.body=some c)(hlen:args.length≤fn.ntmps)
 (h1:bW P ro none f c (bY args fn.ntmps) [] σ ⟨ex,e1,df,ai⟩)(hex:((ex=.normal∨ex=.ret)∧mi=none)∨∃v,ex=.bC v∧mi=some v)
 (h2:eM S ro df mi ai=some (mo,ah))(hN:ah.n≤m){us:List Value}(hi:Inv m ι σ w)(hr:ax ι args us)
 (hQ:∀ts w' ay u',Inv m ay ah w'→Le ro ι w σ ay w' ah→cM ay e1 ts→l_ ay mo u'→LeavesIn asz 0 P fn ts R [] u' w'):CallsIn asz 0 P f us.toArray w R:=by
 have mN:=fY hk h2;have cX:ai.n≤m:=by omega
 refine callsIn_of_wp_marks bA hb trivial ?_;refine h1.wp (a:={tmps:=us.toArray++Array.replicate (fn.ntmps- us.toArray.size) Go.undef,defers:=[]}) cX (.inl ⟨rfl,rfl⟩) hi (ud hr hlen) trivial ?_;intro a1 w1 bN dU i1 l1 cg d1 p1
 have:∀u,l_ bN mi u→LeavesInM asz 0 P fn a1.tmps R a1.defers u w1:=fun u hu=>
  oY hC hk h2 d1 hu i1 hN fun w2 mL u2 i2 l2 qF=>hQ a1.tmps w2 mL u2 i2 (Le.then hi cX l1 l2) (cg.mono l2.ext) qF
 rcases hex with⟨rfl|rfl,rfl⟩|⟨v,rfl,rfl⟩
 ·exact this _ rfl
 ·exact this _ rfl
 ·obtain⟨u,rfl,hu⟩:=p1;exact this _ ⟨u,rfl,hu⟩
theorem eK.Uj{mi:Option IV}(hC:dL P S)(hk:br S)(bA:P.funcs[f]?=some fn)(hb:fn.body=some c)(hlen:args.length≤fn.ntmps)
 (h1:bW P ro none f c (bY args fn.ntmps) [] σ ⟨ex,e1,df,ai⟩)(hex:((ex=.normal∨ex=.ret)∧mi=none)∨∃v,ex=.bC v∧mi=some v)
 (h2:eM S ro df mi ai=some (none,ah))(hv:bt P fn e1 ah=some v):eK P ro f args σ v ah:=by
 refine⟨asr h1.1 (fY hk h2),fun N hN ι us w hi hr=>?_⟩;refine NC hC hk bA hb hlen h1 hex h2 hN hi hr fun ts w' ay u' i1 l1 cg hu=>?_;rw[show u'=_ from hu];obtain⟨u,k1,k2⟩:=pK hv i1 cg;exact⟨u,k1,ay,k2,i1,l1⟩
theorem Jl.Uj{mi:Option IV}(hC:dL P S)(hk:br S)(bA:P.funcs[f]?=some fn)(hb:fn.body=some c)(hlen:args.length≤fn.ntmps)
 (h1:bW P ro none f c (bY args fn.ntmps) [] σ ⟨ex,e1,df,ai⟩)(hex:((ex=.normal∨ex=.ret)∧mi=none)∨∃v,ex=.bC v∧mi=some v)
 (h2:eM S ro df mi ai=some (some v,ah)):Jl P ro f args σ v ah:=by
 refine⟨asr h1.1 (fY hk h2),fun N hN ι us w hi hr=>?_⟩;refine NC hC hk bA hb hlen h1 hex h2 hN hi hr fun ts w' ay u' i1 l1 cg hu=>?_;obtain⟨x,rfl,hx⟩:=hu;exact⟨ay,⟨x,rfl,hx⟩,i1,l1⟩
theorem k_:dL P Self.none∧br Self.none:=
 ⟨⟨fun _ _ _ _ _ _ _ h=>(by cases h),fun _ _ _ _ _ _ _ h=>(by cases h),fun _ _ _ _ _ _ _ _ h=>(by cases h),fun _ _ _ _ _ _ _ h=>(by cases h)⟩,⟨fun _ _ _ _ _ _ h=>(by cases h),fun _ _ _ _ _ _ h=>(by cases h),fun _ _ _ _ _ _ _ h=>(by cases h)⟩⟩
theorem eK.body(bA:P.funcs[f]?=some fn)(hb:fn.body=some c)(hlen:args.length≤fn.ntmps)
 (h1:bW P ro none f c (bY args fn.ntmps) [] σ ⟨ex,e1,[],ah⟩)(hex:ex=.normal∨ex=.ret)(hv:bt P fn e1 ah=some v):eK P ro f args σ v ah:=
 .Uj (k_ (P:=P)).1 (k_ (P:=P)).2 bA hb hlen h1 (.inl ⟨hex,rfl⟩) rfl hv
theorem Jl.body(bA:P.funcs[f]?=some fn)(hb:fn.body=some c)(hlen:args.length≤fn.ntmps)
 (h1:bW P ro none f c (bY args fn.ntmps) [] σ ⟨.bC v,e1,[],ah⟩):Jl P ro f args σ v ah:=
 .Uj (k_ (P:=P)).1 (k_ (P:=P)).2 bA hb hlen h1 (.inr ⟨_,rfl,rfl⟩) rfl
end body
end Go.Ev
namespace Go.Ev
open Go.RowKit
variable{P:Program}
def Uk:Value→Value→Bool
 |.int k n,.int k' n'=>decide (k=k')&&decide (n=n')
 |.bool a,.bool b=>a==b
 |.string a,.string b=>decide (a=b)
 |_,_=>false
theorem Z7{a b:Value}(h:Uk a b=true):a=b:=by
 unfold Uk at h;split at h
 ·simp only[ar6,decide_eq_true_eq]at h;rw[h.1,h.2]
 ·rw[beq_iff_eq]at h;rw[h]
 ·rw[decide_eq_true_eq]at h;rw[h]
 ·cases h
def Dq(p:IV→IV→Bool):List IV→List IV→Bool
 |[],[]=>true
 |a::as,b::bs=>p a b&&Dq p as bs
 |_,_=>false
theorem wx{p:IV→IV→Bool}:∀{as bs:List IV},Dq p as bs=true→as.length=bs.length∧∀(i:Nat) a b,as[i]?=some a→bs[i]?=some b→p a b=true
 |[],[],_=>⟨rfl,fun i a b h=>by simp at h⟩
 |a::as,b::bs,h=>by
  simp only[Dq,ar6]at h;obtain⟨h1,h2⟩:=wx h.2;refine⟨by simp[h1],fun i=>?_⟩;cases i with
  |zero=>intro a' b' e1 e2;simp at e1 e2;subst e1 e2;exact h.1
  |succ i=>intro a' b' e1 e2;simp at e1 e2;exact h2 i a' b' e1 e2
 |[],_::_,h=>by simp[Dq]at h
 |_::_,[],h=>by simp[Dq]at h
def Dr(σ:St):Nat→IV→IV→Bool
 |0,_,_=>false
 |f+1,x,z=>
  match z with
  |.raw u=>match x with
   |.raw v=>Uk v u
   |_=>false
  |.agg ds=>match x with
   |.agg cs=>Dq (Dr σ f) cs ds
   |_=>false
  |.av ds=>match x with
   |.av cs=>Dq (Dr σ f) cs ds
   |_=>false
  |.tree s es=>match x with
   |.raw (.slice none l c)=>es.isEmpty&&as_ 0 s&&ase l 0&&ase c 0
   |.emp=>es.isEmpty&&as_ 0 s
   |.tree s' aB=>es.isEmpty&&aB.isEmpty&&ase s s'
   |.sl id off len _ ep s'=>match σ.at id with
    |some (.cells cs ar mn)=>as4 mn ep&&as4 ep ar&&ase es.length len&&as4 (off+len*s) cs.length&&ase s s'&&
      es.zipIdx.all fun(e,i)=>ase (cellsOf e).length s&&(cellsOf e).zipIdx.all fun(d,j)=>match cs[off+i*s+j]? with
       |some c=>Dr σ f c d
       |none=>true
    |_=>false
   |_=>false
  |_=>false
theorem sG{fr:Bool}{σ:St}:∀{f:Nat} {x z:IV},Dr σ f x z=true→Can fr σ x z
 |0,_,_,h=>by simp[Dr]at h
 |f+1,x,z,h=>by
  unfold Dr at h;split at h
  ·split at h
   ·rw[Z7 h];exact .raw _
   ·cases h
  ·split at h
   ·obtain⟨h1,h2⟩:=wx h;exact .agg _ _ h1 fun i c d e1 e2=>sG (h2 i c d e1 e2)
   ·cases h
  ·split at h
   ·obtain⟨h1,h2⟩:=wx h;exact .av _ _ h1 fun i c d e1 e2=>sG (h2 i c d e1 e2)
   ·cases h
  ·split at h
   ·rename_i es _ l c;simp only[ar6,atg,av5,asL]at h;obtain⟨⟨⟨h1,h2⟩,h3⟩,h4⟩:=h;subst h1 h3 h4;exact .nil _ h2
   ·simp only[ar6,atg,av5]at h;obtain⟨h1,h2⟩:=h;subst h1;exact .emp _ h2
   ·simp only[ar6,atg,asL]at h;obtain⟨⟨h1,h2⟩,h3⟩:=h;subst h1 h2 h3;exact .dW _
   ·split at h
    ·rename_i az;simp only[ar6,asL,Nat.ble_eq,asl]at h;obtain⟨⟨⟨⟨⟨h1,h2⟩,h3⟩,h4⟩,h5⟩,h6⟩:=h;subst h5;refine .sl _ _ _ _ _ _ _ _ _ _ az h1 h2 h3 h4 (fun e he=>?_) fun i e j c d e1 e2 e3=>?_
     ·obtain⟨i,hi,rfl⟩:=auK he;exact(h6 (_,i) (atd.2 (ar4 hi))).1
     ·have:=(h6 (e,i) (atd.2 e1)).2 (d,j) (atd.2 e2);simp only[e3]at this;exact sG this
    ·cases h
   ·cases h
  ·cases h
abbrev Hk:=FuncId→List (List IV×IV)
def hit(σ:St)(args:List IV):List (List IV×IV)→Option IV
 |[]=>none
 |(xs,z)::l=>if Dq (Dr σ 40) args xs then some z else hit σ args l
theorem KH{σ:St}{args:List IV}{z:IV}:∀{l:List (List IV×IV)},hit σ args l=some z→∃xs,(xs,z)∈l∧uf true σ args xs
 |[],h=>by cases h
 |(xs,y)::l,h=>by
  rw[hit]at h;split at h
  ·rename_i ha;cases h;obtain⟨h1,h2⟩:=wx ha;exact⟨xs,.head _,h1,fun i c d e1 e2=>sG (h2 i c d e1 e2)⟩
  ·obtain⟨nI,h1,h2⟩:=KH h;exact⟨nI,.tail _ h1,h2⟩
def ND(H:Hk)(S:Self):Self:=⟨S.code,fun ro f args σ=>match hit σ args (H f)with
 |some z=>some (z,σ)
 |none=>S.call ro f args σ,S.bC,S.vY⟩
def RP(P:Program)(H:Hk)(n:Nat):Self:=Nat.rec Self.none (fun _ S=>ND H (lk P S)) n
theorem WN{H:Hk}{S:Self}(hH:∀f xs z,(xs,z)∈H f→dC P false true f xs z)(hC:dL P S):dL P (ND H S) where
 call:=by
  intro N ro f args σ v ah h hN ι us w hi hr;simp only[ND]at h;split at h
  ·rename_i z hz;cases h;obtain⟨xs,h1,h2⟩:=KH hz;exact((hH f xs _ h1).EB (ro:=ro) h2).2 N hN ι us w hi hr
  ·exact hC.call N ro f args σ v ah h hN ι us w hi hr
 bC:=hC.bC
 vY:=hC.vY
 my:=hC.my
theorem WO{H:Hk}{S:Self}(hk:br S):br (ND H S) where
 call:=by
  intro ro f args σ v ah h;simp only[ND]at h;split at h
  ·cases h;exact ar9 _
  ·exact hk.call ro f args σ v ah h
 bC:=hk.bC
 vY:=hk.vY
theorem WQ(eT:P.follows .mixedOrders=true){H:Hk}(hH:∀f xs z,(xs,z)∈H f→dC P false true f xs z):∀n,gM P (RP P H n) n∧dL P (RP P H n)∧bQ (RP P H n)∧br (RP P H n)
 |0=>abL (fun _ _ h1 h2 h3 h4=>RM eT h1 h2 h3 h4) 0
 |n+1=>by
  obtain⟨h1,h2,h3,h4⟩:=WQ eT hH n;exact⟨RD h1 h2 h3 h4 (RM eT h1 h2 h3 h4),WN hH (Ji h1 h2 h3 h4),Kt h3 h4,WO (Dc h3 h4)⟩
def comes(r:Option (IV×St))(z:IV):Bool:=
 match r with
 |some (v,σ)=>Dr σ 40 v z
 |none=>false
theorem dC.run(eT:P.follows .mixedOrders=true){H:Hk}(hH:∀f xs z,(xs,z)∈H f→dC P false true f xs z){n:Nat}{new:Bool}{f:FuncId}{xs:List IV}{z:IV}(h:comes ((RP P H n).call 0 f xs ⟨0,.lf⟩) z=true):dC P false new f xs z:=by
 unfold comes at h;split at h
 ·rename_i v σ hc;obtain⟨_,h2,_,h4⟩:=WQ eT hH n;exact dC.of ⟨h4.call _ _ _ _ _ _ hc,fun N hN ι us w hi hr=>h2.call N 0 f xs _ _ _ hc hN ι us w hi hr⟩ (sG h)
 ·cases h
end Go.Ev
namespace Go.Ev
namespace T
variable{α:Type}
inductive WF:T α→Prop
 |lf:WF .lf
 |nd (l:T α) (v:Option α) (r:T α) (hl:WF l) (hr:WF r) (h:v.isSome=true∨(∃i,(l.get i).isSome=true)∨∃i,(r.get i).isSome=true):WF (.nd l v r)
theorem Gq(l:T α)(v:Option α)(r:T α)(i:Nat):(T.nd l v r).get (2*i+1)=l.get i:=by
 rw[vj,if_neg (by omega),if_pos (by omega)];congr 1;omega
theorem Ds(l:T α)(v:Option α)(r:T α)(i:Nat):(T.nd l v r).get (2*i+2)=r.get i:=by
 rw[vj,if_neg (by omega),if_neg (by omega)];congr 1;omega
theorem Gr(l:T α)(v:Option α)(r:T α):(T.nd l v r).get 0=v:=by rw[vj,if_pos rfl]
theorem WF.key{l:T α}{v:Option α}{r:T α}(h:WF (.nd l v r)):∃i,((T.nd l v r).get i).isSome=true:=by
 cases h with
 |nd _ _ _ _ _ h=>
  rcases h with h|⟨i,h⟩|⟨i,h⟩
  ·exact⟨0,by rw[Gr];exact h⟩
  ·exact⟨2*i+1,by rw[Gq];exact h⟩
  ·exact⟨2*i+2,by rw[Ds];exact h⟩
theorem WF.ext:∀{t t':T α},WF t→WF t'→(∀i,t.get i=t'.get i)→t=t'
 |.lf,.lf,_,_,_=>rfl
 |.lf,.nd l v r,_,h',he=>by
  obtain⟨i,hi⟩:=h'.key;rw[←he i]at hi;cases hi
 |.nd l v r,.lf,h,_,he=>by
  obtain⟨i,hi⟩:=h.key;rw[he i]at hi;cases hi
 |.nd l v r,.nd l' v' r',.nd _ _ _ hl hr _,.nd _ _ _ cd tO _,he=>by
  have e0:v=v':=by have:=he 0;rwa[Gr,Gr]at this
  have e1:l=l':=hl.ext cd fun i=>by have:=he (2*i+1);rwa[Gq,Gq]at this
  have e2:r=r':=hr.ext tO fun i=>by have:=he (2*i+2);rwa[Ds,Ds]at this
  rw[e0,e1,e2]
theorem ady:∀(f:Nat) (t:T α) (i:Nat) (x:α),i<f→WF t→WF (qn f t i x):=by
 intro f;induction f with
 |zero=>intro t i x h;omega
 |succ f ih=>
  intro t i x h hw
  have key:∀(l:T α) (v:Option α) (r:T α),WF l→WF r→WF (qn (f+1) (.nd l v r) i x):=by
   intro l v r hl hr;rw[Ro];by_cases hi:i=0
   ·rw[if_pos hi];exact .nd _ _ _ hl hr (.inl rfl)
   ·rw[if_neg hi];by_cases ho:i % 2=1
    ·rw[if_pos ho];exact .nd _ _ _ (ih _ _ _ (by omega) hl) hr (.inr (.inl ⟨i/2,by rw[F9 _ _ _ _ _ (by omega),if_pos rfl];rfl⟩))
    ·rw[if_neg ho];exact .nd _ _ _ hl (ih _ _ _ (by omega) hr) (.inr (.inr ⟨i/2- 1,by rw[F9 _ _ _ _ _ (by omega),if_pos rfl];rfl⟩))
  cases t with
  |lf=>rw[Rp];exact key _ _ _ .lf .lf
  |nd l v r=>cases hw with|nd _ _ _ hl hr _=>exact key l v r hl hr
theorem WF.set{t:T α}(h:WF t)(i:Nat)(x:α):WF (t.set i x):=ady _ _ _ _ (by omega) h
end T
variable{P:Program}{ro:Nat}{σ:St}{ρ:Operand→IV}{o:Oper}{out:ez}
def Dt(σ:St):ez→Prop
 |.val _ ah=>σ.t.WF→ah.t.WF
 |_=>True
theorem xI{v:IV}{ah:St}(hle:σ.t.WF→ah.t.WF)(h:ret v ah=some out):Dt σ out:=by rw[aE h];exact hle
theorem EC{v:IV}(h:ret v σ=some out):Dt σ out:=xI (fun h=>h) h
theorem Du{v:IV}{id:Nat}{ob:Ob}(h:ret v (σ.put id ob)=some out):Dt σ out:=xI (ah:=σ.put id ob) (fun h=>h.set _ _) h
theorem adz{v:IV}{id bp:Nat}{ob eF:Ob}(h:ret v ((σ.put id ob).put bp eF)=some out):Dt σ out:=xI (ah:=(σ.put id ob).put bp eF) (fun h=>(h.set _ _).set _ _) h
theorem WR{v:IV}{ob:Ob}(h:ret v (σ.add ob)=some out):Dt σ out:=xI (fun h=>h.set _ _) h
theorem KI{kt:TypeId}{m k v:IV}{ah:St}(h:oS P ro kt m k v σ=some ah):σ.t.WF→ah.t.WF:=by
 unfold oS at h
 repeat' split at h
 all_goals first|(cases h;done)|(cases h;exact fun h=>h.set _ _)
theorem WS{f:IV}{args:List IV}(h:gd P f args=some out):Dt σ out:=by
 unfold gd at h
 repeat' split at h
 all_goals first|(cases h;done)|(cases h;exact trivial)
theorem WT{x:IV}{name:String}{args:List IV}(h:tZ P x name args=some out):Dt σ out:=by
 unfold tZ at h
 repeat' split at h
 all_goals first|(cases h;done)|(cases h;exact trivial)
theorem WU{argTypes:Array TypeId}{s x:IV}(h:jZ P ro argTypes s x σ=some out):Dt σ out:=by
 have hn:∀{size aO n:Nat} {new:List IV} {s:IV},ff size aO n new s σ=some out→Dt σ out:=by
  intro size aO n new s h;unfold ff at h;split at h
  ·split at h
   ·exact WR h
   ·cases h
  ·cases h
 unfold jZ at h;split at h
 ·split at h
  ·split at h
   ·split at h
    ·cases h
    ·split at h
     ·split at h
      ·unfold eA at h
       repeat' split at h
       all_goals first|exact EC h|exact Du h|exact adz h|exact hn h|cases h
      ·cases h
     ·cases h
   ·cases h
  ·cases h
 ·cases h
theorem Ul{b:Builtin}{argTypes:Array TypeId}{args:List IV}(h:du P ro b argTypes args σ=some out):Dt σ out:=by
 unfold du at h;split at h
 ·split at h
  ·exact WU h
  ·cases h
 ·split at h
  ·rw[ar_]at h;obtain⟨z,_,rfl⟩:=h;exact fun h=>h
  ·cases h
 ·split at h
  ·rw[ar_]at h;obtain⟨z,_,rfl⟩:=h;exact fun h=>h
  ·cases h
 ·rw[ar_]at h;obtain⟨z,_,rfl⟩:=h;exact fun h=>h
 ·rw[ar_]at h;obtain⟨z,_,rfl⟩:=h;exact fun h=>h
 ·split at h
  ·unfold w9 at h
   repeat' split at h
   all_goals first|exact Du h|(cases h;done)
  ·cases h
 ·split at h
  ·unfold si at h
   repeat' split at h
   all_goals first|exact EC h|exact Du h|(cases h;done)
  ·cases h
 ·split at h
  ·unfold Er at h
   repeat' split at h
   all_goals first|exact EC h|exact Du h|(cases h;done)
  ·cases h
 ·cases h
theorem ae6(h:ak P ro ρ o σ=some out):Dt σ out:=by
 unfold ak at h;cases ho:o.op<;>rw[ho]at h<;>(try dsimp only at h)
 case call c=>
  split at h
  ·exact Ul h
  ·exact WS h
  ·exact WT h
 case defer c=>
  split at h
  ·split at h
   ·cases h;exact trivial
   ·cases h
  ·cases h
 case mapUpdate=>
  split at h
  ·split at h
   ·rename_i ah hs;exact xI (KI hs) h
   ·cases h
  ·cases h
 case insert=>
  split at h
  ·split at h
   ·rename_i ah hs;exact xI (KI hs) h
   ·cases h
  ·cases h
 all_goals (repeat' split at h)
 all_goals first|exact EC h|exact Du h|exact WR h|(cases h;done)|(cases h;exact trivial)
theorem Um{v:IV}{ah:St}(h:ak P ro ρ o σ=some (.val v ah))(hw:σ.t.WF):ah.t.WF:=ae6 h hw
theorem Dv{v:IV}{ai:St}(hk:cZ o=.pure)(h:ak P ro ρ o σ=some (.val v ai)):ai=σ∧∀fO ah,ak P fO ρ o ah=some (.val v ah):=by
 unfold cZ at hk;unfold ak at h⊢;cases ho:o.op<;>rw[ho]at h hk<;>(try dsimp only at h hk⊢)<;>(try (cases hk;done))
 case call c=>
  obtain⟨callee,argTypes,args⟩:=c;cases callee with
  |builtin b=>
   cases b<;>simp only at hk<;>(try (cases hk;done))
   all_goals
    simp only[du]at h⊢
    first
    |(rw[ar_]at h
      obtain⟨z,hz,he⟩:=h;cases he;exact⟨rfl,fun _ _=>by rw[hz];rfl⟩)
    |(split at h
      ·rename_i hx;rw[ar_]at h;obtain⟨z,hz,he⟩:=h;cases he;exact⟨rfl,fun _ _=>by rw[hz];rfl⟩
      ·cases h)
  |value f=>cases hk
  |invoke r m=>cases hk
 all_goals (repeat' split at h)
 all_goals first
  |(cases h;done)
  |(cases h;exact⟨rfl,fun _ _=>by simp_all[ret]⟩)
theorem Dw{v:IV}{ai:St}(hk:cZ o=.load)(h:ak P ro ρ o σ=some (.val v ai)):ai=σ∧∀fO,ak P fO ρ o σ=some (.val v σ):=by
 unfold cZ at hk;unfold ak at h⊢;cases ho:o.op<;>rw[ho]at h hk<;>(try dsimp only at h hk⊢)<;>(try (cases hk;done))
 case call c=>
  obtain⟨callee,argTypes,args⟩:=c;cases callee with
  |builtin b=>
   cases b<;>simp only at hk<;>(try (cases hk;done));simp only[du]at h⊢;split at h
   ·rename_i hx;rw[ar_]at h;obtain⟨z,hz,he⟩:=h;cases he;exact⟨rfl,fun _=>by rw[hz];rfl⟩
   ·cases h
  |value f=>cases hk
  |invoke r m=>cases hk
 all_goals (repeat' split at h)
 all_goals first
  |(cases h;done)
  |(cases h;exact⟨rfl,fun _=>by simp_all[ret]⟩)
theorem ae7(σ:St)(ob:Ob):(St.add ⟨σ.n,.lf⟩ ob)=⟨(σ.add ob).n,T.lf.set σ.n ob⟩:=rfl
theorem HF{v:IV}{ai:St}(hk:cZ o=.alloc)(h:ak P ro ρ o σ=some (.val v ai)):
 ∃t,(∀fO,ak P fO ρ o ⟨σ.n,.lf⟩=some (.val v ⟨ai.n,t⟩))∧((ai=σ∧t=.lf)∨∃ob,ai=σ.add ob∧t=T.lf.set σ.n ob):=by
 unfold cZ at hk;unfold ak at h⊢;cases ho:o.op<;>rw[ho]at h hk<;>(try dsimp only at h hk⊢)<;>(try (cases hk;done))
 case call c=>
  obtain⟨callee,argTypes,args⟩:=c;cases callee with
  |builtin b=>cases b<;>cases hk
  |value f=>cases hk
  |invoke r m=>cases hk
 all_goals (repeat' split at h)
 all_goals first
  |(cases h;done)
  |(cases h;exact⟨_,fun _=>by simp_all[ret,ae7],.inr ⟨_,rfl,rfl⟩⟩)
  |(cases h;exact⟨_,fun _=>by simp_all[ret],.inl ⟨rfl,rfl⟩⟩)
theorem xJ{b:Builtin}{argTypes:Array TypeId}{args:List IV}{f:FuncId}{as:List IV}(h:du P ro b argTypes args σ=some (.enter f as)):False:=by
 unfold du at h;split at h
 ·split at h
  ·obtain⟨_,_,he⟩:=FD h;cases he
  ·cases h
 ·split at h
  ·rw[ar_]at h;obtain⟨z,_,he⟩:=h;cases he
  ·cases h
 ·split at h
  ·rw[ar_]at h;obtain⟨z,_,he⟩:=h;cases he
  ·cases h
 ·rw[ar_]at h;obtain⟨z,_,he⟩:=h;cases he
 ·rw[ar_]at h;obtain⟨z,_,he⟩:=h;cases he
 ·split at h
  ·unfold w9 at h
   repeat' split at h
   all_goals cases h
  ·cases h
 ·split at h
  ·unfold si at h
   repeat' split at h
   all_goals cases h
  ·cases h
 ·split at h
  ·unfold Er at h
   repeat' split at h
   all_goals cases h
  ·cases h
 ·cases h
theorem Bi{f:FuncId}{args:List IV}(h:ak P ro ρ o σ=some (.enter f args)):∀fO ah,ak P fO ρ o ah=some (.enter f args):=by
 intro fO ah;unfold ak at h⊢;cases ho:o.op<;>rw[ho]at h<;>(try dsimp only at h⊢)
 case call c=>
  split at h
  ·exact(xJ h).elim
  ·exact h
  ·exact h
 case defer c=>
  split at h
  ·split at h<;>cases h
  ·cases h
 all_goals (repeat' split at h)
 all_goals cases h
open Classical in
@[reducible] noncomputable def ae8:Sm:=⟨fun u v=>decide (u=v),fun _ _ h=>of_decide_eq_true h⟩
attribute [local instance] ae8
open Classical in
noncomputable def qq(R:Option Nat)(f:FuncId)(args:List IV)(σ:St)(v:IV)(ai:St):Self where
 code:=fun _ _ _ _ _ _ _=>none
 call:=fun fO f' a' ah=>if(R=none∨R=some fO)∧f'=f∧a'=args∧ah=σ then some (v,ai)else none
 bC:=fun _ _ _ _=>none
 vY:=fun _ _ _ _ _=>none
def lx(P:Program)(U:Self):Prop:=gM P U 0∧dL P U∧bQ U∧br U
theorem oa:lx P Self.none:=
 ⟨fun _ _ _ _ _ _ _ _ _ h=>(by cases h),(k_ (P:=P)).1,fun _ _ _ _ _ _ _ _ h=>(by cases h),(k_ (P:=P)).2⟩
theorem KJ{R:Option Nat}{f:FuncId}{args:List IV}{σ:St}{v:IV}{ai:St}(h:∀ro,(R=none∨R=some ro)→eK P ro f args σ v ai){fO:Nat}{f':FuncId}{a':List IV}{ah:St}{v':IV}{c7:St}
 (hc:(qq R f args σ v ai).call fO f' a' ah=some (v',c7)):eK P fO f' a' ah v' c7:=by
 simp only[qq]at hc;split at hc
 ·rename_i hh;cases hc;obtain⟨h1,rfl,rfl,rfl⟩:=hh;exact h _ h1
 ·cases hc
theorem sH{R:Option Nat}{f:FuncId}{args:List IV}{σ:St}{v:IV}{ai:St}(h:∀ro,(R=none∨R=some ro)→eK P ro f args σ v ai):lx P (qq R f args σ v ai):=
 ⟨fun _ _ _ _ _ _ _ _ _ h=>(by cases h),⟨fun N _ _ _ _ _ _ hc hN=>(KJ h hc).2 N hN,fun _ _ _ _ _ _ _ h=>(by cases h),fun _ _ _ _ _ _ _ _ h=>(by cases h),fun _ _ _ _ _ _ _ h=>(by cases h)⟩,
  fun _ _ _ _ _ _ _ _ h=>(by cases h),⟨fun _ _ _ _ _ _ hc=>(KJ h hc).1,fun _ _ _ _ _ _ h=>(by cases h),fun _ _ _ _ _ _ _ h=>(by cases h)⟩⟩
def Ao(o:Oper):Bool:=
 match o.op with
 |.call {callee:=.value _,.. }=>true
 |_=>false
def ED(ops:Array Oper)(pl:dx):Bool:=
 ops.toList.zipIdx.all fun(o,j)=>
  (match pl.kinds.getD j .effect with
   |.call=>Ao o&&cZ o==.call
   |.effect=>true
   |k=>cZ o==k)&&
  (pl.kinds.getD j .effect==.pure||ops.toList.zipIdx.all fun(_,i)=> !as_ i j||ast (pl.bT.getD j 0) i||
   (match pl.kinds.getD i .effect with
    |.alloc|.effect=>false
    |.load=> !(pl.kinds.getD j .effect==.effect)
    |_=>true))
inductive fj(P:Program)(ro:Nat)(ops:Array Oper)(pl:dx)(fr:Bool):List (Oper×Nat)→Env→St→Env→St→Prop
 |nil (e:Env) (σ:St):fj P ro ops pl fr [] e σ e σ
 |skip {o:Oper} {j:Nat} {l:List (Oper×Nat)} {e:Env} {σ:St} {e':Env} {ah:St} (hw:aF o ops e=false) (h:fj P ro ops pl fr l (e.put o.dst .undef) σ e' ah):fj P ro ops pl fr ((o,j)::l) e σ e' ah
 |val {o:Oper} {j:Nat} {l:List (Oper×Nat)} {e:Env} {σ:St} {e':Env} {ah:St} {v:IV} {ai:St} (hw:aF o ops e=true) (hv:ak P ro (aq e) o σ=some (.val v ai)) (h:fj P ro ops pl fr l (e.put o.dst v) ai e' ah):fj P ro ops pl fr ((o,j)::l) e σ e' ah
 |EE {o:Oper} {j:Nat} {l:List (Oper×Nat)} {e:Env} {σ:St} {e':Env} {ah:St} {f:FuncId} {args:List IV} {v:IV} (hw:aF o ops e=true) (hv:ak P ro (aq e) o σ=some (.enter f args)) (hc:∀ro,eK P ro f args σ v σ)
   (h:fj P ro ops pl fr l (e.put o.dst v) σ e' ah):fj P ro ops pl fr ((o,j)::l) e σ e' ah
 |call {o:Oper} {j:Nat} {l:List (Oper×Nat)} {e:Env} {σ:St} {e':Env} {ah:St} {f:FuncId} {args:List IV} {v:IV} {ai:St} (hk:aU pl j=.effect) (hw:aF o ops e=true) (hv:ak P ro (aq e) o σ=some (.enter f args))
   (hc:eK P ro f args σ v ai) (iZ:σ.t.WF→ai.t.WF) (h:fj P ro ops pl fr l (e.put o.dst v) ai e' ah):fj P ro ops pl fr ((o,j)::l) e σ e' ah
 |Mo {o:Oper} {j:Nat} {l:List (Oper×Nat)} {e:Env} {σ:St} {e':Env} {ah:St} {f:FuncId} {args:List IV} {v:IV} {ob:Ob} (hq:fr=true) (hw:aF o ops e=true) (hv:ak P ro (aq e) o σ=some (.enter f args))
   (hc:∀ro,eK P ro f args σ v (σ.add ob)) (h:fj P ro ops pl fr l (e.put o.dst v) (σ.add ob) e' ah):fj P ro ops pl fr ((o,j)::l) e σ e' ah
theorem Bj{ops:Array Oper}{pl:dx}(h:ED ops pl=true){o:Oper}{j:Nat}(ho:(o,j)∈ops.toList.zipIdx):
 (aU pl j≠.call→aU pl j≠.effect→cZ o=aU pl j)∧(aU pl j=.call→Ao o=true)∧
 (aU pl j≠.pure→∀p i,(p,i)∈ops.toList.zipIdx→i<j→(aU pl i=.alloc∨aU pl i=.effect∨(aU pl i=.load∧aU pl j=.effect))→ast (pl.bT.getD j 0) i=true):=by
 unfold ED at h;have h1:=asl.1 h (o,j) ho;simp only[ar6,asP]at h1;obtain⟨h1,h2⟩:=h1;refine⟨fun hc he=>?_,fun hc=>?_,fun hp p i hi aa hk=>?_⟩
 ·unfold aU at hc he⊢;cases hk:pl.kinds.getD j .effect<;>rw[hk]at h1 hc he<;>first|exact absurd rfl hc|exact absurd rfl he|simpa using h1
 ·unfold aU at hc;rw[hc]at h1;simp only[ar6]at h1;exact h1.1
 ·rcases h2 with h2|h2
  ·exact absurd (by simpa[aU]using h2) hp
  ·have h3:=asl.1 h2 (p,i) hi;simp only[asP]at h3;rcases h3 with(h3|h3)|h3
   ·rw[Bool.not_eq_true',←Bool.not_eq_true,av5]at h3;exact absurd aa h3
   ·exact h3
   ·unfold aU at hk;rcases hk with hk|hk|⟨hk,cz⟩
    ·rw[hk]at h3;cases h3
    ·rw[hk]at h3;cases h3
    ·rw[hk,cz]at h3;simp at h3
theorem kg(b:T Ob)(p:Piece)(h:p.hi≤p.lo):dc b p=b:=by
 unfold dc;rw[show p.hi- p.lo=0 by omega];rfl
theorem wy{b:T Ob}(h:b.WF)(p:Piece):(dc b p).WF:=by
 unfold dc;generalize List.range' p.lo (p.hi- p.lo)=l;induction l generalizing b with
 |nil=>exact h
 |cons id l ih=>
  simp only[asI];refine ih ?_;split
  ·exact h.set _ _
  ·exact h
theorem kh:∀(l:List Piece) {b:T Ob},b.WF→(l.foldl dc b).WF
 |[],_,h=>h
 |p::l,_,h=>kh l (wy h p)
theorem sI{f:Piece→Bool}:∀(l:List Piece) (b:T Ob),(∀p∈l,f p=true∨p.hi≤p.lo)→(l.filter f).foldl dc b=l.foldl dc b
 |[],_,_=>rfl
 |p::l,b,h=>by
  have ht:=fun q hq=>h q (atE _ hq);rw[awG];by_cases hf:f p=true
  ·rw[if_pos hf];exact sI l _ ht
  ·rw[if_neg hf,asI,kg b p ((h p (aup ..)).resolve_left hf)];exact sI l b ht
theorem yM{f:Piece→Bool}:∀(l:List Piece) (b:T Ob),(∀p∈l,f p=true→p.hi≤p.lo)→(l.filter f).foldl dc b=b
 |[],_,_=>rfl
 |p::l,b,h=>by
  have ht:=fun q hq=>h q (atE _ hq);rw[awG];by_cases hf:f p=true
  ·rw[if_pos hf,asI,kg b p (h p (aup ..) hf)];exact yM l b ht
  ·rw[if_neg hf];exact yM l b ht
theorem yN{n:Nat}{ob:Ob}:∀(l:List Piece) (b1 b2:T Ob),(∀p∈l,p.hi≤n)→(∀id,b1.get id=(b2.set n ob).get id)→∀id,(l.foldl dc b1).get id=((l.foldl dc b2).set n ob).get id
 |[],b1,b2,_,h,id=>h id
 |p::l,b1,b2,hp,h,id=>by
  simp only[asI];refine yN l _ _ (fun q hq=>hp q (atE _ hq)) (fun id=>?_) id;have hpn:=hp p (aup ..);rw[jT,T.fQ,jT,h id,T.fQ];by_cases hn:n=id
  ·subst hn;simp only[if_true];rw[if_neg (by omega)]
  ·simp only[if_neg hn]
structure xK(pl:dx)(j:Nat)(d:DS)(e:Env)(σ:St):Prop where
 e:d.e=e
 n:d.n=σ.n
 bs:∃i b rest,d.bs=(i,b)::rest∧(rest=[]∨(i<j∧aU pl i=.effect))∧d.aC.foldl dc b=σ.t∧b.WF
 aC:∀p∈d.aC,(p.hi≤p.lo∨(p.j<j∧aU pl p.j=.alloc))∧p.hi≤d.n
theorem Jm{ops:Array Oper}{pl:dx}{d:DS}{e:Env}{σ:St}{j:Nat}{b:T Ob}(hs:xK pl j d e σ)(ef:d.aC.foldl dc b=σ.t)
 (kR:∀i,i<j→(aU pl i=.alloc∨aU pl i=.effect)→ast (pl.bT.getD j 0) i=true):seen d.aC (pl.bT.getD j 0) b=σ.t:=by
 unfold seen;rw[sI _ _ fun p hp=>?_,ef];rcases(hs.aC p hp).1 with h|⟨h1,h2⟩
 ·exact .inr h
 ·exact .inl (kR _ h1 (.inl h2))
theorem CE{v:IV}{ai:St}(h:Ao o=true)(hv:ak P ro ρ o σ=some (.val v ai)):False:=by
 unfold Ao at h;split at h
 ·rename_i f a b fT;unfold ak at hv;rw[fT]at hv;dsimp only at hv;unfold gd at hv
  repeat' split at hv
  all_goals cases hv
 ·cases h
theorem sJ{f:FuncId}{args:List IV}(h:ak P ro ρ o σ=some (.enter f args)):cZ o=.call∨cZ o=.effect:=by
 unfold ak at h;unfold cZ;cases ho:o.op<;>rw[ho]at h<;>(try dsimp only at h⊢)
 case call c=>
  obtain⟨callee,argTypes,args⟩:=c;cases callee with
  |builtin b=>exact(xJ h).elim
  |value f=>exact .inl rfl
  |invoke r m=>exact .inr rfl
 case defer c=>
  split at h
  ·split at h<;>cases h
  ·cases h
 all_goals (repeat' split at h)
 all_goals cases h
theorem Gs{U:Self}{ops:Array Oper}{pl:dx}{o:Oper}{j:Nat}{d:DS}{e:Env}{σ ai:St}{v:IV}(hs:xK pl j d e σ)(hk:aU pl j=.effect)(hw:aF o ops e=true)
 (gu:∀p i,(p,i)∈ops.toList.zipIdx.take j→(p,i)∈ops.toList.zipIdx∧i<j)
 (kR:∀i,i<j→(aU pl i=.alloc∨aU pl i=.effect∨(aU pl i=.load∧aU pl j=.effect))→ast (pl.bT.getD j 0) i=true)
 (hx:jh P U ro e o σ=some (v,ai))(iZ:ai.t.WF)(hn:σ.n≤ai.n):∃d1,bL P U pl ro ops o j d=some d1∧xK pl (j+1) d1 (e.put o.dst v) ai:=by
 obtain⟨i,b,rest,cK,fB,ef,jl⟩:=hs.bs;have ma:=Jm (ops:=ops) hs ef fun i hi h=>kR i hi (h.imp id .inl);have dK:(⟨d.n,seen d.aC (pl.bT.getD j 0) b⟩:St)=σ:=by rw[ma,hs.n]
 refine⟨⟨e.put o.dst v,ai.n,(j,ai.t)::d.bs,d.aC.filter fun p=> !ast (pl.bT.getD j 0) p.j⟩,?_,⟨rfl,rfl,⟨j,ai.t,d.bs,rfl,.inr ⟨by omega,hk⟩,?_,iZ⟩,fun p hp=>?_⟩⟩
 ·unfold bL;rw[cK];simp only;rw[hs.e,hw,if_pos rfl];have cz:pl.kinds.getD j .effect=.effect:=hk;rw[cz];simp only;rw[dK,hx];simp only;rw[if_pos];unfold recheck;rw[asl];rintro⟨p,q⟩ xL;obtain⟨h5,h6⟩:=gu p q xL;simp only;split
  ·rename_i Al;rw[kR q h6 (.inr (.inr ⟨Al,hk⟩))];rfl
  ·rfl
 ·refine yM _ _ fun p hp hf=>?_;rcases(hs.aC p hp).1 with h|⟨h1,h2⟩
  ·exact h
  ·rw[kR _ h1 (.inl h2)]at hf;cases hf
 ·have qA:=(List.mem_filter.1 hp).1;obtain⟨h1,h2⟩:=hs.aC p qA;exact⟨h1.imp id (fun h=>⟨by omega,h.2⟩),by rw[hs.n]at h2;exact asr h2 hn⟩
theorem CF{SF o5:Nat→Self}{pl:dx}{ops:Array Oper}:∀{l:List (Oper×Nat)} {d:DS},(∀o i,(o,i)∈l→SF i=o5 i)→ir P SF pl ro ops l d=ir P o5 pl ro ops l d
 |[],_,_=>rfl
 |(o,j)::l,d,h=>by
  unfold ir;rw[h o j (aup ..)];split
  ·exact CF fun o' i hi=>h o' i (atE _ hi)
  ·rfl
theorem ly{U:Self}{pl:dx}{ops:Array Oper}{o:Oper}{j:Nat}{l:List (Oper×Nat)}{d d1 d':DS}{SF:Nat→Self}(hU:lx P U)(hS:∀i,lx P (SF i))(h1:bL P U pl ro ops o j d=some d1)
 (h3:ir P SF pl ro ops l d1=some d')(hl:∀o' i,(o',i)∈l→i≠j):∃o5,(∀i,lx P (o5 i))∧ir P o5 pl ro ops ((o,j)::l) d=some d':=by
 refine⟨fun i=>if i=j then U else SF i,fun i=>?_,?_⟩
 ·by_cases hi:i=j
  ·simp only[if_pos hi];exact hU
  ·simp only[if_neg hi];exact hS i
 ·unfold ir;simp only[if_true];rw[h1];simp only;rw[←h3];exact CF fun o' i hi=>by simp only[if_neg (hl o' i hi)]
theorem WV{ops:Array Oper}{pl:dx}(bf:ED ops pl=true){l:List (Oper×Nat)}{e e':Env}{σ ah:St}(h:fj P ro ops pl false l e σ e' ah):
 ∀(k:Nat) (d:DS),ops.toList.zipIdx.drop k=l→xK pl k d e σ→∃SF:Nat→Self,(∀i,lx P (SF i))∧∃d',ir P SF pl ro ops l d=some d'∧d'.e=e'∧d'.n=ah.n∧∃i b rest,d'.bs=(i,b)::rest∧d'.aC.foldl dc b=ah.t:=by
 have iY:∀{o:Oper} {j:Nat} {l:List (Oper×Nat)} {k:Nat},ops.toList.zipIdx.drop k=(o,j)::l→(o,j)∈ops.toList.zipIdx∧j=k∧ops.toList.zipIdx.drop (k+1)=l∧
  (∀p i,(p,i)∈ops.toList.zipIdx.take j→(p,i)∈ops.toList.zipIdx∧i<j)∧(∀i,i<j→∃p,(p,i)∈ops.toList.zipIdx)∧∀o' i,(o',i)∈l→i≠j:=by
  intro o j l k h;have h1:(ops.toList.zipIdx.drop k)[0]?=some (o,j):=by rw[h];rfl
  rw[List.getElem?_drop,Nat.add_zero]at h1;have h2:=ash h1;have aa:=(ar5.1 h1).1;rw[awi]at h1
  have hj:j=k:=by
   cases hk:ops.toList[k]? with
   |none=>rw[hk]at h1;cases h1
   |some o'=>rw[hk]at h1;simp at h1;omega
  have Cv:ops.toList.zipIdx.drop (k+1)=l:=by rw[←List.drop_drop (i:=1) (j:=k),h];rfl
  refine⟨h2,hj,Cv,fun p i hp=>⟨List.mem_of_mem_take hp,?_⟩,fun i hi=>?_,fun o' i hi=>?_⟩
  ·obtain⟨m,hm,he⟩:=auK hp;rw[List.length_take]at hm;rw[List.getElem_take,avi]at he;cases he;omega
  ·rw[List.length_zipIdx]at aa;refine⟨ops.toList[i],ash (i:=i) ?_⟩;rw[awi,ar4 (by omega)];simp
  ·rw[←Cv]at hi;obtain⟨m,hm,he⟩:=auK hi;rw[List.getElem_drop,avi]at he;cases he;omega
 induction h with
 |nil e σ=>
  intro k d _ hs;obtain⟨i,b,rest,h1,_,h3,_⟩:=hs.bs;exact⟨fun _=>Self.none,fun _=>oa,d,rfl,hs.e,hs.n,i,b,rest,h1,h3⟩
 | @skip o j l e σ e' ah hw h ih=>
   intro k d hl hs;obtain⟨hm,rfl,hd,gu,aT,aa⟩:=iY hl;obtain⟨fD,eu,kR⟩:=Bj bf hm;obtain⟨i,b,rest,cK,fB,ef,jl⟩:=hs.bs;have iw:∀p∈d.aC,(p.hi≤p.lo∨(p.j<j+1∧aU pl p.j=.alloc))∧p.hi≤d.n:=fun p hp=>⟨(hs.aC p hp).1.imp id (fun h=>⟨by omega,h.2⟩),(hs.aC p hp).2⟩
   have key:∃U,lx P U∧∃d1,bL P U pl ro ops o j d=some d1∧xK pl (j+1) d1 (e.put o.dst .undef) σ:=by
    refine⟨Self.none,oa,?_⟩;by_cases hk:aU pl j=.effect
    ·refine⟨⟨d.e.put o.dst .undef,d.n,(j,b)::d.bs,d.aC⟩,?_,⟨by rw[hs.e],hs.n,⟨j,b,d.bs,rfl,.inr ⟨by omega,hk⟩,ef,jl⟩,iw⟩⟩;unfold bL;rw[cK];simp only;rw[hs.e,hw,if_neg (by simp)];have cz:pl.kinds.getD j .effect=.effect:=hk;rw[cz];simp only;rw[if_pos];unfold recheck;rw[asl];rintro⟨p,q⟩ xL;obtain⟨h5,h6⟩:=gu p q xL;simp only;split
     ·rename_i Al;rw[kR (by rw[hk];simp) p q h5 h6 (.inr (.inr ⟨Al,hk⟩))];rfl
     ·rfl
    ·refine⟨{d with e:=d.e.put o.dst .undef},?_,⟨by rw[hs.e],hs.n,⟨i,b,rest,cK,fB.imp id (fun h=>⟨by omega,h.2⟩),ef,jl⟩,iw⟩⟩;unfold bL;rw[cK];simp only;rw[hs.e,hw,if_neg (by simp)];have cz:pl.kinds.getD j .effect≠.effect:=hk;cases hq:pl.kinds.getD j .effect<;>first|exact absurd hq cz|simp only
   obtain⟨U,hU,d1,h1,h2⟩:=key;obtain⟨SF,ki,d',h3,h4⟩:=ih (j+1) d1 hd h2;obtain⟨o5,h5,h6⟩:=ly hU ki h1 h3 aa;exact⟨o5,h5,d',h6,h4⟩
 | @val o j l e σ e' ah v ai hw hv h ih=>
   intro k d hl hs;obtain⟨hm,rfl,hd,gu,aT,aa⟩:=iY hl;obtain⟨fD,eu,kR⟩:=Bj bf hm;obtain⟨i,b,rest,cK,fB,ef,jl⟩:=hs.bs;have o6:σ.t.WF:=ef▸kh _ jl;have iw:∀p∈d.aC,(p.hi≤p.lo∨(p.j<j+1∧aU pl p.j=.alloc))∧p.hi≤d.n:=fun p hp=>⟨(hs.aC p hp).1.imp id (fun h=>⟨by omega,h.2⟩),(hs.aC p hp).2⟩
   have yO:aU pl j≠.pure→∀i,i<j→(aU pl i=.alloc∨aU pl i=.effect∨(aU pl i=.load∧aU pl j=.effect))→ast (pl.bT.getD j 0) i=true:=by
    intro hp i hi hk;obtain⟨p,NF⟩:=aT i hi;exact kR hp p i NF hi hk
   have key:∃U,lx P U∧∃d1,bL P U pl ro ops o j d=some d1∧xK pl (j+1) d1 (e.put o.dst v) ai:=by
    refine⟨Self.none,oa,?_⟩;cases hk:aU pl j with
    |pure=>
     have oG:cZ o=.pure:=by rw[fD (by rw[hk];simp) (by rw[hk];simp),hk]
     obtain⟨rfl,mX⟩:=Dv oG hv;refine⟨{d with e:=d.e.put o.dst v},?_,⟨by rw[hs.e],hs.n,⟨i,b,rest,cK,fB.imp id (fun h=>⟨by omega,h.2⟩),ef,jl⟩,iw⟩⟩;unfold bL;rw[cK];simp only;rw[hs.e,hw,if_pos rfl];have cz:pl.kinds.getD j .effect=.pure:=hk;rw[cz];simp only;rw[mX 0 ⟨0,.lf⟩];simp[hs.e,cK]
    |alloc=>
     have oG:cZ o=.alloc:=by rw[fD (by rw[hk];simp) (by rw[hk];simp),hk]
     obtain⟨t,mX,sw⟩:=HF oG hv;refine⟨⟨d.e.put o.dst v,ai.n,d.bs,⟨j,d.n,ai.n,t⟩::d.aC⟩,?_,⟨by rw[hs.e],rfl,⟨i,b,rest,cK,fB.imp id (fun h=>⟨by omega,h.2⟩),?_,jl⟩,fun p hp=>?_⟩⟩
     ·unfold bL;rw[cK];simp only;rw[hs.e,hw,if_pos rfl];have cz:pl.kinds.getD j .effect=.alloc:=hk;rw[cz];simp only;rw[hs.n,mX 0]
     ·simp only[asI];rcases sw with⟨rfl,rfl⟩|⟨ob,rfl,rfl⟩
      ·rw[kg _ _ (by simp[hs.n]),ef]
      ·refine T.WF.ext (kh _ (wy jl _)) (o6.set _ _) fun id=>?_
       have:=yN (n:=σ.n) (ob:=ob) d.aC (dc b ⟨j,d.n,(σ.add ob).n,T.lf.set σ.n ob⟩) b (fun p hp=>by rw[←hs.n];exact(hs.aC p hp).2) (fun id=>by
        rw[jT,T.fQ,T.fQ];simp only[hs.n,St.kz];by_cases hid:σ.n=id
        ·subst hid;simp
        ·rw[if_neg (by omega),if_neg hid]) id
       rw[this,ef];rfl
     ·rcases asZ.1 hp with rfl|hp
      ·exact⟨.inr ⟨by simp,hk⟩,ar9 _⟩
      ·obtain⟨h1,h2⟩:=iw p hp;exact⟨h1,by have:=lL hv;rw[hs.n]at h2;exact asr h2 this⟩
    |load=>
     have oG:cZ o=.load:=by rw[fD (by rw[hk];simp) (by rw[hk];simp),hk]
     obtain⟨rfl,mX⟩:=Dw oG hv;have ma:=Jm (ops:=ops) hs ef fun i hi h=>yO (by rw[hk];simp) i hi (h.imp id .inl);have dK:(⟨d.n,seen d.aC (pl.bT.getD j 0) b⟩:St)=ai:=by rw[ma,hs.n]
     refine⟨{d with e:=d.e.put o.dst v},?_,⟨by rw[hs.e],hs.n,⟨i,b,rest,cK,fB.imp id (fun h=>⟨by omega,h.2⟩),ef,jl⟩,iw⟩⟩;unfold bL;rw[cK];simp only;rw[hs.e,hw,if_pos rfl];have cz:pl.kinds.getD j .effect=.load:=hk;rw[cz];simp only;rw[dK,mX d.n];simp only;rw[if_pos];refine⟨hs.n.symm,?_⟩;rcases fB with rfl|⟨h1,h2⟩
     ·simp[lJ]
     ·rw[yO (by rw[hk];simp) i h1 (.inr (.inl h2))];rfl
    |call=>exact(CE (eu hk) hv).elim
    |effect=>
     refine Gs hs hk hw gu (fun i hi h=>yO (by rw[hk];simp) i hi h) ?_ (Um hv o6) (lL hv);unfold jh;rw[hv]
   obtain⟨U,hU,d1,h1,h2⟩:=key;obtain⟨SF,ki,d',h3,h4⟩:=ih (j+1) d1 hd h2;obtain⟨o5,h5,h6⟩:=ly hU ki h1 h3 aa;exact⟨o5,h5,d',h6,h4⟩
 | @EE o j l e σ e' ah f args v hw hv hc h ih=>
   intro k d hl hs;obtain⟨hm,rfl,hd,gu,aT,aa⟩:=iY hl;obtain⟨fD,eu,kR⟩:=Bj bf hm;obtain⟨i,b,rest,cK,fB,ef,jl⟩:=hs.bs;have o6:σ.t.WF:=ef▸kh _ jl;have iw:∀p∈d.aC,(p.hi≤p.lo∨(p.j<j+1∧aU pl p.j=.alloc))∧p.hi≤d.n:=fun p hp=>⟨(hs.aC p hp).1.imp id (fun h=>⟨by omega,h.2⟩),(hs.aC p hp).2⟩
   have yO:aU pl j≠.pure→∀i,i<j→(aU pl i=.alloc∨aU pl i=.effect∨(aU pl i=.load∧aU pl j=.effect))→ast (pl.bT.getD j 0) i=true:=by
    intro hp i hi hk;obtain⟨p,NF⟩:=aT i hi;exact kR hp p i NF hi hk
   have vq:∀fO,jh P (qq none f args σ v σ) fO e o σ=some (v,σ):=by
    intro fO;unfold jh;rw[Bi hv fO σ];simp[qq]
   have ma:=Jm (ops:=ops) hs ef
   have key:∃U,lx P U∧∃d1,bL P U pl ro ops o j d=some d1∧xK pl (j+1) d1 (e.put o.dst v) σ:=by
    refine⟨qq none f args σ v σ,sH fun fO _=>hc fO,?_⟩
    have wb:aU pl j=.call∨aU pl j=.effect:=by
     by_cases nH:aU pl j=.call
     ·exact .inl nH
     ·by_cases he:aU pl j=.effect
      ·exact .inr he
      ·have:=fD nH he;rcases sJ hv with h|h
       ·rw[h]at this;exact absurd this.symm nH
       ·rw[h]at this;exact absurd this.symm he
    rcases wb with hk|hk
    ·refine⟨⟨d.e.put o.dst v,d.n,d.bs,⟨j,d.n,d.n,seen d.aC (pl.bT.getD j 0) b⟩::d.aC⟩,?_,⟨by rw[hs.e],hs.n,⟨i,b,rest,cK,fB.imp id (fun h=>⟨by omega,h.2⟩),?_,jl⟩,fun p hp=>?_⟩⟩
     ·unfold bL;rw[cK];simp only;rw[hs.e,hw,if_pos rfl];have cz:pl.kinds.getD j .effect=.call:=hk;rw[cz];simp only;have Cz:=ma fun i hi h=>yO (by rw[hk];simp) i hi (h.imp id .inl);have dK:(⟨d.n,seen d.aC (pl.bT.getD j 0) b⟩:St)=σ:=by rw[Cz,hs.n]
      rw[dK,vq,Cz];simp only[hs.n,cK]
     ·simp only[asI];rw[kg _ _ (by simp),ef]
     ·rcases asZ.1 hp with rfl|hp
      ·exact⟨.inl (ar9 _),ar9 _⟩
      ·exact iw p hp
    ·exact Gs hs hk hw gu (fun i hi h=>yO (by rw[hk];simp) i hi h) (vq ro) o6 (ar9 _)
   obtain⟨U,hU,d1,h1,h2⟩:=key;obtain⟨SF,ki,d',h3,h4⟩:=ih (j+1) d1 hd h2;obtain⟨o5,h5,h6⟩:=ly hU ki h1 h3 aa;exact⟨o5,h5,d',h6,h4⟩
 | @call o j l e σ e' ah f args v ai hk hw hv hc iZ h ih=>
   intro k d hl hs;obtain⟨hm,rfl,hd,gu,aT,aa⟩:=iY hl;obtain⟨fD,eu,kR⟩:=Bj bf hm;obtain⟨i,b,rest,cK,fB,ef,jl⟩:=hs.bs;have o6:σ.t.WF:=ef▸kh _ jl
   have yO:aU pl j≠.pure→∀i,i<j→(aU pl i=.alloc∨aU pl i=.effect∨(aU pl i=.load∧aU pl j=.effect))→ast (pl.bT.getD j 0) i=true:=by
    intro hp i hi hk;obtain⟨p,NF⟩:=aT i hi;exact kR hp p i NF hi hk
   obtain⟨d1,h1,h2⟩:=Gs (U:=qq (some ro) f args σ v ai) (v:=v) (ai:=ai) hs hk hw gu (fun i hi h=>yO (by rw[hk];simp) i hi h) (by unfold jh;rw[hv];simp[qq]) (iZ o6) hc.1;obtain⟨SF,ki,d',h3,h4⟩:=ih (j+1) d1 hd h2;obtain⟨o5,h5,h6⟩:=ly (sH (R:=some ro) fun fO hR=>by rcases hR with hR|hR<;>cases hR;exact hc) ki h1 h3 aa;exact⟨o5,h5,d',h6,h4⟩
 | @Mo o j l e σ e' ah f args v ob hq hw hv hc h ih=>cases hq
variable{rd:Option Nat}{fn:FuncId}{df:List Df}{e e':Env}{ah:St}{ops:Array Oper}
theorem bW.draw{id:Nat}(eT:P.follows .mixedOrders=true)(iW:(dp ops).ok=true)(bf:ED ops (dp ops)=true)(iZ:σ.t.WF)
 (h:fj P ro ops (dp ops) false ops.toList.zipIdx e σ e' ah):bW P ro rd fn (.region id ops true) e df σ ⟨.normal,e',df,ah⟩:=by
 obtain⟨SF,ki,d',h1,h2,h3,i,b,rest,h4,h5⟩:=WV bf h 0 ⟨e,σ.n,[(0,σ.t)],[]⟩ (by simp) ⟨rfl,rfl,⟨0,σ.t,[],rfl,.inl rfl,rfl,iZ⟩,fun p hp=>by cases hp⟩
 have dZ:pI P SF ro ops e df σ=some ⟨.normal,e',df,ah⟩:=by
  unfold pI;simp only;rw[if_pos iW,h1];obtain⟨de,dn,dbs,anC⟩:=d';simp only at h2 h3 h4 h5;subst h2 h4;simp only[h3,h5]
 refine .mk (Be (fun i=>(ki i).2.2.1) (fun i=>(ki i).2.2.2) dZ) (by simp) fun N hN F ι a w Q hF hi he hd hQ=>?_;exact Gp eT (fun i=>(ki i).1) (fun i=>(ki i).2.1) (fun i=>(ki i).2.2.1) (fun i=>(ki i).2.2.2) N ro rd ops e df σ _ dZ hN F ι a w Q id hF hi he hd hQ
theorem gZ.run{pl:dx}{fr:Bool}{l:List (Oper×Nat)}(h:fj P ro ops pl fr l e σ e' ah):gZ P ro rd ops (l.map (·.1)) e df σ ⟨.normal,e',df,ah⟩:=by
 induction h with
 |nil e σ=>exact .nil
 |skip hw h ih=>exact .skip hw ih
 |val hw hv h ih=>exact .val hw hv ih
 |EE hw hv hc h ih=>exact .call hw hv (hc _) ih
 |call hk hw hv hc iZ h ih=>exact .call hw hv hc ih
 |Mo hq hw hv hc h ih=>exact .call hw hv (hc _) ih
theorem bW.plain{id:Nat}{pl:dx}{fr:Bool}(h:fj P ro ops pl fr ops.toList.zipIdx e σ e' ah):bW P ro rd fn (.region id ops false) e df σ ⟨.normal,e',df,ah⟩:=by
 refine .region ?_;have:=gZ.run (rd:=rd) (df:=df) h;rwa[show ops.toList.zipIdx.map (·.1)=ops.toList by simp]at this
end Go.Ev
