/- Lemmas over the model, without conditions of their own: contracts of calls of plain values. -/
import Derived.Test.YtggffkaadeagbaaGreatEvG
open List renaming mem_of_getElem?->aqS,getElem?_eq_some_iff->aqF,getElem?_eq_getElem->aqE,isEmpty_iff->arP,all_eq_true->aqW,getElem_of_mem->asu,mk_mem_zipIdx_iff_getElem?->arM,foldl_cons->arh,mem_cons_of_mem->arW,filter_cons->avm,mem_cons_self->asT,getElem?_zipIdx->auX,getElem_zipIdx->atS,mem_cons->arv
open Array renaming getD_eq_getD_getElem?->arU
open Nat renaming le_refl->aqK,blt->arH,beq->aqP,ble->arE,blt_eq->auG,beq_eq->ark,testBit->aq0,le_trans->aq2
open Bool renaming and_eq_true->aqG,or_eq_true->arl
open Option renaming map_eq_some_iff->aqL
set_option linter.all false
namespace Go.Ev
variable{P:Program}{N ro:Nat}{ι:Io}{w:World}{σ:St}
inductive Pure:IV→Prop
 |raw (v:Value):Pure (.raw v)
 |agg (cs:List IV) (h:∀c∈cs,Pure c):Pure (.agg cs)
 |av (cs:List IV) (h:∀c∈cs,Pure c):Pure (.av cs)
 |emp:Pure .emp
 |da (t:TypeId) (x:IV) (h:Pure x):Pure (.da t x)
 |tree (s:Nat) (es:List IV) (h:∀e∈es,∀c∈cellsOf e,Pure c):Pure (.tree s es)
 |fn (f:Fn) (as bs:List IV) (h:∀c∈as,Pure c) (h2:∀c∈bs,Pure c):Pure (.fn f as bs)
abbrev eo(M:Fz):Io:=⟨fun _ _=>none,M⟩
theorem Pure.rv{M:Fz}{x:IV}(hp:Pure x):∀{v:Value},Rv ι x v→(∀b c,ι.m b=some c→M b=some c)→Rv (eo M) x v:=by
 induction hp with
 |raw v=>intro u h _;cases h;exact .raw v
 |agg cs _ ih=>intro u h hM;cases h with|agg _ vs hl hh=>exact .agg cs vs hl fun i c v h1 h2=>ih c (aqS h1) (hh i c v h1 h2) hM
 |av cs _ ih=>intro u h hM;cases h with|av _ vs hl hh=>exact .av cs vs hl fun i c v h1 h2=>ih c (aqS h1) (hh i c v h1 h2) hM
 |emp=>intro u h _;cases h;exact .emp _
 |da t x _ ih=>intro u h hM;cases h with|da _ _ v hh=>exact .da t x v (ih hh hM)
 |tree s es _ ih=>
  intro u h hM;cases h with
  |tree _ _ b off c us hs hc bC hu hh=>exact .tree s es b off c us hs hc bC (fun k hk=>Az hM (hu k hk)) fun i e j c h1 h2=>ih e (aqS h1) c (aqS h2) (hh i e j c h1 h2) hM
  |dN _ a c hs hn=>exact .dN s a c hs hn
 |fn f as bs _ _ ih eH=>
  intro u h hM;cases h with
  |fn _ _ _ cs ds hl hh eN sw=>exact .fn f as bs cs ds hl (fun i c v h1 h2=>ih c (aqS h1) (hh i c v h1 h2) hM) eN (fun i c v h1 h2=>eH c (aqS h1) (sw i c v h1 h2) hM)
inductive Can(fr:Bool)(σ:St):IV→IV→Prop
 |raw (v:Value):Can fr σ (.raw v) (.raw v)
 |nil (s:Nat) (hs:0<s):Can fr σ (.raw (.slice none 0 0)) (.tree s [])
 |emp (s:Nat) (hs:0<s):Can fr σ .emp (.tree s [])
 |da (t:TypeId) (x y:IV) (h:Can fr σ x y):Can fr σ (.da t x) (.da t y)
 |agg (cs ds:List IV) (hl:cs.length=ds.length) (h:∀(i:Nat) c d,cs[i]?=some c→ds[i]?=some d→Can fr σ c d):Can fr σ (.agg cs) (.agg ds)
 |av (cs ds:List IV) (hl:cs.length=ds.length) (h:∀(i:Nat) c d,cs[i]?=some c→ds[i]?=some d→Can fr σ c d):Can fr σ (.av cs) (.av ds)
 |pure (x:IV) (hf:fr=true) (hp:Pure x):Can fr σ x x
 |dN (s:Nat):Can fr σ (.tree s []) (.tree s [])
 |sl (id off len:Nat) (cap:Option Nat) (ep s:Nat) (cs:List IV) (au mn:Nat) (es:List IV) (aA:σ.at id=some (.cells cs au mn)) (h1:mn≤ep) (h2:ep≤au) (hl:es.length=len) (hb:off+len*s≤cs.length)
   (bC:∀e∈es,(cellsOf e).length=s) (h:∀(i:Nat) e (j:Nat) c d,es[i]?=some e→(cellsOf e)[j]?=some d→cs[off+i*s+j]?=some c→Can fr σ c d):Can fr σ (.sl id off len cap ep s) (.tree s es)
theorem Can.rv{fr:Bool}{M:Fz}{x z:IV}(hi:Inv N ι σ w)(hM:∀b c el,w.heap[b]?=some (.cells c el (0,0))→(∃id,Own ι id b)→M b=some c)(hm:fr=true→∀b c,ι.m b=some c→M b=some c)
 (h:Can fr σ x z):∀{u:Value},Rv ι x u→Rv (eo M) z u:=by
 induction h with
 |raw v=>intro u h;cases h;exact .raw v
 |nil s hs=>intro u h;cases h;exact .dN s none 0 hs (fun _=>rfl)
 |emp s hs=>intro u h;cases h;exact .dN s _ 0 hs (fun _=>rfl)
 |da t x y _ ih=>intro u h;cases h with|da _ _ v hh=>exact .da t y v (ih hh)
 |agg cs ds hl _ ih=>
  intro u h;cases h with
  |agg _ vs cd hh=>
   refine .agg ds vs (hl▸cd) fun i d v h1 h2=>?_;have cT:i<cs.length:=by have:=(aqF.1 h1).1;omega
   exact ih i _ d (aqE cT) h1 (hh i _ v (aqE cT) h2)
 |av cs ds hl _ ih=>
  intro u h;cases h with
  |av _ vs cd hh=>
   refine .av ds vs (hl▸cd) fun i d v h1 h2=>?_;have cT:i<cs.length:=by have:=(aqF.1 h1).1;omega
   exact ih i _ d (aqE cT) h1 (hh i _ v (aqE cT) h2)
 |pure x hf hp=>intro u h;exact hp.rv h (hm hf)
 |dN s=>
  intro u h;cases h with
  |tree _ _ b off c us hs hc bC hu hh=>exact .dN s _ c hs (by simp)
  |dN _ a c hs hn=>exact .dN s a c hs hn
 |sl id off len cap ep s cs au mn es aA h1 h2 hl hb bC _ ih=>
  intro u h;cases h with
  |sl _ _ _ _ _ _ l c a cd hn gN hs hle fw ha=>
   obtain⟨⟨_,_⟩,_,UE⟩:=hi.obj id _ aA;obtain⟨l',ca,el,eN,CM,aii,apS,gS⟩:=UE ep h1 h2;rw[cd]at eN;cases eN;have hMb:M l.b=some ca:=hM _ _ _ aii ⟨id,ep,l,cd,rfl⟩;subst hl;by_cases he:es=[]
   ·subst he;exact .dN s (some a) c hs (by simp)
   ·have sj:0<es.length:=by cases es with|nil=>exact absurd rfl he|cons=>simp
    have Hx:=ha (by omega);subst Hx;refine .tree s es l.b off c (fun k=>ca.getD (off+k) Go.undef) hs hle bC (fun k hk=>?_) (fun i e j d cW yl=>?_)
    ·obtain⟨x,hx⟩:∃x,cs[off+k]?=some x:=⟨_,aqE (by omega)⟩;obtain⟨v,hv,_⟩:=gS (off+k) x (by omega) hx;show(M l.b).bind _=_;rw[hMb];simp[arU,hv]
    ·have cT:=(aqF.1 cW).1;have fJ:j<s:=by have:=(aqF.1 yl).1;rw[bC e (aqS cW)]at this;exact this
     have hmul:i*s+s≤es.length*s:=by
      have:(i+1)*s≤es.length*s:=Nat.mul_le_mul_right s cT;rw[Nat.add_mul]at this;omega
     obtain⟨x,hx⟩:∃x,cs[off+i*s+j]?=some x:=⟨_,aqE (by omega)⟩;obtain⟨v,hv,hr⟩:=gS (off+i*s+j) x (by omega) hx;have:=ih i e j x d cW yl hx hr;simp only[arU];rw[show off+(i*s+j)=off+i*s+j by omega,hv];exact this
def tK(M:Fz)(w:World):Prop:=∀b c,M b=some c→∃e f,w.heap[b]?=some (.cells c e f)
theorem tK.lt{M:Fz}(h:tK M w){b:Nat}{c:Array Value}(hb:M b=some c):b<w.heap.size:=by
 obtain⟨e,f,hh⟩:=h b c hb;rcases Nat.lt_or_ge b w.heap.size with aa|sg
 ·exact aa
 ·rw[Array.getElem?_eq_none sg]at hh;cases hh
def JC(new:Bool)(M:Fz)(w:World)(z:IV)(u:Value)(w':World):Prop:=
 ∃M',tK M' w'∧(∀b c,M' b=some c→(new=false∧M b=some c)∨w.heap.size≤b)∧(new=false→∀b c,M b=some c→M' b=some c)∧Rv (eo M') z u∧
  w'.os=w.os∧w'.tape=w.tape∧w'.output=w.output∧w.heap.size≤w'.heap.size∧∀b,b<w.heap.size→w'.heap[b]?=w.heap[b]?
def aeR(bU new:Bool)(M:Fz)(w:World)(z:IV):Ending→World→Prop
 |.returned u,w'=>bU=false∧JC new M w z u w'
 |.panicked ch,w'=>bU=true∧∃u,ch=[{v:=u,recovered:=false}]∧JC new M w z u w'
 |.outgrown,_=>False
def eV(P:Program)(bU new:Bool)(f:FuncId)(xs:List IV)(z:IV):Prop:=
 ∀M w us,tK M w→ax (eo M) xs us→CallsIn Fence.wide 0 P f us.toArray w (aeR bU new M w z)
theorem EH{M:Fz}(hM:tK M w):Inv N (eo M) ⟨0,.lf⟩ w:=
 ⟨hM,fun _ _ _ _ h=>(by obtain⟨_,_,h,_⟩:=h;cases h),fun _ _ h=>(by obtain⟨_,_,h,_⟩:=h;cases h),fun _ _ _ _=>rfl,fun _ _ _ h=>(by obtain⟨_,_,h,_⟩:=h;cases h),fun _ _ h=>(by cases h),fun _ _=>rfl⟩
def ri(new:Bool)(M:Fz)(w w':World):Fz:=fun b=>
 if b<w.heap.size then(if new then none else M b)else match w'.heap[b]? with
  |some (.cells c _ _)=>some c
  |_=>none
theorem Sl{M:Fz}{new:Bool}{ah:St}{v z:IV}{w':World}{u:Value}(hM:tK M w)(hc:Can (!new) ah v z)(hu:Rv ι v u)(hi:Inv N ι ah w')(hl:Le 0 (eo M) w ⟨0,.lf⟩ ι w' ah):JC new M w z u w':=by
 have sE:∀b,b<w.heap.size→w'.heap[b]?=w.heap[b]? :=fun b hb=>hl.frame b hb fun id ho=>(by obtain⟨_,_,h,_⟩:=ho;cases h);refine⟨ri new M w w',?_,?_,?_,?_,hl.os,hl.tape,hl.output,hl.size,sE⟩
 ·intro b c hb;unfold ri at hb;split at hb
  ·rename_i aa;split at hb
   ·cases hb
   ·rw[sE b aa];exact hM b c hb
  ·split at hb
   ·rename_i c' e f hh;cases hb;exact⟨e,f,hh⟩
   ·cases hb
 ·intro b c hb;unfold ri at hb;split at hb
  ·split at hb
   ·cases hb
   ·rename_i hn;exact .inl ⟨by simpa using hn,hb⟩
  ·exact .inr (by omega)
 ·intro hn b c hb;have aa:=hM.lt hb;unfold ri;rw[if_pos aa,if_neg (by simp[hn])];exact hb
 ·refine hc.rv hi ?_ ?_ hu
  ·intro b c el hh ho;obtain⟨id,ho⟩:=ho;rcases hl.own id b ho with ho|sg
   ·obtain⟨_,_,h,_⟩:=ho;cases h
   ·unfold ri;rw[if_neg (by omega),hh]
  ·intro hn b c hb;have Cj:new=false:=by simpa using hn
   rcases hl.wR b c hb with pY|sg
   ·have aa:=hM.lt pY;unfold ri;rw[if_pos aa,if_neg (by simp[Cj])];exact pY
   ·obtain⟨e,f,hh⟩:=hi.mem b c hb;unfold ri;rw[if_neg (by omega),hh]
theorem eV.of{new:Bool}{f:FuncId}{xs:List IV}{v z:IV}{ah:St}(h:gy P 0 f xs ⟨0,.lf⟩ v ah)(hc:Can (!new) ah v z):eV P false new f xs z:=by
 intro M w us hM hr;refine(h.2 ah.n (aqK _) (eo M) us w (EH hM) hr).mono fun e w' hR=>?_;cases e with
 |returned u=>
  obtain⟨aC,h1,h2,h3⟩:=hR;exact⟨rfl,Sl hM hc h1 h2 h3⟩
 |panicked ch=>exact hR.elim
 |outgrown=>exact hR.elim
theorem EI{M:Fz}{new:Bool}{z:IV}{u:Value}{w':World}(hi:Inv N ι σ w)(hM:new=false→∀b c,ι.m b=some c↔M b=some c)(h:JC new M w z u w'):∃aC,Rv aC z u∧Inv N aC σ w'∧Le ro ι w σ aC w' σ:=by
 obtain⟨M',h1,h2,h3,h4,h5,h6,h7,h8,h9⟩:=h;have hm:tK ι.m w:=hi.mem
 have hold:∀b c,ι.m b=some c→(fun b=>if b<w.heap.size then ι.m b else M' b) b=some c:=by
  intro b c hb;simp only[if_pos (hm.lt hb)];exact hb
 have amv:∀b c,M' b=some c→(fun b=>if b<w.heap.size then ι.m b else M' b) b=some c:=by
  intro b c hb;by_cases aa:b<w.heap.size
  ·simp only[if_pos aa];rcases h2 b c hb with⟨hn,pY⟩|sg
   ·exact(hM hn b c).2 pY
   ·omega
  ·simp only[if_neg aa];exact hb
 have jb:Ext ι ⟨ι.f,fun b=>if b<w.heap.size then ι.m b else M' b⟩:=⟨fun _ _ _ h=>h,hold⟩;refine⟨⟨ι.f,fun b=>if b<w.heap.size then ι.m b else M' b⟩,h4.mono ⟨fun _ _ _ h=>(by cases h),amv⟩,⟨?_,?_,?_,hi.fresh,hi.inj,?_,hi.wf⟩,⟨jb,fun _ _ h=>.inl h,fun _ _ _ _=>rfl,fun _ h _=>h,fun _ _ _=>rfl,aqK _,h5,h6,h7,h8,fun b hb _=>h9 b hb,?_⟩⟩
 ·intro b c hb;simp only at hb;split at hb
  ·rename_i aa;obtain⟨e,f,hh⟩:=hi.mem b c hb;exact⟨e,f,by rw[h9 b aa];exact hh⟩
  ·exact h1 b c hb
 ·intro b c id hb ho;simp only at hb;split at hb
  ·exact hi.sep b c id hb ho
  ·rename_i sg;exact sg (hi.iw id b ho)
 ·intro id b ho;exact Nat.lt_of_lt_of_le (hi.iw id b ho) h8
 ·intro id o ho;exact(hi.obj id o ho).keep jb (fun _=>rfl) fun b hb=>h9 b (hi.iw id b hb)
 ·intro b c hb;simp only at hb;split at hb
  ·exact .inl hb
  ·rename_i sg;exact .inr (by omega)
def Da(fr:Bool)(σ:St)(cs ds:List IV):Prop:=cs.length=ds.length∧∀(i:Nat) c d,cs[i]?=some c→ds[i]?=some d→Can fr σ c d
def allM(w:World):Fz:=fun b=>match w.heap[b]? with
 |some (.cells c _ _)=>some c
 |_=>none
theorem Sn{b:Nat}{c:Array Value}{e:TypeId}{f:Nat×Nat}(h:w.heap[b]?=some (.cells c e f)):allM w b=some c:=by unfold allM;rw[h]
theorem zO:tK (allM w) w:=by
 intro b c hb;unfold allM at hb;split at hb
 ·rename_i hh;cases hb;exact⟨_,_,hh⟩
 ·cases hb
theorem Da.rv{xs zs:List IV}{us:List Value}(hc:Da true σ xs zs)(hi:Inv N ι σ w)(h:ax ι xs us):ax (eo (allM w)) zs us:=by
 refine⟨hc.1▸h.1,fun i z u h1 h2=>?_⟩;have cT:i<xs.length:=by have:=(aqF.1 h1).1;have:=hc.1;omega
 refine(hc.2 i _ z (aqE cT) h1).rv hi (fun b c el hh _=>Sn hh) (fun _ b c hb=>?_) (h.2 i _ u (aqE cT) h2);obtain⟨e,f,hh⟩:=hi.mem b c hb;exact Sn hh
theorem eV.EJ{f:FuncId}{args xs:List IV}{z:IV}(h:eV P false true f xs z)(hc:Da true σ args xs):gy P ro f args σ z σ:=by
 refine⟨aqK _,fun N hN ι us w hi hr=>?_⟩;refine(h (allM w) w us zO (hc.rv hi hr)).mono fun e w' hR=>?_;cases e with
 |returned u=>exact EI hi (fun hn=>by cases hn) hR.2
 |panicked ch=>exact absurd hR.1 (by simp)
 |outgrown=>exact hR.elim
def cE(args:List IV)(n:Nat):Env:=args.zipIdx.foldl (fun e (v,i)=>e.put (some i) v) ⟨n,.lf⟩
section body
variable{S:Self}{f:FuncId}{fn:Func}{c:Code}{args:List IV}{e1:Env}{df:List Df}{ai ah:St}{ex:Ex}{v:IV}
theorem rL:ek P Self.none∧bB Self.none:=
 ⟨⟨fun _ _ _ _ _ _ _ h=>(by cases h),fun _ _ _ _ _ _ _ h=>(by cases h),fun _ _ _ _ _ _ _ _ h=>(by cases h),fun _ _ _ _ _ _ _ h=>(by cases h)⟩,⟨fun _ _ _ _ _ _ h=>(by cases h),fun _ _ _ _ _ _ h=>(by cases h),fun _ _ _ _ _ _ _ h=>(by cases h)⟩⟩
end body
end Go.Ev
namespace Go.Ev
open Go.RowKit
variable{P:Program}
def UF:Value→Value→Bool
 |.int k n,.int k' n'=>decide (k=k')&&decide (n=n')
 |.bool a,.bool b=>a==b
 |.string a,.string b=>decide (a=b)
 |_,_=>false
theorem Z3{a b:Value}(h:UF a b=true):a=b:=by
 unfold UF at h;split at h
 ·simp only[aqG,decide_eq_true_eq]at h;rw[h.1,h.2]
 ·rw[beq_iff_eq]at h;rw[h]
 ·rw[decide_eq_true_eq]at h;rw[h]
 ·cases h
def Db(p:IV→IV→Bool):List IV→List IV→Bool
 |[],[]=>true
 |a::as,b::bs=>p a b&&Db p as bs
 |_,_=>false
theorem vS{p:IV→IV→Bool}:∀{as bs:List IV},Db p as bs=true→as.length=bs.length∧∀(i:Nat) a b,as[i]?=some a→bs[i]?=some b→p a b=true
 |[],[],_=>⟨rfl,fun i a b h=>by simp at h⟩
 |a::as,b::bs,h=>by
  simp only[Db,aqG]at h;obtain⟨h1,h2⟩:=vS h.2;refine⟨by simp[h1],fun i=>?_⟩;cases i with
  |zero=>intro a' b' e1 e2;simp at e1 e2;subst e1 e2;exact h.1
  |succ i=>intro a' b' e1 e2;simp at e1 e2;exact h2 i a' b' e1 e2
 |[],_::_,h=>by simp[Db]at h
 |_::_,[],h=>by simp[Db]at h
def Dc(σ:St):Nat→IV→IV→Bool
 |0,_,_=>false
 |f+1,x,z=>
  match z with
  |.raw u=>match x with
   |.raw v=>UF v u
   |_=>false
  |.agg ds=>match x with
   |.agg cs=>Db (Dc σ f) cs ds
   |_=>false
  |.av ds=>match x with
   |.av cs=>Db (Dc σ f) cs ds
   |_=>false
  |.tree s es=>match x with
   |.raw (.slice none l c)=>es.isEmpty&&arH 0 s&&aqP l 0&&aqP c 0
   |.emp=>es.isEmpty&&arH 0 s
   |.tree s' aB=>es.isEmpty&&aB.isEmpty&&aqP s s'
   |.sl id off len _ ep s'=>match σ.at id with
    |some (.cells cs au mn)=>arE mn ep&&arE ep au&&aqP es.length len&&arE (off+len*s) cs.length&&aqP s s'&&
      es.zipIdx.all fun(e,i)=>aqP (cellsOf e).length s&&(cellsOf e).zipIdx.all fun(d,j)=>match cs[off+i*s+j]? with
       |some c=>Dc σ f c d
       |none=>true
    |_=>false
   |_=>false
  |_=>false
theorem sF{fr:Bool}{σ:St}:∀{f:Nat} {x z:IV},Dc σ f x z=true→Can fr σ x z
 |0,_,_,h=>by simp[Dc]at h
 |f+1,x,z,h=>by
  unfold Dc at h;split at h
  ·split at h
   ·rw[Z3 h];exact .raw _
   ·cases h
  ·split at h
   ·obtain⟨h1,h2⟩:=vS h;exact .agg _ _ h1 fun i c d e1 e2=>sF (h2 i c d e1 e2)
   ·cases h
  ·split at h
   ·obtain⟨h1,h2⟩:=vS h;exact .av _ _ h1 fun i c d e1 e2=>sF (h2 i c d e1 e2)
   ·cases h
  ·split at h
   ·rename_i es _ l c;simp only[aqG,arP,auG,ark]at h;obtain⟨⟨⟨h1,h2⟩,h3⟩,h4⟩:=h;subst h1 h3 h4;exact .nil _ h2
   ·simp only[aqG,arP,auG]at h;obtain⟨h1,h2⟩:=h;subst h1;exact .emp _ h2
   ·simp only[aqG,arP,ark]at h;obtain⟨⟨h1,h2⟩,h3⟩:=h;subst h1 h2 h3;exact .dN _
   ·split at h
    ·rename_i aA;simp only[aqG,ark,Nat.ble_eq,aqW]at h;obtain⟨⟨⟨⟨⟨h1,h2⟩,h3⟩,h4⟩,h5⟩,h6⟩:=h;subst h5;refine .sl _ _ _ _ _ _ _ _ _ _ aA h1 h2 h3 h4 (fun e he=>?_) fun i e j c d e1 e2 e3=>?_
     ·obtain⟨i,hi,rfl⟩:=asu he;exact(h6 (_,i) (arM.2 (aqE hi))).1
     ·have:=(h6 (e,i) (arM.2 e1)).2 (d,j) (arM.2 e2);simp only[e3]at this;exact sF this
    ·cases h
   ·cases h
  ·cases h
abbrev Hk:=FuncId→List (List IV×IV)
def hit(σ:St)(args:List IV):List (List IV×IV)→Option IV
 |[]=>none
 |(xs,z)::l=>if Db (Dc σ 40) args xs then some z else hit σ args l
theorem K8{σ:St}{args:List IV}{z:IV}:∀{l:List (List IV×IV)},hit σ args l=some z→∃xs,(xs,z)∈l∧Da true σ args xs
 |[],h=>by cases h
 |(xs,y)::l,h=>by
  rw[hit]at h;split at h
  ·rename_i ha;cases h;obtain⟨h1,h2⟩:=vS ha;exact⟨xs,.head _,h1,fun i c d e1 e2=>sF (h2 i c d e1 e2)⟩
  ·obtain⟨nD,h1,h2⟩:=K8 h;exact⟨nD,.tail _ h1,h2⟩
def N6(H:Hk)(S:Self):Self:=⟨S.code,fun ro f args σ=>match hit σ args (H f)with
 |some z=>some (z,σ)
 |none=>S.call ro f args σ,S.bU,S.vF⟩
def Sp(P:Program)(H:Hk)(n:Nat):Self:=Nat.rec Self.none (fun _ S=>N6 H (lj P S)) n
theorem WT{H:Hk}{S:Self}(hH:∀f xs z,(xs,z)∈H f→eV P false true f xs z)(hC:ek P S):ek P (N6 H S) where
 call:=by
  intro N ro f args σ v ah h hN ι us w hi hr;simp only[N6]at h;split at h
  ·rename_i z hz;cases h;obtain⟨xs,h1,h2⟩:=K8 hz;exact((hH f xs _ h1).EJ (ro:=ro) h2).2 N hN ι us w hi hr
  ·exact hC.call N ro f args σ v ah h hN ι us w hi hr
 bU:=hC.bU
 vF:=hC.vF
 mb:=hC.mb
theorem WU{H:Hk}{S:Self}(hk:bB S):bB (N6 H S) where
 call:=by
  intro ro f args σ v ah h;simp only[N6]at h;split at h
  ·cases h;exact aqK _
  ·exact hk.call ro f args σ v ah h
 bU:=hk.bU
 vF:=hk.vF
theorem WV(eS:P.follows .mixedOrders=true){H:Hk}(hH:∀f xs z,(xs,z)∈H f→eV P false true f xs z):∀n,gU P (Sp P H n) n∧ek P (Sp P H n)∧bS (Sp P H n)∧bB (Sp P H n)
 |0=>abI (fun _ _ h1 h2 h3 h4=>Sk eS h1 h2 h3 h4) 0
 |n+1=>by
  obtain⟨h1,h2,h3,h4⟩:=WV eS hH n;exact⟨Se h1 h2 h3 h4 (Sk eS h1 h2 h3 h4),WT hH (Jz h1 h2 h3 h4),KR h3 h4,WU (C1 h3 h4)⟩
def comes(r:Option (IV×St))(z:IV):Bool:=
 match r with
 |some (v,σ)=>Dc σ 40 v z
 |none=>false
theorem eV.run(eS:P.follows .mixedOrders=true){H:Hk}(hH:∀f xs z,(xs,z)∈H f→eV P false true f xs z){n:Nat}{new:Bool}{f:FuncId}{xs:List IV}{z:IV}(h:comes ((Sp P H n).call 0 f xs ⟨0,.lf⟩) z=true):eV P false new f xs z:=by
 unfold comes at h;split at h
 ·rename_i v σ hc;obtain⟨_,h2,_,h4⟩:=WV eS hH n;exact eV.of ⟨h4.call _ _ _ _ _ _ hc,fun N hN ι us w hi hr=>h2.call N 0 f xs _ _ _ hc hN ι us w hi hr⟩ (sF h)
 ·cases h
end Go.Ev
namespace Go.Ev
namespace T
variable{α:Type}
inductive WF:T α→Prop
 |lf:WF .lf
 |nd (l:T α) (v:Option α) (r:T α) (hl:WF l) (hr:WF r) (h:v.isSome=true∨(∃i,(l.get i).isSome=true)∨∃i,(r.get i).isSome=true):WF (.nd l v r)
theorem Gy(l:T α)(v:Option α)(r:T α)(i:Nat):(T.nd l v r).get (2*i+1)=l.get i:=by
 rw[uY,if_neg (by omega),if_pos (by omega)];congr 1;omega
theorem Dd(l:T α)(v:Option α)(r:T α)(i:Nat):(T.nd l v r).get (2*i+2)=r.get i:=by
 rw[uY,if_neg (by omega),if_neg (by omega)];congr 1;omega
theorem Gz(l:T α)(v:Option α)(r:T α):(T.nd l v r).get 0=v:=by rw[uY,if_pos rfl]
theorem WF.key{l:T α}{v:Option α}{r:T α}(h:WF (.nd l v r)):∃i,((T.nd l v r).get i).isSome=true:=by
 cases h with
 |nd _ _ _ _ _ h=>
  rcases h with h|⟨i,h⟩|⟨i,h⟩
  ·exact⟨0,by rw[Gz];exact h⟩
  ·exact⟨2*i+1,by rw[Gy];exact h⟩
  ·exact⟨2*i+2,by rw[Dd];exact h⟩
theorem WF.ext:∀{t t':T α},WF t→WF t'→(∀i,t.get i=t'.get i)→t=t'
 |.lf,.lf,_,_,_=>rfl
 |.lf,.nd l v r,_,h',he=>by
  obtain⟨i,hi⟩:=h'.key;rw[←he i]at hi;cases hi
 |.nd l v r,.lf,h,_,he=>by
  obtain⟨i,hi⟩:=h.key;rw[he i]at hi;cases hi
 |.nd l v r,.nd l' v' r',.nd _ _ _ hl hr _,.nd _ _ _ cd oh _,he=>by
  have e0:v=v':=by have:=he 0;rwa[Gz,Gz]at this
  have e1:l=l':=hl.ext cd fun i=>by have:=he (2*i+1);rwa[Gy,Gy]at this
  have e2:r=r':=hr.ext oh fun i=>by have:=he (2*i+2);rwa[Dd,Dd]at this
  rw[e0,e1,e2]
theorem adn:∀(f:Nat) (t:T α) (i:Nat) (x:α),i<f→WF t→WF (qe f t i x):=by
 intro f;induction f with
 |zero=>intro t i x h;omega
 |succ f ih=>
  intro t i x h hw
  have key:∀(l:T α) (v:Option α) (r:T α),WF l→WF r→WF (qe (f+1) (.nd l v r) i x):=by
   intro l v r hl hr;rw[RY];by_cases hi:i=0
   ·rw[if_pos hi];exact .nd _ _ _ hl hr (.inl rfl)
   ·rw[if_neg hi];by_cases ho:i % 2=1
    ·rw[if_pos ho];exact .nd _ _ _ (ih _ _ _ (by omega) hl) hr (.inr (.inl ⟨i/2,by rw[Gg _ _ _ _ _ (by omega),if_pos rfl];rfl⟩))
    ·rw[if_neg ho];exact .nd _ _ _ hl (ih _ _ _ (by omega) hr) (.inr (.inr ⟨i/2- 1,by rw[Gg _ _ _ _ _ (by omega),if_pos rfl];rfl⟩))
  cases t with
  |lf=>rw[RZ];exact key _ _ _ .lf .lf
  |nd l v r=>cases hw with|nd _ _ _ hl hr _=>exact key l v r hl hr
theorem WF.set{t:T α}(h:WF t)(i:Nat)(x:α):WF (t.set i x):=adn _ _ _ _ (by omega) h
end T
variable{P:Program}{ro:Nat}{σ:St}{ρ:Operand→IV}{o:Oper}{out:ey}
def Dg(σ:St):ey→Prop
 |.val _ ah=>σ.t.WF→ah.t.WF
 |_=>True
theorem zP{v:IV}{ah:St}(hle:σ.t.WF→ah.t.WF)(h:ret v ah=some out):Dg σ out:=by rw[aE h];exact hle
theorem EK{v:IV}(h:ret v σ=some out):Dg σ out:=zP (fun h=>h) h
theorem Dh{v:IV}{id:Nat}{ob:Ob}(h:ret v (σ.put id ob)=some out):Dg σ out:=zP (ah:=σ.put id ob) (fun h=>h.set _ _) h
theorem ado{v:IV}{id br:Nat}{ob eE:Ob}(h:ret v ((σ.put id ob).put br eE)=some out):Dg σ out:=zP (ah:=(σ.put id ob).put br eE) (fun h=>(h.set _ _).set _ _) h
theorem WW{v:IV}{ob:Ob}(h:ret v (σ.add ob)=some out):Dg σ out:=zP (fun h=>h.set _ _) h
theorem K9{kt:TypeId}{m k v:IV}{ah:St}(h:oK P ro kt m k v σ=some ah):σ.t.WF→ah.t.WF:=by
 unfold oK at h
 repeat' split at h
 all_goals first|(cases h;done)|(cases h;exact fun h=>h.set _ _)
theorem WX{f:IV}{args:List IV}(h:gj P f args=some out):Dg σ out:=by
 unfold gj at h
 repeat' split at h
 all_goals first|(cases h;done)|(cases h;exact trivial)
theorem WY{x:IV}{name:String}{args:List IV}(h:tO P x name args=some out):Dg σ out:=by
 unfold tO at h
 repeat' split at h
 all_goals first|(cases h;done)|(cases h;exact trivial)
theorem WZ{argTypes:Array TypeId}{s x:IV}(h:kf P ro argTypes s x σ=some out):Dg σ out:=by
 have hn:∀{size aS n:Nat} {new:List IV} {s:IV},ff size aS n new s σ=some out→Dg σ out:=by
  intro size aS n new s h;unfold ff at h;split at h
  ·split at h
   ·exact WW h
   ·cases h
  ·cases h
 unfold kf at h;split at h
 ·split at h
  ·split at h
   ·split at h
    ·cases h
    ·split at h
     ·split at h
      ·unfold eA at h
       repeat' split at h
       all_goals first|exact EK h|exact Dh h|exact ado h|exact hn h|cases h
      ·cases h
     ·cases h
   ·cases h
  ·cases h
 ·cases h
theorem UG{b:Builtin}{argTypes:Array TypeId}{args:List IV}(h:dv P ro b argTypes args σ=some out):Dg σ out:=by
 unfold dv at h;split at h
 ·split at h
  ·exact WZ h
  ·cases h
 ·split at h
  ·rw[aqL]at h;obtain⟨z,_,rfl⟩:=h;exact fun h=>h
  ·cases h
 ·split at h
  ·rw[aqL]at h;obtain⟨z,_,rfl⟩:=h;exact fun h=>h
  ·cases h
 ·rw[aqL]at h;obtain⟨z,_,rfl⟩:=h;exact fun h=>h
 ·rw[aqL]at h;obtain⟨z,_,rfl⟩:=h;exact fun h=>h
 ·split at h
  ·unfold wE at h
   repeat' split at h
   all_goals first|exact Dh h|(cases h;done)
  ·cases h
 ·split at h
  ·unfold sa at h
   repeat' split at h
   all_goals first|exact EK h|exact Dh h|(cases h;done)
  ·cases h
 ·split at h
  ·unfold Ey at h
   repeat' split at h
   all_goals first|exact EK h|exact Dh h|(cases h;done)
  ·cases h
 ·cases h
theorem aeS(h:ak P ro ρ o σ=some out):Dg σ out:=by
 unfold ak at h;cases ho:o.op<;>rw[ho]at h<;>(try dsimp only at h)
 case call c=>
  split at h
  ·exact UG h
  ·exact WX h
  ·exact WY h
 case defer c=>
  split at h
  ·split at h
   ·cases h;exact trivial
   ·cases h
  ·cases h
 case mapUpdate=>
  split at h
  ·split at h
   ·rename_i ah hs;exact zP (K9 hs) h
   ·cases h
  ·cases h
 case insert=>
  split at h
  ·split at h
   ·rename_i ah hs;exact zP (K9 hs) h
   ·cases h
  ·cases h
 all_goals (repeat' split at h)
 all_goals first|exact EK h|exact Dh h|exact WW h|(cases h;done)|(cases h;exact trivial)
theorem UH{v:IV}{ah:St}(h:ak P ro ρ o σ=some (.val v ah))(hw:σ.t.WF):ah.t.WF:=aeS h hw
theorem Di{v:IV}{ai:St}(hk:db o=.pure)(h:ak P ro ρ o σ=some (.val v ai)):ai=σ∧∀fL ah,ak P fL ρ o ah=some (.val v ah):=by
 unfold db at hk;unfold ak at h⊢;cases ho:o.op<;>rw[ho]at h hk<;>(try dsimp only at h hk⊢)<;>(try (cases hk;done))
 case call c=>
  obtain⟨callee,argTypes,args⟩:=c;cases callee with
  |builtin b=>
   cases b<;>simp only at hk<;>(try (cases hk;done))
   all_goals
    simp only[dv]at h⊢
    first
    |(rw[aqL]at h
      obtain⟨z,hz,he⟩:=h;cases he;exact⟨rfl,fun _ _=>by rw[hz];rfl⟩)
    |(split at h
      ·rename_i hx;rw[aqL]at h;obtain⟨z,hz,he⟩:=h;cases he;exact⟨rfl,fun _ _=>by rw[hz];rfl⟩
      ·cases h)
  |value f=>cases hk
  |invoke r m=>cases hk
 all_goals (repeat' split at h)
 all_goals first
  |(cases h;done)
  |(cases h;exact⟨rfl,fun _ _=>by simp_all[ret]⟩)
theorem Dj{v:IV}{ai:St}(hk:db o=.load)(h:ak P ro ρ o σ=some (.val v ai)):ai=σ∧∀fL,ak P fL ρ o σ=some (.val v σ):=by
 unfold db at hk;unfold ak at h⊢;cases ho:o.op<;>rw[ho]at h hk<;>(try dsimp only at h hk⊢)<;>(try (cases hk;done))
 case call c=>
  obtain⟨callee,argTypes,args⟩:=c;cases callee with
  |builtin b=>
   cases b<;>simp only at hk<;>(try (cases hk;done));simp only[dv]at h⊢;split at h
   ·rename_i hx;rw[aqL]at h;obtain⟨z,hz,he⟩:=h;cases he;exact⟨rfl,fun _=>by rw[hz];rfl⟩
   ·cases h
  |value f=>cases hk
  |invoke r m=>cases hk
 all_goals (repeat' split at h)
 all_goals first
  |(cases h;done)
  |(cases h;exact⟨rfl,fun _=>by simp_all[ret]⟩)
theorem aeT(σ:St)(ob:Ob):(St.add ⟨σ.n,.lf⟩ ob)=⟨(σ.add ob).n,T.lf.set σ.n ob⟩:=rfl
theorem HL{v:IV}{ai:St}(hk:db o=.alloc)(h:ak P ro ρ o σ=some (.val v ai)):
 ∃t,(∀fL,ak P fL ρ o ⟨σ.n,.lf⟩=some (.val v ⟨ai.n,t⟩))∧((ai=σ∧t=.lf)∨∃ob,ai=σ.add ob∧t=T.lf.set σ.n ob):=by
 unfold db at hk;unfold ak at h⊢;cases ho:o.op<;>rw[ho]at h hk<;>(try dsimp only at h hk⊢)<;>(try (cases hk;done))
 case call c=>
  obtain⟨callee,argTypes,args⟩:=c;cases callee with
  |builtin b=>cases b<;>cases hk
  |value f=>cases hk
  |invoke r m=>cases hk
 all_goals (repeat' split at h)
 all_goals first
  |(cases h;done)
  |(cases h;exact⟨_,fun _=>by simp_all[ret,aeT],.inr ⟨_,rfl,rfl⟩⟩)
  |(cases h;exact⟨_,fun _=>by simp_all[ret],.inl ⟨rfl,rfl⟩⟩)
theorem xj{b:Builtin}{argTypes:Array TypeId}{args:List IV}{f:FuncId}{as:List IV}(h:dv P ro b argTypes args σ=some (.enter f as)):False:=by
 unfold dv at h;split at h
 ·split at h
  ·obtain⟨_,_,he⟩:=FL h;cases he
  ·cases h
 ·split at h
  ·rw[aqL]at h;obtain⟨z,_,he⟩:=h;cases he
  ·cases h
 ·split at h
  ·rw[aqL]at h;obtain⟨z,_,he⟩:=h;cases he
  ·cases h
 ·rw[aqL]at h;obtain⟨z,_,he⟩:=h;cases he
 ·rw[aqL]at h;obtain⟨z,_,he⟩:=h;cases he
 ·split at h
  ·unfold wE at h
   repeat' split at h
   all_goals cases h
  ·cases h
 ·split at h
  ·unfold sa at h
   repeat' split at h
   all_goals cases h
  ·cases h
 ·split at h
  ·unfold Ey at h
   repeat' split at h
   all_goals cases h
  ·cases h
 ·cases h
theorem AL{f:FuncId}{args:List IV}(h:ak P ro ρ o σ=some (.enter f args)):∀fL ah,ak P fL ρ o ah=some (.enter f args):=by
 intro fL ah;unfold ak at h⊢;cases ho:o.op<;>rw[ho]at h<;>(try dsimp only at h⊢)
 case call c=>
  split at h
  ·exact(xj h).elim
  ·exact h
  ·exact h
 case defer c=>
  split at h
  ·split at h<;>cases h
  ·cases h
 all_goals (repeat' split at h)
 all_goals cases h
open Classical in
@[reducible] noncomputable def aeU:Sm:=⟨fun u v=>decide (u=v),fun _ _ h=>of_decide_eq_true h⟩
attribute [local instance] aeU
open Classical in
noncomputable def qj(R:Option Nat)(f:FuncId)(args:List IV)(σ:St)(v:IV)(ai:St):Self where
 code:=fun _ _ _ _ _ _ _=>none
 call:=fun fL f' a' ah=>if(R=none∨R=some fL)∧f'=f∧a'=args∧ah=σ then some (v,ai)else none
 bU:=fun _ _ _ _=>none
 vF:=fun _ _ _ _ _=>none
def lu(P:Program)(U:Self):Prop:=gU P U 0∧ek P U∧bS U∧bB U
theorem nT:lu P Self.none:=
 ⟨fun _ _ _ _ _ _ _ _ _ h=>(by cases h),(rL (P:=P)).1,fun _ _ _ _ _ _ _ _ h=>(by cases h),(rL (P:=P)).2⟩
theorem K_{R:Option Nat}{f:FuncId}{args:List IV}{σ:St}{v:IV}{ai:St}(h:∀ro,(R=none∨R=some ro)→gy P ro f args σ v ai){fL:Nat}{f':FuncId}{a':List IV}{ah:St}{v':IV}{dc:St}
 (hc:(qj R f args σ v ai).call fL f' a' ah=some (v',dc)):gy P fL f' a' ah v' dc:=by
 simp only[qj]at hc;split at hc
 ·rename_i hh;cases hc;obtain⟨h1,rfl,rfl,rfl⟩:=hh;exact h _ h1
 ·cases hc
theorem sG{R:Option Nat}{f:FuncId}{args:List IV}{σ:St}{v:IV}{ai:St}(h:∀ro,(R=none∨R=some ro)→gy P ro f args σ v ai):lu P (qj R f args σ v ai):=
 ⟨fun _ _ _ _ _ _ _ _ _ h=>(by cases h),⟨fun N _ _ _ _ _ _ hc hN=>(K_ h hc).2 N hN,fun _ _ _ _ _ _ _ h=>(by cases h),fun _ _ _ _ _ _ _ _ h=>(by cases h),fun _ _ _ _ _ _ _ h=>(by cases h)⟩,
  fun _ _ _ _ _ _ _ _ h=>(by cases h),⟨fun _ _ _ _ _ _ hc=>(K_ h hc).1,fun _ _ _ _ _ _ h=>(by cases h),fun _ _ _ _ _ _ _ h=>(by cases h)⟩⟩
def zQ(o:Oper):Bool:=
 match o.op with
 |.call {callee:=.value _,.. }=>true
 |_=>false
def EL(ops:Array Oper)(pl:dM):Bool:=
 ops.toList.zipIdx.all fun(o,j)=>
  (match pl.kinds.getD j .effect with
   |.call=>zQ o&&db o==.call
   |.effect=>true
   |k=>db o==k)&&
  (pl.kinds.getD j .effect==.pure||ops.toList.zipIdx.all fun(_,i)=> !arH i j||aq0 (pl.bW.getD j 0) i||
   (match pl.kinds.getD i .effect with
    |.alloc|.effect=>false
    |.load=> !(pl.kinds.getD j .effect==.effect)
    |_=>true))
inductive fT(P:Program)(ro:Nat)(ops:Array Oper)(pl:dM)(fr:Bool):List (Oper×Nat)→Env→St→Env→St→Prop
 |nil (e:Env) (σ:St):fT P ro ops pl fr [] e σ e σ
 |skip {o:Oper} {j:Nat} {l:List (Oper×Nat)} {e:Env} {σ:St} {e':Env} {ah:St} (hw:aJ o ops e=false) (h:fT P ro ops pl fr l (e.put o.dst .undef) σ e' ah):fT P ro ops pl fr ((o,j)::l) e σ e' ah
 |val {o:Oper} {j:Nat} {l:List (Oper×Nat)} {e:Env} {σ:St} {e':Env} {ah:St} {v:IV} {ai:St} (hw:aJ o ops e=true) (hv:ak P ro (aq e) o σ=some (.val v ai)) (h:fT P ro ops pl fr l (e.put o.dst v) ai e' ah):fT P ro ops pl fr ((o,j)::l) e σ e' ah
 |HM {o:Oper} {j:Nat} {l:List (Oper×Nat)} {e:Env} {σ:St} {e':Env} {ah:St} {f:FuncId} {args:List IV} {v:IV} (hw:aJ o ops e=true) (hv:ak P ro (aq e) o σ=some (.enter f args)) (hc:∀ro,gy P ro f args σ v σ)
   (h:fT P ro ops pl fr l (e.put o.dst v) σ e' ah):fT P ro ops pl fr ((o,j)::l) e σ e' ah
 |call {o:Oper} {j:Nat} {l:List (Oper×Nat)} {e:Env} {σ:St} {e':Env} {ah:St} {f:FuncId} {args:List IV} {v:IV} {ai:St} (hk:aV pl j=.effect) (hw:aJ o ops e=true) (hv:ak P ro (aq e) o σ=some (.enter f args))
   (hc:gy P ro f args σ v ai) (jd:σ.t.WF→ai.t.WF) (h:fT P ro ops pl fr l (e.put o.dst v) ai e' ah):fT P ro ops pl fr ((o,j)::l) e σ e' ah
 |UI {o:Oper} {j:Nat} {l:List (Oper×Nat)} {e:Env} {σ:St} {e':Env} {ah:St} {f:FuncId} {args:List IV} {v:IV} {ob:Ob} (hq:fr=true) (hw:aJ o ops e=true) (hv:ak P ro (aq e) o σ=some (.enter f args))
   (hc:∀ro,gy P ro f args σ v (σ.add ob)) (h:fT P ro ops pl fr l (e.put o.dst v) (σ.add ob) e' ah):fT P ro ops pl fr ((o,j)::l) e σ e' ah
theorem AM{ops:Array Oper}{pl:dM}(h:EL ops pl=true){o:Oper}{j:Nat}(ho:(o,j)∈ops.toList.zipIdx):
 (aV pl j≠.call→aV pl j≠.effect→db o=aV pl j)∧(aV pl j=.call→zQ o=true)∧
 (aV pl j≠.pure→∀p i,(p,i)∈ops.toList.zipIdx→i<j→(aV pl i=.alloc∨aV pl i=.effect∨(aV pl i=.load∧aV pl j=.effect))→aq0 (pl.bW.getD j 0) i=true):=by
 unfold EL at h;have h1:=aqW.1 h (o,j) ho;simp only[aqG,arl]at h1;obtain⟨h1,h2⟩:=h1;refine⟨fun hc he=>?_,fun hc=>?_,fun hp p i hi aa hk=>?_⟩
 ·unfold aV at hc he⊢;cases hk:pl.kinds.getD j .effect<;>rw[hk]at h1 hc he<;>first|exact absurd rfl hc|exact absurd rfl he|simpa using h1
 ·unfold aV at hc;rw[hc]at h1;simp only[aqG]at h1;exact h1.1
 ·rcases h2 with h2|h2
  ·exact absurd (by simpa[aV]using h2) hp
  ·have h3:=aqW.1 h2 (p,i) hi;simp only[arl]at h3;rcases h3 with(h3|h3)|h3
   ·rw[Bool.not_eq_true',←Bool.not_eq_true,auG]at h3;exact absurd aa h3
   ·exact h3
   ·unfold aV at hk;rcases hk with hk|hk|⟨hk,cy⟩
    ·rw[hk]at h3;cases h3
    ·rw[hk]at h3;cases h3
    ·rw[hk,cy]at h3;simp at h3
theorem kq(b:T Ob)(p:Piece)(h:p.hi≤p.lo):di b p=b:=by
 unfold di;rw[show p.hi- p.lo=0 by omega];rfl
theorem vT{b:T Ob}(h:b.WF)(p:Piece):(di b p).WF:=by
 unfold di;generalize List.range' p.lo (p.hi- p.lo)=l;induction l generalizing b with
 |nil=>exact h
 |cons id l ih=>
  simp only[arh];refine ih ?_;split
  ·exact h.set _ _
  ·exact h
theorem kr:∀(l:List Piece) {b:T Ob},b.WF→(l.foldl di b).WF
 |[],_,h=>h
 |p::l,_,h=>kr l (vT h p)
theorem sH{f:Piece→Bool}:∀(l:List Piece) (b:T Ob),(∀p∈l,f p=true∨p.hi≤p.lo)→(l.filter f).foldl di b=l.foldl di b
 |[],_,_=>rfl
 |p::l,b,h=>by
  have ht:=fun q hq=>h q (arW _ hq);rw[avm];by_cases hf:f p=true
  ·rw[if_pos hf];exact sH l _ ht
  ·rw[if_neg hf,arh,kq b p ((h p (asT ..)).resolve_left hf)];exact sH l b ht
theorem ym{f:Piece→Bool}:∀(l:List Piece) (b:T Ob),(∀p∈l,f p=true→p.hi≤p.lo)→(l.filter f).foldl di b=b
 |[],_,_=>rfl
 |p::l,b,h=>by
  have ht:=fun q hq=>h q (arW _ hq);rw[avm];by_cases hf:f p=true
  ·rw[if_pos hf,arh,kq b p (h p (asT ..) hf)];exact ym l b ht
  ·rw[if_neg hf];exact ym l b ht
theorem yn{n:Nat}{ob:Ob}:∀(l:List Piece) (b1 b2:T Ob),(∀p∈l,p.hi≤n)→(∀id,b1.get id=(b2.set n ob).get id)→∀id,(l.foldl di b1).get id=((l.foldl di b2).set n ob).get id
 |[],b1,b2,_,h,id=>h id
 |p::l,b1,b2,hp,h,id=>by
  simp only[arh];refine yn l _ _ (fun q hq=>hp q (arW _ hq)) (fun id=>?_) id;have hpn:=hp p (asT ..);rw[jY,T.fQ,jY,h id,T.fQ];by_cases hn:n=id
  ·subst hn;simp only[if_true];rw[if_neg (by omega)]
  ·simp only[if_neg hn]
structure xk(pl:dM)(j:Nat)(d:DS)(e:Env)(σ:St):Prop where
 e:d.e=e
 n:d.n=σ.n
 bs:∃i b rest,d.bs=(i,b)::rest∧(rest=[]∨(i<j∧aV pl i=.effect))∧d.aD.foldl di b=σ.t∧b.WF
 aD:∀p∈d.aD,(p.hi≤p.lo∨(p.j<j∧aV pl p.j=.alloc))∧p.hi≤d.n
theorem JD{ops:Array Oper}{pl:dM}{d:DS}{e:Env}{σ:St}{j:Nat}{b:T Ob}(hs:xk pl j d e σ)(dZ:d.aD.foldl di b=σ.t)
 (kX:∀i,i<j→(aV pl i=.alloc∨aV pl i=.effect)→aq0 (pl.bW.getD j 0) i=true):seen d.aD (pl.bW.getD j 0) b=σ.t:=by
 unfold seen;rw[sH _ _ fun p hp=>?_,dZ];rcases(hs.aD p hp).1 with h|⟨h1,h2⟩
 ·exact .inr h
 ·exact .inl (kX _ h1 (.inl h2))
theorem Ck{v:IV}{ai:St}(h:zQ o=true)(hv:ak P ro ρ o σ=some (.val v ai)):False:=by
 unfold zQ at h;split at h
 ·rename_i f a b fi;unfold ak at hv;rw[fi]at hv;dsimp only at hv;unfold gj at hv
  repeat' split at hv
  all_goals cases hv
 ·cases h
theorem sI{f:FuncId}{args:List IV}(h:ak P ro ρ o σ=some (.enter f args)):db o=.call∨db o=.effect:=by
 unfold ak at h;unfold db;cases ho:o.op<;>rw[ho]at h<;>(try dsimp only at h⊢)
 case call c=>
  obtain⟨callee,argTypes,args⟩:=c;cases callee with
  |builtin b=>exact(xj h).elim
  |value f=>exact .inl rfl
  |invoke r m=>exact .inr rfl
 case defer c=>
  split at h
  ·split at h<;>cases h
  ·cases h
 all_goals (repeat' split at h)
 all_goals cases h
theorem GA{U:Self}{ops:Array Oper}{pl:dM}{o:Oper}{j:Nat}{d:DS}{e:Env}{σ ai:St}{v:IV}(hs:xk pl j d e σ)(hk:aV pl j=.effect)(hw:aJ o ops e=true)
 (gz:∀p i,(p,i)∈ops.toList.zipIdx.take j→(p,i)∈ops.toList.zipIdx∧i<j)
 (kX:∀i,i<j→(aV pl i=.alloc∨aV pl i=.effect∨(aV pl i=.load∧aV pl j=.effect))→aq0 (pl.bW.getD j 0) i=true)
 (hx:jn P U ro e o σ=some (v,ai))(jd:ai.t.WF)(hn:σ.n≤ai.n):∃d1,bL P U pl ro ops o j d=some d1∧xk pl (j+1) d1 (e.put o.dst v) ai:=by
 obtain⟨i,b,rest,cD,e_,dZ,jr⟩:=hs.bs;have l8:=JD (ops:=ops) hs dZ fun i hi h=>kX i hi (h.imp id .inl);have cg:(⟨d.n,seen d.aD (pl.bW.getD j 0) b⟩:St)=σ:=by rw[l8,hs.n]
 refine⟨⟨e.put o.dst v,ai.n,(j,ai.t)::d.bs,d.aD.filter fun p=> !aq0 (pl.bW.getD j 0) p.j⟩,?_,⟨rfl,rfl,⟨j,ai.t,d.bs,rfl,.inr ⟨by omega,hk⟩,?_,jd⟩,fun p hp=>?_⟩⟩
 ·unfold bL;rw[cD];simp only;rw[hs.e,hw,if_pos rfl];have cy:pl.kinds.getD j .effect=.effect:=hk;rw[cy];simp only;rw[cg,hx];simp only;rw[if_pos];unfold recheck;rw[aqW];rintro⟨p,q⟩ xl;obtain⟨h5,h6⟩:=gz p q xl;simp only;split
  ·rename_i zM;rw[kX q h6 (.inr (.inr ⟨zM,hk⟩))];rfl
  ·rfl
 ·refine ym _ _ fun p hp hf=>?_;rcases(hs.aD p hp).1 with h|⟨h1,h2⟩
  ·exact h
  ·rw[kX _ h1 (.inl h2)]at hf;cases hf
 ·have qw:=(List.mem_filter.1 hp).1;obtain⟨h1,h2⟩:=hs.aD p qw;exact⟨h1.imp id (fun h=>⟨by omega,h.2⟩),by rw[hs.n]at h2;exact aq2 h2 hn⟩
theorem Cm{SF oQ:Nat→Self}{pl:dM}{ops:Array Oper}:∀{l:List (Oper×Nat)} {d:DS},(∀o i,(o,i)∈l→SF i=oQ i)→iF P SF pl ro ops l d=iF P oQ pl ro ops l d
 |[],_,_=>rfl
 |(o,j)::l,d,h=>by
  unfold iF;rw[h o j (asT ..)];split
  ·exact Cm fun o' i hi=>h o' i (arW _ hi)
  ·rfl
theorem lx{U:Self}{pl:dM}{ops:Array Oper}{o:Oper}{j:Nat}{l:List (Oper×Nat)}{d d1 d':DS}{SF:Nat→Self}(hU:lu P U)(hS:∀i,lu P (SF i))(h1:bL P U pl ro ops o j d=some d1)
 (h3:iF P SF pl ro ops l d1=some d')(hl:∀o' i,(o',i)∈l→i≠j):∃oQ,(∀i,lu P (oQ i))∧iF P oQ pl ro ops ((o,j)::l) d=some d':=by
 refine⟨fun i=>if i=j then U else SF i,fun i=>?_,?_⟩
 ·by_cases hi:i=j
  ·simp only[if_pos hi];exact hU
  ·simp only[if_neg hi];exact hS i
 ·unfold iF;simp only[if_true];rw[h1];simp only;rw[←h3];exact Cm fun o' i hi=>by simp only[if_neg (hl o' i hi)]
theorem W0{ops:Array Oper}{pl:dM}(bo:EL ops pl=true){l:List (Oper×Nat)}{e e':Env}{σ ah:St}(h:fT P ro ops pl false l e σ e' ah):
 ∀(k:Nat) (d:DS),ops.toList.zipIdx.drop k=l→xk pl k d e σ→∃SF:Nat→Self,(∀i,lu P (SF i))∧∃d',iF P SF pl ro ops l d=some d'∧d'.e=e'∧d'.n=ah.n∧∃i b rest,d'.bs=(i,b)::rest∧d'.aD.foldl di b=ah.t:=by
 have iJ:∀{o:Oper} {j:Nat} {l:List (Oper×Nat)} {k:Nat},ops.toList.zipIdx.drop k=(o,j)::l→(o,j)∈ops.toList.zipIdx∧j=k∧ops.toList.zipIdx.drop (k+1)=l∧
  (∀p i,(p,i)∈ops.toList.zipIdx.take j→(p,i)∈ops.toList.zipIdx∧i<j)∧(∀i,i<j→∃p,(p,i)∈ops.toList.zipIdx)∧∀o' i,(o',i)∈l→i≠j:=by
  intro o j l k h;have h1:(ops.toList.zipIdx.drop k)[0]?=some (o,j):=by rw[h];rfl
  rw[List.getElem?_drop,Nat.add_zero]at h1;have h2:=aqS h1;have aa:=(aqF.1 h1).1;rw[auX]at h1
  have hj:j=k:=by
   cases hk:ops.toList[k]? with
   |none=>rw[hk]at h1;cases h1
   |some o'=>rw[hk]at h1;simp at h1;omega
  have zK:ops.toList.zipIdx.drop (k+1)=l:=by rw[←List.drop_drop (i:=1) (j:=k),h];rfl
  refine⟨h2,hj,zK,fun p i hp=>⟨List.mem_of_mem_take hp,?_⟩,fun i hi=>?_,fun o' i hi=>?_⟩
  ·obtain⟨m,hm,he⟩:=asu hp;rw[List.length_take]at hm;rw[List.getElem_take,atS]at he;cases he;omega
  ·rw[List.length_zipIdx]at aa;refine⟨ops.toList[i],aqS (i:=i) ?_⟩;rw[auX,aqE (by omega)];simp
  ·rw[←zK]at hi;obtain⟨m,hm,he⟩:=asu hi;rw[List.getElem_drop,atS]at he;cases he;omega
 induction h with
 |nil e σ=>
  intro k d _ hs;obtain⟨i,b,rest,h1,_,h3,_⟩:=hs.bs;exact⟨fun _=>Self.none,fun _=>nT,d,rfl,hs.e,hs.n,i,b,rest,h1,h3⟩
 | @skip o j l e σ e' ah hw h ih=>
   intro k d hl hs;obtain⟨hm,rfl,hd,gz,bp,aa⟩:=iJ hl;obtain⟨fD,dU,kX⟩:=AM bo hm;obtain⟨i,b,rest,cD,e_,dZ,jr⟩:=hs.bs;have iK:∀p∈d.aD,(p.hi≤p.lo∨(p.j<j+1∧aV pl p.j=.alloc))∧p.hi≤d.n:=fun p hp=>⟨(hs.aD p hp).1.imp id (fun h=>⟨by omega,h.2⟩),(hs.aD p hp).2⟩
   have key:∃U,lu P U∧∃d1,bL P U pl ro ops o j d=some d1∧xk pl (j+1) d1 (e.put o.dst .undef) σ:=by
    refine⟨Self.none,nT,?_⟩;by_cases hk:aV pl j=.effect
    ·refine⟨⟨d.e.put o.dst .undef,d.n,(j,b)::d.bs,d.aD⟩,?_,⟨by rw[hs.e],hs.n,⟨j,b,d.bs,rfl,.inr ⟨by omega,hk⟩,dZ,jr⟩,iK⟩⟩;unfold bL;rw[cD];simp only;rw[hs.e,hw,if_neg (by simp)];have cy:pl.kinds.getD j .effect=.effect:=hk;rw[cy];simp only;rw[if_pos];unfold recheck;rw[aqW];rintro⟨p,q⟩ xl;obtain⟨h5,h6⟩:=gz p q xl;simp only;split
     ·rename_i zM;rw[kX (by rw[hk];simp) p q h5 h6 (.inr (.inr ⟨zM,hk⟩))];rfl
     ·rfl
    ·refine⟨{d with e:=d.e.put o.dst .undef},?_,⟨by rw[hs.e],hs.n,⟨i,b,rest,cD,e_.imp id (fun h=>⟨by omega,h.2⟩),dZ,jr⟩,iK⟩⟩;unfold bL;rw[cD];simp only;rw[hs.e,hw,if_neg (by simp)];have cy:pl.kinds.getD j .effect≠.effect:=hk;cases hq:pl.kinds.getD j .effect<;>first|exact absurd hq cy|simp only
   obtain⟨U,hU,d1,h1,h2⟩:=key;obtain⟨SF,ku,d',h3,h4⟩:=ih (j+1) d1 hd h2;obtain⟨oQ,h5,h6⟩:=lx hU ku h1 h3 aa;exact⟨oQ,h5,d',h6,h4⟩
 | @val o j l e σ e' ah v ai hw hv h ih=>
   intro k d hl hs;obtain⟨hm,rfl,hd,gz,bp,aa⟩:=iJ hl;obtain⟨fD,dU,kX⟩:=AM bo hm;obtain⟨i,b,rest,cD,e_,dZ,jr⟩:=hs.bs;have oR:σ.t.WF:=dZ▸kr _ jr;have iK:∀p∈d.aD,(p.hi≤p.lo∨(p.j<j+1∧aV pl p.j=.alloc))∧p.hi≤d.n:=fun p hp=>⟨(hs.aD p hp).1.imp id (fun h=>⟨by omega,h.2⟩),(hs.aD p hp).2⟩
   have yo:aV pl j≠.pure→∀i,i<j→(aV pl i=.alloc∨aV pl i=.effect∨(aV pl i=.load∧aV pl j=.effect))→aq0 (pl.bW.getD j 0) i=true:=by
    intro hp i hi hk;obtain⟨p,N7⟩:=bp i hi;exact kX hp p i N7 hi hk
   have key:∃U,lu P U∧∃d1,bL P U pl ro ops o j d=some d1∧xk pl (j+1) d1 (e.put o.dst v) ai:=by
    refine⟨Self.none,nT,?_⟩;cases hk:aV pl j with
    |pure=>
     have mK:db o=.pure:=by rw[fD (by rw[hk];simp) (by rw[hk];simp),hk]
     obtain⟨rfl,mX⟩:=Di mK hv;refine⟨{d with e:=d.e.put o.dst v},?_,⟨by rw[hs.e],hs.n,⟨i,b,rest,cD,e_.imp id (fun h=>⟨by omega,h.2⟩),dZ,jr⟩,iK⟩⟩;unfold bL;rw[cD];simp only;rw[hs.e,hw,if_pos rfl];have cy:pl.kinds.getD j .effect=.pure:=hk;rw[cy];simp only;rw[mX 0 ⟨0,.lf⟩];simp[hs.e,cD]
    |alloc=>
     have mK:db o=.alloc:=by rw[fD (by rw[hk];simp) (by rw[hk];simp),hk]
     obtain⟨t,mX,so⟩:=HL mK hv;refine⟨⟨d.e.put o.dst v,ai.n,d.bs,⟨j,d.n,ai.n,t⟩::d.aD⟩,?_,⟨by rw[hs.e],rfl,⟨i,b,rest,cD,e_.imp id (fun h=>⟨by omega,h.2⟩),?_,jr⟩,fun p hp=>?_⟩⟩
     ·unfold bL;rw[cD];simp only;rw[hs.e,hw,if_pos rfl];have cy:pl.kinds.getD j .effect=.alloc:=hk;rw[cy];simp only;rw[hs.n,mX 0]
     ·simp only[arh];rcases so with⟨rfl,rfl⟩|⟨ob,rfl,rfl⟩
      ·rw[kq _ _ (by simp[hs.n]),dZ]
      ·refine T.WF.ext (kr _ (vT jr _)) (oR.set _ _) fun id=>?_
       have:=yn (n:=σ.n) (ob:=ob) d.aD (di b ⟨j,d.n,(σ.add ob).n,T.lf.set σ.n ob⟩) b (fun p hp=>by rw[←hs.n];exact(hs.aD p hp).2) (fun id=>by
        rw[jY,T.fQ,T.fQ];simp only[hs.n,St.kK];by_cases hid:σ.n=id
        ·subst hid;simp
        ·rw[if_neg (by omega),if_neg hid]) id
       rw[this,dZ];rfl
     ·rcases arv.1 hp with rfl|hp
      ·exact⟨.inr ⟨by simp,hk⟩,aqK _⟩
      ·obtain⟨h1,h2⟩:=iK p hp;exact⟨h1,by have:=lJ hv;rw[hs.n]at h2;exact aq2 h2 this⟩
    |load=>
     have mK:db o=.load:=by rw[fD (by rw[hk];simp) (by rw[hk];simp),hk]
     obtain⟨rfl,mX⟩:=Dj mK hv;have l8:=JD (ops:=ops) hs dZ fun i hi h=>yo (by rw[hk];simp) i hi (h.imp id .inl);have cg:(⟨d.n,seen d.aD (pl.bW.getD j 0) b⟩:St)=ai:=by rw[l8,hs.n]
     refine⟨{d with e:=d.e.put o.dst v},?_,⟨by rw[hs.e],hs.n,⟨i,b,rest,cD,e_.imp id (fun h=>⟨by omega,h.2⟩),dZ,jr⟩,iK⟩⟩;unfold bL;rw[cD];simp only;rw[hs.e,hw,if_pos rfl];have cy:pl.kinds.getD j .effect=.load:=hk;rw[cy];simp only;rw[cg,mX d.n];simp only;rw[if_pos];refine⟨hs.n.symm,?_⟩;rcases e_ with rfl|⟨h1,h2⟩
     ·simp[lH]
     ·rw[yo (by rw[hk];simp) i h1 (.inr (.inl h2))];rfl
    |call=>exact(Ck (dU hk) hv).elim
    |effect=>
     refine GA hs hk hw gz (fun i hi h=>yo (by rw[hk];simp) i hi h) ?_ (UH hv oR) (lJ hv);unfold jn;rw[hv]
   obtain⟨U,hU,d1,h1,h2⟩:=key;obtain⟨SF,ku,d',h3,h4⟩:=ih (j+1) d1 hd h2;obtain⟨oQ,h5,h6⟩:=lx hU ku h1 h3 aa;exact⟨oQ,h5,d',h6,h4⟩
 | @HM o j l e σ e' ah f args v hw hv hc h ih=>
   intro k d hl hs;obtain⟨hm,rfl,hd,gz,bp,aa⟩:=iJ hl;obtain⟨fD,dU,kX⟩:=AM bo hm;obtain⟨i,b,rest,cD,e_,dZ,jr⟩:=hs.bs;have oR:σ.t.WF:=dZ▸kr _ jr;have iK:∀p∈d.aD,(p.hi≤p.lo∨(p.j<j+1∧aV pl p.j=.alloc))∧p.hi≤d.n:=fun p hp=>⟨(hs.aD p hp).1.imp id (fun h=>⟨by omega,h.2⟩),(hs.aD p hp).2⟩
   have yo:aV pl j≠.pure→∀i,i<j→(aV pl i=.alloc∨aV pl i=.effect∨(aV pl i=.load∧aV pl j=.effect))→aq0 (pl.bW.getD j 0) i=true:=by
    intro hp i hi hk;obtain⟨p,N7⟩:=bp i hi;exact kX hp p i N7 hi hk
   have u_:∀fL,jn P (qj none f args σ v σ) fL e o σ=some (v,σ):=by
    intro fL;unfold jn;rw[AL hv fL σ];simp[qj]
   have l8:=JD (ops:=ops) hs dZ
   have key:∃U,lu P U∧∃d1,bL P U pl ro ops o j d=some d1∧xk pl (j+1) d1 (e.put o.dst v) σ:=by
    refine⟨qj none f args σ v σ,sG fun fL _=>hc fL,?_⟩
    have tJ:aV pl j=.call∨aV pl j=.effect:=by
     by_cases lZ:aV pl j=.call
     ·exact .inl lZ
     ·by_cases he:aV pl j=.effect
      ·exact .inr he
      ·have:=fD lZ he;rcases sI hv with h|h
       ·rw[h]at this;exact absurd this.symm lZ
       ·rw[h]at this;exact absurd this.symm he
    rcases tJ with hk|hk
    ·refine⟨⟨d.e.put o.dst v,d.n,d.bs,⟨j,d.n,d.n,seen d.aD (pl.bW.getD j 0) b⟩::d.aD⟩,?_,⟨by rw[hs.e],hs.n,⟨i,b,rest,cD,e_.imp id (fun h=>⟨by omega,h.2⟩),?_,jr⟩,fun p hp=>?_⟩⟩
     ·unfold bL;rw[cD];simp only;rw[hs.e,hw,if_pos rfl];have cy:pl.kinds.getD j .effect=.call:=hk;rw[cy];simp only;have Ch:=l8 fun i hi h=>yo (by rw[hk];simp) i hi (h.imp id .inl);have cg:(⟨d.n,seen d.aD (pl.bW.getD j 0) b⟩:St)=σ:=by rw[Ch,hs.n]
      rw[cg,u_,Ch];simp only[hs.n,cD]
     ·simp only[arh];rw[kq _ _ (by simp),dZ]
     ·rcases arv.1 hp with rfl|hp
      ·exact⟨.inl (aqK _),aqK _⟩
      ·exact iK p hp
    ·exact GA hs hk hw gz (fun i hi h=>yo (by rw[hk];simp) i hi h) (u_ ro) oR (aqK _)
   obtain⟨U,hU,d1,h1,h2⟩:=key;obtain⟨SF,ku,d',h3,h4⟩:=ih (j+1) d1 hd h2;obtain⟨oQ,h5,h6⟩:=lx hU ku h1 h3 aa;exact⟨oQ,h5,d',h6,h4⟩
 | @call o j l e σ e' ah f args v ai hk hw hv hc jd h ih=>
   intro k d hl hs;obtain⟨hm,rfl,hd,gz,bp,aa⟩:=iJ hl;obtain⟨fD,dU,kX⟩:=AM bo hm;obtain⟨i,b,rest,cD,e_,dZ,jr⟩:=hs.bs;have oR:σ.t.WF:=dZ▸kr _ jr
   have yo:aV pl j≠.pure→∀i,i<j→(aV pl i=.alloc∨aV pl i=.effect∨(aV pl i=.load∧aV pl j=.effect))→aq0 (pl.bW.getD j 0) i=true:=by
    intro hp i hi hk;obtain⟨p,N7⟩:=bp i hi;exact kX hp p i N7 hi hk
   obtain⟨d1,h1,h2⟩:=GA (U:=qj (some ro) f args σ v ai) (v:=v) (ai:=ai) hs hk hw gz (fun i hi h=>yo (by rw[hk];simp) i hi h) (by unfold jn;rw[hv];simp[qj]) (jd oR) hc.1;obtain⟨SF,ku,d',h3,h4⟩:=ih (j+1) d1 hd h2;obtain⟨oQ,h5,h6⟩:=lx (sG (R:=some ro) fun fL hR=>by rcases hR with hR|hR<;>cases hR;exact hc) ku h1 h3 aa;exact⟨oQ,h5,d',h6,h4⟩
 | @UI o j l e σ e' ah f args v ob hq hw hv hc h ih=>cases hq
variable{rd:Option Nat}{fn:FuncId}{df:List Df}{e e':Env}{ah:St}{ops:Array Oper}
theorem fx.draw{id:Nat}(eS:P.follows .mixedOrders=true)(nC:(dq ops).ok=true)(bo:EL ops (dq ops)=true)(jd:σ.t.WF)
 (h:fT P ro ops (dq ops) false ops.toList.zipIdx e σ e' ah):fx P ro rd fn (.region id ops true) e df σ ⟨.normal,e',df,ah⟩:=by
 obtain⟨SF,ku,d',h1,h2,h3,i,b,rest,h4,h5⟩:=W0 bo h 0 ⟨e,σ.n,[(0,σ.t)],[]⟩ (by simp) ⟨rfl,rfl,⟨0,σ.t,[],rfl,.inl rfl,rfl,jd⟩,fun p hp=>by cases hp⟩
 have ef:pF P SF ro ops e df σ=some ⟨.normal,e',df,ah⟩:=by
  unfold pF;simp only;rw[if_pos nC,h1];obtain⟨de,dn,dbs,amw⟩:=d';simp only at h2 h3 h4 h5;subst h2 h4;simp only[h3,h5]
 refine .mk (AG (fun i=>(ku i).2.2.1) (fun i=>(ku i).2.2.2) ef) (by simp) fun N hN F ι a w Q hF hi he hd hQ=>?_;exact Gx eS (fun i=>(ku i).1) (fun i=>(ku i).2.1) (fun i=>(ku i).2.2.1) (fun i=>(ku i).2.2.2) N ro rd ops e df σ _ ef hN F ι a w Q id hF hi he hd hQ
end Go.Ev
