/- Lemmas over the model, without conditions of their own: contracts of calls of plain values. -/
import Derived.Test.YtpfogalbnijcoaaGreatEvG
open List renaming mem_of_getElem?->ash,getElem?_eq_some_iff->ar3,getElem?_eq_getElem->ar2,isEmpty_iff->ate,all_eq_true->asl,getElem_of_mem->atU,mk_mem_zipIdx_iff_getElem?->atb,foldl_cons->asG,mem_cons_of_mem->atm,filter_cons->awI,mem_cons_self->aul,getElem?_zipIdx->awi,getElem_zipIdx->avg,mem_cons->asS
open Array renaming getD_eq_getD_getElem?->atk
open Nat renaming le_refl->ar8,blt->as7,beq->asc,ble->as5,blt_eq->av2,beq_eq->asK,testBit->asp,le_trans->asq
open Bool renaming and_eq_true->ar4,or_eq_true->asL
open Option renaming map_eq_some_iff->ar9
open Option renaming some->aa,none->ah
open Bool renaming true->ab,false->af
set_option linter.all false
namespace Go.Ev
variable{P:Program}{N ro:Nat}{ι:Io}{w:World}{σ:St}
inductive Pure:IV->Prop
 |raw (v:Value):Pure (.raw v)
 |agg (cs:List IV) (h:∀c∈cs,Pure c):Pure (.agg cs)
 |az (cs:List IV) (h:∀c∈cs,Pure c):Pure (.az cs)
 |emp:Pure .emp
 |di (t:TypeId) (x:IV) (h:Pure x):Pure (.di t x)
 |tree (s:Nat) (es:List IV) (h:∀e∈es,∀c∈cellsOf e,Pure c):Pure (.tree s es)
 |fn (f:Fn) (as bs:List IV) (h:∀c∈as,Pure c) (h2:∀c∈bs,Pure c):Pure (.fn f as bs)
abbrev ew(M:Fz):Io:=⟨λ_ _=>ah,M⟩
theorem Pure.rv{M:Fz}{x:IV}(hp:Pure x):∀{v:Value},Rv ι x v->(∀b c,ι.m b=aa c->M b=aa c)->Rv (ew M) x v:=by
 induction hp with
 |raw v=>intro u h _;cases h;exact .raw v
 |agg cs _ ih=>intro u h hM;cases h with|agg _ vs hl hh=>exact .agg cs vs hl λi c v h1 h2=>ih c (ash h1) (hh i c v h1 h2) hM
 |az cs _ ih=>intro u h hM;cases h with|az _ vs hl hh=>exact .az cs vs hl λi c v h1 h2=>ih c (ash h1) (hh i c v h1 h2) hM
 |emp=>intro u h _;cases h;exact .emp _
 |di t x _ ih=>intro u h hM;cases h with|di _ _ v hh=>exact .di t x v (ih hh hM)
 |tree s es _ ih=>
  intro u h hM;cases h with
  |tree _ _ b off c us hs hc bH hu hh=>exact .tree s es b off c us hs hc bH (λk hk=>Bv hM (hu k hk)) λi e j c h1 h2=>ih e (ash h1) c (ash h2) (hh i e j c h1 h2) hM
  |dS _ a c hs hn=>exact .dS s a c hs hn
 |fn f as bs _ _ ih eN=>
  intro u h hM;cases h with
  |fn _ _ _ cs ds hl hh eR s8=>exact .fn f as bs cs ds hl (λi c v h1 h2=>ih c (ash h1) (hh i c v h1 h2) hM) eR (λi c v h1 h2=>eN c (ash h1) (s8 i c v h1 h2) hM)
inductive Can(fr:Bool)(σ:St):IV->IV->Prop
 |raw (v:Value):Can fr σ (.raw v) (.raw v)
 |nil (s:Nat) (hs:0<s):Can fr σ (.raw (.slice ah 0 0)) (.tree s [])
 |emp (s:Nat) (hs:0<s):Can fr σ .emp (.tree s [])
 |di (t:TypeId) (x y:IV) (h:Can fr σ x y):Can fr σ (.di t x) (.di t y)
 |agg (cs ds:List IV) (hl:cs.length=ds.length) (h:∀(i:Nat) c d,cs[i]?=aa c->ds[i]?=aa d->Can fr σ c d):Can fr σ (.agg cs) (.agg ds)
 |az (cs ds:List IV) (hl:cs.length=ds.length) (h:∀(i:Nat) c d,cs[i]?=aa c->ds[i]?=aa d->Can fr σ c d):Can fr σ (.az cs) (.az ds)
 |pure (x:IV) (hf:fr=ab) (hp:Pure x):Can fr σ x x
 |dS (s:Nat):Can fr σ (.tree s []) (.tree s [])
 |sl (id off len:Nat) (cap:Option Nat) (ep s:Nat) (cs:List IV) (ay mn:Nat) (es:List IV) (aE:σ.at id=aa (.cells cs ay mn)) (h1:mn<=ep) (h2:ep<=ay) (hl:es.length=len) (hb:off+len*s<=cs.length)
   (bH:∀e∈es,(cellsOf e).length=s) (h:∀(i:Nat) e (j:Nat) c d,es[i]?=aa e->(cellsOf e)[j]?=aa d->cs[off+i*s+j]?=aa c->Can fr σ c d):Can fr σ (.sl id off len cap ep s) (.tree s es)
theorem Can.rv{fr:Bool}{M:Fz}{x z:IV}(hi:Inv N ι σ w)(hM:∀b c el,w.heap[b]?=aa (.cells c el (0,0))->(∃id,Own ι id b)->M b=aa c)(hm:fr=ab->∀b c,ι.m b=aa c->M b=aa c)
 (h:Can fr σ x z):∀{u:Value},Rv ι x u->Rv (ew M) z u:=by
 induction h with
 |raw v=>intro u h;cases h;exact .raw v
 |nil s hs=>intro u h;cases h;exact .dS s ah 0 hs (λ_=>rfl)
 |emp s hs=>intro u h;cases h;exact .dS s _ 0 hs (λ_=>rfl)
 |di t x y _ ih=>intro u h;cases h with|di _ _ v hh=>exact .di t y v (ih hh)
 |agg cs ds hl _ ih=>
  intro u h;cases h with
  |agg _ vs cq hh=>
   refine .agg ds vs (hl▸cq) λi d v h1 h2=>?_;have cW:i<cs.length:=by have:=(ar3.1 h1).1;omega
   exact ih i _ d (ar2 cW) h1 (hh i _ v (ar2 cW) h2)
 |az cs ds hl _ ih=>
  intro u h;cases h with
  |az _ vs cq hh=>
   refine .az ds vs (hl▸cq) λi d v h1 h2=>?_;have cW:i<cs.length:=by have:=(ar3.1 h1).1;omega
   exact ih i _ d (ar2 cW) h1 (hh i _ v (ar2 cW) h2)
 |pure x hf hp=>intro u h;exact hp.rv h (hm hf)
 |dS s=>
  intro u h;cases h with
  |tree _ _ b off c us hs hc bH hu hh=>exact .dS s _ c hs (by simp)
  |dS _ a c hs hn=>exact .dS s a c hs hn
 |sl id off len cap ep s cs ay mn es aE h1 h2 hl hb bH _ ih=>
  intro u h;cases h with
  |sl _ _ _ _ _ _ l c a cq hn gU hs hle fB ha=>
   obtain⟨⟨_,_⟩,_,Vy⟩:=hi.obj id _ aE;obtain⟨l',ca,el,eR,Dw,ajh,arf,gZ⟩:=Vy ep h1 h2;rw[cq]at eR;cases eR;have hMb:M l.b=aa ca:=hM _ _ _ ajh ⟨id,ep,l,cq,rfl⟩;subst hl;by_cases he:es=[]
   ·subst he;exact .dS s (aa a) c hs (by simp)
   ·have sY:0<es.length:=by cases es with|nil=>exact absurd rfl he|cons=>simp
    have H9:=ha (by omega);subst H9;refine .tree s es l.b off c (λk=>ca.getD (off+k) Go.undef) hs hle bH (λk hk=>?_) (λi e j d cZ zk=>?_)
    ·obtain⟨x,hx⟩:∃x,cs[off+k]?=aa x:=⟨_,ar2 (by omega)⟩;obtain⟨v,hv,_⟩:=gZ (off+k) x (by omega) hx;show(M l.b).bind _=_;rw[hMb];simp[atk,hv]
    ·have cW:=(ar3.1 cZ).1;have fO:j<s:=by have:=(ar3.1 zk).1;rw[bH e (ash cZ)]at this;exact this
     have hmul:i*s+s<=es.length*s:=by
      have:(i+1)*s<=es.length*s:=Nat.mul_le_mul_right s cW;rw[Nat.add_mul]at this;omega
     obtain⟨x,hx⟩:∃x,cs[off+i*s+j]?=aa x:=⟨_,ar2 (by omega)⟩;obtain⟨v,hv,hr⟩:=gZ (off+i*s+j) x (by omega) hx;have:=ih i e j x d cZ zk hx hr;simp only[atk];rw[show off+(i*s+j)=off+i*s+j by omega,hv];exact this
def ur(M:Fz)(w:World):Prop:=∀b c,M b=aa c->∃e f,w.heap[b]?=aa (.cells c e f)
theorem ur.lt{M:Fz}(h:ur M w){b:Nat}{c:Array Value}(hb:M b=aa c):b<w.heap.size:=by
 obtain⟨e,f,hh⟩:=h b c hb;rcases Nat.lt_or_ge b w.heap.size with ai|sV
 ·exact ai
 ·rw[Array.getElem?_eq_none sV]at hh;cases hh
def Ka(new:Bool)(M:Fz)(w:World)(z:IV)(u:Value)(w':World):Prop:=
 ∃M',ur M' w'/\(∀b c,M' b=aa c->(new=af/\M b=aa c)\/w.heap.size<=b)/\(new=af->∀b c,M b=aa c->M' b=aa c)/\Rv (ew M') z u/\
  w'.os=w.os/\w'.tape=w.tape/\w'.output=w.output/\w.heap.size<=w'.heap.size/\∀b,b<w.heap.size->w'.heap[b]?=w.heap[b]?
def afQ(bY new:Bool)(M:Fz)(w:World)(z:IV):Ending->World->Prop
 |.returned u,w'=>bY=af/\Ka new M w z u w'
 |.panicked ch,w'=>bY=ab/\∃u,ch=[{v:=u,recovered:=af}]/\Ka new M w z u w'
 |.outgrown,_=>False
def eZ(P:Program)(bY new:Bool)(f:FuncId)(xs:List IV)(z:IV):Prop:=
 ∀M w us,ur M w->aC (ew M) xs us->CallsIn Fence.wide 0 P f us.toArray w (afQ bY new M w z)
theorem Fo{M:Fz}(hM:ur M w):Inv N (ew M) ⟨0,.lf⟩ w:=
 ⟨hM,λ_ _ _ _ h=>(by obtain⟨_,_,h,_⟩:=h;cases h),λ_ _ h=>(by obtain⟨_,_,h,_⟩:=h;cases h),λ_ _ _ _=>rfl,λ_ _ _ h=>(by obtain⟨_,_,h,_⟩:=h;cases h),λ_ _ h=>(by cases h),λ_ _=>rfl⟩
def rV(new:Bool)(M:Fz)(w w':World):Fz:=λb=>
 if b<w.heap.size then(if new then ah else M b)else match w'.heap[b]? with
  |some (.cells c _ _)=>aa c
  |_=>ah
theorem Tb{M:Fz}{new:Bool}{ao:St}{v z:IV}{w':World}{u:Value}(hM:ur M w)(hc:Can (!new) ao v z)(hu:Rv ι v u)(hi:Inv N ι ao w')(hl:Le 0 (ew M) w ⟨0,.lf⟩ ι w' ao):Ka new M w z u w':=by
 have tf:∀b,b<w.heap.size->w'.heap[b]?=w.heap[b]? :=λb hb=>hl.frame b hb λid ho=>(by obtain⟨_,_,h,_⟩:=ho;cases h);refine⟨rV new M w w',?_,?_,?_,?_,hl.os,hl.tape,hl.output,hl.size,tf⟩
 ·intro b c hb;unfold rV at hb;split at hb
  ·rename_i ai;split at hb
   ·cases hb
   ·rw[tf b ai];exact hM b c hb
  ·split at hb
   ·rename_i c' e f hh;cases hb;exact⟨e,f,hh⟩
   ·cases hb
 ·intro b c hb;unfold rV at hb;split at hb
  ·split at hb
   ·cases hb
   ·rename_i hn;exact .inl ⟨by simpa using hn,hb⟩
  ·exact .inr (by omega)
 ·intro hn b c hb;have ai:=hM.lt hb;unfold rV;rw[if_pos ai,if_neg (by simp[hn])];exact hb
 ·refine hc.rv hi ?_ ?_ hu
  ·intro b c el hh ho;obtain⟨id,ho⟩:=ho;rcases hl.own id b ho with ho|sV
   ·obtain⟨_,_,h,_⟩:=ho;cases h
   ·unfold rV;rw[if_neg (by omega),hh]
  ·intro hn b c hb;have C6:new=af:=by simpa using hn
   rcases hl.xJ b c hb with si|sV
   ·have ai:=hM.lt si;unfold rV;rw[if_pos ai,if_neg (by simp[C6])];exact si
   ·obtain⟨e,f,hh⟩:=hi.mem b c hb;unfold rV;rw[if_neg (by omega),hh]
theorem eZ.of{new:Bool}{f:FuncId}{xs:List IV}{v z:IV}{ao:St}(h:gJ P 0 f xs ⟨0,.lf⟩ v ao)(hc:Can (!new) ao v z):eZ P af new f xs z:=by
 intro M w us hM hr;refine(h.2 ao.n (ar8 _) (ew M) us w (Fo hM) hr).mono λe w' hR=>?_;cases e with
 |returned u=>
  obtain⟨aG,h1,h2,h3⟩:=hR;exact⟨rfl,Tb hM hc h1 h2 h3⟩
 |panicked ch=>exact hR.elim
 |outgrown=>exact hR.elim
theorem Fp{M:Fz}{new:Bool}{z:IV}{u:Value}{w':World}(hi:Inv N ι σ w)(hM:new=af->∀b c,ι.m b=aa c↔M b=aa c)(h:Ka new M w z u w'):∃aG,Rv aG z u/\Inv N aG σ w'/\Le ro ι w σ aG w' σ:=by
 obtain⟨M',h1,h2,h3,h4,h5,h6,h7,h8,h9⟩:=h;have hm:ur ι.m w:=hi.mem
 have hold:∀b c,ι.m b=aa c->(λb=>if b<w.heap.size then ι.m b else M' b) b=aa c:=by
  intro b c hb;simp only[if_pos (hm.lt hb)];exact hb
 have anx:∀b c,M' b=aa c->(λb=>if b<w.heap.size then ι.m b else M' b) b=aa c:=by
  intro b c hb;by_cases ai:b<w.heap.size
  ·simp only[if_pos ai];rcases h2 b c hb with⟨hn,si⟩|sV
   ·exact(hM hn b c).2 si
   ·omega
  ·simp only[if_neg ai];exact hb
 have jo:Ext ι ⟨ι.f,λb=>if b<w.heap.size then ι.m b else M' b⟩:=⟨λ_ _ _ h=>h,hold⟩;refine⟨⟨ι.f,λb=>if b<w.heap.size then ι.m b else M' b⟩,h4.mono ⟨λ_ _ _ h=>(by cases h),anx⟩,⟨?_,?_,?_,hi.fresh,hi.inj,?_,hi.wf⟩,⟨jo,λ_ _ h=>.inl h,λ_ _ _ _=>rfl,λ_ h _=>h,λ_ _ _=>rfl,ar8 _,h5,h6,h7,h8,λb hb _=>h9 b hb,?_⟩⟩
 ·intro b c hb;simp only at hb;split at hb
  ·rename_i ai;obtain⟨e,f,hh⟩:=hi.mem b c hb;exact⟨e,f,by rw[h9 b ai];exact hh⟩
  ·exact h1 b c hb
 ·intro b c id hb ho;simp only at hb;split at hb
  ·exact hi.sep b c id hb ho
  ·rename_i sV;exact sV (hi.iO id b ho)
 ·intro id b ho;exact Nat.lt_of_lt_of_le (hi.iO id b ho) h8
 ·intro id o ho;exact(hi.obj id o ho).keep jo (λ_=>rfl) λb hb=>h9 b (hi.iO id b hb)
 ·intro b c hb;simp only at hb;split at hb
  ·exact .inl hb
  ·rename_i sV;exact .inr (by omega)
def DX(fr:Bool)(σ:St)(cs ds:List IV):Prop:=cs.length=ds.length/\∀(i:Nat) c d,cs[i]?=aa c->ds[i]?=aa d->Can fr σ c d
def allM(w:World):Fz:=λb=>match w.heap[b]? with
 |some (.cells c _ _)=>aa c
 |_=>ah
theorem Tc{b:Nat}{c:Array Value}{e:TypeId}{f:Nat×Nat}(h:w.heap[b]?=aa (.cells c e f)):allM w b=aa c:=by unfold allM;rw[h]
theorem AQ:ur (allM w) w:=by
 intro b c hb;unfold allM at hb;split at hb
 ·rename_i hh;cases hb;exact⟨_,_,hh⟩
 ·cases hb
theorem DX.rv{xs zs:List IV}{us:List Value}(hc:DX ab σ xs zs)(hi:Inv N ι σ w)(h:aC ι xs us):aC (ew (allM w)) zs us:=by
 refine⟨hc.1▸h.1,λi z u h1 h2=>?_⟩;have cW:i<xs.length:=by have:=(ar3.1 h1).1;have:=hc.1;omega
 refine(hc.2 i _ z (ar2 cW) h1).rv hi (λb c el hh _=>Tc hh) (λ_ b c hb=>?_) (h.2 i _ u (ar2 cW) h2);obtain⟨e,f,hh⟩:=hi.mem b c hb;exact Tc hh
theorem eZ.Fq{f:FuncId}{args xs:List IV}{z:IV}(h:eZ P af ab f xs z)(hc:DX ab σ args xs):gJ P ro f args σ z σ:=by
 refine⟨ar8 _,λN hN ι us w hi hr=>?_⟩;refine(h (allM w) w us AQ (hc.rv hi hr)).mono λe w' hR=>?_;cases e with
 |returned u=>exact Fp hi (λhn=>by cases hn) hR.2
 |panicked ch=>exact absurd hR.1 (by simp)
 |outgrown=>exact hR.elim
def cJ(args:List IV)(n:Nat):Env:=args.zipIdx.foldl (λe (v,i)=>e.put (aa i) v) ⟨n,.lf⟩
section body
variable{S:Self}{f:FuncId}{fn:Func}{c:Code}{args:List IV}{e1:Env}{df:List Df}{aq ao:St}{ex:Ex}{v:IV}
theorem sw:eu P Self.none/\bF Self.none:=
 ⟨⟨λ_ _ _ _ _ _ _ h=>(by cases h),λ_ _ _ _ _ _ _ h=>(by cases h),λ_ _ _ _ _ _ _ _ h=>(by cases h),λ_ _ _ _ _ _ _ h=>(by cases h)⟩,⟨λ_ _ _ _ _ _ h=>(by cases h),λ_ _ _ _ _ _ h=>(by cases h),λ_ _ _ _ _ _ _ h=>(by cases h)⟩⟩
end body
end Go.Ev
namespace Go.Ev
open Go.RowKit
variable{P:Program}
def Vz:Value->Value->Bool
 |.int k n,.int k' n'=>decide (k=k')&&decide (n=n')
 |.bool a,.bool b=>a==b
 |.string a,.string b=>decide (a=b)
 |_,_=>af
theorem aaT{a b:Value}(h:Vz a b=ab):a=b:=by
 unfold Vz at h;split at h
 ·simp only[ar4,decide_eq_true_eq]at h;rw[h.1,h.2]
 ·rw[beq_iff_eq]at h;rw[h]
 ·rw[decide_eq_true_eq]at h;rw[h]
 ·cases h
def DY(p:IV->IV->Bool):List IV->List IV->Bool
 |[],[]=>ab
 |a::as,b::bs=>p a b&&DY p as bs
 |_,_=>af
theorem wM{p:IV->IV->Bool}:∀{as bs:List IV},DY p as bs=ab->as.length=bs.length/\∀(i:Nat) a b,as[i]?=aa a->bs[i]?=aa b->p a b=ab
 |[],[],_=>⟨rfl,λi a b h=>by simp at h⟩
 |a::as,b::bs,h=>by
  simp only[DY,ar4]at h;obtain⟨h1,h2⟩:=wM h.2;refine⟨by simp[h1],λi=>?_⟩;cases i with
  |zero=>intro a' b' e1 e2;simp at e1 e2;subst e1 e2;exact h.1
  |succ i=>intro a' b' e1 e2;simp at e1 e2;exact h2 i a' b' e1 e2
 |[],_::_,h=>by simp[DY]at h
 |_::_,[],h=>by simp[DY]at h
def DZ(σ:St):Nat->IV->IV->Bool
 |0,_,_=>af
 |f+1,x,z=>
  match z with
  |.raw u=>match x with
   |.raw v=>Vz v u
   |_=>af
  |.agg ds=>match x with
   |.agg cs=>DY (DZ σ f) cs ds
   |_=>af
  |.az ds=>match x with
   |.az cs=>DY (DZ σ f) cs ds
   |_=>af
  |.tree s es=>match x with
   |.raw (.slice ah l c)=>es.isEmpty&&as7 0 s&&asc l 0&&asc c 0
   |.emp=>es.isEmpty&&as7 0 s
   |.tree s' aF=>es.isEmpty&&aF.isEmpty&&asc s s'
   |.sl id off len _ ep s'=>match σ.at id with
    |some (.cells cs ay mn)=>as5 mn ep&&as5 ep ay&&asc es.length len&&as5 (off+len*s) cs.length&&asc s s'&&
      es.zipIdx.all λ(e,i)=>asc (cellsOf e).length s&&(cellsOf e).zipIdx.all λ(d,j)=>match cs[off+i*s+j]? with
       |some c=>DZ σ f c d
       |none=>ab
    |_=>af
   |_=>af
  |_=>af
theorem th{fr:Bool}{σ:St}:∀{f:Nat} {x z:IV},DZ σ f x z=ab->Can fr σ x z
 |0,_,_,h=>by simp[DZ]at h
 |f+1,x,z,h=>by
  unfold DZ at h;split at h
  ·split at h
   ·rw[aaT h];exact .raw _
   ·cases h
  ·split at h
   ·obtain⟨h1,h2⟩:=wM h;exact .agg _ _ h1 λi c d e1 e2=>th (h2 i c d e1 e2)
   ·cases h
  ·split at h
   ·obtain⟨h1,h2⟩:=wM h;exact .az _ _ h1 λi c d e1 e2=>th (h2 i c d e1 e2)
   ·cases h
  ·split at h
   ·rename_i es _ l c;simp only[ar4,ate,av2,asK]at h;obtain⟨⟨⟨h1,h2⟩,h3⟩,h4⟩:=h;subst h1 h3 h4;exact .nil _ h2
   ·simp only[ar4,ate,av2]at h;obtain⟨h1,h2⟩:=h;subst h1;exact .emp _ h2
   ·simp only[ar4,ate,asK]at h;obtain⟨⟨h1,h2⟩,h3⟩:=h;subst h1 h2 h3;exact .dS _
   ·split at h
    ·rename_i aE;simp only[ar4,asK,Nat.ble_eq,asl]at h;obtain⟨⟨⟨⟨⟨h1,h2⟩,h3⟩,h4⟩,h5⟩,h6⟩:=h;subst h5;refine .sl _ _ _ _ _ _ _ _ _ _ aE h1 h2 h3 h4 (λe he=>?_) λi e j c d e1 e2 e3=>?_
     ·obtain⟨i,hi,rfl⟩:=atU he;exact(h6 (_,i) (atb.2 (ar2 hi))).1
     ·have:=(h6 (e,i) (atb.2 e1)).2 (d,j) (atb.2 e2);simp only[e3]at this;exact th this
    ·cases h
   ·cases h
  ·cases h
abbrev Hk:=FuncId->List (List IV×IV)
def hit(σ:St)(args:List IV):List (List IV×IV)->Option IV
 |[]=>ah
 |(xs,z)::l=>if DY (DZ σ 40) args xs then aa z else hit σ args l
theorem LI{σ:St}{args:List IV}{z:IV}:∀{l:List (List IV×IV)},hit σ args l=aa z->∃xs,(xs,z)∈l/\DX ab σ args xs
 |[],h=>by cases h
 |(xs,y)::l,h=>by
  rw[hit]at h;split at h
  ·rename_i ha;cases h;obtain⟨h1,h2⟩:=wM ha;exact⟨xs,.head _,h1,λi c d e1 e2=>th (h2 i c d e1 e2)⟩
  ·obtain⟨nX,h1,h2⟩:=LI h;exact⟨nX,.tail _ h1,h2⟩
def OI(H:Hk)(S:Self):Self:=⟨S.code,λro f args σ=>match hit σ args (H f)with
 |some z=>aa (z,σ)
 |none=>S.call ro f args σ,S.bY,S.wx⟩
def Td(P:Program)(H:Hk)(n:Nat):Self:=Nat.rec Self.none (λ_ S=>OI H (lB P S)) n
theorem XN{H:Hk}{S:Self}(hH:∀f xs z,(xs,z)∈H f->eZ P af ab f xs z)(hC:eu P S):eu P (OI H S) where
 call:=by
  intro N ro f args σ v ao h hN ι us w hi hr;simp only[OI]at h;split at h
  ·rename_i z hz;cases h;obtain⟨xs,h1,h2⟩:=LI hz;exact((hH f xs _ h1).Fq (ro:=ro) h2).2 N hN ι us w hi hr
  ·exact hC.call N ro f args σ v ao h hN ι us w hi hr
 bY:=hC.bY
 wx:=hC.wx
 mF:=hC.mF
theorem XO{H:Hk}{S:Self}(hk:bF S):bF (OI H S) where
 call:=by
  intro ro f args σ v ao h;simp only[OI]at h;split at h
  ·cases h;exact ar8 _
  ·exact hk.call ro f args σ v ao h
 bY:=hk.bY
 wx:=hk.wx
theorem XP(eW:P.follows .mixedOrders=ab){H:Hk}(hH:∀f xs z,(xs,z)∈H f->eZ P af ab f xs z):∀n,hZ P (Td P H n) n/\eu P (Td P H n)/\bX (Td P H n)/\bF (Td P H n)
 |0=>acF (λ_ _ h1 h2 h3 h4=>Ta eW h1 h2 h3 h4) 0
 |n+1=>by
  obtain⟨h1,h2,h3,h4⟩:=XP eW hH n;exact⟨S5 h1 h2 h3 h4 (Ta eW h1 h2 h3 h4),XN hH (J8 h1 h2 h3 h4),Lv h3 h4,XO (DJ h3 h4)⟩
def comes(r:Option (IV×St))(z:IV):Bool:=
 match r with
 |some (v,σ)=>DZ σ 40 v z
 |none=>af
theorem eZ.run(eW:P.follows .mixedOrders=ab){H:Hk}(hH:∀f xs z,(xs,z)∈H f->eZ P af ab f xs z){n:Nat}{new:Bool}{f:FuncId}{xs:List IV}{z:IV}(h:comes ((Td P H n).call 0 f xs ⟨0,.lf⟩) z=ab):eZ P af new f xs z:=by
 unfold comes at h;split at h
 ·rename_i v σ hc;obtain⟨_,h2,_,h4⟩:=XP eW hH n;exact eZ.of ⟨h4.call _ _ _ _ _ _ hc,λN hN ι us w hi hr=>h2.call N 0 f xs _ _ _ hc hN ι us w hi hr⟩ (th h)
 ·cases h
end Go.Ev
namespace Go.Ev
namespace T
variable{α:Type}
inductive WF:T α->Prop
 |lf:WF .lf
 |nd (l:T α) (v:Option α) (r:T α) (hl:WF l) (hr:WF r) (h:v.isSome=ab\/(∃i,(l.get i).isSome=ab)\/∃i,(r.get i).isSome=ab):WF (.nd l v r)
theorem Hc(l:T α)(v:Option α)(r:T α)(i:Nat):(T.nd l v r).get (2*i+1)=l.get i:=by
 rw[vI,if_neg (by omega),if_pos (by omega)];congr 1;omega
theorem D0(l:T α)(v:Option α)(r:T α)(i:Nat):(T.nd l v r).get (2*i+2)=r.get i:=by
 rw[vI,if_neg (by omega),if_neg (by omega)];congr 1;omega
theorem Hd(l:T α)(v:Option α)(r:T α):(T.nd l v r).get 0=v:=by rw[vI,if_pos rfl]
theorem WF.key{l:T α}{v:Option α}{r:T α}(h:WF (.nd l v r)):∃i,((T.nd l v r).get i).isSome=ab:=by
 cases h with
 |nd _ _ _ _ _ h=>
  rcases h with h|⟨i,h⟩|⟨i,h⟩
  ·exact⟨0,by rw[Hd];exact h⟩
  ·exact⟨2*i+1,by rw[Hc];exact h⟩
  ·exact⟨2*i+2,by rw[D0];exact h⟩
theorem WF.ext:∀{t t':T α},WF t->WF t'->(∀i,t.get i=t'.get i)->t=t'
 |.lf,.lf,_,_,_=>rfl
 |.lf,.nd l v r,_,h',he=>by
  obtain⟨i,hi⟩:=h'.key;rw[<-he i]at hi;cases hi
 |.nd l v r,.lf,h,_,he=>by
  obtain⟨i,hi⟩:=h.key;rw[he i]at hi;cases hi
 |.nd l v r,.nd l' v' r',.nd _ _ _ hl hr _,.nd _ _ _ cq oG _,he=>by
  have e0:v=v':=by have:=he 0;rwa[Hd,Hd]at this
  have e1:l=l':=hl.ext cq λi=>by have:=he (2*i+1);rwa[Hc,Hc]at this
  have e2:r=r':=hr.ext oG λi=>by have:=he (2*i+2);rwa[D0,D0]at this
  rw[e0,e1,e2]
theorem aei:∀(f:Nat) (t:T α) (i:Nat) (x:α),i<f->WF t->WF (qE f t i x):=by
 intro f;induction f with
 |zero=>intro t i x h;omega
 |succ f ih=>
  intro t i x h hw
  have key:∀(l:T α) (v:Option α) (r:T α),WF l->WF r->WF (qE (f+1) (.nd l v r) i x):=by
   intro l v r hl hr;rw[SV];by_cases hi:i=0
   ·rw[if_pos hi];exact .nd _ _ _ hl hr (.inl rfl)
   ·rw[if_neg hi];by_cases ho:i % 2=1
    ·rw[if_pos ho];exact .nd _ _ _ (ih _ _ _ (by omega) hl) hr (.inr (.inl ⟨i/2,by rw[GZ _ _ _ _ _ (by omega),if_pos rfl];rfl⟩))
    ·rw[if_neg ho];exact .nd _ _ _ hl (ih _ _ _ (by omega) hr) (.inr (.inr ⟨i/2- 1,by rw[GZ _ _ _ _ _ (by omega),if_pos rfl];rfl⟩))
  cases t with
  |lf=>rw[SX];exact key _ _ _ .lf .lf
  |nd l v r=>cases hw with|nd _ _ _ hl hr _=>exact key l v r hl hr
theorem WF.set{t:T α}(h:WF t)(i:Nat)(x:α):WF (t.set i x):=aei _ _ _ _ (by omega) h
end T
variable{P:Program}{ro:Nat}{σ:St}{ρ:Operand->IV}{o:Oper}{out:eC}
def D1(σ:St):eC->Prop
 |.val _ ao=>σ.t.WF->ao.t.WF
 |_=>True
theorem AR{v:IV}{ao:St}(hle:σ.t.WF->ao.t.WF)(h:ret v ao=aa out):D1 σ out:=by rw[aJ h];exact hle
theorem Fs{v:IV}(h:ret v σ=aa out):D1 σ out:=AR (λh=>h) h
theorem D2{v:IV}{id:Nat}{ob:Ob}(h:ret v (σ.put id ob)=aa out):D1 σ out:=AR (ao:=σ.put id ob) (λh=>h.set _ _) h
theorem aej{v:IV}{id bA:Nat}{ob eK:Ob}(h:ret v ((σ.put id ob).put bA eK)=aa out):D1 σ out:=AR (ao:=(σ.put id ob).put bA eK) (λh=>(h.set _ _).set _ _) h
theorem XQ{v:IV}{ob:Ob}(h:ret v (σ.add ob)=aa out):D1 σ out:=AR (λh=>h.set _ _) h
theorem LJ{kt:TypeId}{m k v:IV}{ao:St}(h:pe P ro kt m k v σ=aa ao):σ.t.WF->ao.t.WF:=by
 unfold pe at h
 repeat' split at h
 all_goals first|(cases h;done)|(cases h;exactλh=>h.set _ _)
theorem XS{f:IV}{args:List IV}(h:gu P f args=aa out):D1 σ out:=by
 unfold gu at h
 repeat' split at h
 all_goals first|(cases h;done)|(cases h;exact trivial)
theorem XT{x:IV}{name:String}{args:List IV}(h:uy P x name args=aa out):D1 σ out:=by
 unfold uy at h
 repeat' split at h
 all_goals first|(cases h;done)|(cases h;exact trivial)
theorem XU{argTypes:Array TypeId}{s x:IV}(h:kE P ro argTypes s x σ=aa out):D1 σ out:=by
 have hn:∀{size aY n:Nat} {new:List IV} {s:IV},fk size aY n new s σ=aa out->D1 σ out:=by
  intro size aY n new s h;unfold fk at h;split at h
  ·split at h
   ·exact XQ h
   ·cases h
  ·cases h
 unfold kE at h;split at h
 ·split at h
  ·split at h
   ·split at h
    ·cases h
    ·split at h
     ·split at h
      ·unfold eD at h
       repeat' split at h
       all_goals first|exact Fs h|exact D2 h|exact aej h|exact hn h|cases h
      ·cases h
     ·cases h
   ·cases h
  ·cases h
 ·cases h
theorem VA{b:Builtin}{argTypes:Array TypeId}{args:List IV}(h:dB P ro b argTypes args σ=aa out):D1 σ out:=by
 unfold dB at h;split at h
 ·split at h
  ·exact XU h
  ·cases h
 ·split at h
  ·rw[ar9]at h;obtain⟨z,_,rfl⟩:=h;exactλh=>h
  ·cases h
 ·split at h
  ·rw[ar9]at h;obtain⟨z,_,rfl⟩:=h;exactλh=>h
  ·cases h
 ·rw[ar9]at h;obtain⟨z,_,rfl⟩:=h;exactλh=>h
 ·rw[ar9]at h;obtain⟨z,_,rfl⟩:=h;exactλh=>h
 ·split at h
  ·unfold xw at h
   repeat' split at h
   all_goals first|exact D2 h|(cases h;done)
  ·cases h
 ·split at h
  ·unfold sR at h
   repeat' split at h
   all_goals first|exact Fs h|exact D2 h|(cases h;done)
  ·cases h
 ·split at h
  ·unfold Fg at h
   repeat' split at h
   all_goals first|exact Fs h|exact D2 h|(cases h;done)
  ·cases h
 ·cases h
theorem afR(h:av P ro ρ o σ=aa out):D1 σ out:=by
 unfold av at h;cases ho:o.op<;>rw[ho]at h<;>(try dsimp only at h)
 case call c=>
  split at h
  ·exact VA h
  ·exact XS h
  ·exact XT h
 case defer c=>
  split at h
  ·split at h
   ·cases h;exact trivial
   ·cases h
  ·cases h
 case mapUpdate=>
  split at h
  ·split at h
   ·rename_i ao hs;exact AR (LJ hs) h
   ·cases h
  ·cases h
 case insert=>
  split at h
  ·split at h
   ·rename_i ao hs;exact AR (LJ hs) h
   ·cases h
  ·cases h
 all_goals (repeat' split at h)
 all_goals first|exact Fs h|exact D2 h|exact XQ h|(cases h;done)|(cases h;exact trivial)
theorem VB{v:IV}{ao:St}(h:av P ro ρ o σ=aa (.val v ao))(hw:σ.t.WF):ao.t.WF:=afR h hw
theorem D3{v:IV}{aq:St}(hk:dj o=.pure)(h:av P ro ρ o σ=aa (.val v aq)):aq=σ/\∀fQ ao,av P fQ ρ o ao=aa (.val v ao):=by
 unfold dj at hk;unfold av at h⊢;cases ho:o.op<;>rw[ho]at h hk<;>(try dsimp only at h hk⊢)<;>(try (cases hk;done))
 case call c=>
  obtain⟨callee,argTypes,args⟩:=c;cases callee with
  |builtin b=>
   cases b<;>simp only at hk<;>(try (cases hk;done))
   all_goals
    simp only[dB]at h⊢
    first
    |(rw[ar9]at h
      obtain⟨z,hz,he⟩:=h;cases he;exact⟨rfl,λ_ _=>by rw[hz];rfl⟩)
    |(split at h
      ·rename_i hx;rw[ar9]at h;obtain⟨z,hz,he⟩:=h;cases he;exact⟨rfl,λ_ _=>by rw[hz];rfl⟩
      ·cases h)
  |value f=>cases hk
  |invoke r m=>cases hk
 all_goals (repeat' split at h)
 all_goals first
  |(cases h;done)
  |(cases h;exact⟨rfl,λ_ _=>by simp_all[ret]⟩)
theorem D4{v:IV}{aq:St}(hk:dj o=.load)(h:av P ro ρ o σ=aa (.val v aq)):aq=σ/\∀fQ,av P fQ ρ o σ=aa (.val v σ):=by
 unfold dj at hk;unfold av at h⊢;cases ho:o.op<;>rw[ho]at h hk<;>(try dsimp only at h hk⊢)<;>(try (cases hk;done))
 case call c=>
  obtain⟨callee,argTypes,args⟩:=c;cases callee with
  |builtin b=>
   cases b<;>simp only at hk<;>(try (cases hk;done));simp only[dB]at h⊢;split at h
   ·rename_i hx;rw[ar9]at h;obtain⟨z,hz,he⟩:=h;cases he;exact⟨rfl,λ_=>by rw[hz];rfl⟩
   ·cases h
  |value f=>cases hk
  |invoke r m=>cases hk
 all_goals (repeat' split at h)
 all_goals first
  |(cases h;done)
  |(cases h;exact⟨rfl,λ_=>by simp_all[ret]⟩)
theorem afS(σ:St)(ob:Ob):(St.add ⟨σ.n,.lf⟩ ob)=⟨(σ.add ob).n,T.lf.set σ.n ob⟩:=rfl
theorem Iq{v:IV}{aq:St}(hk:dj o=.alloc)(h:av P ro ρ o σ=aa (.val v aq)):
 ∃t,(∀fQ,av P fQ ρ o ⟨σ.n,.lf⟩=aa (.val v ⟨aq.n,t⟩))/\((aq=σ/\t=.lf)\/∃ob,aq=σ.add ob/\t=T.lf.set σ.n ob):=by
 unfold dj at hk;unfold av at h⊢;cases ho:o.op<;>rw[ho]at h hk<;>(try dsimp only at h hk⊢)<;>(try (cases hk;done))
 case call c=>
  obtain⟨callee,argTypes,args⟩:=c;cases callee with
  |builtin b=>cases b<;>cases hk
  |value f=>cases hk
  |invoke r m=>cases hk
 all_goals (repeat' split at h)
 all_goals first
  |(cases h;done)
  |(cases h;exact⟨_,λ_=>by simp_all[ret,afS],.inr ⟨_,rfl,rfl⟩⟩)
  |(cases h;exact⟨_,λ_=>by simp_all[ret],.inl ⟨rfl,rfl⟩⟩)
theorem yc{b:Builtin}{argTypes:Array TypeId}{args:List IV}{f:FuncId}{as:List IV}(h:dB P ro b argTypes args σ=aa (.enter f as)):False:=by
 unfold dB at h;split at h
 ·split at h
  ·obtain⟨_,_,he⟩:=Gt h;cases he
  ·cases h
 ·split at h
  ·rw[ar9]at h;obtain⟨z,_,he⟩:=h;cases he
  ·cases h
 ·split at h
  ·rw[ar9]at h;obtain⟨z,_,he⟩:=h;cases he
  ·cases h
 ·rw[ar9]at h;obtain⟨z,_,he⟩:=h;cases he
 ·rw[ar9]at h;obtain⟨z,_,he⟩:=h;cases he
 ·split at h
  ·unfold xw at h
   repeat' split at h
   all_goals cases h
  ·cases h
 ·split at h
  ·unfold sR at h
   repeat' split at h
   all_goals cases h
  ·cases h
 ·split at h
  ·unfold Fg at h
   repeat' split at h
   all_goals cases h
  ·cases h
 ·cases h
theorem BG{f:FuncId}{args:List IV}(h:av P ro ρ o σ=aa (.enter f args)):∀fQ ao,av P fQ ρ o ao=aa (.enter f args):=by
 intro fQ ao;unfold av at h⊢;cases ho:o.op<;>rw[ho]at h<;>(try dsimp only at h⊢)
 case call c=>
  split at h
  ·exact(yc h).elim
  ·exact h
  ·exact h
 case defer c=>
  split at h
  ·split at h<;>cases h
  ·cases h
 all_goals (repeat' split at h)
 all_goals cases h
open Classical in
@[reducible] noncomputable def afT:Sm:=⟨λu v=>decide (u=v),λ_ _ h=>of_decide_eq_true h⟩
attribute [local instance] afT
open Classical in
noncomputable def qI(R:Option Nat)(f:FuncId)(args:List IV)(σ:St)(v:IV)(aq:St):Self where
 code:=λ_ _ _ _ _ _ _=>ah
 call:=λfQ f' a' ao=>if(R=ah\/R=aa fQ)/\f'=f/\a'=args/\ao=σ then aa (v,aq)else ah
 bY:=λ_ _ _ _=>ah
 wx:=λ_ _ _ _ _=>ah
def lH(P:Program)(U:Self):Prop:=hZ P U 0/\eu P U/\bX U/\bF U
theorem ot:lH P Self.none:=
 ⟨λ_ _ _ _ _ _ _ _ _ h=>(by cases h),(sw (P:=P)).1,λ_ _ _ _ _ _ _ _ h=>(by cases h),(sw (P:=P)).2⟩
theorem LK{R:Option Nat}{f:FuncId}{args:List IV}{σ:St}{v:IV}{aq:St}(h:∀ro,(R=ah\/R=aa ro)->gJ P ro f args σ v aq){fQ:Nat}{f':FuncId}{a':List IV}{ao:St}{v':IV}{dm:St}
 (hc:(qI R f args σ v aq).call fQ f' a' ao=aa (v',dm)):gJ P fQ f' a' ao v' dm:=by
 simp only[qI]at hc;split at hc
 ·rename_i hh;cases hc;obtain⟨h1,rfl,rfl,rfl⟩:=hh;exact h _ h1
 ·cases hc
theorem ti{R:Option Nat}{f:FuncId}{args:List IV}{σ:St}{v:IV}{aq:St}(h:∀ro,(R=ah\/R=aa ro)->gJ P ro f args σ v aq):lH P (qI R f args σ v aq):=
 ⟨λ_ _ _ _ _ _ _ _ _ h=>(by cases h),⟨λN _ _ _ _ _ _ hc hN=>(LK h hc).2 N hN,λ_ _ _ _ _ _ _ h=>(by cases h),λ_ _ _ _ _ _ _ _ h=>(by cases h),λ_ _ _ _ _ _ _ h=>(by cases h)⟩,
  λ_ _ _ _ _ _ _ _ h=>(by cases h),⟨λ_ _ _ _ _ _ hc=>(LK h hc).1,λ_ _ _ _ _ _ h=>(by cases h),λ_ _ _ _ _ _ _ h=>(by cases h)⟩⟩
def AS(o:Oper):Bool:=
 match o.op with
 |.call {callee:=.value _,.. }=>ab
 |_=>af
def Ft(ops:Array Oper)(pl:dR):Bool:=
 ops.toList.zipIdx.all λ(o,j)=>
  (match pl.kinds.getD j .effect with
   |.call=>AS o&&dj o==.call
   |.effect=>ab
   |k=>dj o==k)&&
  (pl.kinds.getD j .effect==.pure||ops.toList.zipIdx.all λ(_,i)=> !as7 i j||asp (pl.b_.getD j 0) i||
   (match pl.kinds.getD i .effect with
    |.alloc|.effect=>af
    |.load=> !(pl.kinds.getD j .effect==.effect)
    |_=>ab))
inductive fZ(P:Program)(ro:Nat)(ops:Array Oper)(pl:dR)(fr:Bool):List (Oper×Nat)->Env->St->Env->St->Prop
 |nil (e:Env) (σ:St):fZ P ro ops pl fr [] e σ e σ
 |skip {o:Oper} {j:Nat} {l:List (Oper×Nat)} {e:Env} {σ:St} {e':Env} {ao:St} (hw:aO o ops e=af) (h:fZ P ro ops pl fr l (e.put o.dst .undef) σ e' ao):fZ P ro ops pl fr ((o,j)::l) e σ e' ao
 |val {o:Oper} {j:Nat} {l:List (Oper×Nat)} {e:Env} {σ:St} {e':Env} {ao:St} {v:IV} {aq:St} (hw:aO o ops e=ab) (hv:av P ro (ax e) o σ=aa (.val v aq)) (h:fZ P ro ops pl fr l (e.put o.dst v) aq e' ao):fZ P ro ops pl fr ((o,j)::l) e σ e' ao
 |Ir {o:Oper} {j:Nat} {l:List (Oper×Nat)} {e:Env} {σ:St} {e':Env} {ao:St} {f:FuncId} {args:List IV} {v:IV} (hw:aO o ops e=ab) (hv:av P ro (ax e) o σ=aa (.enter f args)) (hc:∀ro,gJ P ro f args σ v σ)
   (h:fZ P ro ops pl fr l (e.put o.dst v) σ e' ao):fZ P ro ops pl fr ((o,j)::l) e σ e' ao
 |call {o:Oper} {j:Nat} {l:List (Oper×Nat)} {e:Env} {σ:St} {e':Env} {ao:St} {f:FuncId} {args:List IV} {v:IV} {aq:St} (hk:bc pl j=.effect) (hw:aO o ops e=ab) (hv:av P ro (ax e) o σ=aa (.enter f args))
   (hc:gJ P ro f args σ v aq) (jr:σ.t.WF->aq.t.WF) (h:fZ P ro ops pl fr l (e.put o.dst v) aq e' ao):fZ P ro ops pl fr ((o,j)::l) e σ e' ao
 |VC {o:Oper} {j:Nat} {l:List (Oper×Nat)} {e:Env} {σ:St} {e':Env} {ao:St} {f:FuncId} {args:List IV} {v:IV} {ob:Ob} (hq:fr=ab) (hw:aO o ops e=ab) (hv:av P ro (ax e) o σ=aa (.enter f args))
   (hc:∀ro,gJ P ro f args σ v (σ.add ob)) (h:fZ P ro ops pl fr l (e.put o.dst v) (σ.add ob) e' ao):fZ P ro ops pl fr ((o,j)::l) e σ e' ao
theorem BH{ops:Array Oper}{pl:dR}(h:Ft ops pl=ab){o:Oper}{j:Nat}(ho:(o,j)∈ops.toList.zipIdx):
 (bc pl j≠.call->bc pl j≠.effect->dj o=bc pl j)/\(bc pl j=.call->AS o=ab)/\
 (bc pl j≠.pure->∀p i,(p,i)∈ops.toList.zipIdx->i<j->(bc pl i=.alloc\/bc pl i=.effect\/(bc pl i=.load/\bc pl j=.effect))->asp (pl.b_.getD j 0) i=ab):=by
 unfold Ft at h;have h1:=asl.1 h (o,j) ho;simp only[ar4,asL]at h1;obtain⟨h1,h2⟩:=h1;refine⟨λhc he=>?_,λhc=>?_,λhp p i hi ai hk=>?_⟩
 ·unfold bc at hc he⊢;cases hk:pl.kinds.getD j .effect<;>rw[hk]at h1 hc he<;>first|exact absurd rfl hc|exact absurd rfl he|simpa using h1
 ·unfold bc at hc;rw[hc]at h1;simp only[ar4]at h1;exact h1.1
 ·rcases h2 with h2|h2
  ·exact absurd (by simpa[bc]using h2) hp
  ·have h3:=asl.1 h2 (p,i) hi;simp only[asL]at h3;rcases h3 with(h3|h3)|h3
   ·rw[Bool.not_eq_true',<-Bool.not_eq_true,av2]at h3;exact absurd ai h3
   ·exact h3
   ·unfold bc at hk;rcases hk with hk|hk|⟨hk,cC⟩
    ·rw[hk]at h3;cases h3
    ·rw[hk]at h3;cases h3
    ·rw[hk,cC]at h3;simp at h3
theorem kL(b:T Ob)(p:Piece)(h:p.hi<=p.lo):dt b p=b:=by
 unfold dt;rw[show p.hi- p.lo=0 by omega];rfl
theorem wN{b:T Ob}(h:b.WF)(p:Piece):(dt b p).WF:=by
 unfold dt;generalize List.range' p.lo (p.hi- p.lo)=l;induction l generalizing b with
 |nil=>exact h
 |cons id l ih=>
  simp only[asG];refine ih ?_;split
  ·exact h.set _ _
  ·exact h
theorem kM:∀(l:List Piece) {b:T Ob},b.WF->(l.foldl dt b).WF
 |[],_,h=>h
 |p::l,_,h=>kM l (wN h p)
theorem tj{f:Piece->Bool}:∀(l:List Piece) (b:T Ob),(∀p∈l,f p=ab\/p.hi<=p.lo)->(l.filter f).foldl dt b=l.foldl dt b
 |[],_,_=>rfl
 |p::l,b,h=>by
  have ht:=λq hq=>h q (atm _ hq);rw[awI];by_cases hf:f p=ab
  ·rw[if_pos hf];exact tj l _ ht
  ·rw[if_neg hf,asG,kL b p ((h p (aul ..)).resolve_left hf)];exact tj l b ht
theorem zl{f:Piece->Bool}:∀(l:List Piece) (b:T Ob),(∀p∈l,f p=ab->p.hi<=p.lo)->(l.filter f).foldl dt b=b
 |[],_,_=>rfl
 |p::l,b,h=>by
  have ht:=λq hq=>h q (atm _ hq);rw[awI];by_cases hf:f p=ab
  ·rw[if_pos hf,asG,kL b p (h p (aul ..) hf)];exact zl l b ht
  ·rw[if_neg hf];exact zl l b ht
theorem zm{n:Nat}{ob:Ob}:∀(l:List Piece) (b1 b2:T Ob),(∀p∈l,p.hi<=n)->(∀id,b1.get id=(b2.set n ob).get id)->∀id,(l.foldl dt b1).get id=((l.foldl dt b2).set n ob).get id
 |[],b1,b2,_,h,id=>h id
 |p::l,b1,b2,hp,h,id=>by
  simp only[asG];refine zm l _ _ (λq hq=>hp q (atm _ hq)) (λid=>?_) id;have hpn:=hp p (aul ..);rw[ku,T.fW,ku,h id,T.fW];by_cases hn:n=id
  ·subst hn;simp only[if_true];rw[if_neg (by omega)]
  ·simp only[if_neg hn]
structure yd(pl:dR)(j:Nat)(d:DS)(e:Env)(σ:St):Prop where
 e:d.e=e
 n:d.n=σ.n
 bs:∃i b rest,d.bs=(i,b)::rest/\(rest=[]\/(i<j/\bc pl i=.effect))/\d.aH.foldl dt b=σ.t/\b.WF
 aH:∀p∈d.aH,(p.hi<=p.lo\/(p.j<j/\bc pl p.j=.alloc))/\p.hi<=d.n
theorem Kb{ops:Array Oper}{pl:dR}{d:DS}{e:Env}{σ:St}{j:Nat}{b:T Ob}(hs:yd pl j d e σ)(d_:d.aH.foldl dt b=σ.t)
 (lu:∀i,i<j->(bc pl i=.alloc\/bc pl i=.effect)->asp (pl.b_.getD j 0) i=ab):seen d.aH (pl.b_.getD j 0) b=σ.t:=by
 unfold seen;rw[tj _ _ λp hp=>?_,d_];rcases(hs.aH p hp).1 with h|⟨h1,h2⟩
 ·exact .inr h
 ·exact .inl (lu _ h1 (.inl h2))
theorem C7{v:IV}{aq:St}(h:AS o=ab)(hv:av P ro ρ o σ=aa (.val v aq)):False:=by
 unfold AS at h;split at h
 ·rename_i f a b fq;unfold av at hv;rw[fq]at hv;dsimp only at hv;unfold gu at hv
  repeat' split at hv
  all_goals cases hv
 ·cases h
theorem tl{f:FuncId}{args:List IV}(h:av P ro ρ o σ=aa (.enter f args)):dj o=.call\/dj o=.effect:=by
 unfold av at h;unfold dj;cases ho:o.op<;>rw[ho]at h<;>(try dsimp only at h⊢)
 case call c=>
  obtain⟨callee,argTypes,args⟩:=c;cases callee with
  |builtin b=>exact(yc h).elim
  |value f=>exact .inl rfl
  |invoke r m=>exact .inr rfl
 case defer c=>
  split at h
  ·split at h<;>cases h
  ·cases h
 all_goals (repeat' split at h)
 all_goals cases h
theorem He{U:Self}{ops:Array Oper}{pl:dR}{o:Oper}{j:Nat}{d:DS}{e:Env}{σ aq:St}{v:IV}(hs:yd pl j d e σ)(hk:bc pl j=.effect)(hw:aO o ops e=ab)
 (gK:∀p i,(p,i)∈ops.toList.zipIdx.take j->(p,i)∈ops.toList.zipIdx/\i<j)
 (lu:∀i,i<j->(bc pl i=.alloc\/bc pl i=.effect\/(bc pl i=.load/\bc pl j=.effect))->asp (pl.b_.getD j 0) i=ab)
 (hx:jA P U ro e o σ=aa (v,aq))(jr:aq.t.WF)(hn:σ.n<=aq.n):∃d1,bQ P U pl ro ops o j d=aa d1/\yd pl (j+1) d1 (e.put o.dst v) aq:=by
 obtain⟨i,b,rest,cI,fg,d_,jD⟩:=hs.bs;have mw:=Kb (ops:=ops) hs d_ λi hi h=>lu i hi (h.imp id .inl);have ct:(⟨d.n,seen d.aH (pl.b_.getD j 0) b⟩:St)=σ:=by rw[mw,hs.n]
 refine⟨⟨e.put o.dst v,aq.n,(j,aq.t)::d.bs,d.aH.filter λp=> !asp (pl.b_.getD j 0) p.j⟩,?_,⟨rfl,rfl,⟨j,aq.t,d.bs,rfl,.inr ⟨by omega,hk⟩,?_,jr⟩,λp hp=>?_⟩⟩
 ·unfold bQ;rw[cI];simp only;rw[hs.e,hw,if_pos rfl];have cC:pl.kinds.getD j .effect=.effect:=hk;rw[cC];simp only;rw[ct,hx];simp only;rw[if_pos];unfold recheck;rw[asl];rintro⟨p,q⟩ ye;obtain⟨h5,h6⟩:=gK p q ye;simp only;split
  ·rename_i AO;rw[lu q h6 (.inr (.inr ⟨AO,hk⟩))];rfl
  ·rfl
 ·refine zl _ _ λp hp hf=>?_;rcases(hs.aH p hp).1 with h|⟨h1,h2⟩
  ·exact h
  ·rw[lu _ h1 (.inl h2)]at hf;cases hf
 ·have qV:=(List.mem_filter.1 hp).1;obtain⟨h1,h2⟩:=hs.aH p qV;exact⟨h1.imp id (λh=>⟨by omega,h.2⟩),by rw[hs.n]at h2;exact asq h2 hn⟩
theorem C8{SF po:Nat->Self}{pl:dR}{ops:Array Oper}:∀{l:List (Oper×Nat)} {d:DS},(∀o i,(o,i)∈l->SF i=po i)->iW P SF pl ro ops l d=iW P po pl ro ops l d
 |[],_,_=>rfl
 |(o,j)::l,d,h=>by
  unfold iW;rw[h o j (aul ..)];split
  ·exact C8 λo' i hi=>h o' i (atm _ hi)
  ·rfl
theorem lI{U:Self}{pl:dR}{ops:Array Oper}{o:Oper}{j:Nat}{l:List (Oper×Nat)}{d d1 d':DS}{SF:Nat->Self}(hU:lH P U)(hS:∀i,lH P (SF i))(h1:bQ P U pl ro ops o j d=aa d1)
 (h3:iW P SF pl ro ops l d1=aa d')(hl:∀o' i,(o',i)∈l->i≠j):∃po,(∀i,lH P (po i))/\iW P po pl ro ops ((o,j)::l) d=aa d':=by
 refine⟨λi=>if i=j then U else SF i,λi=>?_,?_⟩
 ·by_cases hi:i=j
  ·simp only[if_pos hi];exact hU
  ·simp only[if_neg hi];exact hS i
 ·unfold iW;simp only[if_true];rw[h1];simp only;rw[<-h3];exact C8 λo' i hi=>by simp only[if_neg (hl o' i hi)]
theorem XV{ops:Array Oper}{pl:dR}(bp:Ft ops pl=ab){l:List (Oper×Nat)}{e e':Env}{σ ao:St}(h:fZ P ro ops pl af l e σ e' ao):
 ∀(k:Nat) (d:DS),ops.toList.zipIdx.drop k=l->yd pl k d e σ->∃SF:Nat->Self,(∀i,lH P (SF i))/\∃d',iW P SF pl ro ops l d=aa d'/\d'.e=e'/\d'.n=ao.n/\∃i b rest,d'.bs=(i,b)::rest/\d'.aH.foldl dt b=ao.t:=by
 have eg:∀{o:Oper} {j:Nat} {l:List (Oper×Nat)} {k:Nat},ops.toList.zipIdx.drop k=(o,j)::l->(o,j)∈ops.toList.zipIdx/\j=k/\ops.toList.zipIdx.drop (k+1)=l/\
  (∀p i,(p,i)∈ops.toList.zipIdx.take j->(p,i)∈ops.toList.zipIdx/\i<j)/\(∀i,i<j->∃p,(p,i)∈ops.toList.zipIdx)/\∀o' i,(o',i)∈l->i≠j:=by
  intro o j l k h;have h1:(ops.toList.zipIdx.drop k)[0]?=aa (o,j):=by rw[h];rfl
  rw[List.getElem?_drop,Nat.add_zero]at h1;have h2:=ash h1;have ai:=(ar3.1 h1).1;rw[awi]at h1
  have hj:j=k:=by
   cases hk:ops.toList[k]? with
   |none=>rw[hk]at h1;cases h1
   |some o'=>rw[hk]at h1;simp at h1;omega
  have AM:ops.toList.zipIdx.drop (k+1)=l:=by rw[<-List.drop_drop (i:=1) (j:=k),h];rfl
  refine⟨h2,hj,AM,λp i hp=>⟨List.mem_of_mem_take hp,?_⟩,λi hi=>?_,λo' i hi=>?_⟩
  ·obtain⟨m,hm,he⟩:=atU hp;rw[List.length_take]at hm;rw[List.getElem_take,avg]at he;cases he;omega
  ·rw[List.length_zipIdx]at ai;refine⟨ops.toList[i],ash (i:=i) ?_⟩;rw[awi,ar2 (by omega)];simp
  ·rw[<-AM]at hi;obtain⟨m,hm,he⟩:=atU hi;rw[List.getElem_drop,avg]at he;cases he;omega
 induction h with
 |nil e σ=>
  intro k d _ hs;obtain⟨i,b,rest,h1,_,h3,_⟩:=hs.bs;exact⟨λ_=>Self.none,λ_=>ot,d,rfl,hs.e,hs.n,i,b,rest,h1,h3⟩
 | @skip o j l e σ e' ao hw h ih=>
   intro k d hl hs;obtain⟨hm,rfl,hd,gK,bz,ai⟩:=eg hl;obtain⟨fH,dV,lu⟩:=BH bp hm;obtain⟨i,b,rest,cI,fg,d_,jD⟩:=hs.bs;have iZ:∀p∈d.aH,(p.hi<=p.lo\/(p.j<j+1/\bc pl p.j=.alloc))/\p.hi<=d.n:=λp hp=>⟨(hs.aH p hp).1.imp id (λh=>⟨by omega,h.2⟩),(hs.aH p hp).2⟩
   have key:∃U,lH P U/\∃d1,bQ P U pl ro ops o j d=aa d1/\yd pl (j+1) d1 (e.put o.dst .undef) σ:=by
    refine⟨Self.none,ot,?_⟩;by_cases hk:bc pl j=.effect
    ·refine⟨⟨d.e.put o.dst .undef,d.n,(j,b)::d.bs,d.aH⟩,?_,⟨by rw[hs.e],hs.n,⟨j,b,d.bs,rfl,.inr ⟨by omega,hk⟩,d_,jD⟩,iZ⟩⟩;unfold bQ;rw[cI];simp only;rw[hs.e,hw,if_neg (by simp)];have cC:pl.kinds.getD j .effect=.effect:=hk;rw[cC];simp only;rw[if_pos];unfold recheck;rw[asl];rintro⟨p,q⟩ ye;obtain⟨h5,h6⟩:=gK p q ye;simp only;split
     ·rename_i AO;rw[lu (by rw[hk];simp) p q h5 h6 (.inr (.inr ⟨AO,hk⟩))];rfl
     ·rfl
    ·refine⟨{d with e:=d.e.put o.dst .undef},?_,⟨by rw[hs.e],hs.n,⟨i,b,rest,cI,fg.imp id (λh=>⟨by omega,h.2⟩),d_,jD⟩,iZ⟩⟩;unfold bQ;rw[cI];simp only;rw[hs.e,hw,if_neg (by simp)];have cC:pl.kinds.getD j .effect≠.effect:=hk;cases hq:pl.kinds.getD j .effect<;>first|exact absurd hq cC|simp only
   obtain⟨U,hU,d1,h1,h2⟩:=key;obtain⟨SF,kN,d',h3,h4⟩:=ih (j+1) d1 hd h2;obtain⟨po,h5,h6⟩:=lI hU kN h1 h3 ai;exact⟨po,h5,d',h6,h4⟩
 | @val o j l e σ e' ao v aq hw hv h ih=>
   intro k d hl hs;obtain⟨hm,rfl,hd,gK,bz,ai⟩:=eg hl;obtain⟨fH,dV,lu⟩:=BH bp hm;obtain⟨i,b,rest,cI,fg,d_,jD⟩:=hs.bs;have pq:σ.t.WF:=d_▸kM _ jD;have iZ:∀p∈d.aH,(p.hi<=p.lo\/(p.j<j+1/\bc pl p.j=.alloc))/\p.hi<=d.n:=λp hp=>⟨(hs.aH p hp).1.imp id (λh=>⟨by omega,h.2⟩),(hs.aH p hp).2⟩
   have zn:bc pl j≠.pure->∀i,i<j->(bc pl i=.alloc\/bc pl i=.effect\/(bc pl i=.load/\bc pl j=.effect))->asp (pl.b_.getD j 0) i=ab:=by
    intro hp i hi hk;obtain⟨p,OJ⟩:=bz i hi;exact lu hp p i OJ hi hk
   have key:∃U,lH P U/\∃d1,bQ P U pl ro ops o j d=aa d1/\yd pl (j+1) d1 (e.put o.dst v) aq:=by
    refine⟨Self.none,ot,?_⟩;cases hk:bc pl j with
    |pure=>
     have mZ:dj o=.pure:=by rw[fH (by rw[hk];simp) (by rw[hk];simp),hk]
     obtain⟨rfl,nz⟩:=D3 mZ hv;refine⟨{d with e:=d.e.put o.dst v},?_,⟨by rw[hs.e],hs.n,⟨i,b,rest,cI,fg.imp id (λh=>⟨by omega,h.2⟩),d_,jD⟩,iZ⟩⟩;unfold bQ;rw[cI];simp only;rw[hs.e,hw,if_pos rfl];have cC:pl.kinds.getD j .effect=.pure:=hk;rw[cC];simp only;rw[nz 0 ⟨0,.lf⟩];simp[hs.e,cI]
    |alloc=>
     have mZ:dj o=.alloc:=by rw[fH (by rw[hk];simp) (by rw[hk];simp),hk]
     obtain⟨t,nz,s5⟩:=Iq mZ hv;refine⟨⟨d.e.put o.dst v,aq.n,d.bs,⟨j,d.n,aq.n,t⟩::d.aH⟩,?_,⟨by rw[hs.e],rfl,⟨i,b,rest,cI,fg.imp id (λh=>⟨by omega,h.2⟩),?_,jD⟩,λp hp=>?_⟩⟩
     ·unfold bQ;rw[cI];simp only;rw[hs.e,hw,if_pos rfl];have cC:pl.kinds.getD j .effect=.alloc:=hk;rw[cC];simp only;rw[hs.n,nz 0]
     ·simp only[asG];rcases s5 with⟨rfl,rfl⟩|⟨ob,rfl,rfl⟩
      ·rw[kL _ _ (by simp[hs.n]),d_]
      ·refine T.WF.ext (kM _ (wN jD _)) (pq.set _ _) λid=>?_
       have:=zm (n:=σ.n) (ob:=ob) d.aH (dt b ⟨j,d.n,(σ.add ob).n,T.lf.set σ.n ob⟩) b (λp hp=>by rw[<-hs.n];exact(hs.aH p hp).2) (λid=>by
        rw[ku,T.fW,T.fW];simp only[hs.n,St.kY];by_cases hid:σ.n=id
        ·subst hid;simp
        ·rw[if_neg (by omega),if_neg hid]) id
       rw[this,d_];rfl
     ·rcases asS.1 hp with rfl|hp
      ·exact⟨.inr ⟨by simp,hk⟩,ar8 _⟩
      ·obtain⟨h1,h2⟩:=iZ p hp;exact⟨h1,by have:=lV hv;rw[hs.n]at h2;exact asq h2 this⟩
    |load=>
     have mZ:dj o=.load:=by rw[fH (by rw[hk];simp) (by rw[hk];simp),hk]
     obtain⟨rfl,nz⟩:=D4 mZ hv;have mw:=Kb (ops:=ops) hs d_ λi hi h=>zn (by rw[hk];simp) i hi (h.imp id .inl);have ct:(⟨d.n,seen d.aH (pl.b_.getD j 0) b⟩:St)=aq:=by rw[mw,hs.n]
     refine⟨{d with e:=d.e.put o.dst v},?_,⟨by rw[hs.e],hs.n,⟨i,b,rest,cI,fg.imp id (λh=>⟨by omega,h.2⟩),d_,jD⟩,iZ⟩⟩;unfold bQ;rw[cI];simp only;rw[hs.e,hw,if_pos rfl];have cC:pl.kinds.getD j .effect=.load:=hk;rw[cC];simp only;rw[ct,nz d.n];simp only;rw[if_pos];refine⟨hs.n.symm,?_⟩;rcases fg with rfl|⟨h1,h2⟩
     ·simp[lT]
     ·rw[zn (by rw[hk];simp) i h1 (.inr (.inl h2))];rfl
    |call=>exact(C7 (dV hk) hv).elim
    |effect=>
     refine He hs hk hw gK (λi hi h=>zn (by rw[hk];simp) i hi h) ?_ (VB hv pq) (lV hv);unfold jA;rw[hv]
   obtain⟨U,hU,d1,h1,h2⟩:=key;obtain⟨SF,kN,d',h3,h4⟩:=ih (j+1) d1 hd h2;obtain⟨po,h5,h6⟩:=lI hU kN h1 h3 ai;exact⟨po,h5,d',h6,h4⟩
 | @Ir o j l e σ e' ao f args v hw hv hc h ih=>
   intro k d hl hs;obtain⟨hm,rfl,hd,gK,bz,ai⟩:=eg hl;obtain⟨fH,dV,lu⟩:=BH bp hm;obtain⟨i,b,rest,cI,fg,d_,jD⟩:=hs.bs;have pq:σ.t.WF:=d_▸kM _ jD;have iZ:∀p∈d.aH,(p.hi<=p.lo\/(p.j<j+1/\bc pl p.j=.alloc))/\p.hi<=d.n:=λp hp=>⟨(hs.aH p hp).1.imp id (λh=>⟨by omega,h.2⟩),(hs.aH p hp).2⟩
   have zn:bc pl j≠.pure->∀i,i<j->(bc pl i=.alloc\/bc pl i=.effect\/(bc pl i=.load/\bc pl j=.effect))->asp (pl.b_.getD j 0) i=ab:=by
    intro hp i hi hk;obtain⟨p,OJ⟩:=bz i hi;exact lu hp p i OJ hi hk
   have vQ:∀fQ,jA P (qI ah f args σ v σ) fQ e o σ=aa (v,σ):=by
    intro fQ;unfold jA;rw[BG hv fQ σ];simp[qI]
   have mw:=Kb (ops:=ops) hs d_
   have key:∃U,lH P U/\∃d1,bQ P U pl ro ops o j d=aa d1/\yd pl (j+1) d1 (e.put o.dst v) σ:=by
    refine⟨qI ah f args σ v σ,ti λfQ _=>hc fQ,?_⟩
    have uo:bc pl j=.call\/bc pl j=.effect:=by
     by_cases kK:bc pl j=.call
     ·exact .inl kK
     ·by_cases he:bc pl j=.effect
      ·exact .inr he
      ·have:=fH kK he;rcases tl hv with h|h
       ·rw[h]at this;exact absurd this.symm kK
       ·rw[h]at this;exact absurd this.symm he
    rcases uo with hk|hk
    ·refine⟨⟨d.e.put o.dst v,d.n,d.bs,⟨j,d.n,d.n,seen d.aH (pl.b_.getD j 0) b⟩::d.aH⟩,?_,⟨by rw[hs.e],hs.n,⟨i,b,rest,cI,fg.imp id (λh=>⟨by omega,h.2⟩),?_,jD⟩,λp hp=>?_⟩⟩
     ·unfold bQ;rw[cI];simp only;rw[hs.e,hw,if_pos rfl];have cC:pl.kinds.getD j .effect=.call:=hk;rw[cC];simp only;have C5:=mw λi hi h=>zn (by rw[hk];simp) i hi (h.imp id .inl);have ct:(⟨d.n,seen d.aH (pl.b_.getD j 0) b⟩:St)=σ:=by rw[C5,hs.n]
      rw[ct,vQ,C5];simp only[hs.n,cI]
     ·simp only[asG];rw[kL _ _ (by simp),d_]
     ·rcases asS.1 hp with rfl|hp
      ·exact⟨.inl (ar8 _),ar8 _⟩
      ·exact iZ p hp
    ·exact He hs hk hw gK (λi hi h=>zn (by rw[hk];simp) i hi h) (vQ ro) pq (ar8 _)
   obtain⟨U,hU,d1,h1,h2⟩:=key;obtain⟨SF,kN,d',h3,h4⟩:=ih (j+1) d1 hd h2;obtain⟨po,h5,h6⟩:=lI hU kN h1 h3 ai;exact⟨po,h5,d',h6,h4⟩
 | @call o j l e σ e' ao f args v aq hk hw hv hc jr h ih=>
   intro k d hl hs;obtain⟨hm,rfl,hd,gK,bz,ai⟩:=eg hl;obtain⟨fH,dV,lu⟩:=BH bp hm;obtain⟨i,b,rest,cI,fg,d_,jD⟩:=hs.bs;have pq:σ.t.WF:=d_▸kM _ jD
   have zn:bc pl j≠.pure->∀i,i<j->(bc pl i=.alloc\/bc pl i=.effect\/(bc pl i=.load/\bc pl j=.effect))->asp (pl.b_.getD j 0) i=ab:=by
    intro hp i hi hk;obtain⟨p,OJ⟩:=bz i hi;exact lu hp p i OJ hi hk
   obtain⟨d1,h1,h2⟩:=He (U:=qI (aa ro) f args σ v aq) (v:=v) (aq:=aq) hs hk hw gK (λi hi h=>zn (by rw[hk];simp) i hi h) (by unfold jA;rw[hv];simp[qI]) (jr pq) hc.1;obtain⟨SF,kN,d',h3,h4⟩:=ih (j+1) d1 hd h2;obtain⟨po,h5,h6⟩:=lI (ti (R:=aa ro) λfQ hR=>by rcases hR with hR|hR<;>cases hR;exact hc) kN h1 h3 ai;exact⟨po,h5,d',h6,h4⟩
 | @VC o j l e σ e' ao f args v ob hq hw hv hc h ih=>cases hq
variable{rd:Option Nat}{fn:FuncId}{df:List Df}{e e':Env}{ao:St}{ops:Array Oper}
theorem fC.draw{id:Nat}(eW:P.follows .mixedOrders=ab)(nW:(dx ops).ok=ab)(bp:Ft ops (dx ops)=ab)(jr:σ.t.WF)
 (h:fZ P ro ops (dx ops) af ops.toList.zipIdx e σ e' ao):fC P ro rd fn (.region id ops ab) e df σ ⟨.normal,e',df,ao⟩:=by
 obtain⟨SF,kN,d',h1,h2,h3,i,b,rest,h4,h5⟩:=XV bp h 0 ⟨e,σ.n,[(0,σ.t)],[]⟩ (by simp) ⟨rfl,rfl,⟨0,σ.t,[],rfl,.inl rfl,rfl,jr⟩,λp hp=>by cases hp⟩
 have eh:p4 P SF ro ops e df σ=aa ⟨.normal,e',df,ao⟩:=by
  unfold p4;simp only;rw[if_pos nW,h1];obtain⟨de,dn,dbs,anz⟩:=d';simp only at h2 h3 h4 h5;subst h2 h4;simp only[h3,h5]
 refine .mk (BB (λi=>(kN i).2.2.1) (λi=>(kN i).2.2.2) eh) (by simp) λN hN F ι a w Q hF hi he hd hQ=>?_;exact Hb eW (λi=>(kN i).1) (λi=>(kN i).2.1) (λi=>(kN i).2.2.1) (λi=>(kN i).2.2.2) N ro rd ops e df σ _ eh hN F ι a w Q id hF hi he hd hQ
end Go.Ev
