/- Lemmas over the model, without conditions of their own: contracts of calls of plain values. -/
import Derived.Test.YtggffkaadeagbaaGreatEvG
open List renaming mem_of_getElem?->asZ,getElem?_eq_some_iff->asM,getElem?_eq_getElem->asL,isEmpty_iff->atY,all_eq_true->as6,getElem_of_mem->auG,mk_mem_zipIdx_iff_getElem?->atV,foldl_cons->att,mem_cons_of_mem->at6,filter_cons->axs,mem_cons_self->au5,getElem?_zipIdx->aw3,getElem_zipIdx->av0,mem_cons->aty
open Array renaming getD_eq_getD_getElem?->at3
open Nat renaming le_refl->asR,blt->atQ,beq->asW,ble->atN,blt_eq->awL,beq_eq->atv,testBit->atb,le_trans->atd
open Bool renaming and_eq_true->asN,or_eq_true->atw
open Option renaming map_eq_some_iff->asS
open Option renaming some->aa,none->ah
open Bool renaming true->ab,false->af
set_option linter.all false
namespace Go.Ev
variable{P:Program}{N ro:Nat}{ι:Io}{w:World}{σ:St}
inductive Pure:IV->Prop
 |raw (v:Value):Pure (.raw v)
 |agg (cs:List IV) (h:∀c∈cs,Pure c):Pure (.agg cs)
 |az (cs:List IV) (h:∀c∈cs,Pure c):Pure (.az cs)
 |emp:Pure .emp
 |du (t:TypeId) (x:IV) (h:Pure x):Pure (.du t x)
 |tree (s:Nat) (es:List IV) (h:∀e∈es,∀c∈cellsOf e,Pure c):Pure (.tree s es)
 |fn (f:Fn) (as bs:List IV) (h:∀c∈as,Pure c) (h2:∀c∈bs,Pure c):Pure (.fn f as bs)
abbrev eH(M:Fz):Io:=⟨λ_ _=>ah,M⟩
theorem Pure.rv{M:Fz}{x:IV}(hp:Pure x):∀{v:Value},Rv ι x v->(∀b c,ι.m b=aa c->M b=aa c)->Rv (eH M) x v:=by
 induction hp with
 |raw v=>intro u h _;cases h;exact .raw v
 |agg cs _ ih=>intro u h hM;cases h with|agg _ vs hl hh=>exact .agg cs vs hl λi c v h1 h2=>ih c (asZ h1) (hh i c v h1 h2) hM
 |az cs _ ih=>intro u h hM;cases h with|az _ vs hl hh=>exact .az cs vs hl λi c v h1 h2=>ih c (asZ h1) (hh i c v h1 h2) hM
 |emp=>intro u h _;cases h;exact .emp _
 |du t x _ ih=>intro u h hM;cases h with|du _ _ v hh=>exact .du t x v (ih hh hM)
 |tree s es _ ih=>
  intro u h hM;cases h with
  |tree _ _ b off c us hs hc bH hu hh=>exact .tree s es b off c us hs hc bH (λk hk=>BG hM (hu k hk)) λi e j c h1 h2=>ih e (asZ h1) c (asZ h2) (hh i e j c h1 h2) hM
  |dY _ a c hs hn=>exact .dY s a c hs hn
 |fn f as bs _ _ ih eV=>
  intro u h hM;cases h with
  |fn _ _ _ cs ds hl hh fa tD=>exact .fn f as bs cs ds hl (λi c v h1 h2=>ih c (asZ h1) (hh i c v h1 h2) hM) fa (λi c v h1 h2=>eV c (asZ h1) (tD i c v h1 h2) hM)
inductive Can(fr:Bool)(σ:St):IV->IV->Prop
 |raw (v:Value):Can fr σ (.raw v) (.raw v)
 |nil (s:Nat) (hs:0<s):Can fr σ (.raw (.slice ah 0 0)) (.tree s [])
 |emp (s:Nat) (hs:0<s):Can fr σ .emp (.tree s [])
 |du (t:TypeId) (x y:IV) (h:Can fr σ x y):Can fr σ (.du t x) (.du t y)
 |agg (cs ds:List IV) (hl:cs.length=ds.length) (h:∀(i:Nat) c d,cs[i]?=aa c->ds[i]?=aa d->Can fr σ c d):Can fr σ (.agg cs) (.agg ds)
 |az (cs ds:List IV) (hl:cs.length=ds.length) (h:∀(i:Nat) c d,cs[i]?=aa c->ds[i]?=aa d->Can fr σ c d):Can fr σ (.az cs) (.az ds)
 |pure (x:IV) (hf:fr=ab) (hp:Pure x):Can fr σ x x
 |dY (s:Nat):Can fr σ (.tree s []) (.tree s [])
 |sl (id off len:Nat) (cap:Option Nat) (ep s:Nat) (cs:List IV) (ay mn:Nat) (es:List IV) (aE:σ.at id=aa (.cells cs ay mn)) (h1:mn<=ep) (h2:ep<=ay) (hl:es.length=len) (hb:off+len*s<=cs.length)
   (bH:∀e∈es,(cellsOf e).length=s) (h:∀(i:Nat) e (j:Nat) c d,es[i]?=aa e->(cellsOf e)[j]?=aa d->cs[off+i*s+j]?=aa c->Can fr σ c d):Can fr σ (.sl id off len cap ep s) (.tree s es)
theorem Can.rv{fr:Bool}{M:Fz}{x z:IV}(hi:Inv N ι σ w)(hM:∀b c el,w.heap[b]?=aa (.cells c el (0,0))->(∃id,Own ι id b)->M b=aa c)(hm:fr=ab->∀b c,ι.m b=aa c->M b=aa c)
 (h:Can fr σ x z):∀{u:Value},Rv ι x u->Rv (eH M) z u:=by
 induction h with
 |raw v=>intro u h;cases h;exact .raw v
 |nil s hs=>intro u h;cases h;exact .dY s ah 0 hs (λ_=>rfl)
 |emp s hs=>intro u h;cases h;exact .dY s _ 0 hs (λ_=>rfl)
 |du t x y _ ih=>intro u h;cases h with|du _ _ v hh=>exact .du t y v (ih hh)
 |agg cs ds hl _ ih=>
  intro u h;cases h with
  |agg _ vs cu hh=>
   refine .agg ds vs (hl▸cu) λi d v h1 h2=>?_;have da:i<cs.length:=by have:=(asM.1 h1).1;omega
   exact ih i _ d (asL da) h1 (hh i _ v (asL da) h2)
 |az cs ds hl _ ih=>
  intro u h;cases h with
  |az _ vs cu hh=>
   refine .az ds vs (hl▸cu) λi d v h1 h2=>?_;have da:i<cs.length:=by have:=(asM.1 h1).1;omega
   exact ih i _ d (asL da) h1 (hh i _ v (asL da) h2)
 |pure x hf hp=>intro u h;exact hp.rv h (hm hf)
 |dY s=>
  intro u h;cases h with
  |tree _ _ b off c us hs hc bH hu hh=>exact .dY s _ c hs (by simp)
  |dY _ a c hs hn=>exact .dY s a c hs hn
 |sl id off len cap ep s cs ay mn es aE h1 h2 hl hb bH _ ih=>
  intro u h;cases h with
  |sl _ _ _ _ _ _ l c a cu hn ib hs hle fO ha=>
   obtain⟨⟨_,_⟩,_,V6⟩:=hi.obj id _ aE;obtain⟨l',ca,el,fa,qR,aj0,ar0,ik⟩:=V6 ep h1 h2;rw[cu]at fa;cases fa;have hMb:M l.b=aa ca:=hM _ _ _ aj0 ⟨id,ep,l,cu,rfl⟩;subst hl;by_cases he:es=[]
   ·subst he;exact .dY s (aa a) c hs (by simp)
   ·have tx:0<es.length:=by cases es with|nil=>exact absurd rfl he|cons=>simp
    have IE:=ha (by omega);subst IE;refine .tree s es l.b off c (λk=>ca.getD (off+k) Go.undef) hs hle bH (λk hk=>?_) (λi e j d c8 zq=>?_)
    ·obtain⟨x,hx⟩:∃x,cs[off+k]?=aa x:=⟨_,asL (by omega)⟩;obtain⟨v,hv,_⟩:=ik (off+k) x (by omega) hx;show(M l.b).bind _=_;rw[hMb];simp[at3,hv]
    ·have da:=(asM.1 c8).1;have fZ:j<s:=by have:=(asM.1 zq).1;rw[bH e (asZ c8)]at this;exact this
     have hmul:i*s+s<=es.length*s:=by
      have:(i+1)*s<=es.length*s:=Nat.mul_le_mul_right s da;rw[Nat.add_mul]at this;omega
     obtain⟨x,hx⟩:∃x,cs[off+i*s+j]?=aa x:=⟨_,asL (by omega)⟩;obtain⟨v,hv,hr⟩:=ik (off+i*s+j) x (by omega) hx;have:=ih i e j x d c8 zq hx hr;simp only[at3];rw[show off+(i*s+j)=off+i*s+j by omega,hv];exact this
def uR(M:Fz)(w:World):Prop:=∀b c,M b=aa c->∃e f,w.heap[b]?=aa (.cells c e f)
theorem uR.lt{M:Fz}(h:uR M w){b:Nat}{c:Array Value}(hb:M b=aa c):b<w.heap.size:=by
 obtain⟨e,f,hh⟩:=h b c hb;rcases Nat.lt_or_ge b w.heap.size with ai|tl
 ·exact ai
 ·rw[Array.getElem?_eq_none tl]at hh;cases hh
def KI(new:Bool)(M:Fz)(w:World)(z:IV)(u:Value)(w':World):Prop:=
 ∃M',uR M' w'/\(∀b c,M' b=aa c->(new=af/\M b=aa c)\/w.heap.size<=b)/\(new=af->∀b c,M b=aa c->M' b=aa c)/\Rv (eH M') z u/\
  w'.os=w.os/\w'.tape=w.tape/\w'.output=w.output/\w.heap.size<=w'.heap.size/\∀b,b<w.heap.size->w'.heap[b]?=w.heap[b]?
def agy(b_ new:Bool)(M:Fz)(w:World)(z:IV):Ending->World->Prop
 |.returned u,w'=>b_=af/\KI new M w z u w'
 |.panicked ch,w'=>b_=ab/\∃u,ch=[{v:=u,recovered:=af}]/\KI new M w z u w'
 |.outgrown,_=>False
def fm(P:Program)(b_ new:Bool)(f:FuncId)(xs:List IV)(z:IV):Prop:=
 ∀M w us,uR M w->aB (eH M) xs us->CallsIn Fence.wide 0 P f us.toArray w (agy b_ new M w z)
theorem FM{M:Fz}(hM:uR M w):Inv N (eH M) ⟨0,.lf⟩ w:=
 ⟨hM,λ_ _ _ _ h=>(by obtain⟨_,_,h,_⟩:=h;cases h),λ_ _ h=>(by obtain⟨_,_,h,_⟩:=h;cases h),λ_ _ _ _=>rfl,λ_ _ _ h=>(by obtain⟨_,_,h,_⟩:=h;cases h),λ_ _ h=>(by cases h),λ_ _=>rfl⟩
def sw(new:Bool)(M:Fz)(w w':World):Fz:=λb=>
 if b<w.heap.size then(if new then ah else M b)else match w'.heap[b]? with
  |some (.cells c _ _)=>aa c
  |_=>ah
theorem TA{M:Fz}{new:Bool}{ao:St}{v z:IV}{w':World}{u:Value}(hM:uR M w)(hc:Can (!new) ao v z)(hu:Rv ι v u)(hi:Inv N ι ao w')(hl:Le 0 (eH M) w ⟨0,.lf⟩ ι w' ao):KI new M w z u w':=by
 have tK:∀b,b<w.heap.size->w'.heap[b]?=w.heap[b]? :=λb hb=>hl.frame b hb λid ho=>(by obtain⟨_,_,h,_⟩:=ho;cases h);refine⟨sw new M w w',?_,?_,?_,?_,hl.os,hl.tape,hl.output,hl.size,tK⟩
 ·intro b c hb;unfold sw at hb;split at hb
  ·rename_i ai;split at hb
   ·cases hb
   ·rw[tK b ai];exact hM b c hb
  ·split at hb
   ·rename_i c' e f hh;cases hb;exact⟨e,f,hh⟩
   ·cases hb
 ·intro b c hb;unfold sw at hb;split at hb
  ·split at hb
   ·cases hb
   ·rename_i hn;exact .inl ⟨by simpa using hn,hb⟩
  ·exact .inr (by omega)
 ·intro hn b c hb;have ai:=hM.lt hb;unfold sw;rw[if_pos ai,if_neg (by simp[hn])];exact hb
 ·refine hc.rv hi ?_ ?_ hu
  ·intro b c el hh ho;obtain⟨id,ho⟩:=ho;rcases hl.own id b ho with ho|tl
   ·obtain⟨_,_,h,_⟩:=ho;cases h
   ·unfold sw;rw[if_neg (by omega),hh]
  ·intro hn b c hb;have Dt:new=af:=by simpa using hn
   rcases hl.xX b c hb with sJ|tl
   ·have ai:=hM.lt sJ;unfold sw;rw[if_pos ai,if_neg (by simp[Dt])];exact sJ
   ·obtain⟨e,f,hh⟩:=hi.mem b c hb;unfold sw;rw[if_neg (by omega),hh]
theorem fm.of{new:Bool}{f:FuncId}{xs:List IV}{v z:IV}{ao:St}(h:gP P 0 f xs ⟨0,.lf⟩ v ao)(hc:Can (!new) ao v z):fm P af new f xs z:=by
 intro M w us hM hr;refine(h.2 ao.n (asR _) (eH M) us w (FM hM) hr).mono λe w' hR=>?_;cases e with
 |returned u=>
  obtain⟨aG,h1,h2,h3⟩:=hR;exact⟨rfl,TA hM hc h1 h2 h3⟩
 |panicked ch=>exact hR.elim
 |outgrown=>exact hR.elim
theorem FN{M:Fz}{new:Bool}{z:IV}{u:Value}{w':World}(hi:Inv N ι σ w)(hM:new=af->∀b c,ι.m b=aa c↔M b=aa c)(h:KI new M w z u w'):∃aG,Rv aG z u/\Inv N aG σ w'/\Le ro ι w σ aG w' σ:=by
 obtain⟨M',h1,h2,h3,h4,h5,h6,h7,h8,h9⟩:=h;have hm:uR ι.m w:=hi.mem
 have hold:∀b c,ι.m b=aa c->(λb=>if b<w.heap.size then ι.m b else M' b) b=aa c:=by
  intro b c hb;simp only[if_pos (hm.lt hb)];exact hb
 have aou:∀b c,M' b=aa c->(λb=>if b<w.heap.size then ι.m b else M' b) b=aa c:=by
  intro b c hb;by_cases ai:b<w.heap.size
  ·simp only[if_pos ai];rcases h2 b c hb with⟨hn,sJ⟩|tl
   ·exact(hM hn b c).2 sJ
   ·omega
  ·simp only[if_neg ai];exact hb
 have jD:Ext ι ⟨ι.f,λb=>if b<w.heap.size then ι.m b else M' b⟩:=⟨λ_ _ _ h=>h,hold⟩;refine⟨⟨ι.f,λb=>if b<w.heap.size then ι.m b else M' b⟩,h4.mono ⟨λ_ _ _ h=>(by cases h),aou⟩,⟨?_,?_,?_,hi.fresh,hi.inj,?_,hi.wf⟩,⟨jD,λ_ _ h=>.inl h,λ_ _ _ _=>rfl,λ_ h _=>h,λ_ _ _=>rfl,asR _,h5,h6,h7,h8,λb hb _=>h9 b hb,?_⟩⟩
 ·intro b c hb;simp only at hb;split at hb
  ·rename_i ai;obtain⟨e,f,hh⟩:=hi.mem b c hb;exact⟨e,f,by rw[h9 b ai];exact hh⟩
  ·exact h1 b c hb
 ·intro b c id hb ho;simp only at hb;split at hb
  ·exact hi.sep b c id hb ho
  ·rename_i tl;exact tl (hi.jc id b ho)
 ·intro id b ho;exact Nat.lt_of_lt_of_le (hi.jc id b ho) h8
 ·intro id o ho;exact(hi.obj id o ho).keep jD (λ_=>rfl) λb hb=>h9 b (hi.jc id b hb)
 ·intro b c hb;simp only at hb;split at hb
  ·exact .inl hb
  ·rename_i tl;exact .inr (by omega)
def Eh(fr:Bool)(σ:St)(cs ds:List IV):Prop:=cs.length=ds.length/\∀(i:Nat) c d,cs[i]?=aa c->ds[i]?=aa d->Can fr σ c d
def allM(w:World):Fz:=λb=>match w.heap[b]? with
 |some (.cells c _ _)=>aa c
 |_=>ah
theorem TB{b:Nat}{c:Array Value}{e:TypeId}{f:Nat×Nat}(h:w.heap[b]?=aa (.cells c e f)):allM w b=aa c:=by unfold allM;rw[h]
theorem AW:uR (allM w) w:=by
 intro b c hb;unfold allM at hb;split at hb
 ·rename_i hh;cases hb;exact⟨_,_,hh⟩
 ·cases hb
theorem Eh.rv{xs zs:List IV}{us:List Value}(hc:Eh ab σ xs zs)(hi:Inv N ι σ w)(h:aB ι xs us):aB (eH (allM w)) zs us:=by
 refine⟨hc.1▸h.1,λi z u h1 h2=>?_⟩;have da:i<xs.length:=by have:=(asM.1 h1).1;have:=hc.1;omega
 refine(hc.2 i _ z (asL da) h1).rv hi (λb c el hh _=>TB hh) (λ_ b c hb=>?_) (h.2 i _ u (asL da) h2);obtain⟨e,f,hh⟩:=hi.mem b c hb;exact TB hh
theorem fm.FO{f:FuncId}{args xs:List IV}{z:IV}(h:fm P af ab f xs z)(hc:Eh ab σ args xs):gP P ro f args σ z σ:=by
 refine⟨asR _,λN hN ι us w hi hr=>?_⟩;refine(h (allM w) w us AW (hc.rv hi hr)).mono λe w' hR=>?_;cases e with
 |returned u=>exact FN hi (λhn=>by cases hn) hR.2
 |panicked ch=>exact absurd hR.1 (by simp)
 |outgrown=>exact hR.elim
def cO(args:List IV)(n:Nat):Env:=args.zipIdx.foldl (λe (v,i)=>e.put (aa i) v) ⟨n,.lf⟩
section body
variable{S:Self}{f:FuncId}{fn:Func}{c:Code}{args:List IV}{e1:Env}{df:List Df}{aq ao:St}{ex:Ex}{v:IV}
theorem sP:eF P Self.none/\bF Self.none:=
 ⟨⟨λ_ _ _ _ _ _ _ h=>(by cases h),λ_ _ _ _ _ _ _ h=>(by cases h),λ_ _ _ _ _ _ _ _ h=>(by cases h),λ_ _ _ _ _ _ _ h=>(by cases h)⟩,⟨λ_ _ _ _ _ _ h=>(by cases h),λ_ _ _ _ _ _ h=>(by cases h),λ_ _ _ _ _ _ _ h=>(by cases h)⟩⟩
end body
end Go.Ev
namespace Go.Ev
open Go.RowKit
variable{P:Program}
def V7:Value->Value->Bool
 |.int k n,.int k' n'=>decide (k=k')&&decide (n=n')
 |.bool a,.bool b=>a==b
 |.string a,.string b=>decide (a=b)
 |_,_=>af
theorem abF{a b:Value}(h:V7 a b=ab):a=b:=by
 unfold V7 at h;split at h
 ·simp only[asN,decide_eq_true_eq]at h;rw[h.1,h.2]
 ·rw[beq_iff_eq]at h;rw[h]
 ·rw[decide_eq_true_eq]at h;rw[h]
 ·cases h
def Ei(p:IV->IV->Bool):List IV->List IV->Bool
 |[],[]=>ab
 |a::as,b::bs=>p a b&&Ei p as bs
 |_,_=>af
theorem w_{p:IV->IV->Bool}:∀{as bs:List IV},Ei p as bs=ab->as.length=bs.length/\∀(i:Nat) a b,as[i]?=aa a->bs[i]?=aa b->p a b=ab
 |[],[],_=>⟨rfl,λi a b h=>by simp at h⟩
 |a::as,b::bs,h=>by
  simp only[Ei,asN]at h;obtain⟨h1,h2⟩:=w_ h.2;refine⟨by simp[h1],λi=>?_⟩;cases i with
  |zero=>intro a' b' e1 e2;simp at e1 e2;subst e1 e2;exact h.1
  |succ i=>intro a' b' e1 e2;simp at e1 e2;exact h2 i a' b' e1 e2
 |[],_::_,h=>by simp[Ei]at h
 |_::_,[],h=>by simp[Ei]at h
def Ej(σ:St):Nat->IV->IV->Bool
 |0,_,_=>af
 |f+1,x,z=>
  match z with
  |.raw u=>match x with
   |.raw v=>V7 v u
   |_=>af
  |.agg ds=>match x with
   |.agg cs=>Ei (Ej σ f) cs ds
   |_=>af
  |.az ds=>match x with
   |.az cs=>Ei (Ej σ f) cs ds
   |_=>af
  |.tree s es=>match x with
   |.raw (.slice ah l c)=>es.isEmpty&&atQ 0 s&&asW l 0&&asW c 0
   |.emp=>es.isEmpty&&atQ 0 s
   |.tree s' aF=>es.isEmpty&&aF.isEmpty&&asW s s'
   |.sl id off len _ ep s'=>match σ.at id with
    |some (.cells cs ay mn)=>atN mn ep&&atN ep ay&&asW es.length len&&atN (off+len*s) cs.length&&asW s s'&&
      es.zipIdx.all λ(e,i)=>asW (cellsOf e).length s&&(cellsOf e).zipIdx.all λ(d,j)=>match cs[off+i*s+j]? with
       |some c=>Ej σ f c d
       |none=>ab
    |_=>af
   |_=>af
  |_=>af
theorem tL{fr:Bool}{σ:St}:∀{f:Nat} {x z:IV},Ej σ f x z=ab->Can fr σ x z
 |0,_,_,h=>by simp[Ej]at h
 |f+1,x,z,h=>by
  unfold Ej at h;split at h
  ·split at h
   ·rw[abF h];exact .raw _
   ·cases h
  ·split at h
   ·obtain⟨h1,h2⟩:=w_ h;exact .agg _ _ h1 λi c d e1 e2=>tL (h2 i c d e1 e2)
   ·cases h
  ·split at h
   ·obtain⟨h1,h2⟩:=w_ h;exact .az _ _ h1 λi c d e1 e2=>tL (h2 i c d e1 e2)
   ·cases h
  ·split at h
   ·rename_i es _ l c;simp only[asN,atY,awL,atv]at h;obtain⟨⟨⟨h1,h2⟩,h3⟩,h4⟩:=h;subst h1 h3 h4;exact .nil _ h2
   ·simp only[asN,atY,awL]at h;obtain⟨h1,h2⟩:=h;subst h1;exact .emp _ h2
   ·simp only[asN,atY,atv]at h;obtain⟨⟨h1,h2⟩,h3⟩:=h;subst h1 h2 h3;exact .dY _
   ·split at h
    ·rename_i aE;simp only[asN,atv,Nat.ble_eq,as6]at h;obtain⟨⟨⟨⟨⟨h1,h2⟩,h3⟩,h4⟩,h5⟩,h6⟩:=h;subst h5;refine .sl _ _ _ _ _ _ _ _ _ _ aE h1 h2 h3 h4 (λe he=>?_) λi e j c d e1 e2 e3=>?_
     ·obtain⟨i,hi,rfl⟩:=auG he;exact(h6 (_,i) (atV.2 (asL hi))).1
     ·have:=(h6 (e,i) (atV.2 e1)).2 (d,j) (atV.2 e2);simp only[e3]at this;exact tL this
    ·cases h
   ·cases h
  ·cases h
abbrev Hk:=FuncId->List (List IV×IV)
def hit(σ:St)(args:List IV):List (List IV×IV)->Option IV
 |[]=>ah
 |(xs,z)::l=>if Ei (Ej σ 40) args xs then aa z else hit σ args l
theorem Mq{σ:St}{args:List IV}{z:IV}:∀{l:List (List IV×IV)},hit σ args l=aa z->∃xs,(xs,z)∈l/\Eh ab σ args xs
 |[],h=>by cases h
 |(xs,y)::l,h=>by
  rw[hit]at h;split at h
  ·rename_i ha;cases h;obtain⟨h1,h2⟩:=w_ ha;exact⟨xs,.head _,h1,λi c d e1 e2=>tL (h2 i c d e1 e2)⟩
  ·obtain⟨oD,h1,h2⟩:=Mq h;exact⟨oD,.tail _ h1,h2⟩
def Pm(H:Hk)(S:Self):Self:=⟨S.code,λro f args σ=>match hit σ args (H f)with
 |some z=>aa (z,σ)
 |none=>S.call ro f args σ,S.b_,S.wP⟩
def TC(P:Program)(H:Hk)(n:Nat):Self:=Nat.rec Self.none (λ_ S=>Pm H (lY P S)) n
theorem Yv{H:Hk}{S:Self}(hH:∀f xs z,(xs,z)∈H f->fm P af ab f xs z)(hC:eF P S):eF P (Pm H S) where
 call:=by
  intro N ro f args σ v ao h hN ι us w hi hr;simp only[Pm]at h;split at h
  ·rename_i z hz;cases h;obtain⟨xs,h1,h2⟩:=Mq hz;exact((hH f xs _ h1).FO (ro:=ro) h2).2 N hN ι us w hi hr
  ·exact hC.call N ro f args σ v ao h hN ι us w hi hr
 b_:=hC.b_
 wP:=hC.wP
 na:=hC.na
theorem Yw{H:Hk}{S:Self}(hk:bF S):bF (Pm H S) where
 call:=by
  intro ro f args σ v ao h;simp only[Pm]at h;split at h
  ·cases h;exact asR _
  ·exact hk.call ro f args σ v ao h
 b_:=hk.b_
 wP:=hk.wP
theorem Yx(fi:P.follows .mixedOrders=ab){H:Hk}(hH:∀f xs z,(xs,z)∈H f->fm P af ab f xs z):∀n,ir P (TC P H n) n/\eF P (TC P H n)/\bZ (TC P H n)/\bF (TC P H n)
 |0=>adn (λ_ _ h1 h2 h3 h4=>Tz fi h1 h2 h3 h4) 0
 |n+1=>by
  obtain⟨h1,h2,h3,h4⟩:=Yx fi hH n;exact⟨Tt h1 h2 h3 h4 (Tz fi h1 h2 h3 h4),Yv hH (KE h1 h2 h3 h4),Mc h3 h4,Yw (D8 h3 h4)⟩
def comes(r:Option (IV×St))(z:IV):Bool:=
 match r with
 |some (v,σ)=>Ej σ 40 v z
 |none=>af
theorem fm.run(fi:P.follows .mixedOrders=ab){H:Hk}(hH:∀f xs z,(xs,z)∈H f->fm P af ab f xs z){n:Nat}{new:Bool}{f:FuncId}{xs:List IV}{z:IV}(h:comes ((TC P H n).call 0 f xs ⟨0,.lf⟩) z=ab):fm P af new f xs z:=by
 unfold comes at h;split at h
 ·rename_i v σ hc;obtain⟨_,h2,_,h4⟩:=Yx fi hH n;exact fm.of ⟨h4.call _ _ _ _ _ _ hc,λN hN ι us w hi hr=>h2.call N 0 f xs _ _ _ hc hN ι us w hi hr⟩ (tL h)
 ·cases h
end Go.Ev
namespace Go.Ev
namespace T
variable{α:Type}
inductive WF:T α->Prop
 |lf:WF .lf
 |nd (l:T α) (v:Option α) (r:T α) (hl:WF l) (hr:WF r) (h:v.isSome=ab\/(∃i,(l.get i).isSome=ab)\/∃i,(r.get i).isSome=ab):WF (.nd l v r)
theorem HC(l:T α)(v:Option α)(r:T α)(i:Nat):(T.nd l v r).get (2*i+1)=l.get i:=by
 rw[wb,if_neg (by omega),if_pos (by omega)];congr 1;omega
theorem Ek(l:T α)(v:Option α)(r:T α)(i:Nat):(T.nd l v r).get (2*i+2)=r.get i:=by
 rw[wb,if_neg (by omega),if_neg (by omega)];congr 1;omega
theorem HD(l:T α)(v:Option α)(r:T α):(T.nd l v r).get 0=v:=by rw[wb,if_pos rfl]
theorem WF.key{l:T α}{v:Option α}{r:T α}(h:WF (.nd l v r)):∃i,((T.nd l v r).get i).isSome=ab:=by
 cases h with
 |nd _ _ _ _ _ h=>
  rcases h with h|⟨i,h⟩|⟨i,h⟩
  ·exact⟨0,by rw[HD];exact h⟩
  ·exact⟨2*i+1,by rw[HC];exact h⟩
  ·exact⟨2*i+2,by rw[Ek];exact h⟩
theorem WF.ext:∀{t t':T α},WF t->WF t'->(∀i,t.get i=t'.get i)->t=t'
 |.lf,.lf,_,_,_=>rfl
 |.lf,.nd l v r,_,h',he=>by
  obtain⟨i,hi⟩:=h'.key;rw[<-he i]at hi;cases hi
 |.nd l v r,.lf,h,_,he=>by
  obtain⟨i,hi⟩:=h.key;rw[he i]at hi;cases hi
 |.nd l v r,.nd l' v' r',.nd _ _ _ hl hr _,.nd _ _ _ cu po _,he=>by
  have e0:v=v':=by have:=he 0;rwa[HD,HD]at this
  have e1:l=l':=hl.ext cu λi=>by have:=he (2*i+1);rwa[HC,HC]at this
  have e2:r=r':=hr.ext po λi=>by have:=he (2*i+2);rwa[Ek,Ek]at this
  rw[e0,e1,e2]
theorem ae1:∀(f:Nat) (t:T α) (i:Nat) (x:α),i<f->WF t->WF (q_ f t i x):=by
 intro f;induction f with
 |zero=>intro t i x h;omega
 |succ f ih=>
  intro t i x h hw
  have key:∀(l:T α) (v:Option α) (r:T α),WF l->WF r->WF (q_ (f+1) (.nd l v r) i x):=by
   intro l v r hl hr;rw[Ti];by_cases hi:i=0
   ·rw[if_pos hi];exact .nd _ _ _ hl hr (.inl rfl)
   ·rw[if_neg hi];by_cases ho:i % 2=1
    ·rw[if_pos ho];exact .nd _ _ _ (ih _ _ _ (by omega) hl) hr (.inr (.inl ⟨i/2,by rw[Ho _ _ _ _ _ (by omega),if_pos rfl];rfl⟩))
    ·rw[if_neg ho];exact .nd _ _ _ hl (ih _ _ _ (by omega) hr) (.inr (.inr ⟨i/2- 1,by rw[Ho _ _ _ _ _ (by omega),if_pos rfl];rfl⟩))
  cases t with
  |lf=>rw[Tj];exact key _ _ _ .lf .lf
  |nd l v r=>cases hw with|nd _ _ _ hl hr _=>exact key l v r hl hr
theorem WF.set{t:T α}(h:WF t)(i:Nat)(x:α):WF (t.set i x):=ae1 _ _ _ _ (by omega) h
end T
variable{P:Program}{ro:Nat}{σ:St}{ρ:Operand->IV}{o:Oper}{out:eN}
def El(σ:St):eN->Prop
 |.val _ ao=>σ.t.WF->ao.t.WF
 |_=>True
theorem AX{v:IV}{ao:St}(hle:σ.t.WF->ao.t.WF)(h:ret v ao=aa out):El σ out:=by rw[aJ h];exact hle
theorem FP{v:IV}(h:ret v σ=aa out):El σ out:=AX (λh=>h) h
theorem Em{v:IV}{id:Nat}{ob:Ob}(h:ret v (σ.put id ob)=aa out):El σ out:=AX (ao:=σ.put id ob) (λh=>h.set _ _) h
theorem ae2{v:IV}{id bB:Nat}{ob eT:Ob}(h:ret v ((σ.put id ob).put bB eT)=aa out):El σ out:=AX (ao:=(σ.put id ob).put bB eT) (λh=>(h.set _ _).set _ _) h
theorem Yy{v:IV}{ob:Ob}(h:ret v (σ.add ob)=aa out):El σ out:=AX (λh=>h.set _ _) h
theorem Mr{kt:TypeId}{m k v:IV}{ao:St}(h:pO P ro kt m k v σ=aa ao):σ.t.WF->ao.t.WF:=by
 unfold pO at h
 repeat' split at h
 all_goals first|(cases h;done)|(cases h;exactλh=>h.set _ _)
theorem Yz{f:IV}{args:List IV}(h:gD P f args=aa out):El σ out:=by
 unfold gD at h
 repeat' split at h
 all_goals first|(cases h;done)|(cases h;exact trivial)
theorem YA{x:IV}{name:String}{args:List IV}(h:uV P x name args=aa out):El σ out:=by
 unfold uV at h
 repeat' split at h
 all_goals first|(cases h;done)|(cases h;exact trivial)
theorem YB{argTypes:Array TypeId}{s x:IV}(h:kW P ro argTypes s x σ=aa out):El σ out:=by
 have hn:∀{size aY n:Nat} {new:List IV} {s:IV},fF size aY n new s σ=aa out->El σ out:=by
  intro size aY n new s h;unfold fF at h;split at h
  ·split at h
   ·exact Yy h
   ·cases h
  ·cases h
 unfold kW at h;split at h
 ·split at h
  ·split at h
   ·split at h
    ·cases h
    ·split at h
     ·split at h
      ·unfold eO at h
       repeat' split at h
       all_goals first|exact FP h|exact Em h|exact ae2 h|exact hn h|cases h
      ·cases h
     ·cases h
   ·cases h
  ·cases h
 ·cases h
theorem V8{b:Builtin}{argTypes:Array TypeId}{args:List IV}(h:dJ P ro b argTypes args σ=aa out):El σ out:=by
 unfold dJ at h;split at h
 ·split at h
  ·exact YB h
  ·cases h
 ·split at h
  ·rw[asS]at h;obtain⟨z,_,rfl⟩:=h;exactλh=>h
  ·cases h
 ·split at h
  ·rw[asS]at h;obtain⟨z,_,rfl⟩:=h;exactλh=>h
  ·cases h
 ·rw[asS]at h;obtain⟨z,_,rfl⟩:=h;exactλh=>h
 ·rw[asS]at h;obtain⟨z,_,rfl⟩:=h;exactλh=>h
 ·split at h
  ·unfold xJ at h
   repeat' split at h
   all_goals first|exact Em h|(cases h;done)
  ·cases h
 ·split at h
  ·unfold th at h
   repeat' split at h
   all_goals first|exact FP h|exact Em h|(cases h;done)
  ·cases h
 ·split at h
  ·unfold FF at h
   repeat' split at h
   all_goals first|exact FP h|exact Em h|(cases h;done)
  ·cases h
 ·cases h
theorem agz(h:av P ro ρ o σ=aa out):El σ out:=by
 unfold av at h;cases ho:o.op<;>rw[ho]at h<;>(try dsimp only at h)
 case call c=>
  split at h
  ·exact V8 h
  ·exact Yz h
  ·exact YA h
 case defer c=>
  split at h
  ·split at h
   ·cases h;exact trivial
   ·cases h
  ·cases h
 case mapUpdate=>
  split at h
  ·split at h
   ·rename_i ao hs;exact AX (Mr hs) h
   ·cases h
  ·cases h
 case insert=>
  split at h
  ·split at h
   ·rename_i ao hs;exact AX (Mr hs) h
   ·cases h
  ·cases h
 all_goals (repeat' split at h)
 all_goals first|exact FP h|exact Em h|exact Yy h|(cases h;done)|(cases h;exact trivial)
theorem V9{v:IV}{ao:St}(h:av P ro ρ o σ=aa (.val v ao))(hw:σ.t.WF):ao.t.WF:=agz h hw
theorem En{v:IV}{aq:St}(hk:dv o=.pure)(h:av P ro ρ o σ=aa (.val v aq)):aq=σ/\∀ga ao,av P ga ρ o ao=aa (.val v ao):=by
 unfold dv at hk;unfold av at h⊢;cases ho:o.op<;>rw[ho]at h hk<;>(try dsimp only at h hk⊢)<;>(try (cases hk;done))
 case call c=>
  obtain⟨callee,argTypes,args⟩:=c;cases callee with
  |builtin b=>
   cases b<;>simp only at hk<;>(try (cases hk;done))
   all_goals
    simp only[dJ]at h⊢
    first
    |(rw[asS]at h
      obtain⟨z,hz,he⟩:=h;cases he;exact⟨rfl,λ_ _=>by rw[hz];rfl⟩)
    |(split at h
      ·rename_i hx;rw[asS]at h;obtain⟨z,hz,he⟩:=h;cases he;exact⟨rfl,λ_ _=>by rw[hz];rfl⟩
      ·cases h)
  |value f=>cases hk
  |invoke r m=>cases hk
 all_goals (repeat' split at h)
 all_goals first
  |(cases h;done)
  |(cases h;exact⟨rfl,λ_ _=>by simp_all[ret]⟩)
theorem Eo{v:IV}{aq:St}(hk:dv o=.load)(h:av P ro ρ o σ=aa (.val v aq)):aq=σ/\∀ga,av P ga ρ o σ=aa (.val v σ):=by
 unfold dv at hk;unfold av at h⊢;cases ho:o.op<;>rw[ho]at h hk<;>(try dsimp only at h hk⊢)<;>(try (cases hk;done))
 case call c=>
  obtain⟨callee,argTypes,args⟩:=c;cases callee with
  |builtin b=>
   cases b<;>simp only at hk<;>(try (cases hk;done));simp only[dJ]at h⊢;split at h
   ·rename_i hx;rw[asS]at h;obtain⟨z,hz,he⟩:=h;cases he;exact⟨rfl,λ_=>by rw[hz];rfl⟩
   ·cases h
  |value f=>cases hk
  |invoke r m=>cases hk
 all_goals (repeat' split at h)
 all_goals first
  |(cases h;done)
  |(cases h;exact⟨rfl,λ_=>by simp_all[ret]⟩)
theorem agA(σ:St)(ob:Ob):(St.add ⟨σ.n,.lf⟩ ob)=⟨(σ.add ob).n,T.lf.set σ.n ob⟩:=rfl
theorem IU{v:IV}{aq:St}(hk:dv o=.alloc)(h:av P ro ρ o σ=aa (.val v aq)):
 ∃t,(∀ga,av P ga ρ o ⟨σ.n,.lf⟩=aa (.val v ⟨aq.n,t⟩))/\((aq=σ/\t=.lf)\/∃ob,aq=σ.add ob/\t=T.lf.set σ.n ob):=by
 unfold dv at hk;unfold av at h⊢;cases ho:o.op<;>rw[ho]at h hk<;>(try dsimp only at h hk⊢)<;>(try (cases hk;done))
 case call c=>
  obtain⟨callee,argTypes,args⟩:=c;cases callee with
  |builtin b=>cases b<;>cases hk
  |value f=>cases hk
  |invoke r m=>cases hk
 all_goals (repeat' split at h)
 all_goals first
  |(cases h;done)
  |(cases h;exact⟨_,λ_=>by simp_all[ret,agA],.inr ⟨_,rfl,rfl⟩⟩)
  |(cases h;exact⟨_,λ_=>by simp_all[ret],.inl ⟨rfl,rfl⟩⟩)
theorem yq{b:Builtin}{argTypes:Array TypeId}{args:List IV}{f:FuncId}{as:List IV}(h:dJ P ro b argTypes args σ=aa (.enter f as)):False:=by
 unfold dJ at h;split at h
 ·split at h
  ·obtain⟨_,_,he⟩:=GR h;cases he
  ·cases h
 ·split at h
  ·rw[asS]at h;obtain⟨z,_,he⟩:=h;cases he
  ·cases h
 ·split at h
  ·rw[asS]at h;obtain⟨z,_,he⟩:=h;cases he
  ·cases h
 ·rw[asS]at h;obtain⟨z,_,he⟩:=h;cases he
 ·rw[asS]at h;obtain⟨z,_,he⟩:=h;cases he
 ·split at h
  ·unfold xJ at h
   repeat' split at h
   all_goals cases h
  ·cases h
 ·split at h
  ·unfold th at h
   repeat' split at h
   all_goals cases h
  ·cases h
 ·split at h
  ·unfold FF at h
   repeat' split at h
   all_goals cases h
  ·cases h
 ·cases h
theorem BQ{f:FuncId}{args:List IV}(h:av P ro ρ o σ=aa (.enter f args)):∀ga ao,av P ga ρ o ao=aa (.enter f args):=by
 intro ga ao;unfold av at h⊢;cases ho:o.op<;>rw[ho]at h<;>(try dsimp only at h⊢)
 case call c=>
  split at h
  ·exact(yq h).elim
  ·exact h
  ·exact h
 case defer c=>
  split at h
  ·split at h<;>cases h
  ·cases h
 all_goals (repeat' split at h)
 all_goals cases h
open Classical in
@[reducible] noncomputable def agB:Sm:=⟨λu v=>decide (u=v),λ_ _ h=>of_decide_eq_true h⟩
attribute [local instance] agB
open Classical in
noncomputable def rh(R:Option Nat)(f:FuncId)(args:List IV)(σ:St)(v:IV)(aq:St):Self where
 code:=λ_ _ _ _ _ _ _=>ah
 call:=λga f' a' ao=>if(R=ah\/R=aa ga)/\f'=f/\a'=args/\ao=σ then aa (v,aq)else ah
 b_:=λ_ _ _ _=>ah
 wP:=λ_ _ _ _ _=>ah
def l9(P:Program)(U:Self):Prop:=ir P U 0/\eF P U/\bZ U/\bF U
theorem oW:l9 P Self.none:=
 ⟨λ_ _ _ _ _ _ _ _ _ h=>(by cases h),(sP (P:=P)).1,λ_ _ _ _ _ _ _ _ h=>(by cases h),(sP (P:=P)).2⟩
theorem Ms{R:Option Nat}{f:FuncId}{args:List IV}{σ:St}{v:IV}{aq:St}(h:∀ro,(R=ah\/R=aa ro)->gP P ro f args σ v aq){ga:Nat}{f':FuncId}{a':List IV}{ao:St}{v':IV}{dw:St}
 (hc:(rh R f args σ v aq).call ga f' a' ao=aa (v',dw)):gP P ga f' a' ao v' dw:=by
 simp only[rh]at hc;split at hc
 ·rename_i hh;cases hc;obtain⟨h1,rfl,rfl,rfl⟩:=hh;exact h _ h1
 ·cases hc
theorem tM{R:Option Nat}{f:FuncId}{args:List IV}{σ:St}{v:IV}{aq:St}(h:∀ro,(R=ah\/R=aa ro)->gP P ro f args σ v aq):l9 P (rh R f args σ v aq):=
 ⟨λ_ _ _ _ _ _ _ _ _ h=>(by cases h),⟨λN _ _ _ _ _ _ hc hN=>(Ms h hc).2 N hN,λ_ _ _ _ _ _ _ h=>(by cases h),λ_ _ _ _ _ _ _ _ h=>(by cases h),λ_ _ _ _ _ _ _ h=>(by cases h)⟩,
  λ_ _ _ _ _ _ _ _ h=>(by cases h),⟨λ_ _ _ _ _ _ hc=>(Ms h hc).1,λ_ _ _ _ _ _ h=>(by cases h),λ_ _ _ _ _ _ _ h=>(by cases h)⟩⟩
def AY(o:Oper):Bool:=
 match o.op with
 |.call {callee:=.value _,.. }=>ab
 |_=>af
def FQ(ops:Array Oper)(pl:dX):Bool:=
 ops.toList.zipIdx.all λ(o,j)=>
  (match pl.kinds.getD j .effect with
   |.call=>AY o&&dv o==.call
   |.effect=>ab
   |k=>dv o==k)&&
  (pl.kinds.getD j .effect==.pure||ops.toList.zipIdx.all λ(_,i)=> !atQ i j||atb (pl.cd.getD j 0) i||
   (match pl.kinds.getD i .effect with
    |.alloc|.effect=>af
    |.load=> !(pl.kinds.getD j .effect==.effect)
    |_=>ab))
inductive gm(P:Program)(ro:Nat)(ops:Array Oper)(pl:dX)(fr:Bool):List (Oper×Nat)->Env->St->Env->St->Prop
 |nil (e:Env) (σ:St):gm P ro ops pl fr [] e σ e σ
 |skip {o:Oper} {j:Nat} {l:List (Oper×Nat)} {e:Env} {σ:St} {e':Env} {ao:St} (hw:aQ o ops e=af) (h:gm P ro ops pl fr l (e.put o.dst .undef) σ e' ao):gm P ro ops pl fr ((o,j)::l) e σ e' ao
 |val {o:Oper} {j:Nat} {l:List (Oper×Nat)} {e:Env} {σ:St} {e':Env} {ao:St} {v:IV} {aq:St} (hw:aQ o ops e=ab) (hv:av P ro (ax e) o σ=aa (.val v aq)) (h:gm P ro ops pl fr l (e.put o.dst v) aq e' ao):gm P ro ops pl fr ((o,j)::l) e σ e' ao
 |IW {o:Oper} {j:Nat} {l:List (Oper×Nat)} {e:Env} {σ:St} {e':Env} {ao:St} {f:FuncId} {args:List IV} {v:IV} (hw:aQ o ops e=ab) (hv:av P ro (ax e) o σ=aa (.enter f args)) (hc:∀ro,gP P ro f args σ v σ)
   (h:gm P ro ops pl fr l (e.put o.dst v) σ e' ao):gm P ro ops pl fr ((o,j)::l) e σ e' ao
 |call {o:Oper} {j:Nat} {l:List (Oper×Nat)} {e:Env} {σ:St} {e':Env} {ao:St} {f:FuncId} {args:List IV} {v:IV} {aq:St} (hk:bc pl j=.effect) (hw:aQ o ops e=ab) (hv:av P ro (ax e) o σ=aa (.enter f args))
   (hc:gP P ro f args σ v aq) (jF:σ.t.WF->aq.t.WF) (h:gm P ro ops pl fr l (e.put o.dst v) aq e' ao):gm P ro ops pl fr ((o,j)::l) e σ e' ao
 |V_ {o:Oper} {j:Nat} {l:List (Oper×Nat)} {e:Env} {σ:St} {e':Env} {ao:St} {f:FuncId} {args:List IV} {v:IV} {ob:Ob} (hq:fr=ab) (hw:aQ o ops e=ab) (hv:av P ro (ax e) o σ=aa (.enter f args))
   (hc:∀ro,gP P ro f args σ v (σ.add ob)) (h:gm P ro ops pl fr l (e.put o.dst v) (σ.add ob) e' ao):gm P ro ops pl fr ((o,j)::l) e σ e' ao
theorem BR{ops:Array Oper}{pl:dX}(h:FQ ops pl=ab){o:Oper}{j:Nat}(ho:(o,j)∈ops.toList.zipIdx):
 (bc pl j≠.call->bc pl j≠.effect->dv o=bc pl j)/\(bc pl j=.call->AY o=ab)/\
 (bc pl j≠.pure->∀p i,(p,i)∈ops.toList.zipIdx->i<j->(bc pl i=.alloc\/bc pl i=.effect\/(bc pl i=.load/\bc pl j=.effect))->atb (pl.cd.getD j 0) i=ab):=by
 unfold FQ at h;have h1:=as6.1 h (o,j) ho;simp only[asN,atw]at h1;obtain⟨h1,h2⟩:=h1;refine⟨λhc he=>?_,λhc=>?_,λhp p i hi ai hk=>?_⟩
 ·unfold bc at hc he⊢;cases hk:pl.kinds.getD j .effect<;>rw[hk]at h1 hc he<;>first|exact absurd rfl hc|exact absurd rfl he|simpa using h1
 ·unfold bc at hc;rw[hc]at h1;simp only[asN]at h1;exact h1.1
 ·rcases h2 with h2|h2
  ·exact absurd (by simpa[bc]using h2) hp
  ·have h3:=as6.1 h2 (p,i) hi;simp only[atw]at h3;rcases h3 with(h3|h3)|h3
   ·rw[Bool.not_eq_true',<-Bool.not_eq_true,awL]at h3;exact absurd ai h3
   ·exact h3
   ·unfold bc at hk;rcases hk with hk|hk|⟨hk,cH⟩
    ·rw[hk]at h3;cases h3
    ·rw[hk]at h3;cases h3
    ·rw[hk,cH]at h3;simp at h3
theorem lh(b:T Ob)(p:Piece)(h:p.hi<=p.lo):dB b p=b:=by
 unfold dB;rw[show p.hi- p.lo=0 by omega];rfl
theorem xc{b:T Ob}(h:b.WF)(p:Piece):(dB b p).WF:=by
 unfold dB;generalize List.range' p.lo (p.hi- p.lo)=l;induction l generalizing b with
 |nil=>exact h
 |cons id l ih=>
  simp only[att];refine ih ?_;split
  ·exact h.set _ _
  ·exact h
theorem lj:∀(l:List Piece) {b:T Ob},b.WF->(l.foldl dB b).WF
 |[],_,h=>h
 |p::l,_,h=>lj l (xc h p)
theorem tN{f:Piece->Bool}:∀(l:List Piece) (b:T Ob),(∀p∈l,f p=ab\/p.hi<=p.lo)->(l.filter f).foldl dB b=l.foldl dB b
 |[],_,_=>rfl
 |p::l,b,h=>by
  have ht:=λq hq=>h q (at6 _ hq);rw[axs];by_cases hf:f p=ab
  ·rw[if_pos hf];exact tN l _ ht
  ·rw[if_neg hf,att,lh b p ((h p (au5 ..)).resolve_left hf)];exact tN l b ht
theorem zr{f:Piece->Bool}:∀(l:List Piece) (b:T Ob),(∀p∈l,f p=ab->p.hi<=p.lo)->(l.filter f).foldl dB b=b
 |[],_,_=>rfl
 |p::l,b,h=>by
  have ht:=λq hq=>h q (at6 _ hq);rw[axs];by_cases hf:f p=ab
  ·rw[if_pos hf,att,lh b p (h p (au5 ..) hf)];exact zr l b ht
  ·rw[if_neg hf];exact zr l b ht
theorem zu{n:Nat}{ob:Ob}:∀(l:List Piece) (b1 b2:T Ob),(∀p∈l,p.hi<=n)->(∀id,b1.get id=(b2.set n ob).get id)->∀id,(l.foldl dB b1).get id=((l.foldl dB b2).set n ob).get id
 |[],b1,b2,_,h,id=>h id
 |p::l,b1,b2,hp,h,id=>by
  simp only[att];refine zu l _ _ (λq hq=>hp q (at6 _ hq)) (λid=>?_) id;have hpn:=hp p (au5 ..);rw[kN,T.gj,kN,h id,T.gj];by_cases hn:n=id
  ·subst hn;simp only[if_true];rw[if_neg (by omega)]
  ·simp only[if_neg hn]
structure yr(pl:dX)(j:Nat)(d:DS)(e:Env)(σ:St):Prop where
 e:d.e=e
 n:d.n=σ.n
 bs:∃i b rest,d.bs=(i,b)::rest/\(rest=[]\/(i<j/\bc pl i=.effect))/\d.aI.foldl dB b=σ.t/\b.WF
 aI:∀p∈d.aI,(p.hi<=p.lo\/(p.j<j/\bc pl p.j=.alloc))/\p.hi<=d.n
theorem KJ{ops:Array Oper}{pl:dX}{d:DS}{e:Env}{σ:St}{j:Nat}{b:T Ob}(hs:yr pl j d e σ)(ew:d.aI.foldl dB b=σ.t)
 (lQ:∀i,i<j->(bc pl i=.alloc\/bc pl i=.effect)->atb (pl.cd.getD j 0) i=ab):seen d.aI (pl.cd.getD j 0) b=σ.t:=by
 unfold seen;rw[tN _ _ λp hp=>?_,ew];rcases(hs.aI p hp).1 with h|⟨h1,h2⟩
 ·exact .inr h
 ·exact .inl (lQ _ h1 (.inl h2))
theorem Du{v:IV}{aq:St}(h:AY o=ab)(hv:av P ro ρ o σ=aa (.val v aq)):False:=by
 unfold AY at h;split at h
 ·rename_i f a b fH;unfold av at hv;rw[fH]at hv;dsimp only at hv;unfold gD at hv
  repeat' split at hv
  all_goals cases hv
 ·cases h
theorem tO{f:FuncId}{args:List IV}(h:av P ro ρ o σ=aa (.enter f args)):dv o=.call\/dv o=.effect:=by
 unfold av at h;unfold dv;cases ho:o.op<;>rw[ho]at h<;>(try dsimp only at h⊢)
 case call c=>
  obtain⟨callee,argTypes,args⟩:=c;cases callee with
  |builtin b=>exact(yq h).elim
  |value f=>exact .inl rfl
  |invoke r m=>exact .inr rfl
 case defer c=>
  split at h
  ·split at h<;>cases h
  ·cases h
 all_goals (repeat' split at h)
 all_goals cases h
theorem HE{U:Self}{ops:Array Oper}{pl:dX}{o:Oper}{j:Nat}{d:DS}{e:Env}{σ aq:St}{v:IV}(hs:yr pl j d e σ)(hk:bc pl j=.effect)(hw:aQ o ops e=ab)
 (gQ:∀p i,(p,i)∈ops.toList.zipIdx.take j->(p,i)∈ops.toList.zipIdx/\i<j)
 (lQ:∀i,i<j->(bc pl i=.alloc\/bc pl i=.effect\/(bc pl i=.load/\bc pl j=.effect))->atb (pl.cd.getD j 0) i=ab)
 (hx:jP P U ro e o σ=aa (v,aq))(jF:aq.t.WF)(hn:σ.n<=aq.n):∃d1,bR P U pl ro ops o j d=aa d1/\yr pl (j+1) d1 (e.put o.dst v) aq:=by
 obtain⟨i,b,rest,cN,fk,ew,jS⟩:=hs.bs;have mT:=KJ (ops:=ops) hs ew λi hi h=>lQ i hi (h.imp id .inl);have cw:(⟨d.n,seen d.aI (pl.cd.getD j 0) b⟩:St)=σ:=by rw[mT,hs.n]
 refine⟨⟨e.put o.dst v,aq.n,(j,aq.t)::d.bs,d.aI.filter λp=> !atb (pl.cd.getD j 0) p.j⟩,?_,⟨rfl,rfl,⟨j,aq.t,d.bs,rfl,.inr ⟨by omega,hk⟩,?_,jF⟩,λp hp=>?_⟩⟩
 ·unfold bR;rw[cN];simp only;rw[hs.e,hw,if_pos rfl];have cH:pl.kinds.getD j .effect=.effect:=hk;rw[cH];simp only;rw[cw,hx];simp only;rw[if_pos];unfold recheck;rw[as6];rintro⟨p,q⟩ yu;obtain⟨h5,h6⟩:=gQ p q yu;simp only;split
  ·rename_i AU;rw[lQ q h6 (.inr (.inr ⟨AU,hk⟩))];rfl
  ·rfl
 ·refine zr _ _ λp hp hf=>?_;rcases(hs.aI p hp).1 with h|⟨h1,h2⟩
  ·exact h
  ·rw[lQ _ h1 (.inl h2)]at hf;cases hf
 ·have rA:=(List.mem_filter.1 hp).1;obtain⟨h1,h2⟩:=hs.aI p rA;exact⟨h1.imp id (λh=>⟨by omega,h.2⟩),by rw[hs.n]at h2;exact atd h2 hn⟩
theorem Dv{SF pV:Nat->Self}{pl:dX}{ops:Array Oper}:∀{l:List (Oper×Nat)} {d:DS},(∀o i,(o,i)∈l->SF i=pV i)->jh P SF pl ro ops l d=jh P pV pl ro ops l d
 |[],_,_=>rfl
 |(o,j)::l,d,h=>by
  unfold jh;rw[h o j (au5 ..)];split
  ·exact Dv λo' i hi=>h o' i (at6 _ hi)
  ·rfl
theorem l_{U:Self}{pl:dX}{ops:Array Oper}{o:Oper}{j:Nat}{l:List (Oper×Nat)}{d d1 d':DS}{SF:Nat->Self}(hU:l9 P U)(hS:∀i,l9 P (SF i))(h1:bR P U pl ro ops o j d=aa d1)
 (h3:jh P SF pl ro ops l d1=aa d')(hl:∀o' i,(o',i)∈l->i≠j):∃pV,(∀i,l9 P (pV i))/\jh P pV pl ro ops ((o,j)::l) d=aa d':=by
 refine⟨λi=>if i=j then U else SF i,λi=>?_,?_⟩
 ·by_cases hi:i=j
  ·simp only[if_pos hi];exact hU
  ·simp only[if_neg hi];exact hS i
 ·unfold jh;simp only[if_true];rw[h1];simp only;rw[<-h3];exact Dv λo' i hi=>by simp only[if_neg (hl o' i hi)]
theorem YC{ops:Array Oper}{pl:dX}(bz:FQ ops pl=ab){l:List (Oper×Nat)}{e e':Env}{σ ao:St}(h:gm P ro ops pl af l e σ e' ao):
 ∀(k:Nat) (d:DS),ops.toList.zipIdx.drop k=l->yr pl k d e σ->∃SF:Nat->Self,(∀i,l9 P (SF i))/\∃d',jh P SF pl ro ops l d=aa d'/\d'.e=e'/\d'.n=ao.n/\∃i b rest,d'.bs=(i,b)::rest/\d'.aI.foldl dB b=ao.t:=by
 have jk:∀{o:Oper} {j:Nat} {l:List (Oper×Nat)} {k:Nat},ops.toList.zipIdx.drop k=(o,j)::l->(o,j)∈ops.toList.zipIdx/\j=k/\ops.toList.zipIdx.drop (k+1)=l/\
  (∀p i,(p,i)∈ops.toList.zipIdx.take j->(p,i)∈ops.toList.zipIdx/\i<j)/\(∀i,i<j->∃p,(p,i)∈ops.toList.zipIdx)/\∀o' i,(o',i)∈l->i≠j:=by
  intro o j l k h;have h1:(ops.toList.zipIdx.drop k)[0]?=aa (o,j):=by rw[h];rfl
  rw[List.getElem?_drop,Nat.add_zero]at h1;have h2:=asZ h1;have ai:=(asM.1 h1).1;rw[aw3]at h1
  have hj:j=k:=by
   cases hk:ops.toList[k]? with
   |none=>rw[hk]at h1;cases h1
   |some o'=>rw[hk]at h1;simp at h1;omega
  have AS:ops.toList.zipIdx.drop (k+1)=l:=by rw[<-List.drop_drop (i:=1) (j:=k),h];rfl
  refine⟨h2,hj,AS,λp i hp=>⟨List.mem_of_mem_take hp,?_⟩,λi hi=>?_,λo' i hi=>?_⟩
  ·obtain⟨m,hm,he⟩:=auG hp;rw[List.length_take]at hm;rw[List.getElem_take,av0]at he;cases he;omega
  ·rw[List.length_zipIdx]at ai;refine⟨ops.toList[i],asZ (i:=i) ?_⟩;rw[aw3,asL (by omega)];simp
  ·rw[<-AS]at hi;obtain⟨m,hm,he⟩:=auG hi;rw[List.getElem_drop,av0]at he;cases he;omega
 induction h with
 |nil e σ=>
  intro k d _ hs;obtain⟨i,b,rest,h1,_,h3,_⟩:=hs.bs;exact⟨λ_=>Self.none,λ_=>oW,d,rfl,hs.e,hs.n,i,b,rest,h1,h3⟩
 | @skip o j l e σ e' ao hw h ih=>
   intro k d hl hs;obtain⟨hm,rfl,hd,gQ,bg,ai⟩:=jk hl;obtain⟨fS,ek,lQ⟩:=BR bz hm;obtain⟨i,b,rest,cN,fk,ew,jS⟩:=hs.bs;have jl:∀p∈d.aI,(p.hi<=p.lo\/(p.j<j+1/\bc pl p.j=.alloc))/\p.hi<=d.n:=λp hp=>⟨(hs.aI p hp).1.imp id (λh=>⟨by omega,h.2⟩),(hs.aI p hp).2⟩
   have key:∃U,l9 P U/\∃d1,bR P U pl ro ops o j d=aa d1/\yr pl (j+1) d1 (e.put o.dst .undef) σ:=by
    refine⟨Self.none,oW,?_⟩;by_cases hk:bc pl j=.effect
    ·refine⟨⟨d.e.put o.dst .undef,d.n,(j,b)::d.bs,d.aI⟩,?_,⟨by rw[hs.e],hs.n,⟨j,b,d.bs,rfl,.inr ⟨by omega,hk⟩,ew,jS⟩,jl⟩⟩;unfold bR;rw[cN];simp only;rw[hs.e,hw,if_neg (by simp)];have cH:pl.kinds.getD j .effect=.effect:=hk;rw[cH];simp only;rw[if_pos];unfold recheck;rw[as6];rintro⟨p,q⟩ yu;obtain⟨h5,h6⟩:=gQ p q yu;simp only;split
     ·rename_i AU;rw[lQ (by rw[hk];simp) p q h5 h6 (.inr (.inr ⟨AU,hk⟩))];rfl
     ·rfl
    ·refine⟨{d with e:=d.e.put o.dst .undef},?_,⟨by rw[hs.e],hs.n,⟨i,b,rest,cN,fk.imp id (λh=>⟨by omega,h.2⟩),ew,jS⟩,jl⟩⟩;unfold bR;rw[cN];simp only;rw[hs.e,hw,if_neg (by simp)];have cH:pl.kinds.getD j .effect≠.effect:=hk;cases hq:pl.kinds.getD j .effect<;>first|exact absurd hq cH|simp only
   obtain⟨U,hU,d1,h1,h2⟩:=key;obtain⟨SF,lk,d',h3,h4⟩:=ih (j+1) d1 hd h2;obtain⟨pV,h5,h6⟩:=l_ hU lk h1 h3 ai;exact⟨pV,h5,d',h6,h4⟩
 | @val o j l e σ e' ao v aq hw hv h ih=>
   intro k d hl hs;obtain⟨hm,rfl,hd,gQ,bg,ai⟩:=jk hl;obtain⟨fS,ek,lQ⟩:=BR bz hm;obtain⟨i,b,rest,cN,fk,ew,jS⟩:=hs.bs;have pW:σ.t.WF:=ew▸lj _ jS;have jl:∀p∈d.aI,(p.hi<=p.lo\/(p.j<j+1/\bc pl p.j=.alloc))/\p.hi<=d.n:=λp hp=>⟨(hs.aI p hp).1.imp id (λh=>⟨by omega,h.2⟩),(hs.aI p hp).2⟩
   have zw:bc pl j≠.pure->∀i,i<j->(bc pl i=.alloc\/bc pl i=.effect\/(bc pl i=.load/\bc pl j=.effect))->atb (pl.cd.getD j 0) i=ab:=by
    intro hp i hi hk;obtain⟨p,Pn⟩:=bg i hi;exact lQ hp p i Pn hi hk
   have key:∃U,l9 P U/\∃d1,bR P U pl ro ops o j d=aa d1/\yr pl (j+1) d1 (e.put o.dst v) aq:=by
    refine⟨Self.none,oW,?_⟩;cases hk:bc pl j with
    |pure=>
     have nK:dv o=.pure:=by rw[fS (by rw[hk];simp) (by rw[hk];simp),hk]
     obtain⟨rfl,nV⟩:=En nK hv;refine⟨{d with e:=d.e.put o.dst v},?_,⟨by rw[hs.e],hs.n,⟨i,b,rest,cN,fk.imp id (λh=>⟨by omega,h.2⟩),ew,jS⟩,jl⟩⟩;unfold bR;rw[cN];simp only;rw[hs.e,hw,if_pos rfl];have cH:pl.kinds.getD j .effect=.pure:=hk;rw[cH];simp only;rw[nV 0 ⟨0,.lf⟩];simp[hs.e,cN]
    |alloc=>
     have nK:dv o=.alloc:=by rw[fS (by rw[hk];simp) (by rw[hk];simp),hk]
     obtain⟨t,nV,tA⟩:=IU nK hv;refine⟨⟨d.e.put o.dst v,aq.n,d.bs,⟨j,d.n,aq.n,t⟩::d.aI⟩,?_,⟨by rw[hs.e],rfl,⟨i,b,rest,cN,fk.imp id (λh=>⟨by omega,h.2⟩),?_,jS⟩,λp hp=>?_⟩⟩
     ·unfold bR;rw[cN];simp only;rw[hs.e,hw,if_pos rfl];have cH:pl.kinds.getD j .effect=.alloc:=hk;rw[cH];simp only;rw[hs.n,nV 0]
     ·simp only[att];rcases tA with⟨rfl,rfl⟩|⟨ob,rfl,rfl⟩
      ·rw[lh _ _ (by simp[hs.n]),ew]
      ·refine T.WF.ext (lj _ (xc jS _)) (pW.set _ _) λid=>?_
       have:=zu (n:=σ.n) (ob:=ob) d.aI (dB b ⟨j,d.n,(σ.add ob).n,T.lf.set σ.n ob⟩) b (λp hp=>by rw[<-hs.n];exact(hs.aI p hp).2) (λid=>by
        rw[kN,T.gj,T.gj];simp only[hs.n,St.lC];by_cases hid:σ.n=id
        ·subst hid;simp
        ·rw[if_neg (by omega),if_neg hid]) id
       rw[this,ew];rfl
     ·rcases aty.1 hp with rfl|hp
      ·exact⟨.inr ⟨by simp,hk⟩,asR _⟩
      ·obtain⟨h1,h2⟩:=jl p hp;exact⟨h1,by have:=my hv;rw[hs.n]at h2;exact atd h2 this⟩
    |load=>
     have nK:dv o=.load:=by rw[fS (by rw[hk];simp) (by rw[hk];simp),hk]
     obtain⟨rfl,nV⟩:=Eo nK hv;have mT:=KJ (ops:=ops) hs ew λi hi h=>zw (by rw[hk];simp) i hi (h.imp id .inl);have cw:(⟨d.n,seen d.aI (pl.cd.getD j 0) b⟩:St)=aq:=by rw[mT,hs.n]
     refine⟨{d with e:=d.e.put o.dst v},?_,⟨by rw[hs.e],hs.n,⟨i,b,rest,cN,fk.imp id (λh=>⟨by omega,h.2⟩),ew,jS⟩,jl⟩⟩;unfold bR;rw[cN];simp only;rw[hs.e,hw,if_pos rfl];have cH:pl.kinds.getD j .effect=.load:=hk;rw[cH];simp only;rw[cw,nV d.n];simp only;rw[if_pos];refine⟨hs.n.symm,?_⟩;rcases fk with rfl|⟨h1,h2⟩
     ·simp[mv]
     ·rw[zw (by rw[hk];simp) i h1 (.inr (.inl h2))];rfl
    |call=>exact(Du (ek hk) hv).elim
    |effect=>
     refine HE hs hk hw gQ (λi hi h=>zw (by rw[hk];simp) i hi h) ?_ (V9 hv pW) (my hv);unfold jP;rw[hv]
   obtain⟨U,hU,d1,h1,h2⟩:=key;obtain⟨SF,lk,d',h3,h4⟩:=ih (j+1) d1 hd h2;obtain⟨pV,h5,h6⟩:=l_ hU lk h1 h3 ai;exact⟨pV,h5,d',h6,h4⟩
 | @IW o j l e σ e' ao f args v hw hv hc h ih=>
   intro k d hl hs;obtain⟨hm,rfl,hd,gQ,bg,ai⟩:=jk hl;obtain⟨fS,ek,lQ⟩:=BR bz hm;obtain⟨i,b,rest,cN,fk,ew,jS⟩:=hs.bs;have pW:σ.t.WF:=ew▸lj _ jS;have jl:∀p∈d.aI,(p.hi<=p.lo\/(p.j<j+1/\bc pl p.j=.alloc))/\p.hi<=d.n:=λp hp=>⟨(hs.aI p hp).1.imp id (λh=>⟨by omega,h.2⟩),(hs.aI p hp).2⟩
   have zw:bc pl j≠.pure->∀i,i<j->(bc pl i=.alloc\/bc pl i=.effect\/(bc pl i=.load/\bc pl j=.effect))->atb (pl.cd.getD j 0) i=ab:=by
    intro hp i hi hk;obtain⟨p,Pn⟩:=bg i hi;exact lQ hp p i Pn hi hk
   have wk:∀ga,jP P (rh ah f args σ v σ) ga e o σ=aa (v,σ):=by
    intro ga;unfold jP;rw[BQ hv ga σ];simp[rh]
   have mT:=KJ (ops:=ops) hs ew
   have key:∃U,l9 P U/\∃d1,bR P U pl ro ops o j d=aa d1/\yr pl (j+1) d1 (e.put o.dst v) σ:=by
    refine⟨rh ah f args σ v σ,tM λga _=>hc ga,?_⟩
    have uQ:bc pl j=.call\/bc pl j=.effect:=by
     by_cases mO:bc pl j=.call
     ·exact .inl mO
     ·by_cases he:bc pl j=.effect
      ·exact .inr he
      ·have:=fS mO he;rcases tO hv with h|h
       ·rw[h]at this;exact absurd this.symm mO
       ·rw[h]at this;exact absurd this.symm he
    rcases uQ with hk|hk
    ·refine⟨⟨d.e.put o.dst v,d.n,d.bs,⟨j,d.n,d.n,seen d.aI (pl.cd.getD j 0) b⟩::d.aI⟩,?_,⟨by rw[hs.e],hs.n,⟨i,b,rest,cN,fk.imp id (λh=>⟨by omega,h.2⟩),?_,jS⟩,λp hp=>?_⟩⟩
     ·unfold bR;rw[cN];simp only;rw[hs.e,hw,if_pos rfl];have cH:pl.kinds.getD j .effect=.call:=hk;rw[cH];simp only;have Dr:=mT λi hi h=>zw (by rw[hk];simp) i hi (h.imp id .inl);have cw:(⟨d.n,seen d.aI (pl.cd.getD j 0) b⟩:St)=σ:=by rw[Dr,hs.n]
      rw[cw,wk,Dr];simp only[hs.n,cN]
     ·simp only[att];rw[lh _ _ (by simp),ew]
     ·rcases aty.1 hp with rfl|hp
      ·exact⟨.inl (asR _),asR _⟩
      ·exact jl p hp
    ·exact HE hs hk hw gQ (λi hi h=>zw (by rw[hk];simp) i hi h) (wk ro) pW (asR _)
   obtain⟨U,hU,d1,h1,h2⟩:=key;obtain⟨SF,lk,d',h3,h4⟩:=ih (j+1) d1 hd h2;obtain⟨pV,h5,h6⟩:=l_ hU lk h1 h3 ai;exact⟨pV,h5,d',h6,h4⟩
 | @call o j l e σ e' ao f args v aq hk hw hv hc jF h ih=>
   intro k d hl hs;obtain⟨hm,rfl,hd,gQ,bg,ai⟩:=jk hl;obtain⟨fS,ek,lQ⟩:=BR bz hm;obtain⟨i,b,rest,cN,fk,ew,jS⟩:=hs.bs;have pW:σ.t.WF:=ew▸lj _ jS
   have zw:bc pl j≠.pure->∀i,i<j->(bc pl i=.alloc\/bc pl i=.effect\/(bc pl i=.load/\bc pl j=.effect))->atb (pl.cd.getD j 0) i=ab:=by
    intro hp i hi hk;obtain⟨p,Pn⟩:=bg i hi;exact lQ hp p i Pn hi hk
   obtain⟨d1,h1,h2⟩:=HE (U:=rh (aa ro) f args σ v aq) (v:=v) (aq:=aq) hs hk hw gQ (λi hi h=>zw (by rw[hk];simp) i hi h) (by unfold jP;rw[hv];simp[rh]) (jF pW) hc.1;obtain⟨SF,lk,d',h3,h4⟩:=ih (j+1) d1 hd h2;obtain⟨pV,h5,h6⟩:=l_ (tM (R:=aa ro) λga hR=>by rcases hR with hR|hR<;>cases hR;exact hc) lk h1 h3 ai;exact⟨pV,h5,d',h6,h4⟩
 | @V_ o j l e σ e' ao f args v ob hq hw hv hc h ih=>cases hq
variable{rd:Option Nat}{fn:FuncId}{df:List Df}{e e':Env}{ao:St}{ops:Array Oper}
theorem fP.draw{id:Nat}(fi:P.follows .mixedOrders=ab)(mZ:(dG ops).ok=ab)(bz:FQ ops (dG ops)=ab)(jF:σ.t.WF)
 (h:gm P ro ops (dG ops) af ops.toList.zipIdx e σ e' ao):fP P ro rd fn (.region id ops ab) e df σ ⟨.normal,e',df,ao⟩:=by
 obtain⟨SF,lk,d',h1,h2,h3,i,b,rest,h4,h5⟩:=YC bz h 0 ⟨e,σ.n,[(0,σ.t)],[]⟩ (by simp) ⟨rfl,rfl,⟨0,σ.t,[],rfl,.inl rfl,rfl,jF⟩,λp hp=>by cases hp⟩
 have eB:qt P SF ro ops e df σ=aa ⟨.normal,e',df,ao⟩:=by
  unfold qt;simp only;rw[if_pos mZ,h1];obtain⟨de,dn,dbs,aov⟩:=d';simp only at h2 h3 h4 h5;subst h2 h4;simp only[h3,h5]
 refine .mk (BM (λi=>(lk i).2.2.1) (λi=>(lk i).2.2.2) eB) (by simp) λN hN F ι a w Q hF hi he hd hQ=>?_;exact HB fi (λi=>(lk i).1) (λi=>(lk i).2.1) (λi=>(lk i).2.2.1) (λi=>(lk i).2.2.2) N ro rd ops e df σ _ eB hN F ι a w Q id hF hi he hd hQ
end Go.Ev
