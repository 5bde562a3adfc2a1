/- Lemmas over the model, without conditions of their own: the ideal machine, and code run on expressions. -/
import Derived.Test.YtabefplkfkfdfaaGreatPAc
open Go.Instr renaming sameNow->aBq,sameBits->aAD,findNow->az9,findAsking->azt,findKey->azR,checkKey->aA7
open Go.Utf8 renaming decode->aAc
open Go.IntKind renaming i64->azc
open List renaming replicate->ay_,getElem?_eq_getElem->ayG,getElem?_eq_some_iff->ayH,getElem?_map->ay1,mem_cons->ayW,all_eq_true->ayY,getElem?_of_mem->az0,mem_of_getElem?->ayX,flatMap_cons->aAa,getElem?_append_right->aze,getElem?_set_ne->aAA,eq_nil_of_length_eq_zero->azb,append_nil->ay2,getElem?_take->azn,getElem?_drop->aAp,take_take->aDD,getElem_mem->ayJ,range->azT,getElem?_range->aAC,drop_of_length_le->azf,append_assoc->ay3,getElem?_append_left->ayZ,mem_append->ayS,mem_of_mem_take->azM,mem_of_mem_drop->aAQ,length_eq_one_iff->aBB,mem_flatMap->az1,all_append->aCd,length_append->ayP,eq_of_mem_replicate->az3,map_cons->azr,map_map->aCe
open Option renaming bind_eq_some_iff->ay4,map_eq_some_iff->ayR,bind_some->ayK,getD_some->aAy,map_some->azl
open Nat renaming rec->aCc,eq_of_beq_eq_true->ay0,add_mul->azD,le_refl->ayL,ble_eq->aAb,mul_le_mul_right->azd,zero_mul->aB1,zero_add->aAn,one_mul->aEb,zero_le->azz,beq_eq->azv,sub_zero->aD7
open Option.some renaming injEq->ayO,inj->aAK
open Bool renaming and_eq_true->ayI,or_eq_true->azp,not_eq_true'->azY
open Prod.mk renaming injEq->aAt
open Go.Builtin renaming len->aDE
open Go renaming undef->azm
open List.cons renaming injEq->aBb
open Int renaming toNat_of_nonneg->aBL
open Go.Value.int renaming injEq->aBU
open Option renaming some->aa,none->ah
open Bool renaming true->ab,false->af
set_option linter.all false
namespace Go.Ev
section
variable(P:Program)
def wF(z:IV):Option IV:=if ao z then aa z else ah
def aL:IV->Bool
 |.raw _=>ab
 |_=>af
def gW:IV->Option Int
 |.raw (.int _ n)=>aa n
 |_=>ah
def dg(op:BinOp)(t:TypeId)(a b:IV):Option IV:=
 match lJ a,lJ b with
 |some .nilIface,_=>ah
 |some _,aa _=>tz P op t (.func 0) (.func 0) a b
 |_,_=>ah
def SI(op:UnOp):IV->Option IV
 |.raw v=>(aK P (Op.unary op v)).map lift
 |_=>ah
def M9(src dst:TypeId):IV->Option IV
 |.raw (.string s)=>match P.underlying src,P.underlying dst with
  |some _,aa .string=>aa (.raw (.string s))
  |_,_=>ah
 |.raw v=>(aK P (convert src dst v)).map lift
 |_=>ah
def cb(s:Nat):IV->IV->Option IV
 |.tree s' es,i=>match gW i with
  |some n=>if s'=s/\0<=n then match es[n.toNat]? with
   |some x=>if(cellsOf x).length=s then aa x else ah
   |none=>ah
   else ah
  |none=>ah
 |_,_=>ah
def fM(s:Nat)(es:List IV):Bool:=es.all λe=>(cellsOf e).length==s&&(cellsOf e).all ao
def cX(s bytes:Nat):IV->IV->Option IV
 |.tree s1 es,.tree s2 fs=>if s1=s/\s2=s/\0<s/\fM s fs=ab/\(4*(es.length+fs.length)+4096)*bytes<=2 ^47/\es.length+fs.length<=2 ^40 then aa (.tree s (es++fs))else ah
 |_,_=>ah
def zi(s:Nat):IV->IV->IV->Option IV
 |.tree s1 es,i,x=>match gW i with
  |some n=>if s1=s/\0<=n/\n.toNat<es.length/\(cellsOf x).length=s then aa (.tree s (es.set n.toNat x))else ah
  |none=>ah
 |_,_,_=>ah
def nD(s:Nat):IV->IV->IV->Option IV
 |.tree s1 es,lo,hi=>match gW lo,gW hi with
  |some l,aa h=>if s1=s/\0<=l/\l.toNat<=h.toNat/\0<=h/\h.toNat<=es.length then aa (.tree s ((es.take h.toNat).drop l.toNat))else ah
  |_,_=>ah
 |_,_,_=>ah
def H_:IV->Option IV
 |.tree _ es=>aa (.int es.length)
 |_=>ah
def AO:IV->Option IV
 |.raw (.string b)=>aa (.int b.size)
 |_=>ah
def uR:List IV->Option (List Value)
 |[]=>aa []
 |c::cs=>match c with
  |.raw (.int q n)=>(uR cs).map (Value.int q n::·)
  |.raw (.string q)=>(uR cs).map (Value.string q::·)
  |.raw (.bool q)=>(uR cs).map (Value.bool q::·)
  |_=>ah
def keyOf:IV->Option Value
 |.raw (.int q n)=>aa (.int q n)
 |.raw (.string q)=>aa (.string q)
 |.agg cs=>(uR cs).map λvs=>.agg vs.toArray
 |_=>ah
def mH:List IV->Option (List Value)
 |[]=>aa []
 |d::ds=>match d with
  |.aF [k,_]=>match keyOf k,mH ds with
   |some v,aa vs=>aa (v::vs)
   |_,_=>ah
  |_=>ah
def nowAt(kd:TypeDesc)(k:Value):List Value->Nat->Option (Option Nat)
 |[],_=>aa ah
 |e::es,n=>match aBq kd k e with
  |some ab=>aa (aa n)
  |some af=>nowAt kd k es (n+1)
  |none=>ah
def xN(kt:TypeId):Option TypeDesc:=
 match P.underlying kt with
 |some (.int q)=>aa (.int q)
 |some .string=>aa .string
 |_=>ah
def EP(kt:TypeId)(ks:List Value)(k:Value):Option (Option Nat):=
 match fG P ab kt k (ks.map λe=>(e,.undef,0)),fG P af kt k (ks.map λe=>(e,.undef,0))with
 |some q,aa q'=>if q=q' then(match q with
  |none=>aa ah
  |some j=>match ks[j]? with
   |some e=>if aAD 10000 e k then aa (aa j)else ah
   |none=>ah)else ah
 |_,_=>ah
def fK(kt:TypeId)(ds:List IV)(key:IV):Option (Option Nat):=
 match xN P kt,mH ds,keyOf key with
 |some kd,aa ks,aa k=>nowAt kd k ks 0
 |none,aa ks,aa k=>EP P kt ks k
 |_,_,_=>ah
def kO(w:Nat):IV->IV->Option IV
 |.raw (.string s),.raw (.int .i64 p)=>if 0<=p then(match w with
  |0=>aa (.raw (.bool (decide (p.toNat<s.size))))
  |1=>aa (.raw (.int .i32 (aAc s p.toNat).1))
  |2=>aa (.raw (.int .i64 ((p.toNat+(aAc s p.toNat).2:Nat))))
  |_=>ah)else ah
 |.raw (.int q c),p=>if w=7/\0<=c/\c<=1000000 then aa (.raw (.int q c))
  else if w=8/\1<=c/\c<=1000000/\(q==azc)=ab/\(cellsOf p).length=1 then aa (.tree 1 (ay_ c.toNat p))
  else if w=10/\0<=c/\c<=1000000/\(cellsOf p).length=1 then aa (.tree 1 (ay_ c.toNat p))else ah
 |.aF ds,_=>if w=9 then aa (.int ds.length)else ah
 |.raw (.slice ah 0 0),_=>if w=11 then aa (.raw (.bool ab))else ah
 |_,_=>ah
def SE.den(ν:List IV):SE->Option IV
 |.var x=>ν[x]?
 |.i n=>aa (.raw (.int .i64 n))
 |.k q n=>aa (.raw (.int q n))
 |.b t=>aa (.raw (.bool t))
 |.s l=>aa (.raw (.string ⟨l.toArray⟩))
 |.raw v=>aa (.raw v)
 |.ok e=>(e.den ν).bind wF
 |.mq n e=>(e.den ν).bind λ|.agg cs=>if cs.length=n/\cs.all ao then aa (.agg cs)else ah|_=>ah
 |.aP e j=>(e.den ν).bind λ|.agg cs=>(cs[j]?).bind wF|_=>ah
 |.idx q e x=>(e.den ν).bind λa1=>(x.den ν).bind λb1=>cb q a1 b1
 |.lk q e x j=>(e.den ν).bind λa1=>(x.den ν).bind λb1=>(cb q a1 b1).bind λy=>((cellsOf y)[j]?).bind wF
 |.len e=>(e.den ν).bind H_
 |.uL e=>(e.den ν).bind AO
 |.an=>aa (.agg [])
 |.ac a r=>(a.den ν).bind λx=>(r.den ν).bind λ|.agg cs=>aa (.agg (x::cs))|_=>ah
 |.tr q r=>(r.den ν).bind λ|.agg cs=>if 0<q/\cs.all (λe=>(cellsOf e).length==q)then aa (.tree q cs)else ah|_=>ah
 |.tp r=>(r.den ν).bind λ|.agg cs=>aa (.aF cs)|_=>ah
 |.cat q bytes e f=>(e.den ν).bind λa1=>(f.den ν).bind λb1=>cX q bytes a1 b1
 |.zD q e x y=>(e.den ν).bind λa1=>(x.den ν).bind λb1=>(y.den ν).bind λc1=>zi q a1 b1 c1
 |.sub q e lo hi=>(e.den ν).bind λa1=>(lo.den ν).bind λb1=>(hi.den ν).bind λc1=>nD q a1 b1 c1
 |.proj e j=>(e.den ν).bind λ|.aF cs=>cs[j]? |_=>ah
 |.bin op t a2 b2=>(a2.den ν).bind λx1=>(b2.den ν).bind λy1=>dg P op t x1 y1
 |.un op a=>(a.den ν).bind (SI P op)
 |.cv q d a=>(a.den ν).bind (M9 P q d)
 |.mx big a2 b2=>(a2.den ν).bind λx1=>(b2.den ν).bind λy1=>if big then Oj P [x1,y1]else ah
 |.MQ e x=>(e.den ν).bind λa1=>(x.den ν).bind λb1=>match a1,b1 with
  |.raw (.string q),.raw (.int _ n)=>if 0<=n then(q.data.toList[n.toNat]?).map λc=>.raw (.int .u8 c.toNat)else ah
  |_,_=>ah
 |.Lq e lo hi=>(e.den ν).bind λa1=>(lo.den ν).bind λb1=>(hi.den ν).bind λc1=>match a1,gW b1,gW c1 with
  |.raw (.string q),aa l,aa h=>if 0<=l/\l.toNat<=h.toNat/\0<=h/\h.toNat<=q.size then aa (.raw (.string ⟨((q.data.toList.drop l.toNat).take (h.toNat- l.toNat)).toArray⟩))else ah
  |_,_,_=>ah
 |.dec w a p=>(a.den ν).bind λa1=>(p.den ν).bind λb1=>kO w a1 b1
 |.rw e=>(e.den ν).bind λz=>if aL z then aa z else ah
 |.rws e=>(e.den ν).bind λ|.tree q es=>if es.all (λe=>(cellsOf e).all aL)then aa (.tree q es)else ah|_=>ah
 |.has kt m key=>(m.den ν).bind λa1=>(key.den ν).bind λk1=>match a1 with
  |.aF ds=>(fK P kt ds k1).map λr=>.bool r.isSome
  |_=>ah
 |.get kt m key z=>(m.den ν).bind λa1=>(key.den ν).bind λk1=>(z.den ν).bind λd1=>match a1 with
  |.aF ds=>match fK P kt ds k1 with
   |some (aa j)=>match ds[j]? with
    |some (.aF [_,y1])=>aa y1
    |_=>ah
   |some ah=>aa d1
   |none=>ah
  |_=>ah
 |.ins kt m key x=>(m.den ν).bind λa1=>(key.den ν).bind λk1=>(x.den ν).bind λy1=>match a1 with
  |.aF ds=>match fK P kt ds k1 with
   |some (aa j)=>aa (.aF (ds.set j (.aF [k1,y1])))
   |some ah=>aa (.aF (ds++[.aF [k1,y1]]))
   |none=>ah
  |_=>ah
def SE.dI{ν μ:List IV}:∀(e:SE) {z:IV},e.den P ν=aa z->e.den P (ν++μ)=aa z:=by
 have hb:∀{o o':Option IV} {f:IV->Option IV} {z:IV},(∀y,o=aa y->o'=aa y)->o.bind f=aa z->o'.bind f=aa z:=by
  intro o o' f z h hz;cases o with
  |none=>grind
  |some y=>grind
 intro e;induction e with
 |var x=>grind [SE.den]
 |i n=>intro z h;exact h
 |k q n=>intro z h;exact h
 |b t=>intro z h;exact h
 |s l=>intro z h;exact h
 |raw v=>intro z h;exact h
 |an=>intro z h;exact h
 |ok e ih=>intro z h;exact hb (λy=>ih) h
 |mq n e ih=>intro z h;exact hb (λy=>ih) h
 |aP e j ih=>intro z h;exact hb (λy=>ih) h
 |uL e ih=>intro z h;exact hb (λy=>ih) h
 |len e ih=>intro z h;exact hb (λy=>ih) h
 |tr q r ih=>intro z h;exact hb (λy=>ih) h
 |tp r ih=>intro z h;exact hb (λy=>ih) h
 |proj e j ih=>intro z h;exact hb (λy=>ih) h
 |un op a ih=>intro z h;exact hb (λy=>ih) h
 |cv q d a ih=>intro z h;exact hb (λy=>ih) h
 |rw e ih=>intro z h;exact hb (λy=>ih) h
 |rws e ih=>intro z h;exact hb (λy=>ih) h
 |idx q e x iN gK|lk q e x j iN gK|ac a r iN gK|cat q by' e f iN gK|bin op t a b iN gK|mx big a b iN gK|MQ e x iN gK|has kt m key iN gK|dec w a p iN gK=>
  intro z h;simp only[SE.den,ay4]at h⊢
  grind
 |zD q e x y iN gK M_|sub q e lo hi iN gK M_|Lq e lo hi iN gK M_|ins kt m key x iN gK M_|get kt m key z' iN gK M_=>
  intro z h;simp only[SE.den,ay4]at h⊢
  grind
abbrev Cr:=FuncId->Bool->List IV->IV->Prop
def kc(ν:List IV)(e:SE):Option (List IV):=
 match e.den P ν with
 |some (.agg cs)=>aa cs
 |_=>ah
def aq.sat(C:Cr)(Q:IV->Prop):aq->List (List IV->Prop)->List IV->Prop
 |.fail _,_,_=>False
 |.ret e,_,ν=>∃z,e.den P ν=aa z/\Q z
 |.test e a b,K,ν=>(e.den P ν=aa (.bool ab)/\a.sat C Q K ν)\/(e.den P ν=aa (.bool af)/\b.sat C Q K ν)
 |.bind e k,K,ν=>∃z,e.den P ν=aa z/\k.sat C Q K (ν++[z])
 |.aC e k,K,ν=>(∃z,e.den P ν=aa z)/\k.sat C Q K ν
 |.call f new args k,K,ν=>∃xs z,kc P ν args=aa xs/\C f new xs z/\k.sat C Q K (ν++[z])
 |.pick es x a b,K,ν=>∃ds rem,es.den P ν=aa (.aF ds)/\(∃r,x.den P ν=aa (.aF (.aF ds::.aF rem::r)))/\(rem=[]->a.sat C Q K ν)/\∀i y,rem[i]?=aa y->b.sat C Q K (ν++[y,.aF [.aF ds,.aF (rem.eraseIdx i),y]])
 |.same es x k,K,ν=>∃ds r,es.den P ν=aa (.aF ds)/\x.den P ν=aa (.aF (.aF ds::r))/\k.sat C Q K ν
 |.uniq k,K,ν=>k.sat C Q K ν
 |.loop init body,K,ν=>∃vs,kc P ν init=aa vs/\∃m:Nat,(aCc (motive:=λ_=>List IV->Prop) (λ_=>False) (λ_ ih vs=>body.sat C Q (K++[ih]) (ν++vs)) m) vs
 |.tV body m cont,K,ν=>body.sat C Q (K++[λvs=>vs.length=m/\cont.sat C Q K (ν++vs)]) ν
 |.next lv args,K,ν=>∃vs p,kc P ν args=aa vs/\K[lv]?=aa p/\p vs
 |.bad ..,_,_=>False
abbrev Ia(K K':List (List IV->Prop)):Prop:=All2 (λp q=>∀vs,p vs->q vs) K K'
def Ia.snoc{K K':List (List IV->Prop)}(h:Ia K K'){p q:List IV->Prop}(hp:∀vs,p vs->q vs):Ia (K++[p]) (K'++[q]):=h.app ⟨hp,trivial⟩
theorem Ia.refl:∀(K:List (List IV->Prop)),Ia K K
 |[]=>trivial
 |_::K=>⟨λ_ h=>h,Ia.refl K⟩
theorem aq.iO{C:Cr}:∀(f:aq) {Q Q':IV->Prop} {K K':List (List IV->Prop)} {ν:List IV},(∀z,Q z->Q' z)->Ia K K'->f.sat P C Q K ν->f.sat P C Q' K' ν
 |.fail _,_,_,_,_,_,_,_,h=>h
 |.bad ..,_,_,_,_,_,_,_,h=>h
 |.ret _,_,_,_,_,_,hq,_,⟨z,h1,h2⟩=>⟨z,h1,hq z h2⟩
 |.test _ a b,_,_,_,_,_,hq,hk,h=>h.imp (λh=>⟨h.1,iO a hq hk h.2⟩) (λh=>⟨h.1,iO b hq hk h.2⟩)
 |.bind _ k,_,_,_,_,_,hq,hk,⟨z,h1,h2⟩=>⟨z,h1,iO k hq hk h2⟩
 |.aC _ k,_,_,_,_,_,hq,hk,⟨h1,h2⟩=>⟨h1,iO k hq hk h2⟩
 |.call _ _ _ k,_,_,_,_,_,hq,hk,⟨xs,z,h1,h2,h3⟩=>⟨xs,z,h1,h2,iO k hq hk h3⟩
 |.pick _ _ a b,_,_,_,_,_,hq,hk,⟨ds,rem,h1,h2,h3,h4⟩=>⟨ds,rem,h1,h2,λhe=>iO a hq hk (h3 he),λi y hy=>iO b hq hk (h4 i y hy)⟩
 |.same _ _ k,_,_,_,_,_,hq,hk,⟨ds,r,h1,h2,h3⟩=>⟨ds,r,h1,h2,iO k hq hk h3⟩
 |.uniq k,_,_,_,_,_,hq,hk,h=>iO k hq hk h
 |.next lv _,_,_,_,_,_,_,hk,⟨vs,p,h1,h2,h3⟩=>by
  have rS:=ayG (by rw[<-hk.len];exact(ayH.1 h2).1);exact⟨vs,_,h1,rS,hk.get h2 rS vs h3⟩
 |.tV a m b,_,_,_,_,_,hq,hk,h=>iO a hq (hk.snoc λ_ hv=>⟨hv.1,iO b hq hk hv.2⟩) h
 |.loop _ b,Q,Q',K,K',ν,hq,hk,⟨vs,h1,m,hm⟩=>by
  have key:∀(m:Nat) (vs:List IV),(aCc (motive:=λ_=>List IV->Prop) (λ_=>False) (λ_ ih vs=>b.sat P C Q (K++[ih]) (ν++vs)) m) vs->(aCc (motive:=λ_=>List IV->Prop) (λ_=>False) (λ_ ih vs=>b.sat P C Q' (K'++[ih]) (ν++vs)) m) vs:=by
   intro m;induction m with
   |zero=>intro vs h;exact h
   |succ m ih=>intro vs h;exact iO b hq (hk.snoc ih) h
  exact⟨vs,h1,m,key m vs hm⟩
end
section
variable{Cx:Cs}
variable{P:Program}{N:Nat}{σ au:St}{R R':Rs}{φ aV:Ph}{E:Nat->Env}{ν:List IV}
abbrev ay(P:Program)(ν:List IV):SE->Option IV:=λe=>e.den P ν
def bytes_eta(b:ByteArray):(⟨b.data.toList.toArray⟩:ByteArray)=b:=by rfl
variable{L:List (LO SE)}{Γ:Gm SE}
def Q1(t:TypeId)(v:Value):c9 (ay P ν) R φ L σ (.raw v) (Bo P t v):=by
 have raw:∀u:Value,(∀c,u≠.agg c)->(∀c,u≠.tuple c)->c9 (ay P ν) R φ L σ (.raw u) (.v (.raw u)):=λu h1 h2=>by
  refine⟨.raw u,rfl,.raw u,?_⟩;cases u<;>first|rfl|exact absurd rfl (h1 _)|exact absurd rfl (h2 _)
 unfold Bo;split
 .exact⟨_,rfl,.raw _,rfl⟩
 .exact⟨_,rfl,.raw _,rfl⟩
 .exact⟨_,rfl,.raw _,rfl⟩
 .rename_i b;refine⟨.raw (.string b),?_,.raw _,rfl⟩;show aa (IV.raw (.string ⟨b.data.toList.toArray⟩))=_;rw[bytes_eta]
 .split<;>try exact raw _ aw aw
  rename_i s hs;split<;>try exact raw _ aw aw
  rename_i h;have:s≠0:=by simpa using h
  exact⟨by omega,rfl⟩
 .trivial
 .trivial
 .exact raw _ (λc hc=>by simp_all) (λc hc=>by simp_all)
theorem Gq:∀(ts:List TypeId) (vs:List Value),ts.length=vs.length->All2 (c9 (ay P ν) R φ L σ) (vs.map .raw) (Z_ (Bo P) ts vs)
 |[],[],_=>trivial
 |t::ts,v::vs,h=>⟨Q1 t v,Gq ts vs bc⟩
 |[],_::_,h=>by grind
 |_::_,[],h=>by grind
def aax(t:TypeId)(v:Value):VR (ay P ν) R φ L σ (lift v) (OO P t v):=by
 have key:c9 (ay P ν) R φ L σ (.raw v) (Bo P t v):=Q1 t v;cases v with
 |agg cs=>
  simp only[OO];split
  .rename_i h;exact⟨_,rfl,Gq _ _ (ay0 h)⟩
  .trivial
 |_=>exact key
def rZ{t:TypeId}{z:Value}(h:db P t=aa z):All2 (c9 (ay P ν) R φ L σ) (z.cells.toList.map .raw) (zeroCells P t):=by
 unfold zeroCells;rw[h];simp only;split
 .rename_i hh;exact Gq _ _ (ay0 hh)
 .refine .mk aw λi a b h1 h2=>?_;rw[ay1]at h2;obtain⟨_,_,rfl⟩:=ayR.1 h2;trivial
def bw{V:SS}(h:J Cx (ay P ν) R φ V.g V.l E σ)(d:Nat)(t:TypeId)(x:Operand):VR (ay P ν) R φ V.l σ (aD (E d) x) (bP P d V t x):=by
 cases x with
 |tmp y=>
  show VR _ _ _ _ _ ((E d).at y) ((cz d y V.g).getD (.one .un));cases hg:cz d y V.g with
  |none=>trivial
  |some pv=>exact h.slot d y pv hg
 |const v=>exact aax t v
 |func f=>exact .inl ⟨rfl,rfl⟩
 |global g=>trivial
theorem bx.ao{fr:Bool}{x y:IV}(h:bx fr R σ x y)(hy:Ev.ao y=ab):Ev.ao x=ab:=by
 cases h<;>first|exact hy|rfl|(simp at hy;done)
def bx.ajE{fr:Bool}{x y:IV}(h:bx fr R σ x y)(hx:Ev.ao x=ab):Ev.ao y=ab:=by
 cases h<;>first|exact hx|rfl|(simp at hx;done)
theorem c9.ao{x:IV}{c:Cl SE}(h:c9 (ay P ν) R φ L σ x c)(hn:c≠.un):Ev.ao x=ab:=by
 cases c with
 |un=>grind
 |v z=>have⟨y,_,h1,h2⟩:=h;exact h1.ao h2
 |w fr z=>have⟨y,_,h1,h2⟩:=h;exact h1.ao h2
 |pt k off ext=>obtain⟨id,cs,_,_,rfl⟩:=h;rfl
 |tp cs=>obtain⟨ds,rfl,_⟩:=h;rfl
 |tw fr cs=>obtain⟨_,⟨_,ds,rfl,_⟩|⟨id,off,ep,m,cW,aE,mn,_,_,_,_,rfl,_⟩⟩:=h<;>rfl
 |sr k=>obtain⟨s,st,cut,fr,z,es,_,_,⟨_,_,rfl|rfl⟩|⟨id,cs,aE,mn,cap,_,_,rfl,_⟩⟩:=h<;>rfl
 |sv k lo=>obtain⟨s,st,cut,fr,z,es,y,n,_,_,_,_,_,(⟨_,_,rfl|rfl⟩|⟨id,cs,aE,mn,cap,_,_,rfl,_⟩)|⟨_,rfl⟩⟩:=h<;>rfl
 |pr k i off ext=>obtain⟨s,st,cut,fr,z,es,y,n,id,cs,aE,mn,_,_,_,_,_,_,_,_,rfl⟩:=h;rfl
 |mp k=>obtain⟨id,kt,es,_,_,rfl⟩:=h;split<;>rfl
 |yl k=>obtain⟨id,c,st,sn,_,_,rfl⟩:=h;rfl
 |nl b s=>obtain⟨_,rfl⟩:=h;cases b<;>rfl
 |fn f bs=>obtain⟨_,rfl⟩|⟨ys,rfl,_⟩:=h<;>rfl
theorem Lz:∀{cs:List (Cl SE)},xC cs=ab->∀c∈cs,c≠.un
 |[],_,c,hc=>by grind
 |d::cs,h,c,hc=>by
  have hd:d≠.un/\xC cs=ab:=by
   grind [xC]
  rcases ayW.1 hc with rfl|hc
  .grind
  .exact Lz hd.2 c hc
def wG{xs:List IV}{cs:List (Cl SE)}(h:All2 (c9 (ay P ν) R φ L σ) xs cs)(hn:xC cs=ab):xs.all Ev.ao=ab:=by
 rw[ayY];intro x hx;have⟨i,hi⟩:=az0 hx;have hl:i<cs.length:=by grind [h.len]
 have hc:=ayG hl;exact(h.get hi hc).ao (Lz hn _ (ayX hc))
def Dg{x:IV}{pv:PV SE}(h:VR (ay P ν) R φ L σ x pv)(hn:xC (fE pv)=ab):All2 (c9 (ay P ν) R φ L σ) (cellsOf x) (fE pv):=by
 cases pv with
 |one c=>
  have bf:=c9.ao (c:=c) h (Lz hn c (by simp[fE]))
  have:cellsOf x=[x]:=by
   cases x<;>first|rfl|contradiction
  rw[this];exact⟨h,trivial⟩
 |ag cs=>obtain⟨xs,rfl,h2⟩:=h;exact h2
 |tu vs=>contradiction
def LA{s:Nat}:∀{es:List IV} (_:∀e∈es,(cellsOf e).length=s) {i j:Nat} {e d:IV},es[i]?=aa e->(cellsOf e)[j]?=aa d->(flat es)[i*s+j]?=aa d:=by
 intro es;induction es with
 |nil=>simp
 |cons a es ih=>
  intro bH i j e d he hd;have ha:=bH a aw;unfold flat;rw[aAa];cases i with
  |zero=>
   grind
  |succ i=>
   simp at he;rw[azD,aze aj,ha];have:=ih (λe he=>bH e bc) he hd;rw[show i*s+1*s+j- s=i*s+j by omega];exact this
def uS{s:Nat}:∀{es:List IV} (_:∀e∈es,(cellsOf e).length=s),(flat es).length=es.length*s:=by
 intro es;induction es with
 |nil=>simp_all[flat]
 |cons a es ih=>
  intro bH;have:=ih (λe he=>bH e bc);unfold flat at this⊢
  grind
theorem aay(V:SS)(k:Nat)(o:LO SE):(V.setObj k o).l=V.l.set k o:=rfl
def afk{V:SS}{k s:Nat}{cut fr:Bool}{z:SE}(h:J Cx (ay P ν) R φ V.g V.l E σ)(hk:V.l[k]?=aa (.row s af cut fr z)):
 ∃R',lj (ay P ν) (ay P ν) R φ V.l σ R' φ (V.l.set k (.row s ab cut fr z)) σ (λ_=>False)/\J Cx (ay P ν) R' φ V.g (V.l.set k (.row s ab cut fr z)) E σ:=by
 have⟨cw,es,he,bH,Dh⟩:=h.obj k _ hk;have fp:=fa hk;have bN:(V.l.set k (.row s ab cut fr z))[k]?=aa (.row s ab cut fr z):=bc;have bA:∀j,j≠k->(V.l.set k (.row s ab cut fr z))[j]?=V.l[j]? :=λj hj=>aAA (λhc=>hj hc.symm)
 have ahW:∀R',jg R σ R' σ->lj (ay P ν) (ay P ν) R φ V.l σ R' φ (V.l.set k (.row s ab cut fr z)) σ (λ_=>False):=λR' hg=>by
  refine .mk' (λ_ _ h=>h) hg (λj cs hj=>?_) (λj kt es hj=>?_) (λj s' st zE dG z' hj _=>?_) (λj c st snap hj=>?_)
  all_goals grind
 rcases Dh with⟨h1,h2⟩|⟨id,cs,aE,mn,h1,h2,h3,h4,h5,h6,h7⟩
 .have hs:=ahW R (jg.refl h.fits);refine⟨R,hs,{h with slot:=λd t pv hg=>(h.slot d t pv hg).step hs pv.a_,obj:=λj o hj=>?_,lt:=λj id hj=>by simpa using h.lt j id hj}⟩;by_cases cj:j=k
  .subst cj;rw[bN]at hj;cases hj;exact⟨cw,es,he,bH,.inl ⟨h1,h2⟩⟩
  .rw[bA j cj]at hj;exact(h.obj j o hj).step hs rfl (λ_ _=>⟨rfl,rfl⟩) o.a_
 .let R':Rs:=λi=>if i=id then aa (es.length*s)else R i
  have Ib:R id=ah:=bc
  have hg:jg R σ R' σ:=by
   refine⟨λi m hm=>⟨m,?_,ayL _⟩,λi m bK lP tT hm aT=>⟨bK,lP,aT,ayL _,λ_ _=>rfl⟩,λi m bK lP tT hm aT=>?_⟩
   .grind
   .simp only[R']at hm;split at hm
    .grind
    .exact h.fits i m bK lP tT hm aT
  have hs:=ahW R' hg;refine⟨R',hs,{h with slot:=λd t pv Te=>(h.slot d t pv Te).step hs pv.a_,obj:=λj o hj=>?_,lt:=λj id hj=>by simpa using h.lt j id hj,qS:=λi m hm=>?_,fits:=hg.fits}⟩
  .by_cases cj:j=k
   .subst cj;rw[bN]at hj;cases hj;exact⟨cw,es,he,bH,.inr ⟨id,cs,aE,mn,h1,h2,h3,h4,by grind,h6,λj x d hx hd=>(h7 j x d hx hd).mono hg⟩⟩
   .rw[bA j cj]at hj;refine(h.obj j o hj).step hs rfl (λi hi=>⟨rfl,?_⟩) o.a_;have:i≠id:=λhc=>cj (h.inj j k id bc h1)
    grind
  .simp only[R']at hm;split at hm
   .rename_i hc;subst hc;exact(h.lt _ _ h1).2
   .exact h.qS i m hm
def Ur{x:IV}{k s:Nat}{cut fr:Bool}{z:SE}(h:J Cx (ay P ν) R φ Γ L E σ)(hk:L[k]?=aa (.row s ab cut fr z))(hx:c9 (ay P ν) R φ L σ x (.sr k)):
 ∃y,z.den P ν=aa y/\bx fr R σ x y/\ao y=ab:=by
 have⟨cw,es,he,bH,Dh⟩:=h.obj k _ hk;have⟨s',dM,zE,dG,z',aW,h1,h2,Km⟩:=hx;rw[hk]at h1;cases h1;rw[he]at h2;cases h2;refine⟨_,he,?_,rfl⟩;rcases Km with⟨h3,h4,h5⟩|⟨id,cs,aE,mn,cap,h3,h4,rfl,h5,h6,h7⟩
 .have:=azb h4;subst this;rcases h5 with rfl|rfl
  .exact .nil s cw
  .exact .emp s cw
 .rcases Dh with⟨h8,_⟩|⟨bz,bK,lP,tT,h8,h9,h10,TQ,h12,h13,h14⟩
  .grind
  .rw[h3]at h8;cases h8;rw[h4]at h9;cases h9;refine .sl id (0*s) (es.length- 0) cap aE s (es.length*s) cs aE mn es bc h4 h10 (ayL _) cw rfl aw TQ bH λi e j c d he hd hc=>?_;refine h14 (i*s+j) c d bc (LA bH he hd)
def jM(P:Program)(ν:List IV)(R:Rs)(φ:Ph)(V:SS)(σ:St)(R':Rs)(V':SS):Prop:=
 V'.g=V.g/\V'.n=V.n/\V'.ln=V.ln/\lj (ay P ν) (ay P ν) R φ V.l σ R' φ V'.l σ (λ_=>False)
def lj.trans{α:Type}{ev:α->Option IV}{R1 R2 R3:Rs}{ew Di φ3:Ph}{L1 L2 L3:List (LO α)}{av cO mh:St}(h:lj ev ev R1 ew L1 av R2 Di L2 cO (λ_=>False))(k:lj ev ev R2 Di L2 cO R3 φ3 L3 mh (λ_=>False)):
 lj ev ev R1 ew L1 av R3 φ3 L3 mh (λ_=>False):=by
 refine⟨λ_ _ h=>h,⟨λid m hm=>?_,λid m cs aE mn hm aT=>?_,k.grow.fits⟩,λj cs hj=>?_,λj kt es hj=>?_,λj s st cut fr z hj hb=>?_,λj c st snap hj=>?_⟩
 .have⟨m1,h1,h2⟩:=h.grow.le id m hm;have⟨m2,h3,h4⟩:=k.grow.le id m1 h1
  grind
 .have⟨zY,Gr,h1,h2,h3⟩:=h.grow.vz id m cs aE mn hm aT;have⟨m1,h4,h5⟩:=h.grow.le id m hm;have⟨cs2,xO,h6,h7,h8⟩:=k.grow.vz id m1 zY Gr mn h4 h1
  grind
 .have⟨⟨bK,h1⟩,h2⟩:=h.var j cs hj;have⟨h3,h4⟩:=k.var j bK h1
  grind
 .have⟨⟨aW,h1⟩,h2⟩:=h.map j kt es hj;have⟨h3,h4⟩:=k.map j kt aW h1
  grind
 .have⟨⟨pA,zZ,z1,h1,dH⟩,h2,h3⟩:=h.row j _ _ _ _ _ hj hb;have⟨⟨st2,fr2,z2,h4,h4'⟩,h5,h6⟩:=k.row j _ _ _ _ _ h1 hb
  grind
 .have⟨⟨c1,pA,axT,h1⟩,h2⟩:=h.lp j c st snap hj;have⟨h3,h4⟩:=k.lp j _ _ _ h1
  grind
theorem jM.refl{V:SS}(h:J Cx (ay P ν) R φ V.g V.l E σ):jM P ν R φ V σ R V:=
 ⟨rfl,rfl,rfl,.mk' (λ_ _ h=>h) (jg.refl h.fits) (λk cs hk=>⟨⟨cs,hk⟩,rfl⟩) (λk kt es hk=>⟨⟨es,hk⟩,rfl⟩) (λk s st cut fr z hk _=>⟨⟨st,hk⟩,rfl,λ_ _=>rfl⟩) (λk c st snap hk=>⟨⟨c,st,snap,hk⟩,rfl⟩)⟩
theorem jM.trans{V V1 V2:SS}{R1 R2:Rs}(h:jM P ν R φ V σ R1 V1)(k:jM P ν R1 φ V1 σ R2 V2):jM P ν R φ V σ R2 V2:=
 ⟨k.1.trans h.1,k.2.1.trans h.2.1,k.2.2.1.trans h.2.2.1,h.2.2.2.trans k.2.2.2⟩
def jM.Us{V V1:SS}{R1:Rs}(h:jM P ν R φ V σ R1 V1){x:IV}{c:Cl SE}(hx:c9 (ay P ν) R φ V.l σ x c):c9 (ay P ν) R1 φ V1.l σ x c:=hx.step h.2.2.2 c.a_
def jM.vr{V V1:SS}{R1:Rs}(h:jM P ν R φ V σ R1 V1){x:IV}{c:PV SE}(hx:VR (ay P ν) R φ V.l σ x c):VR (ay P ν) R1 φ V1.l σ x c:=hx.step h.2.2.2 c.a_
def yK{V:SS}(h:J Cx (ay P ν) R φ V.g V.l E σ)(k:Nat):∃R',jM P ν R φ V σ R' (nV k V)/\J Cx (ay P ν) R' φ (nV k V).g (nV k V).l E σ/\
 (∀s st cut fr z,V.l[k]?=aa (.row s st cut fr z)->(nV k V).l[k]?=aa (.row s ab cut fr z)):=by
 unfold nV;split
 .rename_i s cut fr es hk;have⟨R',h1,h2⟩:=afk h hk;refine⟨R',⟨rfl,rfl,rfl,h1⟩,h2,λs' dM zE dG z' c8=>?_⟩;rw[hk]at c8;grind [aay]
 .refine⟨R,.refl h,h,λs st cut fr z hk=>?_⟩;cases st with
  |true=>omega
  |false=>grind
def Ic{V V':SS}{c:Cl SE}{fr:Bool}{z:SE}(h:J Cx (ay P ν) R φ V.g V.l E σ)(hr:KD V c=aa (fr,z,V')):
 ∃R',jM P ν R φ V σ R' V'/\J Cx (ay P ν) R' φ V'.g V'.l E σ/\∀x,c9 (ay P ν) R φ V.l σ x c->∃y,z.den P ν=aa y/\bx fr R' σ x y/\ao y=ab:=by
 cases c with
 |v z'=>
  obtain⟨rfl,rfl,rfl⟩:=hr;refine⟨R,.refl h,h,λx ⟨y,h1,h2,h3⟩=>⟨y,h1,?_,h3⟩⟩;have hg:jg (λ_=>ah) ⟨0,.lf⟩ R σ:=⟨λ_ _ h=>(by cases h),λ_ _ _ _ _ h=>(by cases h),h.fits⟩;exact h2.mono hg
 |w f z'=>
  obtain⟨rfl,rfl,rfl⟩:=hr;exact⟨R,.refl h,h,λx hx=>hx⟩
 |nl b s=>
  obtain⟨rfl,rfl,rfl⟩:=hr;refine⟨R,.refl h,h,λx ⟨h1,h2⟩=>⟨.tree s [],?_,?_,rfl⟩⟩
  .simp[SE.den,h1]
  .subst h2;cases b
   .exact .emp s h1
   .exact .nil s h1
 |sr k=>
  simp only[KD]at hr;split at hr
  .rename_i s st cut dG es hk;obtain⟨rfl,rfl,rfl⟩:=hr;have⟨R',h1,h2,h3⟩:=yK h k;exact⟨R',h1,h2,λx hx=>Ur h2 (h3 _ _ _ _ _ hk) (h1.Us hx)⟩
  grind
 |un|pt|tp|tw|sv|pr|mp|fn|yl=>contradiction
theorem AP:∀{cs:List (Cl SE)} {V V':SS} {R:Rs} {fr:Bool} {zs:List SE},J Cx (ay P ν) R φ V.g V.l E σ->Bp V cs=aa (fr,zs,V')->
 ∃R',jM P ν R φ V σ R' V'/\J Cx (ay P ν) R' φ V'.g V'.l E σ/\zs.length=cs.length/\∀xs,All2 (c9 (ay P ν) R φ V.l σ) xs cs->∃ys,All2 (λ(z:SE) y=>z.den P ν=aa y) zs ys/\All2 (bx fr R' σ) xs ys/\ys.all Ev.ao=ab
 |[],V,V',R,fr,zs,h,hr=>by
  obtain⟨rfl,rfl,rfl⟩:=hr;refine⟨R,.refl h,h,rfl,λxs hx=>⟨[],trivial,?_,rfl⟩⟩;cases xs with
  |nil=>trivial
  |cons=>assumption
 |c::cs,V,V',R,fr,zs,h,hr=>by
  simp only[Bp]at hr;split at hr
  .rename_i f1 z V1 h1;split at hr
   .rename_i f2 zs' V2 h2;obtain⟨rfl,rfl,rfl⟩:=hr;have⟨R1,a1,a2,a3⟩:=Ic h h1;have⟨R2,b1,b2,bl,b3⟩:=AP a2 h2;refine⟨R2,a1.trans b1,b2,by grind,λxs hx=>?_⟩;cases xs with
    |nil=>cases hx
    |cons x xs=>
     have⟨y,c1,c2,c3⟩:=a3 x hx.1;have⟨ys,d1,d2,d3⟩:=b3 xs (hx.2.mono λ_ _ cG=>a1.Us cG);exact⟨y::ys,⟨c1,d1⟩,⟨(c2.mono b1.2.2.2.grow).wide (λh=>by grind),d2.mono λ_ _ cG=>cG.wide (λh=>by grind)⟩,by grind⟩
   grind
  grind
theorem gH:∀{zs:List SE} {ys:List IV},All2 (λ(z:SE) y=>z.den P ν=aa y) zs ys->(ff zs).den P ν=aa (.agg ys)
 |[],[],_=>rfl
 |z::zs,y::ys,h=>by simp[ff,SE.den,h.1,gH h.2]
 |[],_::_,h=>h.elim
 |_::_,[],h=>h.elim
variable{C:Cr}{Q:IV->Prop}{K:List (List IV->Prop)}{V:SS}{d:Nat}{o:Oper}{k:PV SE->SS->aq}
def cD{fr:Bool}{x:IV}{v:Value}(h:bx fr R σ x (.raw v)):x=.raw v:=by cases h<;>rfl
theorem Ut{fr:Bool}:∀{cs ds:List IV} {us:List Value},lx ds=aa us->cs.length=ds.length->(∀(i:Nat) c e,cs[i]?=aa c->ds[i]?=aa e->bx fr R σ c e)->cs=ds
 |[],[],_,_,_,_=>rfl
 |c::cs,e::ds,us,hr,hl,h=>by
  simp only[lx]at hr;split at hr
  .rename_i v;split at hr
   .rename_i vs eB;have h0:=cD (h 0 c (.raw v) rfl rfl);have h1:cs=ds:=Ut eB (by simpa using hl) λi c e h1 h2=>h (i+1) c e (by simpa using h1) (by simpa using h2);rw[h0,h1]
   .cases hr
  .cases hr
 |[],_::_,_,_,hl,_=>by simp at hl
 |_::_,[],_,_,hl,_=>by simp at hl
def Q2{fr:Bool}{x a:IV}{u:Value}(h:bx fr R σ x a)(ha:rH a=aa u):x=a:=by
 cases h with
 |raw v=>rfl
 |agg cs ds hl hh=>
  simp only[rH]at ha;split at ha
  .rename_i vs eB;rw[Ut eB hl hh]
  .cases ha
 |pure x hf hp=>rfl
 |nil|emp|dP|aF|sl=>simp[rH]at ha
def Gs{fr:Bool}{x a:IV}{u:Value}(h:bx fr R σ x a)(ha:lJ a=aa u):x=a:=by
 cases h with
 |dP t x y hh=>
  simp only[lJ]at ha;split at ha
  .rename_i hu;rw[Q2 hh hu]
  .cases ha
 |raw v=>rfl
 |agg cs ds hl hh=>exact Q2 (.agg cs ds hl hh) ha
 |pure x hf hp=>rfl
 |nil|emp|aF|sl=>simp[lJ,rH]at ha
def LB{y:IV}{n:Int}(h:gW y=aa n):∃q,y=.raw (.int q n):=by
 unfold gW at h;split at h
 .cases h;exact⟨_,rfl⟩
 .cases h
def J.Dj(h:J Cx (ay P ν) R φ Γ L E σ):jg (λ_=>ah) ⟨0,.lf⟩ R σ:=⟨λ_ _ h=>(by cases h),λ_ _ _ _ _ h=>(by cases h),h.fits⟩
def dz(Cx:Cs)(P:Program)(C:Cr)(Q:IV->Prop)(K:List (List IV->Prop))(ν:List IV)(E:Nat->Env)(lv:Nat×Nat)(k:PV SE->SS->aq)(res:IV->St->Prop):Prop:=
 ∃x av R1 ew pv V1 μ,res x av/\J Cx (ay P (ν++μ)) R1 ew V1.g V1.l E av/\VR (ay P (ν++μ)) R1 ew V1.l av x pv/\(ν++μ).length=V1.n/\V1.ln=lv/\(k pv V1).sat P C Q K (ν++μ)
def dz.here{x:IV}{av:St}{pv:PV SE}{V1:SS}{lv:Nat×Nat}{res:IV->St->Prop}(h1:res x av)(h2:J Cx (ay P ν) R φ V1.g V1.l E av)(h3:VR (ay P ν) R φ V1.l av x pv)(h4:ν.length=V1.n)(h5:V1.ln=lv)
 (h6:(k pv V1).sat P C Q K ν):dz Cx P C Q K ν E lv k res:=
 ⟨x,av,R,φ,pv,V1,[],h1,by rw[ay2];exact h2,by rw[ay2];exact h3,by rw[ay2];exact h4,h5,by rw[ay2];exact h6⟩
theorem dz.at{x:IV}{av:St}{c:Cl SE}{V1:SS}{lv:Nat×Nat}{res:IV->St->Prop}(h6:(k (.one c) V1).sat P C Q K ν)(h2:J Cx (ay P ν) R φ V1.g V1.l E av)(h4:ν.length=V1.n)(h5:V1.ln=lv)(h3:c9 (ay P ν) R φ V1.l av x c)(h1:res x av):
 dz Cx P C Q K ν E lv k res:=.here (pv:=.one c) h1 h2 h3 h4 h5 h6
abbrev bT(P:Program)(E:Nat->Env)(d:Nat)(o:Oper)(σ:St):IV->St->Prop:=λx av=>aA P 0 (aD (E d)) o σ=aa (.val x av)
variable(hJ:J Cx (ay P ν) R φ V.g V.l E σ)(hn:ν.length=V.n)
include hJ hn
theorem acp{x:Operand}(ho:o.op=.move x\/o.op=.assign x)(hs:(gN P d o V k).sat P C Q K ν):dz Cx P C Q K ν E V.ln k (bT P E d o σ):=by
 have bu:(k (bP P d V o.type x) V).sat P C Q K ν:=by
  rcases ho with ho|ho<;>(unfold gN at hs;rw[ho]at hs;exact hs)
 refine .here (x:=aD (E d) x) (av:=σ) ?_ hJ (bw hJ d o.type x) hn rfl bu;rcases ho with ho|ho<;>simp[bT,aA,ho,ret]
theorem Uu{x:IV}{t:Bool}(hx:VR (ay P ν) R φ V.l σ x (.one (.v (.b t)))):x=.raw (.bool t):=by
 obtain⟨y,h1,h2,_⟩:=hx;simp only[ay,SE.den,ayO]at h1;subst h1;exact cD h2
theorem afl{c a b:Operand}(ho:o.op=.pick c a b)(hs:(gN P d o V k).sat P C Q K ν):dz Cx P C Q K ν E V.ln k (bT P E d o σ):=by
 unfold gN at hs;rw[ho]at hs;simp only at hs;have hc:=bw hJ d 0 c;split at hs
 .rename_i hh;rw[hh]at hc;have:=Uu hJ hn hc;refine .here (x:=aD (E d) a) (av:=σ) ?_ hJ (bw hJ d o.type a) hn rfl hs;simp[bT,aA,ho,this,ret]
 .rename_i hh;rw[hh]at hc;have:=Uu hJ hn hc;refine .here (x:=aD (E d) b) (av:=σ) ?_ hJ (bw hJ d o.type b) hn rfl hs;simp[bT,aA,ho,this,ret]
 .exact hs.elim
theorem Q3{cs:List (Cl SE)}{cW:List IV}(hc:All2 (c9 (ay P ν) R φ V.l σ) cW cs):
 J Cx (ay P ν) R (bU φ V.l.length σ.n) V.g (V.l++[.var cs]) E (σ.add (.cells cW 0 0))/\VR (ay P ν) R (bU φ V.l.length σ.n) (V.l++[.var cs]) (σ.add (.cells cW 0 0)) (.ptr σ.n 0 0 cW.length) (.one (.pt V.l.length 0 cs.length)):=by
 have hs:=EJ hJ (.cells cW 0 0) (.var cs);refine⟨hJ.zB (.cells cW 0 0) (.var cs) ⟨σ.n,cW,by simp[bU],hJ.rP,by simp,hc.mono λ_ _ cG=>cG.step hs (Cl.a_ _)⟩,⟨σ.n,cs,by simp[bU],by simp,by rw[hc.len]⟩⟩
theorem acq{t:TypeId}(ho:o.op=.alloc t)(hs:(gN P d o V k).sat P C Q K ν):dz Cx P C Q K ν E V.ln k (bT P E d o σ):=by
 unfold gN at hs;rw[ho]at hs;simp only at hs;split at hs
 .exact hs.elim
 .rename_i hz;cases wH:db P t with
  |none=>rw[wH]at hz;simp at hz
  |some z=>
   have hc:=rZ (ν:=ν) (R:=R) (φ:=φ) (L:=V.l) (σ:=σ) wH;obtain⟨h1,h2⟩:=Q3 hJ hn hc;refine .here (V1:={V with l:=V.l++[.var (zeroCells P t)]}) ?_ h1 h2 hn rfl hs;simp[bT,aA,ho,wH,ret]
theorem ajF{t:TypeId}{x:Operand}(ho:o.op=.box t x)(hs:(gN P d o V k).sat P C Q K ν):dz Cx P C Q K ν E V.ln k (bT P E d o σ):=by
 unfold gN at hs;rw[ho]at hs;simp only at hs;split at hs
 .exact hs.elim
 .rename_i hu;have Kj:xC (fE (bP P d V t x))=ab:=by simpa using hu
  have hc:=Dg (bw hJ d t x) Kj;obtain⟨h1,h2⟩:=Q3 hJ hn hc;refine .here (V1:={V with l:=V.l++[.var (fE (bP P d V t x))]}) ?_ h1 h2 hn rfl hs;have:=wG hc Kj;simp only[bT,aA,ho,ret,this,if_true]
theorem Uv{x:Operand}(ho:o.op=.nilCheck x)(hs:(gN P d o V k).sat P C Q K ν):dz Cx P C Q K ν E V.ln k (bT P E d o σ):=by
 unfold gN at hs;rw[ho]at hs;simp only at hs;have hc:=bw hJ d 0 x;split at hs
 .rename_i hh;rw[hh]at hc;refine .here (x:=aD (E d) x) (av:=σ) ?_ hJ hc hn rfl hs;obtain⟨id,cs,_,_,h3⟩:=hc;simp[bT,aA,ho,h3,ret]
 .rename_i hh;exact hs.elim
 .rename_i hh;rw[hh]at hc;refine .here (x:=aD (E d) x) (av:=σ) ?_ hJ hc hn rfl hs;obtain⟨ds,h3,_⟩:=hc;simp[bT,aA,ho,h3,ret]
 .exact hs.elim
end
section
variable{Cx:Cs}
variable{P:Program}{N:Nat}{σ au:St}{R R':Rs}{φ aV:Ph}{E:Nat->Env}{ν:List IV}
variable{C:Cr}{Q:IV->Prop}{K:List (List IV->Prop)}{V:SS}{d:Nat}{o:Oper}{k:PV SE->SS->aq}
def aaz{t:TypeId}(h:isAgg P t=ab):tx P t=aa ab:=by simpa[isAgg]using h
def W_{t:TypeId}{b:Bool}(h:isAgg P t=af)(hb:tx P t=aa b):tx P t=aa af:=by
 cases b
 .exact hb
 .simp[isAgg,hb]at h
def ER{t:TypeId}{s off:Nat}{cs:List IV}(hs:aX P t=aa s)(hg:tx P t=aa ab)(hle:off+s<=cs.length):partOf P t cs off=aa (.agg ((cs.drop off).take s)):=by
 simp[partOf,hs,hg,hle]
def O0{t:TypeId}{off:Nat}{cs:List IV}(hs:aX P t=aa 1)(hg:tx P t=aa af):partOf P t cs off=cs[off]? :=by
 simp[partOf,hs,hg]
def vi{L:List (LO SE)}{t:TypeId}{s off:Nat}{b:Bool}{cW:List IV}{cs:List (Cl SE)}{pv:PV SE}(hs:aX P t=aa s)(hb:tx P t=aa b)(hc:All2 (c9 (ay P ν) R φ L σ) cW cs)(hle:off+s<=cs.length)
 (s_:if isAgg P t=ab then pv=.ag ((cs.drop off).take s)else∃c,(cs.drop off).take s=[c]/\pv=.one c):∃x,partOf P t cW off=aa x/\VR (ay P ν) R φ L σ x pv:=by
 have hl:=hc.len;split at s_
 .rename_i ha;subst s_;exact⟨_,ER hs (aaz ha) aj,_,rfl,(hc.drop off).take s⟩
 .rename_i ha;obtain⟨c,h1,rfl⟩:=s_
  have hlen:s=1:=by
   have:=congrArg List.length h1;simp at this;omega
  subst hlen
  have h2:cs[off]?=aa c:=by
   have:((cs.drop off).take 1)[0]?=aa c:=by rw[h1];rfl
   simpa using this
  obtain⟨x,hx,hr⟩:=hc.DU h2;exact⟨x,by rw[O0 hs (W_ (by simpa using ha) hb),hx],hr⟩
def Na{t:TypeId}{s:Nat}{cs:List (Cl SE)}(hs:((if isAgg P t=ab then(if Nat.beq cs.length s=ab then k (.ag cs) V else .fail 2)else match cs with|[c]=>k (.one c) V|_=>.fail 3):aq).sat P C Q K ν):
 ∃pv,(k pv V).sat P C Q K ν/\if isAgg P t=ab then pv=.ag cs else∃c,cs=[c]/\pv=.one c:=by
 split at hs
 .rename_i ha;split at hs
  .exact⟨_,hs,by rw[if_pos ha]⟩
  .exact hs.elim
 .rename_i ha;split at hs
  .exact⟨_,hs,by rw[if_neg ha];exact⟨_,rfl,rfl⟩⟩
  .exact hs.elim
variable(hJ:J Cx (ay P ν) R φ V.g V.l E σ)(hn:ν.length=V.n)
include hJ hn
theorem afm{t:TypeId}{pa:PV SE}{x:IV}(hx:VR (ay P ν) R φ V.l σ x pa)(hs:(aac P t pa V k).sat P C Q K ν):
 dz Cx P C Q K ν E V.ln k (λv av=>av=σ/\(∀d a,aD (E d) a=x->∀o:Oper,o.op=.load t a->aA P 0 (aD (E d)) o σ=aa (.val v σ))):=by
 unfold aac at hs;split at hs
 .exact hs.elim
 .exact hs.elim
 .rename_i s b bo xP;simp only at hs;split at hs
  .rename_i j off ext;obtain⟨id,tN,h1,h2,rfl⟩:=hx;split at hs
   .rename_i cs hj;rw[hj]at h2;cases h2;split at hs
    .rename_i hle;simp only[ayI,aAb]at hle;obtain⟨pv,hk,s_⟩:=Na hs;obtain⟨bz,cW,h3,h4,h5,h6⟩:=hJ.obj j _ hj;rw[h1]at h3;cases h3;obtain⟨v,hv,hr⟩:=vi bo xP h6 hle.2 s_;refine .here (x:=v) (av:=σ) ⟨rfl,λd a ha o ho=>?_⟩ hJ hr hn rfl hk;simp[aA,ho,ha,bo,h5,hle.1,hv,ret]
    .exact hs.elim
   .exact hs.elim
  .rename_i cs;obtain⟨ds,rfl,h1⟩:=hx;split at hs
   .rename_i hle;rw[aAb]at hle;obtain⟨pv,hk,s_⟩:=Na hs;have hc:All2 (c9 (ay P ν) R φ V.l σ) ds (cs.map .v):=h1.map (f:=Cl.v) λ_ _ cG=>cG;obtain⟨v,hv,hr⟩:=vi (off:=0) bo xP hc (by simpa using hle) s_;refine .here (x:=v) (av:=σ) ⟨rfl,λd a ha o ho=>?_⟩ hJ hr hn rfl hk;simp[aA,ho,ha,hv,ret]
   .exact hs.elim
  .rename_i fr cs;split at hs
   .rename_i hle;rw[aAb]at hle;obtain⟨pv,hk,s_⟩:=Na hs;obtain⟨bf,⟨hf,ds,rfl,h1⟩|⟨id,off,ep,m,cW,aE,mn,h1,h2,h3,h4,rfl,h6,h7,h8⟩⟩:=hx
    .have hc:All2 (c9 (ay P ν) R φ V.l σ) ds (cs.map (.w fr)):=by
      refine(h1.AJ (r':=λd c=>c9 (ay P ν) R φ V.l σ d (.w fr c)) λd c hc ⟨y,y9,vS⟩=>?_).map (f:=Cl.w fr) λ_ _ cG=>cG;obtain⟨y',KE,hy4⟩:=bf c hc;rw[y9]at KE;cases KE;exact⟨y,y9,hf▸vS.mono hJ.Dj,hy4⟩
     obtain⟨v,hv,hr⟩:=vi (off:=0) bo xP hc (by simpa using hle) s_;refine .here (x:=v) (av:=σ) ⟨rfl,λd a ha o ho=>?_⟩ hJ hr hn rfl hk;simp[aA,ho,ha,hv,ret]
    .have hc:All2 (c9 (ay P ν) R φ V.l σ) ((cW.drop off).take cs.length) (cs.map (.w fr)):=by
      refine .mk (by simp;omega) λi a b ha hb=>?_;rw[ay1]at hb;obtain⟨c,hc,rfl⟩:=ayR.1 hb;have hi:=(ayH.1 hc).1;rw[azn,if_pos hi,aAp]at ha;obtain⟨y,y9,vS⟩:=h8 i a c hc ha;obtain⟨y',KE,hy4⟩:=bf c (ayX hc);have afn:c.den P ν=aa y:=y9;have alZ:c.den P ν=aa y':=KE;rw[afn]at alZ;cases alZ;exact⟨y,y9,vS,hy4⟩
     obtain⟨v,hv,hr⟩:=vi (off:=0) bo xP hc (by simpa using hle) s_
     have My:partOf P t cW off=aa v:=by
      have hlen:s<=((cW.drop off).take cs.length).length:=by simp;omega
      cases b with
      |true=>
       rw[ER bo xP (by simpa using hlen)]at hv;rw[ER bo xP aj,<-hv];simp[aDD,hle]
      |false=>
       have h1s:s=1:=by
        unfold partOf at hv;rw[xP,bo]at hv;simp only at hv;split at hv
        .assumption
        .cases hv
       subst h1s;rw[O0 bo xP]at hv⊢;rw[azn,if_pos aj,aAp]at hv;exact hv
     refine .here (x:=v) (av:=σ) ⟨rfl,λd a ha o ho=>?_⟩ hJ hr hn rfl hk;simp[aA,ho,ha,bo,h2,hle,h3,h4,My,ret]
   .exact hs.elim
  .rename_i j i off ext;split at hs
   .rename_i sz st cut fr es hj;split at hs
    .rename_i hle;rw[aAb]at hle;obtain⟨pv,hk,s_⟩:=Na hs;obtain⟨s',dM,zE,dG,z',aW,y,n,id,cs,aE,mn,h1,h2,h3,h4,h5,h6,h7,h8,rfl⟩:=hx;rw[hj]at h1;cases h1;obtain⟨cw,mI,g1,g2,g3⟩:=hJ.obj j _ hj;have xh:es.den P ν=aa (.tree sz aW):=h2;have r7:es.den P ν=aa (.tree sz mI):=g1;rw[xh]at r7;cases r7;rcases g3 with⟨g3,_⟩|⟨bz,bK,lP,tT,g3,g4,g5,g6,g7,g8,g9⟩
     .rw[h7]at g3;cases g3
     .rw[h7]at g3;cases g3;rw[h8]at g4;cases g4;have he:aW[n]?=aa aW[n]:=ayG h5;have py:=g2 _ (ayJ h5)
      have auO:cb sz (.tree sz aW) y=aa aW[n]:=by
       have hy:gW y=aa (n:Int):=by
        unfold nat? at h4;split at h4
        .split at h4
         .rename_i hq;cases h4;simp[gW];omega
         .cases h4
        .cases h4
       simp[cb,hy,he,py]
      have Kn:n*sz+sz<=aW.length*sz:=by
       have:(n+1)*sz<=aW.length*sz:=azd sz h5;rw[azD]at this;omega
      have hc:All2 (c9 (ay P ν) R φ V.l σ) ((cs.drop (n*sz)).take sz) ((azT sz).map λq=>.w fr (.lk sz es i q)):=by
       refine .mk (by simp;omega) λq a b ha hb=>?_;rw[ay1]at hb;obtain⟨q',hq,rfl⟩:=ayR.1 hb;have B_:q<sz:=by have:=(ayH.1 hq).1;simpa using this
       have:q'=q:=by rw[aAC B_]at hq;cases hq;rfl
       subst this;rw[azn,if_pos B_,aAp]at ha;have hd:(cellsOf aW[n])[q']?=aa (cellsOf aW[n])[q']:=ayG aj;have hr:=g9 (n*sz+q') a _ ha (LA g2 he hd)
       have LC:Ev.ao a=ab:=by
        rw[ayY]at g8;exact g8 a (ayX ha)
       have bf:=hr.ajE LC;refine⟨_,?_,hr,bf⟩;have KF:i.den P ν=aa y:=h3;simp[ay,SE.den,xh,KF,auO,hd,wF,bf]
      obtain⟨v,hv,hr⟩:=vi (off:=off) bo xP hc (by simp;omega) s_
      have My:partOf P t cs (n*sz+off)=aa v:=by
       cases b with
       |true=>
        rw[ER bo xP (by simp;omega)]at hv;rw[ER bo xP aj,<-hv]
        congr 2
        rw[List.drop_take,List.drop_drop,aDD]
        congr 1;omega
       |false=>
        have h1s:s=1:=by
         unfold partOf at hv;rw[xP,bo]at hv;simp only at hv;split at hv
         .assumption
         .cases hv
        subst h1s;rw[O0 bo xP]at hv⊢;rw[azn,if_pos aj,aAp]at hv;exact hv
      refine .here (x:=v) (av:=σ) ⟨rfl,λd a ha o ho=>?_⟩ hJ hr hn rfl hk;simp[aA,ho,ha,bo,h8,hle,g5,My,ret]
    .exact hs.elim
   .exact hs.elim
  .exact hs.elim
theorem afo{t:TypeId}{a:Operand}(ho:o.op=.load t a)(hs:(gN P d o V k).sat P C Q K ν):dz Cx P C Q K ν E V.ln k (bT P E d o σ):=by
 unfold gN at hs;rw[ho]at hs;simp only at hs;obtain⟨x,av,R1,ew,pv,V1,μ,h0,h2⟩:=afm hJ hn (bw hJ d 0 a) hs;obtain⟨e0,h1⟩:=h0;subst e0;exact⟨x,av,R1,ew,pv,V1,μ,h1 d a rfl o ho,h2⟩
end
section
variable{Cx:Cs}
variable{P:Program}{N:Nat}{σ au:St}{R R':Rs}{φ aV:Ph}{E:Nat->Env}{ν:List IV}
variable{C:Cr}{Q:IV->Prop}{K:List (List IV->Prop)}{V:SS}{d:Nat}{o:Oper}{k:PV SE->SS->aq}
def Q4{r:IV->Cl SE->Prop}{cW xs:List IV}{cs new:List (Cl SE)}(off:Nat)(h:All2 r cW cs)(k:All2 r xs new):All2 r (eV cW off xs) (EK cs off new):=by
 unfold eV EK;rw[k.len];exact((h.take off).app k).app (h.drop _)
def J.al0{L:List (LO SE)}{Γ:Gm SE}(h:J Cx (ay P ν) R φ Γ L E σ){k id s aE mn:Nat}{cut fr dG:Bool}{z z':SE}{cs bK es aW:List IV}(hid:φ k=aa id)(hk:L[k]?=aa (.row s af cut fr z))(aT:σ.at id=aa (.cells cs aE mn))
 (hl:bK.length=cs.length)(hz:z.den P ν=aa (.tree s es))(ta:z'.den P ν=aa (.tree s aW))(hle:aW.length=es.length)(bH:∀e∈aW,(cellsOf e).length=s)(bf:bK.all Ev.ao=ab)
 (hc:∀(j:Nat) x d,bK[j]?=aa x->(flat aW)[j]?=aa d->bx dG R σ x d):
 J Cx (ay P ν) R φ Γ (L.set k (.row s af cut dG z')) E (σ.put id (.cells bK aE aE)):=by
 have fp:=fa hk;have bA:∀j,j≠k->(L.set k (.row s af cut dG z'))[j]?=L[j]? :=λj hj=>aAA (λhc=>hj hc.symm);have bN:(L.set k (.row s af cut dG z'))[k]?=aa (.row s af cut dG z'):=by simp[fp]
 have ZX:∀j bz,j≠k->φ j=aa bz->bz≠id:=λj bz hj oT hc=>hj (h.inj j k id (by rw[<-hc];exact oT) hid);obtain⟨cw,mI,g1,g2,g3⟩:=h.obj k _ hk
 have Ib:R id=ah/\es.length*s<=cs.length/\mn<=aE:=by
  rcases g3 with⟨g3,_⟩|⟨bz,cs2,xO,KG,g3,g4,g5,g6,g7,_⟩
  .rw[hid]at g3;cases g3
  .rw[hid]at g3;cases g3;rw[aT]at g4;cases g4;have r7:z.den P ν=aa (.tree s mI):=g1;rw[hz]at r7;cases r7;exact⟨by simpa using g7,g6,g5⟩
 have sG:jg R σ R (σ.put id (.cells bK aE aE)):=by
  refine⟨λ_ m hm=>⟨m,hm,ayL _⟩,λbz m zY Gr Uw hm uI=>?_,λbz m zY Gr Uw hm uI=>?_⟩
  .have:id≠bz:=λhc=>by rw[<-hc,Ib.1]at hm;cases hm
   exact⟨zY,Gr,by rw[St.dt,if_neg this];exact uI,ayL _,λ_ _=>rfl⟩
  .have:id≠bz:=λhc=>by rw[<-hc,Ib.1]at hm;cases hm
   rw[St.dt,if_neg this]at uI;exact h.fits bz m zY Gr Uw hm uI
 have hs:lj (ay P ν) (ay P ν) R φ L σ R φ (L.set k (.row s af cut dG z')) (σ.put id (.cells bK aE aE)) (λ_=>False):=by
  refine⟨λ_ _ h=>h,sG,λj zY hj=>?_,λj kt jC hj=>?_,λj s1 pA zI zZ z1 hj _=>?_,λj c pA snap hj=>?_⟩
  .by_cases cj:j=k
   .subst cj;rw[hk]at hj;cases hj
   .exact⟨⟨zY,by rw[bA j cj];exact hj⟩,rfl⟩
  .by_cases cj:j=k
   .subst cj;rw[hk]at hj;cases hj
   .exact⟨⟨jC,by rw[bA j cj];exact hj⟩,rfl⟩
  .by_cases cj:j=k
   .subst cj;rw[hk]at hj;cases hj;refine⟨⟨af,dG,z',bN,λjC nq=>⟨aW,ta,?_⟩⟩,rfl,λid1 zY Gr Uw aaA uI=>?_⟩
    .have al1:z.den P ν=aa (.tree s jC):=nq;rw[hz]at al1;cases al1;exact hle
    .rw[hid]at aaA;cases aaA;rw[aT]at uI;cases uI;exact⟨bK,aE,by rw[St.dt,if_pos rfl],hl,λ_=>rfl⟩
   .refine⟨⟨pA,zZ,z1,by rw[bA j cj];exact hj,λjC nq=>⟨jC,nq,rfl⟩⟩,rfl,λid1 zY Gr Uw aaA uI=>⟨zY,Uw,?_,rfl,λh=>h⟩⟩;rw[St.dt,if_neg (λhc=>ZX j id1 cj aaA hc.symm)];exact uI
  .have cj:j≠k:=λhc=>by subst hc;rw[hk]at hj;cases hj
   exact⟨⟨c,pA,snap,by rw[bA j cj];exact hj⟩,rfl⟩
 refine⟨λd t pv hg=>(h.slot d t pv hg).step hs pv.a_,λj o hj=>?_,h.inj,λj bz hj=>by simpa[St.put]using h.lt j bz hj,h.qS,sG.fits,h.wf.set _ _,λbz j9=>?_⟩
 .by_cases cj:j=k
  .subst cj;rw[bN]at hj;cases hj;refine⟨cw,aW,ta,bH,.inr ⟨id,bK,aE,aE,hid,by rw[St.dt,if_pos rfl],ayL _,by rw[hl,hle];exact Ib.2.1,by simpa using Ib.1,bf,λj x d hx hd=>(hc j x d hx hd).mono sG⟩⟩
  .rw[bA j cj]at hj;exact(h.obj j o hj).step hs rfl (λbz j9=>⟨by rw[St.dt,if_neg (λhc=>ZX j bz cj j9 hc.symm)],rfl⟩) o.a_
 .have:=(h.lt _ _ hid).2;have Sn:σ.n<=bz:=j9;rw[St.dt,if_neg aj];exact h.top bz Sn
def afp{s:Nat}{x:IV}:∀{es:List IV} (_:∀e∈es,(cellsOf e).length=s) {n:Nat},n<es.length->(cellsOf x).length=s->flat (es.set n x)=eV (flat es) (n*s) (cellsOf x):=by
 intro es;induction es with
 |nil=>intro _ n hn;simp at hn
 |cons a es ih=>
  intro bH n hn hx;have ha:(cellsOf a).length=s:=bH a aw;unfold eV;cases n with
  |zero=>
   simp only[List.set_cons_zero,flat,aAa,aB1,List.take_zero,List.nil_append,aAn];rw[hx,List.drop_append_of_le_length aj,azf (by omega:(cellsOf a).length<=s)];simp
  |succ n=>
   have:=ih (λe he=>bH e (by simp[he])) (n:=n) (by simpa using hn) hx;simp only[List.set_cons_succ];unfold flat at this⊢;rw[aAa,this];unfold eV
   rw[aAa,hx,azD,aEb,List.take_append,List.drop_append,ha,
    List.take_of_length_le (by omega:(cellsOf a).length<=n*s+s),azf (by omega:(cellsOf a).length<=n*s+s+s),
    show n*s+s- s=n*s by omega,show n*s+s+s- s=n*s+s by omega]
   simp
def sR{α:Type}{cs new:List IV}{off j:Nat}(h:off+new.length<=cs.length):(eV cs off new)[j]?=if off<=j/\j<off+new.length then new[j- off]? else cs[j]? :=by
 unfold eV;have h1:(cs.take off).length=off:=by simp;omega
 rw[ay3];by_cases ha:j<off
 .rw[ayZ aj,azn,if_pos ha,if_neg aj]
 .rw[aze aj,h1];by_cases hb:j<off+new.length
  .rw[ayZ aj,if_pos ⟨by omega,hb⟩]
  .rw[aze aj,if_neg aj,aAp]
   congr 1;omega
def Au{cs new:List IV}{off:Nat}(h:off+new.length<=cs.length):(eV cs off new).length=cs.length:=by
 unfold eV;simp;omega
def Gt{cs new:List IV}{off:Nat}{f:IV->Bool}(h1:cs.all f=ab)(h2:new.all f=ab):(eV cs off new).all f=ab:=by
 rw[ayY]at h1 h2⊢;intro x hx;unfold eV at hx;rcases ayS.1 hx with hx|hx
 .rcases ayS.1 hx with hx|hx
  .exact h1 x (azM hx)
  .exact h2 x hx
 .exact h1 x (aAQ hx)
variable(hJ:J Cx (ay P ν) R φ V.g V.l E σ)(hn:ν.length=V.n)
include hJ hn
theorem aaB{t:TypeId}{a x:Operand}{j off ext:Nat}{cs:List (Cl SE)}(ho:o.op=.store t a x)(ha:bP P d V 0 a=.one (.pt j off ext))(hj:V.l[j]?=aa (.var cs))
 (h1:xC (fE (bP P d V t x))=ab)(h2:(fE (bP P d V t x)).length<=ext)(h3:off+(fE (bP P d V t x)).length<=cs.length)(h4:aX P t=aa (fE (bP P d V t x)).length)
 (hs:(k (.one .un) (V.setObj j (.var (EK cs off (fE (bP P d V t x)))))).sat P C Q K ν):dz Cx P C Q K ν E V.ln k (bT P E d o σ):=by
 have o9:=bw hJ d 0 a;rw[ha]at o9;obtain⟨id,tN,g1,g2,g3⟩:=o9;obtain⟨bz,cW,g4,g5,g6,g7⟩:=hJ.obj j _ hj;rw[g1]at g4;cases g4;have hc:=Dg (bw hJ d t x) h1;have jy:=hc.len;have zT:=g7.len
 obtain⟨gy,bE⟩:=hJ.tU (R':=R) (bad:=λ_=>False) (kK:=.var (EK cs off (fE (bP P d V t x)))) (fB:=.cells (eV cW off (cellsOf (aD (E d) x))) 0 0) g1 hj (λ_ _=>rfl)
  (λm hm=>by rw[g5]at hm;cases hm) (λm _ _ _ hm=>by rw[g5]at hm;cases hm) (λm _ _ _ hm=>by rw[g5]at hm;cases hm)
  (λ_ _=>⟨_,rfl⟩) (λ_ _ h=>by cases h) (λ_ _ _ _ _ h=>by cases h) (λ_ _ pv _=>pv.a_) (λ_ o _ _=>o.a_)
  (λgy=>⟨id,_,g1,g5,by rw[St.dt,if_pos rfl],(Q4 off g7 hc).mono λ_ _ cG=>cG.step gy (Cl.a_ _)⟩)
 refine .here (x:=.undef) (V1:=V.setObj j _) (pv:=.one .un) ?_ bE trivial hn rfl hs;have jH:=wG hc h1;simp only[bT,aA,ho,g3,h4,g6,jy,ret];rw[if_pos ⟨azz _,trivial,h2,trivial,by omega,jH⟩]
end
section
variable{Cx:Cs}
variable{P:Program}{N:Nat}{σ au:St}{R R':Rs}{φ aV:Ph}{E:Nat->Env}{ν:List IV}
variable{C:Cr}{Q:IV->Prop}{K:List (List IV->Prop)}{V:SS}{d:Nat}{o:Oper}{k:PV SE->SS->aq}
def ajG{y:IV}{n:Nat}(h:nat? y=aa n):∃q,y=.raw (.int q n):=by
 unfold nat? at h
 repeat' split at h
 all_goals first|(rename_i q m hq;cases h;exact⟨q,by simp;omega⟩)|cases h
def KH{s:TypeId}{f off sz:Nat}(h:fieldAt P s f=aa (off,sz)):∃fields fd,P.underlying s=aa (.struct fields)/\fields[f]?=aa fd/\aX P fd.type=aa sz/\fd.offset=off:=by
 grind [fieldAt]
theorem Q5{α:Type}{f:α->α->Bool}(h:∀a b,f a b=ab->a=b):∀{as bs:List α},kN f as bs=ab->as=bs
 |[],[],_=>rfl
 |a::as,b::bs,hh=>by
  simp only[kN,ayI]at hh;rw[h a b hh.1,Q5 h hh.2]
 |[],_::_,hh=>by cases hh
 |_::_,[],hh=>by cases hh
def SE.eq_eq:∀{a b:SE},a.eq b=ab->a=b:=by
 intro a;induction a with
 |var x=>intro c h;cases c<;>simp_all[SE.eq]
 |i x=>intro c h;cases c<;>simp_all[SE.eq]
 |k q x=>intro c h;cases c<;>simp_all[SE.eq,alO]
 |b x=>intro c h;cases c<;>simp_all[SE.eq]
 |s x=>intro c h;cases c<;>first|(simp[SE.eq]at h;done)|(rw[Q5 (λa b h=>by simpa using h) h])
 |an=>intro c h;cases c<;>simp_all[SE.eq]
 |raw v=>intro c h;cases c<;>simp[SE.eq]at h
 |ok e ih=>intro c h;cases c<;>first|(simp[SE.eq]at h;done)|(rw[ih h])
 |len e ih=>intro c h;cases c<;>first|(simp[SE.eq]at h;done)|(rw[ih h])
 |uL e ih=>intro c h;cases c<;>first|(simp[SE.eq]at h;done)|(rw[ih h])
 |tp e ih=>intro c h;cases c<;>first|(simp[SE.eq]at h;done)|(rw[ih h])
 |rw e ih=>intro c h;cases c<;>first|(simp[SE.eq]at h;done)|(rw[ih h])
 |aP e j ih=>intro c h;cases c<;>first|(simp[SE.eq]at h;done)|(simp only[SE.eq,ayI,azv]at h;rw[h.1,ih h.2])
 |proj e j ih=>intro c h;cases c<;>first|(simp[SE.eq]at h;done)|(simp only[SE.eq,ayI,azv]at h;rw[h.1,ih h.2])
 |tr q e ih=>intro c h;cases c<;>first|(simp[SE.eq]at h;done)|(simp only[SE.eq,ayI,azv]at h;rw[h.1,ih h.2])
 |un op e ih=>intro c h;cases c<;>first|(simp[SE.eq]at h;done)|(simp only[SE.eq,ayI,beq_iff_eq]at h;rw[h.1,ih h.2])
 |cv p q e ih=>intro c h;cases c<;>first|(simp[SE.eq]at h;done)|(simp only[SE.eq,ayI,azv]at h;rw[h.1.1,h.1.2,ih h.2])
 |idx q e x iN gK=>intro c h;cases c<;>first|(simp[SE.eq]at h;done)|(simp only[SE.eq,ayI,azv]at h;rw[h.1.1,iN h.1.2,gK h.2])
 |lk q e x j iN gK=>intro c h;cases c<;>first|(simp[SE.eq]at h;done)|(simp only[SE.eq,ayI,azv]at h;rw[h.1.1.1,h.1.1.2,iN h.1.2,gK h.2])
 |ac e x iN gK=>intro c h;cases c<;>first|(simp[SE.eq]at h;done)|(simp only[SE.eq,ayI]at h;rw[iN h.1,gK h.2])
 |bin op t e x iN gK=>intro c h;cases c<;>first|(simp[SE.eq]at h;done)|(simp only[SE.eq,ayI,azv,beq_iff_eq]at h;rw[h.1.1.1,h.1.1.2,iN h.1.2,gK h.2])
 |mx q e x iN gK=>intro c h;cases c<;>first|(simp[SE.eq]at h;done)|(simp only[SE.eq,ayI,beq_iff_eq]at h;rw[h.1.1,iN h.1.2,gK h.2])
 |MQ e x iN gK=>intro c h;cases c<;>first|(simp[SE.eq]at h;done)|(simp only[SE.eq,ayI]at h;rw[iN h.1,gK h.2])
 |dec q e x iN gK=>intro c h;cases c<;>first|(simp[SE.eq]at h;done)|(simp only[SE.eq,ayI,azv]at h;rw[h.1.1,iN h.1.2,gK h.2])
 |mq|rws|cat|has|zD|sub|Lq|ins|get=>intro c h;cases c<;>simp[SE.eq]at h
def afq{o:Option (LO SE)}{s:Nat}{cut fr:Bool}{es:SE}(h:aad o s cut fr es=ab):o=aa (.row s af cut fr es):=by
 unfold aad at h;split at h
 .simp only[ayI,azv,beq_iff_eq]at h;rw[h.1.1.1,h.1.1.2,h.1.2,SE.eq_eq h.2]
 grind
def r8{e:SE}{z:IV}(h:(SE.ok e).den P ν=aa z):e.den P ν=aa z/\Ev.ao z=ab:=by
 simp only[SE.den,ay4]at h;have⟨y,h1,h2⟩:=h;unfold wF at h2;split at h2
 .cases h2;exact⟨h1,by assumption⟩
 .cases h2
variable(hJ:J Cx (ay P ν) R φ V.g V.l E σ)(hn:ν.length=V.n)
include hJ hn
theorem aaC{t:TypeId}{a x:Operand}{j s off ext:Nat}{i es:SE}{cut fr f:Bool}{zs:List SE}{V2:SS}(ho:o.op=.store t a x)(ha:bP P d V 0 a=.one (.pr j i off ext))(hj:V.l[j]?=aa (.row s af cut fr es))
 (h0:off=0)(h2:(fE (bP P d V t x)).length=s)(h3:s=ext)(bo:aX P t=aa s)(hnu:xC (fE (bP P d V t x))=ab)(fm:Bp V (fE (bP P d V t x))=aa (f,zs,V2))(Ce:V2.l[j]?=aa (.row s af cut fr es))
 (Ux:isAgg P t=ab\/s=1)
 (hs:(newVar V2 (.zD s es i (if isAgg P t then ff zs else zs.headD .an)) λz V=>k (.one .un) (V.setObj j (.row s af cut (fr||f) z))).sat P C Q K ν):dz Cx P C Q K ν E V.ln k (bT P E d o σ):=by
 subst h0 h3;have⟨R',bL,fq,hzl,Uy⟩:=AP hJ fm;have o9:=bw hJ d 0 a;rw[ha]at o9;have auP:=bL.Us (x:=aD (E d) a) (c:=.pr j i 0 s) o9;have⟨s',dM,zE,dG,z',aW,y,n,id,cs,aE,mn,a1,a2,a3,a4,a5,a6,a7,a8,a9⟩:=auP;rw[Ce]at a1;cases a1;have⟨cw,mI,g1,g2,g3⟩:=fq.obj j _ Ce;have Bx:es.den P ν=aa (.tree s aW):=a2;have r7:es.den P ν=aa (.tree s mI):=g1;rw[Bx]at r7;cases r7;rcases g3 with⟨g3,_⟩|⟨bz,bK,lP,tT,g3,g4,g5,g6,g7,g8,g9⟩
 .grind
 rw[a7]at g3;cases g3;rw[a8]at g4;cases g4;have hc:=Dg (bw hJ d t x) hnu;have⟨ys,b1,b2,b3⟩:=Uy _ hc;have hxl:(cellsOf (aD (E d) x)).length=s:=by rw[hc.len,h2]
 have Nb:ys.length=s:=by rw[<-b1.len,hzl,h2]
 obtain⟨ze,hze,hzc⟩:∃ze,(if isAgg P t=ab then ff zs else zs.headD .an).den P ν=aa ze/\cellsOf ze=ys:=by
  split<;>try exact⟨_,gH b1,rfl⟩
  rename_i Ti;have gy:=Ux.resolve_left Ti;have al2:ys.length=1:=aj;obtain⟨y0,rfl⟩:=aBB.1 al2;obtain⟨z0,rfl⟩:=aBB.1 (b1.len.trans al2);refine⟨y0,b1.1,?_⟩;have:Ev.ao y0=ab:=bc;cases y0<;>first|rfl|contradiction
 have⟨ayt,aaD,hk⟩:=hs
 have D1:(SE.zD s es i (if isAgg P t=ab then ff zs else zs.headD .an)).den P ν=aa (.tree s (aW.set n ze)):=by
  simp only[SE.den,ay4]at aaD⊢;have a3':=a3;refine⟨_,Bx,y,a3',ze,hze,?_⟩;obtain⟨q,rfl⟩:=ajG a4;simp[zi,gW,a5,hzc,Nb]
 rw[D1]at aaD;cases aaD
 have aum:n*s+s<=aW.length*s:=by
  have:=azd s a5
  grind
 have wI:=fq.up (jz:=ay P (ν++[.tree s (aW.set n ze)])) (λe z h=>SE.dI P e h)
 have o_:(SE.var V2.n).den P (ν++[.tree s (aW.set n ze)])=aa (.tree s (aW.set n ze)):=by
  have:V2.n=ν.length:=by rw[hn];exact bL.2.1
  simp[SE.den,this]
 have hJ4:=wI.al0 (dG:=fr||f) (z':=.var V2.n) (bK:=eV cs (n*s) (cellsOf (aD (E d) x))) a7 Ce a8 (Au aj) (SE.dI P es Bx) o_ aw
  (λe he=>by
   grind)
  (Gt g8 (wG hc hnu))
  (λq u v hu hv=>by
   rw[afp g2 a5 bc]at hv;rw[sR (α:=IV) aj]at hu;rw[sR (α:=IV) (by rw[uS g2,hzc,Nb];omega)]at hv;rw[hxl]at hu;rw[hzc,Nb]at hv;by_cases hq:n*s<=q/\q<n*s+s
   .rw[if_pos hq]at hu hv;exact(b2.get hu hv).wide (λh=>by grind)
   .rw[if_neg hq]at hu hv;exact(g9 q u v hu hv).wide (λh=>by grind))
 refine⟨.undef,σ.put id (.cells (eV cs (n*s) (cellsOf (aD (E d) x))) aE aE),R',φ,.one .un,({V2 with n:=V2.n+1}:SS).setObj j (.row s af cut (fr||f) (.var V2.n)),[.tree s (aW.set n ze)],?_,hJ4,trivial,?_,bL.2.2.1,hk⟩
 .have jH:=wG hc hnu;simp only[bT,aA,ret]
  grind
 .show(ν++[_]).length=V2.n+1;simp[hn,bL.2.1]
theorem acr{t:TypeId}{a x:Operand}(ho:o.op=.store t a x)(hs:(gN P d o V k).sat P C Q K ν):dz Cx P C Q K ν E V.ln k (bT P E d o σ):=by
 simp only[gN,ho]at hs;split at hs
 .rename_i j off ext ha;split at hs<;>try cases hs
  rename_i cs hj;split at hs<;>try cases hs
  rename_i hc;simp only[ayI,aAb,beq_iff_eq]at hc;exact aaB hJ hn ho ha hj hc.1.1.1 hc.1.1.2 hc.1.2 hc.2 hs
 .rename_i j i off ext ha;split at hs<;>try cases hs
  rename_i s cut fr es hj;split at hs<;>try cases hs
  rename_i hc;simp only[ayI,azv,beq_iff_eq,azp]at hc;split at hs<;>try cases hs
  rename_i f zs V2 fm;split at hs
  .rename_i Ce;have⟨⟨⟨⟨⟨c1,c2⟩,c3⟩,c4⟩,c5⟩,c6⟩:=hc;exact aaC hJ hn ho ha hj c1 c2 c3 c4 c5 fm (afq Ce) c6 hs
  .cases hs
 .cases hs
theorem Sd{s:TypeId}{x:Operand}{f:Nat}(ho:o.op=.fieldAddr s x f)(hs:(gN P d o V k).sat P C Q K ν):dz Cx P C Q K ν E V.ln k (bT P E d o σ):=by
 simp only[gN,ho]at hs;have hx:=bw hJ d 0 x;split at hs<;>try cases hs
 rename_i fo sz hf;obtain⟨fields,fd,h1,h2,h3,rfl⟩:=KH hf;split at hs<;>try cases hs
 have ta:sz≠0:=yO;split at hs
 .rename_i j off ext hh;split at hs<;>try cases hs
  rename_i hle;rw[aAb]at hle;rw[hh]at hx;have⟨id,cs,g1,g2,g3⟩:=hx;exact .at hs hJ hn rfl ⟨id,cs,g1,g2,rfl⟩ (by simp[bT,aA,ho,g3,h1,h2,h3,ta,hle,ret])
 .rename_i cs hh;split at hs<;>try cases hs
  rename_i hle;rw[aAb]at hle;rw[hh]at hx;have⟨ds,g1,g2⟩:=hx;have hl:=g2.len;exact .at hs hJ hn rfl ⟨_,rfl,(g2.drop _).take _⟩ (by simp[bT,aA,ho,g1,h1,h2,h3,ta,hl,hle,ret])
 .rename_i fr cs hh;split at hs<;>try cases hs
  rename_i hle;rw[aAb]at hle;rw[hh]at hx;obtain⟨g0,⟨hf1,ds,g1,g2⟩|⟨id,off,ep,m,cW,aE,mn,a1,a2,a3,a4,a5,a6,a7,a8⟩⟩:=hx
  .have hl:=g2.len;exact .at hs hJ hn rfl ⟨λc hc=>g0 c (aAQ (azM hc)),.inl ⟨hf1,_,rfl,(g2.drop _).take _⟩⟩ (by simp[bT,aA,ho,g1,h1,h2,h3,ta,hl,hle,ret])
  .have hlen:((cs.drop fd.offset).take sz).length=sz:=bc;refine .at (x:=.ptr id (off+fd.offset) ep sz) hs hJ hn rfl ⟨λc hc=>g0 c (aAQ (azM hc)),.inr ⟨id,off+fd.offset,ep,m,cW,aE,mn,a1,a2,a3,a4,by grind,by omega,a7,λj c e he hc=>?_⟩⟩ (by simp[bT,aA,ho,a5,h1,h2,h3,ta,hle,ret])
   grind
 .rename_i j i off ext hh;split at hs<;>try cases hs
  rename_i hle;rw[aAb]at hle;rw[hh]at hx;have⟨s',dM,zE,dG,z',aW,y,n,id,cs,aE,mn,a1,a2,a3,a4,a5,a6,a7,a8,a9⟩:=hx;exact .at hs hJ hn rfl ⟨s',dM,zE,dG,z',aW,y,n,id,cs,aE,mn,a1,a2,a3,a4,a5,by omega,a7,a8,rfl⟩ (by simp[bT,aA,ho,a9,h1,h2,h3,ta,hle,ret,Nat.add_assoc])
 .cases hs
end
section
variable{Cx:Cs}
variable{P:Program}{N:Nat}{σ au:St}{R R':Rs}{φ aV:Ph}{E:Nat->Env}{ν:List IV}
variable{C:Cr}{Q:IV->Prop}{K:List (List IV->Prop)}{V:SS}{d:Nat}{o:Oper}{k:PV SE->SS->aq}
def By(P:Program)(t:TypeId)(s:Nat)(e:SE):List (SE):=if isAgg P t then(azT s).map (λj=>.aP e j)else[.ok e]
def D2{z:IV}(h:Ev.ao z=ab):cellsOf z=[z]:=by
 cases z<;>first|rfl|contradiction
def Uz{t:TypeId}{s:Nat}{e:SE}{z:IV}{f:aq}(bo:aX P t=aa s)(hz:e.den P ν=aa z)(hs:(uc P t e f).sat P C Q K ν):
 f.sat P C Q K ν/\All2 (λy (c:SE)=>c.den P ν=aa y/\Ev.ao y=ab) (cellsOf z) (By P t s e)/\(isAgg P t=ab->∃ys,z=.agg ys):=by
 unfold uc at hs;unfold By;split at hs
 .rename_i ha;rw[if_pos ha];have⟨⟨y,hy⟩,hk⟩:=hs;refine⟨hk,?_⟩;simp only[SE.den,hz,bo,ayK,aAy]at hy;split at hy
  .rename_i cs;split at hy
   .rename_i hc;refine⟨.mk (by simp_all[cellsOf]) λi a b h1 h2=>?_,λ_=>⟨cs,rfl⟩⟩;have hi:=(ayH.1 h1).1;have ct:i<cs.length:=hi;rw[ay1,aAC aj]at h2;simp only[azl,ayO]at h2;subst h2;have bf:=(ayY.1 hc.2) a (ayX h1);have dH:cs[i]?=aa a:=h1;exact⟨by simp[SE.den,hz,dH,wF,bf],bf⟩
   grind
  grind
 .rename_i ha;rw[if_neg ha];have⟨⟨y,hy⟩,hk⟩:=hs;have⟨h1,h2⟩:=r8 hy;rw[hz]at h1;cases h1;rw[D2 h2];exact⟨hk,⟨⟨hy,h2⟩,trivial⟩,λh=>absurd h ha⟩
def O1{s:Nat}{z i:SE}{e:IV}(h:(SE.idx s z i).den P ν=aa e):∃es y n,z.den P ν=aa (.tree s es)/\i.den P ν=aa y/\(∃q,y=.raw (.int q (n:Nat)))/\es[n]?=aa e/\(cellsOf e).length=s:=by
 simp only[SE.den,ay4]at h;have⟨a,h1,b,h2,h3⟩:=h;unfold cb at h3;split at h3
 .split at h3
  .rename_i n hn;split at h3
   .rename_i hc;split at h3
    .split at h3
     .cases h3;obtain⟨rfl,h0⟩:=hc;obtain⟨q,rfl⟩:=LB hn
      grind
     grind
    grind
   grind
  grind
 grind
def acu{x:IV}{s:Nat}{es:List IV}(h:j_ x (.tree s es))(bA:es≠[]):x=.tree s es/\Pure x:=by
 cases h with
 |nil=>grind
 |emp=>grind
 |pure _ _ hp=>grind
 |sl _ _ _ _ _ _ _ _ _ _ _ hR=>grind
def al3{α:Type}{l:List α}{i:Nat}{a:α}(h:l[i]?=aa a):l≠[]:=bc
def Q6{α β:Type}{r:α->β->Prop}{q:α->β->Prop}{as:List α}{bs:List β}(h:All2 r as bs)(hq:∀a b,a∈as->r a b->q a b):All2 q as bs:=
 .mk h.len λ_ a b h1 h2=>hq a b (ayX h1) (h.get h1 h2)
def afr{P:Program}{t:TypeId}{x y:Operand}{k:IntKind}{c:Int}{u:Value}(h:∀k n,u≠.int k n):aK P (do eqGuard .lss t x y u (.int k c);binOp .lss t u (.int k c))=ah:=by
 cases u with
 |int k n=>grind
 |pointer p=>cases p<;>rfl
 |_=>rfl
def acv{x:IV}{k:IntKind}{n:Int}(h:lJ x=aa (.int k n)):x=.raw (.int k n):=by
 unfold lJ at h;split at h
 .grind
 .unfold rH at h
  grind
def al4{P:Program}{t:TypeId}{x:IV}{c:Int}{z:IV}(h:dg P .lss t x (.int c)=aa z):∃n,x=.int n/\z=.bool (decide (n<c)):=by
 by_cases hx:∃k n,x=.raw (.int k n)
 .obtain⟨k,n,rfl⟩:=hx;cases k<;>first|exact⟨n,rfl,(aAK h).symm⟩|exact by cases h
 .unfold dg at h;split at h
  .cases h
  .unfold tz at h;split at h<;>try grind
   all_goals first|(simp at*;done)|skip
   split at h
   .rename_i u' v' h3 h4;cases h4;rw[afr λk n hu=>hx ⟨k,n,acv bc⟩]at h;cases h
   grind
  grind
def X3{P:Program}{ν:List IV}{i:SE}{c:Int}{z:IV}(h:(SE.bin .lss 3 i (.i c)).den P ν=aa z):∃n,i.den P ν=aa (.int n)/\z=.bool (decide (n<c)):=by
 have⟨x,h1,h2⟩:=ay4.1 h;obtain⟨n,rfl,h3⟩:=al4 h2
 grind
theorem Nc{P:Program}{C:Cr}{Q:IV->Prop}{K:List (List IV->Prop)}{ν:List IV}{i:SE}{f:Nat->aq}{n:Int}(hi:i.den P ν=aa (.int n)):∀(m c:Nat),(c:Int)<=n->(Ud i f c m).sat P C Q K ν->∃k:Nat,n=k/\k<c+m/\(f k).sat P C Q K ν
 |0,_,_,h=>h.elim
 |m+1,c,hc,h=>by
  rcases h with⟨h1,h2⟩|⟨h1,h2⟩
  all_goals
   have⟨n',g1,g2⟩:=X3 h1;rw[hi]at g1;cases g1;injection g2 with g2;injection g2 with g2
  .grind
  .have:¬n<c+1:=bc;have⟨k,a,b,c⟩:=Nc hi m (c+1) aj h2
   grind
def Xa{P:Program}{C:Cr}{Q:IV->Prop}{K:List (List IV->Prop)}{ν:List IV}{i:SE}{f:Nat->aq}{m:Nat}(h:(X1 i f m).sat P C Q K ν):∃k:Nat,i.den P ν=aa (.int k)/\k<m/\(f k).sat P C Q K ν:=by
 rcases h with⟨_,h2⟩|⟨h1,h2⟩
 .cases h2
 .have⟨n,g1,g2⟩:=X3 h1;injection g2 with g2;injection g2 with g2
  have:¬n<0:=bc;obtain⟨k,rfl,b,c⟩:=Nc g1 m 0 aj h2
  grind
def X4(hJ:J Cx (ay P ν) R φ V.g V.l E σ){x:IV}{pv:PV SE}{e:SE}(hx:VR (ay P ν) R φ V.l σ x pv)(h:uM pv=aa e):∃y,e.den P ν=aa y/\bx ab R σ x y/\True:=by
 unfold uM at h;split at h<;>try grind
 .cases h;have⟨y,h1,h2,_⟩:=hx;exact⟨y,h1,h2.mono hJ.Dj,trivial⟩
 .cases h;have⟨y,h1,h2,_⟩:=hx;exact⟨y,h1,h2.cQ,trivial⟩
variable(hJ:J Cx (ay P ν) R φ V.g V.l E σ)(hn:ν.length=V.n)
include hJ hn
theorem wJ{e:SE}{f:SE->SS->aq}(hs:(newVar V e f).sat P C Q K ν):∃z,e.den P ν=aa z/\(f (.var V.n) {V with n:=V.n+1}).sat P C Q K (ν++[z])/\(SE.var V.n).den P (ν++[z])=aa z/\J Cx (ay P (ν++[z])) R φ V.g V.l E σ/\(ν++[z]).length=V.n+1:=by
 have⟨z,h1,h2⟩:=hs;exact⟨z,h1,h2,by simp[SE.den,<-hn],hJ.up λe z h=>SE.dI P e h,by grind⟩
theorem Se{t:TypeId}{x ix:Operand}(ho:o.op=.indexAddr t x ix)(hs:(gN P d o V k).sat P C Q K ν):dz Cx P C Q K ν E V.ln k (bT P E d o σ):=by
 simp only[gN,ho]at hs;have hx:=bw hJ d t x;have hi:=bw hJ d 3 ix;split at hs
 .rename_i et i hu KI;replace hi:=X4 hJ hi KI;split at hs<;>try cases hs
  rename_i s bo;split at hs
  .rename_i z hh;rw[hh]at hx;have⟨e,h1,h2,hv,KJ,oW⟩:=wJ hJ hn hs;obtain⟨es,y,n,g1,g2,⟨q,rfl⟩,g4,g5⟩:=O1 h1;have⟨y',a1,a2,a3⟩:=hx;have z7:z.den P ν=aa y':=a1;rw[g1]at z7;cases z7;have⟨Ho,hp⟩:=acu a2 (al3 g4);have⟨yi,b1,b2,b3⟩:=hi;have z8:=b1;rw[g2]at z8;cases z8;have zb:=cD b2;have⟨hk,jP,_⟩:=Uz bo hv h2
   have Cp:∀c∈cellsOf e,Pure c:=by
    rw[Ho]at hp;cases hp with|tree _ _ hh=>grind
   refine⟨.na (cellsOf e),σ,R,φ,.one (.tp (By P et s (.var V.n))),{V with n:=V.n+1},[e],?_,KJ,⟨_,rfl,Q6 jP λa b ha cG=>⟨a,cG.1,.pure a rfl (Cp a ha),cG.2⟩⟩,oW,rfl,hk⟩;simp[bT,aA,ho,hu,Ho,zb,bo,g4,g5,ret]
  .rename_i fr z hh;rw[hh]at hx;have⟨e,h1,h2,hv,KJ,oW⟩:=wJ hJ hn hs;obtain⟨es,y,n,g1,g2,⟨q,rfl⟩,g4,g5⟩:=O1 h1;have⟨y',a1,a2,a3⟩:=hx;have z7:z.den P ν=aa y':=a1;rw[g1]at z7;cases z7;have⟨yi,b1,b2,b3⟩:=hi;have z8:=b1;rw[g2]at z8;cases z8;have zb:=cD b2;have⟨hk,jP,_⟩:=Uz bo hv h2
   have hg0:∀c∈By P et s (.var V.n),∃y,c.den P (ν++[e])=aa y/\Ev.ao y=ab:=by
    intro c hc;have⟨j,hj⟩:=az0 hc;have⟨a,_,cG⟩:=jP.DU hj
    grind
   generalize hex:aD (E d) x=xv at a2;generalize hzt:IV.tree s es=zt at a2;cases a2 with
   |nil s' bu=>grind
   |emp s' bu=>grind
   |pure _ hf hp=>
    subst hzt
    have Cp:∀c∈cellsOf e,Pure c:=by
     cases hp with|tree _ _ hh=>grind
    refine⟨.na (cellsOf e),σ,R,φ,.one (.tw fr (By P et s (.var V.n))),{V with n:=V.n+1},[e],?_,KJ,⟨hg0,.inl ⟨hf,_,rfl,Q6 jP λa b ha cG=>⟨a,cG.1,.pure a rfl (Cp a ha)⟩⟩⟩,oW,rfl,hk⟩;simp[bT,aA,ho,hu,hex,zb,bo,g4,g5,ret]
   |sl id off len cap ep s' m cs aE mn aW hR aT dH xh bu hl hb hm bH hh=>
    injection hzt with vj Ie
    subst vj Ie hl;have ak:=(ayH.1 g4).1;have hlen:(By P et s (.var V.n)).length=s:=by rw[<-jP.len,g5]
    have dw:n*s+s<=es.length*s:=by
     have:=azd s ak
     grind
    refine⟨.ptr id (off+n*s) ep s,σ,R,φ,.one (.tw fr (By P et s (.var V.n))),{V with n:=V.n+1},[e],?_,KJ,⟨hg0,.inr ⟨id,off+n*s,ep,m,cs,aE,mn,hR,aT,dH,xh,by grind,by omega,hm,λj c ce vC hc=>?_⟩⟩,oW,rfl,hk⟩
    .simp[bT,aA,ho,hu,hex,zb,bo,ak,ret]
    .have⟨a,ha,cG⟩:=jP.DU vC
     grind
   |raw v=>grind
   |dP=>grind
   |agg=>grind
   |aF=>grind
  .rename_i j hh;rw[hh]at hx;split at hs<;>try cases hs
   rename_i s' st cut fr aW hj;split at hs
   .rename_i me;have Gu:=ay0 me;subst Gu;have⟨⟨e,h1⟩,hk⟩:=hs;obtain⟨es,y,n,g1,g2,⟨q,rfl⟩,g4,g5⟩:=O1 h1;have⟨yi,b1,b2,b3⟩:=hi;have z8:=b1;rw[g2]at z8;cases z8;have zb:=cD b2;have ak:=(ayH.1 g4).1;have⟨s2,st2,afs,fr2,z2,mI,a1,a2,a3⟩:=hx;rw[hj]at a1;cases a1;have Bx:aW.den P ν=aa (.tree s mI):=a2;rw[g1]at Bx;cases Bx;rcases a3 with⟨_,c2,_⟩|⟨id,cs,aE,mn,cap,c1,c2,c3,c4,c5,c6⟩
    .omega
    .refine .at (x:=.ptr id (n*s+0) aE s) hk hJ hn rfl ⟨s,st,cut,fr,aW,es,_,n,id,cs,aE,mn,hj,g1,g2,by rfl,ak,by omega,c1,c2,rfl⟩ ?_;simp[bT,aA,ho,hu,c3,zb,bo,ak,ret]
   .cases hs
  .cases hs
 .rename_i n et i hu KI;rw[KI]at hi
  have zb:aD (E d) ix=.raw (.int .i64 i):=by
   have⟨y,h1,h2,_⟩:=hi;simp only[ay,SE.den,ayO]at h1;subst h1;exact cD h2
  split at hs
  .rename_i s j off ext bo hh;rw[hh]at hx;have⟨id,cs,g1,g2,g3⟩:=hx;split at hs<;>try cases hs
   rename_i hc;simp only[ayI,azY,decide_eq_true_eq,Nat.blt_eq,aAb]at hc;have⟨⟨⟨c1,c2⟩,c3⟩,c4⟩:=hc;have qn:s≠0:=by intro h;simp_all
   refine .at (x:=.ptr id (off+i.toNat*s) 0 s) hs hJ hn rfl ⟨id,cs,g1,g2,rfl⟩ ?_;have:i<n:=aj;simp[bT,aA,ho,hu,g3,zb,bo,qn,c2,this,c4,ret]
  all_goals contradiction
 .rename_i n et i hu KI _;replace hi:=X4 hJ hi KI;split at hs<;>try cases hs
  rename_i s j off ext bo hh;rw[hh]at hx;have⟨id,cs,g1,g2,g3⟩:=hx;split at hs
  .rename_i hc;simp only[ayI,aAb]at hc;have⟨⟨c1,c4⟩,_⟩:=hc;have qn:s≠0:=by intro h;simp_all
   have⟨m,d1,d2,d3⟩:=Xa hs;have⟨y,e1,e2,_⟩:=hi;have cS:=e1;rw[d1]at cS;cases cS;have zb:=cD e2
   have hb:m*s+s<=n*s:=by
    have:=azd s d2
    grind
   refine .at (x:=.ptr id (off+m*s) 0 s) d3 hJ hn rfl ⟨id,cs,g1,g2,rfl⟩ ?_;have h5:=Nat.le_trans hb c4;simp[bT,aA,ho,hu,g3,zb,bo,qn,d2,h5,ret]
  .cases hs
 .cases hs
end
section
variable{Cx:Cs}
variable{P:Program}{N:Nat}{σ au:St}{R R':Rs}{φ aV:Ph}{E:Nat->Env}{ν:List IV}
variable{C:Cr}{Q:IV->Prop}{K:List (List IV->Prop)}{V:SS}{d:Nat}{o:Oper}{k:PV SE->SS->aq}
def Xb{op:BinOp}{t:TypeId}{x y x' y':Operand}{u v:Value}(h:u≠.nilIface):eqGuard op t x y u v=eqGuard op t x' y' u v:=by
 unfold eqGuard;cases u<;>first|exact absurd rfl h|rfl|(cases v<;>rfl)
def UA{op:BinOp}{t:TypeId}{x y x' y':Operand}{a b:IV}{u v:Value}(ha:lJ a=aa u)(hb:lJ b=aa v)(h:u≠.nilIface):tz P op t x y a b=tz P op t x' y' a b:=by
 unfold tz;split<;>try rfl
 rw[ha,hb];simp only;rw[Xb (x:=x) (y:=y) (x':=x') (y':=y') h]
def acw{op:BinOp}{t:TypeId}{a b z:IV}(h:dg P op t a b=aa z){f g:Bool}{xa xb:IV}(ha:bx f R σ xa a)(hb:bx g R σ xb b)(ox oy:Operand):tz P op t ox oy xa xb=aa z:=by
 unfold dg at h;split at h
 .cases h
 .rename_i u v bA hu hv;rw[Gs ha hu,Gs hb hv,UA (x':=.func 0) (y':=.func 0) hu hv (λhc=>bA hc)];exact h
 .cases h
variable(hJ:J Cx (ay P ν) R φ V.g V.l E σ)(hn:ν.length=V.n)
include hJ hn
theorem UB(v:Value):j_ (lift v) (lift v):=by
 unfold lift;split
 .refine .agg _ _ rfl λi c e h1 h2=>?_;rw[h1]at h2;cases h2;rw[ay1]at h1;obtain⟨u,_,rfl⟩:=ayR.1 h1;exact .raw u
 .exact .raw _
omit hJ hn in
theorem UC{op:BinOp}{t:TypeId}{x y:Operand}{a b z:IV}(h:tz P op t x y a b=aa z):j_ z z:=by
 unfold tz at h;split at h<;>first|(cases h;exact .raw _)|skip
 .split at h
  .cases h;exact .raw _
  .cases h
 .split at h
  .obtain⟨v,_,rfl⟩:=ayR.1 h;unfold lift;split
   .refine .agg _ _ rfl λi c e h1 h2=>?_;rw[h1]at h2;cases h2;rw[ay1]at h1;obtain⟨u,_,rfl⟩:=ayR.1 h1;exact .raw u
   .exact .raw _
  .split at h
   .split at h
    .cases h;exact .raw _
    .cases h;exact .raw _
    .cases h
   .split at h
    .cases h;exact .raw _
    .cases h;exact .raw _
    .cases h
theorem Nd{op:BinOp}{t yt:TypeId}{x y:Operand}{a b:SE}(ho:o.op=.binOp op t x y yt){f g:Bool}(ha:∀z,a.den P ν=aa z->bx f R σ (aD (E d) x) z)(hb:∀z,b.den P ν=aa z->bx g R σ (aD (E d) y) z)
 (hs:(vk (.ok (.bin op t a b)) V k).sat P C Q K ν):dz Cx P C Q K ν E V.ln k (bT P E d o σ):=by
 obtain⟨⟨z,hz⟩,hk⟩:=hs;obtain⟨h1,h2⟩:=r8 hz;simp only[SE.den,ay4]at h1;obtain⟨u,h3,v,h4,h5⟩:=h1;have h6:=acw h5 (ha u h3) (hb v h4) x y;exact .at (x:=z) hk hJ hn rfl ⟨z,hz,UC h6,h2⟩ (by simp[bT,aA,ho,h6,ret])
theorem al5{op:UnOp}{t:TypeId}{x:Operand}(ho:o.op=.unOp op t x)(hs:(gN P d o V k).sat P C Q K ν):dz Cx P C Q K ν E V.ln k (bT P E d o σ):=by
 unfold gN at hs;rw[ho]at hs;simp only at hs;have hx:=bw hJ d 0 x
 have main:∀a:SE,(∀z,a.den P ν=aa z->bx ab R σ (aD (E d) x) z)->(vk (.ok (.un op a)) V k).sat P C Q K ν->dz Cx P C Q K ν E V.ln k (bT P E d o σ):=by
  intro a ha hs;obtain⟨⟨z,hz⟩,hk⟩:=hs;obtain⟨h1,h2⟩:=r8 hz;simp only[SE.den,ay4]at h1;obtain⟨u,h3,h4⟩:=h1;unfold SI at h4;split at h4
  .rename_i v;have hv:=cD (ha _ h3);obtain⟨r,hr,rfl⟩:=ayR.1 h4;exact .at (x:=lift r) hk hJ hn rfl ⟨_,hz,UB hJ hn r,h2⟩ (by simp[bT,aA,ho,hv,hr,ret])
  .cases h4
 split at hs
 .rename_i t' hh;rw[hh]at hx;have hb:=Uu hJ hn hx;split at hs
  .refine .at (x:=.raw (.bool (!t'))) hs hJ hn rfl ⟨_,rfl,.raw _,rfl⟩ ?_;simp[bT,aA,ho,hb,ret,Op.unary,aK,lift,pure]
  .exact hs.elim
 .rename_i a _ hh;rw[hh]at hx;obtain⟨y,h1,h2,_⟩:=hx;exact main a (λz hz=>by have dH:a.den P ν=aa y:=h1;rw[hz]at dH;cases dH;exact h2.mono hJ.Dj) hs
 .rename_i f a hh;rw[hh]at hx;obtain⟨y,h1,h2,_⟩:=hx;exact main a (λz hz=>by have dH:a.den P ν=aa y:=h1;rw[hz]at dH;cases dH;exact h2.cQ) hs
 .exact hs.elim
theorem al6{src dst:TypeId}{x:Operand}(ho:o.op=.convert src dst x)(hs:(gN P d o V k).sat P C Q K ν):dz Cx P C Q K ν E V.ln k (bT P E d o σ):=by
 unfold gN at hs;rw[ho]at hs;simp only at hs;have hx:=bw hJ d src x
 have main:∀a:SE,(∀z,a.den P ν=aa z->bx ab R σ (aD (E d) x) z)->(vk (.ok (.cv src dst a)) V k).sat P C Q K ν->dz Cx P C Q K ν E V.ln k (bT P E d o σ):=by
  intro a ha hs;obtain⟨⟨z,hz⟩,hk⟩:=hs;obtain⟨h1,h2⟩:=r8 hz;simp only[SE.den,ay4]at h1;obtain⟨u,h3,h4⟩:=h1;unfold M9 at h4;split at h4
  .rename_i b;have hv:=cD (ha _ h3);split at h4
   .rename_i q B_ Ko;cases h4;exact .at (x:=.raw (.string b)) hk hJ hn rfl ⟨_,hz,.raw _,h2⟩ (by simp[bT,aA,ho,hv,B_,Ko,ret])
   .cases h4
  .rename_i v hnv;have hv:=cD (ha _ h3);obtain⟨r,hr,rfl⟩:=ayR.1 h4;refine .at (x:=lift r) hk hJ hn rfl ⟨_,hz,UB hJ hn r,h2⟩ ?_;unfold bT aA;rw[ho];simp only[hv,hr,ret]
  .cases h4
 split at hs
 .rename_i a hh;rw[hh]at hx;obtain⟨y,h1,h2,_⟩:=hx;exact main a (λz hz=>by have dH:a.den P ν=aa y:=h1;rw[hz]at dH;cases dH;exact h2.mono hJ.Dj) hs
 .rename_i f a hh;rw[hh]at hx;obtain⟨y,h1,h2,_⟩:=hx;exact main a (λz hz=>by have dH:a.den P ν=aa y:=h1;rw[hz]at dH;cases dH;exact h2.cQ) hs
 .exact hs.elim
theorem Xc{x:Operand}{i:Nat}(ho:o.op=.extract x i)(hs:(gN P d o V k).sat P C Q K ν):dz Cx P C Q K ν E V.ln k (bT P E d o σ):=by
 unfold gN at hs;rw[ho]at hs;simp only at hs;have hx:=bw hJ d 0 x;split at hs
 .rename_i vs hh;rw[hh]at hx;obtain⟨xs,h1,h2⟩:=hx;split at hs
  .rename_i cs hi;obtain⟨a,ha,hr⟩:=h2.DU hi;refine .here (x:=a) (pv:=.ag cs) (av:=σ) (by simp[bT,aA,ho,h1,ha,ret]) hJ ?_ hn rfl hs;simpa[vR,VR]using hr
  .rename_i c hi;obtain⟨a,ha,hr⟩:=h2.DU hi;refine .at (x:=a) hs hJ hn rfl ?_ (by simp[bT,aA,ho,h1,ha,ret]);simpa[vR]using hr
  .exact hs.elim
 .exact hs.elim
theorem acx{t:TypeId}{x:Operand}{f:Nat}(ho:o.op=.field t x f)(hs:(gN P d o V k).sat P C Q K ν):dz Cx P C Q K ν E V.ln k (bT P E d o σ):=by
 unfold gN at hs;rw[ho]at hs;simp only at hs;have hx:=bw hJ d t x;split at hs
 .rename_i cs fo sz hh hf;rw[hh]at hx;obtain⟨xs,h1,h2⟩:=hx;obtain⟨fields,fd,g1,g2,g3,rfl⟩:=KH hf;rw[g1]at hs;simp only at hs;split at hs
  .rename_i hc;simp only[ayI,aAb,Option.isSome_iff_exists]at hc;obtain⟨hle,b,hb⟩:=hc;rw[g2]at hs hb;simp only[azl,aAy]at hs hb
   obtain⟨pv,hk,s_⟩:∃pv,(k pv V).sat P C Q K ν/\(if isAgg P fd.type=ab then pv=.ag ((cs.drop fd.offset).take sz)else∃c,(cs.drop fd.offset).take sz=[c]/\pv=.one c):=by
    split at hs
    .rename_i ha;split at hs
     .exact⟨_,hs,by rw[if_pos ha]⟩
     .exact hs.elim
    .rename_i ha;split at hs
     .rename_i c ow;exact⟨_,hs,by rw[if_neg ha];exact⟨c,ow,rfl⟩⟩
     .exact hs.elim
   obtain⟨v,hv,hr⟩:=vi g3 hb h2 hle s_;exact .here (x:=v) (pv:=pv) (av:=σ) (by simp[bT,aA,ho,h1,g1,g2,hv,ret]) hJ hr hn rfl hk
  .exact hs.elim
 .exact hs.elim
end
section
variable{Cx:Cs}
variable{P:Program}{N:Nat}{σ au:St}{R R':Rs}{φ aV:Ph}{E:Nat->Env}{ν:List IV}
variable{C:Cr}{Q:IV->Prop}{K:List (List IV->Prop)}{V:SS}{d:Nat}{o:Oper}{k:PV SE->SS->aq}
def D3{s:Nat}{es:List IV}(h:fM s es=ab):(∀e∈es,(cellsOf e).length=s)/\∀c∈flat es,Ev.ao c=ab:=by
 unfold fM at h;rw[ayY]at h;refine⟨λe he=>?_,λc hc=>?_⟩
 .have:=h e he;simp only[ayI,beq_iff_eq]at this;exact this.1
 .obtain⟨e,he,vC⟩:=az1.1 hc;have:=h e he;simp only[ayI,ayY]at this;exact this.2 c vC
def UD(a b:List IV):flat (a++b)=flat a++flat b:=by simp[flat]
def r9(fr:Bool)(R:Rs)(σ:St)(cs ds:List IV):Prop:=∀(j:Nat) x d,cs[j]?=aa x->ds[j]?=aa d->bx fr R σ x d
def O2{fr:Bool}{x:IV}{s:Nat}{es:List IV}(cw:0<s)(h:bx fr R σ x (.tree s es))(bf:fM s es=ab):
 qE x=aa es.length/\∃new,fU s es.length σ x=aa new/\new.length=es.length*s/\r9 fr R σ new (flat es)/\new.all Ev.ao=ab:=by
 obtain⟨h1,h2⟩:=D3 bf;generalize hz:IV.tree s es=z at h;cases h with
 |nil s' bu=>injection hz with a b;subst a b;exact⟨rfl,[],by simp[fU],by simp,λj x d h=>by simp at h,rfl⟩
 |emp s' bu=>injection hz with a b;subst a b;exact⟨rfl,[],by simp[fU],by simp,λj x d h=>by simp at h,rfl⟩
 |pure _ hf hp=>
  subst hz;refine⟨rfl,flat es,by simp[fU,flat],uS h1,λj x d hx hd=>?_,ayY.2 h2⟩;rw[hx]at hd;cases hd;refine .pure x hf ?_;obtain⟨e,he,vC⟩:=az1.1 (ayX hx);cases hp with|tree _ _ hh=>exact hh e he x vC
 |sl id off len cap ep s' m cs aE mn aW hR aT a1 a2 bu hl hb hm bH hh=>
  injection hz with a b
  subst a b hl
  have ahX:r9 fr R σ ((cs.drop off).take (es.length*s)) (flat es):=by
   intro j x d hx hd;have hj:j<es.length*s:=by have:=(ayH.1 hd).1;rw[uS h1]at this;exact this
   rw[azn,if_pos hj,aAp]at hx
   have hi:j/s<es.length:=by
    rw[Nat.div_lt_iff_lt_mul cw];exact hj
   have he:es[j/s]?=aa es[j/s]:=ayG hi;have xc:j % s<(cellsOf es[j/s]).length:=by rw[h1 _ (ayJ hi)];exact Nat.mod_lt _ cw
   have vC:(cellsOf es[j/s])[j % s]?=aa (cellsOf es[j/s])[j % s]:=ayG xc;have hjj:j/s*s+j % s=j:=Nat.div_add_mod' j s;have hf:=LA h1 he vC;rw[hjj,hd]at hf;cases hf;exact hh _ _ _ x _ he vC (by rw[show off+j/s*s+j % s=off+j by omega];exact hx)
  refine⟨rfl,(cs.drop off).take (es.length*s),?_,by simp;omega,ahX,?_⟩
  .simp only[fU];rw[if_pos ⟨trivial,ayL _⟩,aT];simp only;rw[if_pos ⟨a1,a2,by omega⟩]
  .rw[ayY];intro c hc;obtain⟨j,hj⟩:=az0 hc;have ak:=(ayH.1 hj).1;have ek:j<(flat es).length:=by rw[uS h1];simp at ak;omega
   exact(ahX j c _ hj (ayG ek)).ao (h2 _ (ayJ ek))
 |raw v=>cases hz
 |dP=>cases hz
 |agg=>cases hz
 |aF=>cases hz
def UE{L:List (LO SE)}{Γ:Gm SE}(h:J Cx (ay P ν) R φ Γ L E σ){k s:Nat}{st cut fr:Bool}{z:SE}{x:IV}{es:List IV}(hk:L[k]?=aa (.row s st cut fr z))(hz:z.den P ν=aa (.tree s es))(hx:c9 (ay P ν) R φ L σ x (.sr k)):
 qE x=aa es.length/\∃new,fU s es.length σ x=aa new/\new.length=es.length*s/\r9 fr R σ new (flat es)/\new.all Ev.ao=ab:=by
 obtain⟨cw,mI,g1,g2,g3⟩:=h.obj k _ hk;have r7:z.den P ν=aa (.tree s mI):=g1;rw[hz]at r7;cases r7;obtain⟨s2,st2,afs,fr2,z2,X5,a1,a2,a3⟩:=hx;rw[hk]at a1;cases a1;have Bx:z.den P ν=aa (.tree s X5):=a2;rw[hz]at Bx;cases Bx;rcases a3 with⟨_,b2,b3⟩|⟨id,cs,aE,mn,cap,b1,b2,rfl,b4,b5,b6⟩
 .have:es=[]:=azb b2;subst this;rcases b3 with rfl|rfl
  .exact⟨rfl,[],by simp[fU],by simp,λj x d h=>by simp at h,rfl⟩
  .exact⟨rfl,[],by simp[fU],by simp,λj x d h=>by simp at h,rfl⟩
 .rcases g3 with⟨g3,_⟩|⟨bz,bK,lP,tT,g3,g4,g5,g6,g7,g8,g9⟩
  .rw[b1]at g3;cases g3
  .rw[b1]at g3;cases g3;rw[b2]at g4;cases g4;refine⟨by simp[qE],cs.take (es.length*s),?_,by simp;omega,λj x d hx hd=>?_,?_⟩
   .simp only[fU];rw[if_pos ⟨trivial,by simp⟩,b2];simp only;rw[if_pos ⟨g5,ayL _,by omega⟩];simp
   .rw[azn]at hx;split at hx
    .exact g9 j x d hx hd
    .cases hx
   .rw[ayY]at g8⊢;exactλc hc=>g8 c (azM hc)
def aaE{fr dG:Bool}{cs ds bK qe:List IV}(h:r9 fr R σ cs ds)(hl:cs.length=ds.length)(h':r9 dG R σ bK qe):r9 (fr||dG) R σ (cs++bK) (ds++qe):=by
 intro j x d hx hd;by_cases hj:j<cs.length
 .rw[ayZ hj]at hx;rw[ayZ aj]at hd;exact(h j x d hx hd).wide (λh=>by simp[h])
 .rw[aze aj]at hx;rw[aze aj,<-hl]at hd;exact(h' _ x d hx hd).wide (λh=>by simp[h])
variable{L:List (LO SE)}{Γ:Gm SE}
def J.reZ(h:J Cx (ay P ν) R φ Γ L E σ){k s:Nat}{st cut fr dG:Bool}{z z':SE}{es:List IV}(hk:L[k]?=aa (.row s st cut fr z))(hz:z.den P ν=aa (.tree s es))(ta:z'.den P ν=aa (.tree s es))(hf:fr=ab->dG=ab):
 lj (ay P ν) (ay P ν) R φ L σ R φ (L.set k (.row s st cut dG z')) σ (λ_=>False)/\J Cx (ay P ν) R φ Γ (L.set k (.row s st cut dG z')) E σ:=by
 have fp:=fa hk;have bA:∀j,j≠k->(L.set k (.row s st cut dG z'))[j]?=L[j]? :=λj hj=>aAA (λhc=>hj hc.symm);have bN:(L.set k (.row s st cut dG z'))[k]?=aa (.row s st cut dG z'):=bc
 have hs:lj (ay P ν) (ay P ν) R φ L σ R φ (L.set k (.row s st cut dG z')) σ (λ_=>False):=by
  refine⟨λ_ _ h=>h,jg.refl h.fits,λj zY hj=>?_,λj kt jC hj=>?_,λj s1 pA zI zZ z1 hj _=>?_,λj c pA snap hj=>?_⟩
  all_goals grind
 refine⟨hs,{h with slot:=λd t pv hg=>(h.slot d t pv hg).step hs pv.a_,obj:=λj o hj=>?_,lt:=λj id hj=>by simpa using h.lt j id hj}⟩;by_cases cj:j=k
 .subst cj;rw[bN]at hj;cases hj;have⟨cw,mI,g1,g2,g3⟩:=h.obj j _ hk;have r7:z.den P ν=aa (.tree s mI):=g1;rw[hz]at r7;cases r7;refine⟨cw,es,ta,g2,?_⟩;rcases g3 with g3|⟨bz,bK,lP,tT,g3,g4,g5,g6,g7,g8,g9⟩
  .grind
  .exact .inr ⟨bz,bK,lP,tT,g3,g4,g5,g6,g7,g8,λj x d hx hd=>(g9 j x d hx hd).wide hf⟩
 .rw[bA j cj]at hj;exact(h.obj j o hj).step hs rfl (λ_ _=>⟨rfl,rfl⟩) o.a_
def X6{σ:St}(hw:σ.t.WF)(id:Nat)(a b:Ob):(σ.put id a).put id b=σ.put id b:=by
 unfold St.put
 congr 1
 refine T.WF.ext ((hw.set _ _).set _ _) (hw.set _ _) λi=>?_
 simp_all[T.hZ]
def Bz{s len n:Nat}{new cQ:List IV}{x:IV}(h:fU s len σ x=aa cQ)(hl:cQ.length=len*s):gl s len n new x σ=ret (.sl σ.n 0 (len+n) ah 0 s) (σ.add (.cells (cQ++new) 0 0)):=by
 simp[gl,h,hl]
def Nf(h:J Cx (ay P ν) R φ Γ L E σ){k s:Nat}{st cut fr dG:Bool}{z z':SE}{es fs new:List IV}{x:IV}(hk:L[k]?=aa (.row s st cut fr z))(hz:z.den P ν=aa (.tree s es))(ta:z'.den P ν=aa (.tree s (es++fs)))
 (hx:c9 (ay P ν) R φ L σ x (.sr k))(Kn:new.length=fs.length*s)(MJ:r9 dG R σ new (flat fs))(hnc:new.all Ev.ao=ab)(hfs:∀e∈fs,(cellsOf e).length=s)(xk:(st&&cut)=af)
 (QW:∀d t pv,cz d t Γ=aa pv->pv.ok (·=k))(hL:∀j o,L[j]?=aa o->j≠k->o.ok (·=k)):
 ∃x' au R' aV,fv 0 s es.length fs.length new x σ=aa (.val x' au)/\J Cx (ay P ν) R' aV Γ (L.set k (.row s st cut (dG||fr) z')) E au/\c9 (ay P ν) R' aV (L.set k (.row s st cut (dG||fr) z')) au x' (.sr k):=by
 have⟨cw,mI,g1,g2,g3⟩:=h.obj k _ hk;have r7:z.den P ν=aa (.tree s mI):=g1;rw[hz]at r7;cases r7;have fp:=fa hk;have bN:(L.set k (.row s st cut (dG||fr) z'))[k]?=aa (.row s st cut (dG||fr) z'):=by simp[fp]
 have al7:=λe he=>(ayS.1 he).elim (g2 e) (hfs e);have tb:=hx;have⟨s2,st2,afs,fr2,z2,X5,a1,a2,a3⟩:=hx;rw[hk]at a1;cases a1;have Bx:z.den P ν=aa (.tree s X5):=a2;rw[hz]at Bx;cases Bx;by_cases m7:fs.length=0
 .have auQ:=azb m7;subst auQ;rw[ay2]at ta;obtain⟨hs,hJ⟩:=h.reZ (dG:=dG||fr) hk hz ta (λh=>by simp[h]);refine⟨x,σ,R,φ,?_,hJ,tb.step hs (Cl.a_ _)⟩;rcases a3 with⟨_,_,rfl|rfl⟩|⟨id,cs,aE,mn,cap,_,_,rfl,_⟩<;>simp[fv,ret]
 have fresh:∀cQ:List IV,cQ.length=es.length*s->(∀(j:Nat) x d,cQ[j]?=aa x->(flat es)[j]?=aa d->bx fr R σ x d)->cQ.all Ev.ao=ab->
  ∃R' aV,J Cx (ay P ν) R' aV Γ (L.set k (.row s st cut (dG||fr) z')) E (σ.add (.cells (cQ++new) 0 0))/\c9 (ay P ν) R' aV (L.set k (.row s st cut (dG||fr) z')) (σ.add (.cells (cQ++new) 0 0)) (.sl σ.n 0 (es.length+fs.length) ah 0 s) (.sr k):=by
  intro cQ Q7 ho2 ho3
  let R':Rs:=λi=>if i=σ.n then(if st then aa ((es++fs).length*s)else ah)else R i
  have hlen:(cQ++new).length=(es++fs).length*s:=by simp[Q7,Kn,azD]
  obtain⟨hs,hJ⟩:=h.alF (R':=R') (bad:=(·=k)) (kK:=.row s st cut (dG||fr) z') (fB:=.cells (cQ++new) 0 0) hk (λj hj=>by simp[R',hj])
   (λm cs aE mn hm ho=>by
    injection ho with Q7 ho2 ho3
    subst Q7;simp only[R',if_true]at hm;split at hm
    .cases hm;rw[hlen];exact ayL _
    .cases hm)
   ⟨_,_,_,_,_,rfl⟩ rfl QW hL
   (λhs=>⟨cw,es++fs,ta,al7,.inr ⟨σ.n,cQ++new,0,0,by simp[bU],by simp,ayL _,by rw[hlen];exact ayL _,by simp[R'],by rw[aCd,ho3,hnc];rfl,λj x d hx hd=>by
    rw[UD]at hd;have hc:=aaE ho2 (by rw[Q7,uS g2]) MJ j x d hx hd;rw[Bool.or_comm]at hc;exact hc.mono hs.grow⟩⟩)
  refine⟨R',bU φ k σ.n,hJ,s,st,cut,dG||fr,z',es++fs,bN,ta,.inr ⟨σ.n,cQ++new,0,0,ah,by simp[bU],by simp,by simp,azz _,λ_ _=>hlen.symm,λc hc=>by cases hc⟩⟩
 rcases a3 with⟨b1,b2,b3⟩|⟨id,cs,aE,mn,cap,b1,b2,rfl,b4,b5,b6⟩
 .have Ng:=azb b2;subst Ng;obtain⟨R',aV,hJ,hV⟩:=fresh [] aw (λj x d h=>by simp at h) rfl;refine⟨_,_,R',aV,?_,hJ,hV⟩;rcases b3 with rfl|rfl
  .simp only[fv];rw[if_pos ⟨trivial,trivial⟩,if_neg m7,Bz (cQ:=[]) (by simp[fU]) aw];rfl
  .simp only[fv];rw[if_neg m7,Bz (cQ:=[]) (by simp[fU]) aw];rfl
 .rcases g3 with⟨g3,_⟩|⟨bz,bK,lP,tT,g3,g4,g5,g6,g7,g8,g9⟩
  .rw[b1]at g3;cases g3
  rw[b1]at g3;cases g3;rw[b2]at g4;cases g4
  have hold:fU s es.length σ (.sl id (0*s) (es.length- 0) cap aE s)=aa (cs.take (es.length*s)):=by
   simp only[fU];rw[if_pos ⟨trivial,by simp⟩,b2];simp only;rw[if_pos ⟨g5,ayL _,by omega⟩];simp
  have SJ:(cs.take (es.length*s)).length=es.length*s:=by simp;omega
  have arj:∀(j:Nat) x d,(cs.take (es.length*s))[j]?=aa x->(flat es)[j]?=aa d->bx fr R σ x d:=λj x d hx hd=>by
   rw[azn]at hx;split at hx
   .exact g9 j x d hx hd
   .cases hx
  have ahY:(cs.take (es.length*s)).all Ev.ao=ab:=by
   rw[ayY]at g8⊢;exactλc hc=>g8 c (azM hc)
  have O3:∀(ob:List IV) (xO KG:Nat),(R id=ah\/(KG=mn/\aE<=xO))->KG<=xO->(∀j,j<es.length*s->ob[j]?=cs[j]?)->(∀j,j<new.length->ob[es.length*s+j]?=new[j]?)->(es++fs).length*s<=ob.length->ob.all Ev.ao=ab->
   ∀UF,(UF=ah->cut=af->(es++fs).length*s=ob.length)->(∀c,UF=aa c->KG=xO/\c*s<=ob.length/\(es++fs).length<=c)->
   ∃R',J Cx (ay P ν) R' φ Γ (L.set k (.row s st cut (dG||fr) z')) E (σ.put id (.cells ob xO KG))/\c9 (ay P ν) R' φ (L.set k (.row s st cut (dG||fr) z')) (σ.put id (.cells ob xO KG)) (.sl id 0 (es.length+fs.length) UF xO s) (.sr k):=by
   intro ob xO KG hRm Xy al8 auR al9 auS UF ark aaF
   let R':Rs:=λi=>if i=id then(if st then aa ((es++fs).length*s)else ah)else R i
   have Ib:=g7
   obtain⟨hs,hJ⟩:=h.tU (R':=R') (bad:=(·=k)) (kK:=.row s st cut (dG||fr) z') (fB:=.cells ob xO KG) b1 hk (λj hj=>by simp[R',hj])
    (λm hm=>by
     rw[Ib]at hm;split at hm
     .rename_i bL;cases hm;exact⟨(es++fs).length*s,by simp[R',bL],azd s aw⟩
     .cases hm)
    (λm zY Gr Uw hm aT=>by
     rw[b2]at aT;cases aT;rcases hRm with hRm|⟨rfl,hle⟩
     .rw[hRm]at hm;cases hm
     .rw[Ib]at hm;split at hm
      .cases hm;exact⟨ob,xO,rfl,hle,al8⟩
      .cases hm)
    (λm zY Gr Uw hm ho=>by
     injection ho with Q7 _ _
     subst Q7;simp only[R',if_true]at hm;split at hm
     .cases hm;exact al9
     .cases hm)
    (λcs h=>by cases h) (λkt es h=>by cases h) (λ_ _ _ _ _ _=>rfl) QW hL
    (λhs=>⟨cw,es++fs,ta,al7,.inr ⟨id,ob,xO,KG,b1,by rw[St.dt,if_pos rfl],Xy,al9,by simp[R'],auS,λj x d hx hd=>by
     rw[UD]at hd;have hfl:=uS g2;by_cases hj:j<es.length*s
     .rw[ayZ aj]at hd;rw[al8 j hj]at hx;exact((g9 j x d hx hd).wide (λh=>by simp[h])).mono hs.grow
     .rw[aze aj,hfl]at hd
      have Ce:j- es.length*s<new.length:=by
       have:=(ayH.1 hd).1;rw[uS hfs]at this;omega
      rw[show j=es.length*s+(j- es.length*s) by omega,auR _ Ce]at hx;exact((MJ _ x d hx hd).wide (λh=>by simp[h])).mono hs.grow⟩⟩)
   exact⟨R',hJ,s,st,cut,dG||fr,z',es++fs,bN,ta,.inr ⟨id,ob,xO,KG,UF,b1,by rw[St.dt,if_pos rfl],by simp,azz _,ark,λc hc=>⟨(aaF c hc).1,by simpa using(aaF c hc).2.1,by simpa using(aaF c hc).2.2⟩⟩⟩
  have aaG:(es++fs).length*s=es.length*s+fs.length*s:=by simp[azD]
  cases cap with
  |some c=>
   obtain⟨e1,e2,e3⟩:=b6 c rfl;by_cases vD:es.length+fs.length<=c
   .have ayu:es.length*s+fs.length*s<=cs.length:=by
     have:=azd s vD;rw[azD]at this;omega
    obtain⟨R',hJ,hV⟩:=O3 (eV cs (es.length*s) new) aE aE (.inr ⟨e1.symm,ayL _⟩) (ayL _)
     (λj hj=>by rw[sR (α:=IV) aj,if_neg aj])
     (λj hj=>by rw[sR (α:=IV) aj,if_pos aj];congr 1;omega)
     (by rw[Au aj];omega) (Gt g8 hnc) (aa c) (λh=>by cases h) (λc' qd=>by cases qd;exact⟨rfl,by rw[Au aj];omega,by simpa using vD⟩)
    refine⟨_,_,R',φ,?_,hJ,hV⟩;simp only[fv];rw[if_neg aw,if_neg m7];simp only[b2,aD7,aB1,aAn];rw[if_pos vD,if_pos ⟨azz _,trivial,by rw[azD];omega⟩];rfl
   .have⟨R',aV,hJ,hV⟩:=fresh _ SJ arj ahY;refine⟨_,_,R',aV,?_,hJ,hV⟩;simp only[fv];rw[if_neg aw,if_neg m7];simp only[aD7];rw[if_neg vD,Bz (by simpa using hold) SJ];rfl
  |none=>
   by_cases UG:es.length*s=cs.length
   .obtain⟨R',hJ,hV⟩:=O3 (cs++new) (aE+1) mn (.inr ⟨rfl,by omega⟩) aj
     (λj hj=>by rw[ayZ aj])
     (λj hj=>by rw[aze aj];congr 1;omega)
     (by rw[aaG,ayP];omega) (by rw[aCd,g8,hnc];rfl) ah (λ_ _=>by rw[aaG,ayP];omega) (λc h=>by cases h)
    refine⟨_,_,R',φ,?_,hJ,hV⟩;simp only[fv];rw[if_neg aw,if_neg m7];simp only[b2,aB1];rw[if_pos ⟨azz _,trivial,trivial,UG⟩];rfl
   .have UH:cut=ab:=by
     cases hc:cut with
     |true=>rfl
     |false=>exact absurd (b5 rfl hc) UG
    have bL:st=af:=by rw[UH]at xk;simpa using xk
    obtain⟨R',hJ,hV⟩:=O3 (cs.take (es.length*s)++new) (aE+1+1) (aE+1) (.inl (by rw[g7,bL];rfl)) aj
     (λj hj=>by rw[ayZ aj,azn,if_pos hj])
     (λj hj=>by rw[aze aj,SJ];congr 1;omega)
     (by rw[aaG,ayP,SJ];omega) (by rw[aCd,ahY,hnc];rfl) ah (λ_ h=>by rw[UH]at h;cases h) (λc h=>by cases h)
    refine⟨.sl id 0 (es.length+fs.length) ah (aE+1+1) s,(σ.put id (.cells (cs.take (es.length*s)) (aE+1) (aE+1))).put id (.cells (cs.take (es.length*s)++new) (aE+1+1) (aE+1)),R',φ,?_,?_,?_⟩
    .simp only[fv];rw[if_neg aw,if_neg m7];simp only[b2,aB1];rw[if_neg (λhc=>UG hc.2.2.2),if_pos ⟨azz _,trivial,trivial,g6⟩];rfl
    .rw[X6 h.wf];exact hJ
    .rw[X6 h.wf];exact hV
theorem js(h:J Cx (ay P ν) R φ V.g V.l E σ)(d:Nat):∀(ops:List Operand) (ts:List TypeId),All2 (VR (ay P ν) R φ V.l σ) (ops.map (aD (E d))) (kz P d V ops ts)
 |[],_=>trivial
 |x::xs,t::ts=>⟨bw h d t x,js h d xs ts⟩
 |x::xs,[]=>⟨bw h d 0 x,js h d xs []⟩
def xQ{α β:Type}{r:α->β->Prop}{as:List α}{b:β}(h:All2 r as [b]):∃a,as=[a]/\r a b:=by
 cases as with
 |nil=>cases h
 |cons a as=>
  cases as with
  |nil=>exact⟨a,rfl,h.1⟩
  |cons a' as=>cases h.2
def LD{α β:Type}{r:α->β->Prop}{as:List α}{b c:β}(h:All2 r as [b,c]):∃a a',as=[a,a']/\r a b/\r a' c:=by
 cases as with
 |nil=>cases h
 |cons a as=>
  obtain⟨a',rfl,h'⟩:=xQ h.2;exact⟨a,a',rfl,h.1,h'⟩
def Cl.BA{x:IV}{c:Cl SE}(h:c9 (ay P ν) R φ L σ x c):c.ok (·=L.length):=by
 cases c with
 |sr k=>have⟨_,_,_,_,_,_,h1,_⟩:=h;exactλhc=>by grind
 |sv k lo=>have⟨_,_,_,_,_,_,_,_,h1,_⟩:=h;exactλhc=>by have:=fa h1;omega
 |pr k i off ext=>have⟨_,_,_,_,_,_,_,_,_,_,_,_,h1,_⟩:=h;exactλhc=>by have:=fa h1;omega
 |_=>trivial
def Gv{xs:List IV}{cs:List (Cl SE)}(h:All2 (c9 (ay P ν) R φ L σ) xs cs):∀c∈cs,c.ok (·=L.length):=by
 intro c hc;have⟨i,hi⟩:=az0 hc;have⟨a,_,ha⟩:=h.DU hi;exact Cl.BA ha
theorem PV.BA{x:IV}{pv:PV SE}(h:VR (ay P ν) R φ L σ x pv):pv.ok (·=L.length):=by
 cases pv with
 |one c=>exact Cl.BA (c:=c) h
 |ag cs=>have⟨xs,_,h2⟩:=h;exact Gv h2
 |tu vs=>
  have⟨xs,_,h2⟩:=h;intro p hp c hc;have⟨i,hi⟩:=az0 hp;have⟨a,_,ha⟩:=h2.DU hi;unfold vR at ha;split at ha
  .have⟨ys,_,h3⟩:=ha;exact Gv h3 c hc
  .have⟨c',h3,h4⟩:=ha;rw[h3]at hc;simp at hc;subst hc;exact Cl.BA h4
def OR.BA{j:Nat}{ob:LO SE}(h:OR Cx (ay P ν) R φ L σ j ob):ob.ok (·=L.length):=by
 cases ob with
 |var cs=>have⟨_,_,_,_,_,h4⟩:=h;exact Gv h4
 |_=>trivial
def xR(h:J Cx (ay P ν) R φ Γ L E σ){j:Nat}(hj:L.length<=j):φ j=ah:=by
 cases hf:φ j with
 |none=>rfl
 |some id=>have:=(h.lt _ _ hf).1;omega
def J.AQ(h:J Cx (ay P ν) R φ Γ L E σ){s:Nat}{fr:Bool}{z:SE}(hs:0<s)(hz:z.den P ν=aa (.tree s [])):lj (ay P ν) (ay P ν) R φ L σ R φ (L++[.row s af af fr z]) σ (λ_=>False)/\J Cx (ay P ν) R φ Γ (L++[.row s af af fr z]) E σ:=by
 have hL:∀j o,L[j]?=aa o->(L++[.row s af af fr z])[j]?=aa o:=λj o hj=>by rw[ayZ (fa hj)];omega
 have hc:lj (ay P ν) (ay P ν) R φ L σ R φ (L++[.row s af af fr z]) σ (λ_=>False):=
  .mk' (λ_ _ h=>h) (jg.refl h.fits) (λj cs hj=>⟨⟨cs,hL j _ hj⟩,rfl⟩) (λj kt es hj=>⟨⟨es,hL j _ hj⟩,rfl⟩) (λj s st cut fr z hj _=>⟨⟨st,hL j _ hj⟩,rfl,λ_ _=>rfl⟩) (λj c st snap hj=>⟨⟨c,st,snap,hL j _ hj⟩,rfl⟩)
 refine⟨hc,{h with slot:=λd t pv hg=>(h.slot d t pv hg).step hc pv.a_,obj:=λj o hj=>?_,lt:=λj id hj=>by have:=h.lt j id hj;grind}⟩;by_cases vd:j<L.length
 .rw[ayZ vd]at hj;exact(h.obj j o hj).step hc rfl (λ_ _=>⟨rfl,rfl⟩) o.a_
 .have:j=L.length:=bc;subst this;simp at hj;subst hj;exact⟨hs,[],hz,λe he=>bc,.inl ⟨xR h (ayL _),rfl⟩⟩
def X7{s bytes:Nat}{e f:SE}{z:IV}(h:(SE.cat s bytes e f).den P ν=aa z):∃es fs,e.den P ν=aa (.tree s es)/\f.den P ν=aa (.tree s fs)/\0<s/\fM s fs=ab/\(4*(es.length+fs.length)+4096)*bytes<=2 ^47/\es.length+fs.length<=2 ^40/\z=.tree s (es++fs):=by
 simp only[SE.den,ay4]at h;have⟨a,h1,b,h2,h3⟩:=h;unfold cX at h3
 grind
def aaH{fr:Bool}{new ds:List IV}(h:r9 ab R σ new ds)(hd:∀d∈ds,aL d=ab):r9 af R σ new ds:=by
 intro j x e hx he;have hr:=hd e (ayX he);have:=h j x e hx he;unfold aL at hr;split at hr
 .rw[cD this];exact .raw _
 grind
def Ig(hJ:J Cx (ay P ν) R φ V.g V.l E σ){et:TypeId}{s:Nat}{base c:Cl SE}{fr raw:Bool}{es:SE}{x:IV}{fs:List IV}(ha:xE P V et s base c=aa (fr,es,raw))(hx:c9 (ay P ν) R φ V.l σ x c)(m8:es.den P ν=aa (.tree s fs))(cw:0<s)(bf:fM s fs=ab)
 (l6:raw=ab->(∃z,(SE.rws es).den P ν=aa z)):
 qE x=aa fs.length/\∃new,fU s fs.length σ x=aa new/\new.length=fs.length*s/\r9 fr R σ new (flat fs)/\new.all Ev.ao=ab:=by
 cases c with
 |sr j=>
  simp only[xE]at ha;split at ha
  .rename_i s' st cut dG aW hj;split at ha
   .rename_i hc;simp only[ayI,azv]at hc;obtain⟨rfl,rfl,rfl⟩:=ha;obtain⟨rfl,_⟩:=hc;exact UE hJ hj m8 hx
   grind
  grind
 |nl b s'=>
  obtain⟨rfl,rfl,rfl⟩:=ha
  have:fs=[]:=by
   simp_all[SE.den]
  subst this;obtain⟨_,rfl⟩:=hx;refine⟨by cases b<;>rfl,[],?_,by simp,λj x d h=>by grind,rfl⟩
  grind [fU]
 |w f z=>
  simp only[xE,ayO,aAt]at ha;obtain⟨rfl,rfl,rfl⟩:=ha;have⟨y,h1,h2,_⟩:=hx;have dH:z.den P ν=aa y:=h1;rw[m8]at dH;cases dH;exact O2 cw h2 bf
 |v z=>
  have⟨y,h1,h2,_⟩:=hx;have dH:z.den P ν=aa y:=h1;simp only[xE]at ha;split at ha
  .obtain⟨rfl,rfl,rfl⟩:=ha;rw[m8]at dH;cases dH;have⟨a1,new,a2,a3,a4,a5⟩:=O2 cw (h2.mono hJ.Dj) bf;refine⟨a1,new,a2,a3,aaH (fr:=ab) a4 λe he=>?_,a5⟩;obtain⟨q,hq⟩:=l6 rfl;simp only[SE.den,m8,ayK]at hq;split at hq
   .rename_i bX;rw[ayY]at bX;have⟨el,py,ayv⟩:=az1.1 he
    grind
   grind
  .obtain⟨rfl,rfl,rfl⟩:=ha;rw[m8]at dH;cases dH;exact O2 cw (h2.mono hJ.Dj) bf
 |un|pt|tp|tw|sv|pr|mp|fn|yl=>contradiction
def Nh{d t k:Nat}{pv:PV SE}{g:Gm SE}(h:cz d t (MN k g)=aa pv):pv.ok (·=k):=by
 obtain⟨q,_,rfl⟩:=HV g h;exact q.oY k
variable(hJ:J Cx (ay P ν) R φ V.g V.l E σ)(hn:ν.length=V.n)
include hJ hn
theorem aaI{et:TypeId}{bytes s:Nat}{base c:Cl SE}{fr raw:Bool}{es:SE}{x0 x1:IV}(hb:c9 (ay P ν) R φ V.l σ x0 base)(hc:c9 (ay P ν) R φ V.l σ x1 c)(ha:xE P V et s base c=aa (fr,es,raw))(l6:raw=ab->(∃z,(SE.rws es).den P ν=aa z))
 (hs:(EL bytes s base fr es V k).sat P C Q K ν):
 dz Cx P C Q K ν E V.ln k (λv av=>∃m n new,qE x0=aa m/\qE x1=aa n/\fU s n σ x1=aa new/\new.length=n*s/\new.all Ev.ao=ab/\(4*(m+n)+4096)*bytes<=2 ^47/\m+n<=2 ^40/\fv 0 s m n new x0 σ=aa (.val v av)):=by
 unfold EL at hs;split at hs
 .rename_i b s';split at hs
  .rename_i me;have Gu:=ay0 me;have⟨z,h1,h2,hv,bE,eG⟩:=wJ hJ hn hs;obtain⟨e0,fs,c1,c2,c3,c4,c5,c6,rfl⟩:=X7 h1
   have Ng:e0=[]:=by
    simp_all[SE.den]
   subst Ng;have⟨a1,new,a2,a3,a4,a5⟩:=Ig hJ ha hc c2 c3 c4 l6;have⟨_,tb⟩:=hb;have tO:(SE.tr s SE.an).den P (ν++[IV.tree s ([]++fs)])=aa (.tree s []):=by assumption
   have⟨Hb,fq⟩:=bE.AQ (fr:=af) c3 tO;have oE:(V.l++[LO.row s af af af (SE.tr s SE.an)])[V.l.length]?=aa (.row s af af af (SE.tr s SE.an)):=aw
   obtain⟨x',au,R',aV,b1,b2,b3⟩:=Nf fq (dG:=fr) (z':=.var V.n) (x:=x0) oE tO hv ⟨s,af,af,af,_,[],oE,tO,.inl ⟨xR hJ (ayL _),rfl,by grind⟩⟩
    a3 a4 a5 (D3 c4).1 rfl (λd t pv hg=>PV.BA (bE.slot d t pv hg)) (λj o hj bA=>by
     have vd:j<V.l.length:=bc;rw[ayZ vd]at hj;exact OR.BA (bE.obj j o hj))
   have D1:(V.l++[LO.row s af af af (SE.tr s SE.an)]).set V.l.length (.row s af af (fr||af) (.var V.n))=V.l++[LO.row s af af fr (.var V.n)]:=aw;rw[D1]at b2 b3;refine⟨x',au,R',aV,.one (.sr V.l.length),{V with n:=V.n+1,l:=V.l++[.row s af af fr (.var V.n)]},[.tree s ([]++fs)],⟨0,fs.length,new,by subst tb;cases b<;>rfl,a1,a2,a3,a5,c5,c6,b1⟩,b2,b3,eG,rfl,h2⟩
  .cases hs
 .rename_i j;split at hs<;>try cases hs
  rename_i s' st cut dG aW hj;split at hs
  .rename_i cH;simp only[ayI,azv,azY]at cH;obtain⟨rfl,xk⟩:=cH;have⟨z,h1,h2,hv,bE,eG⟩:=wJ hJ hn hs;obtain⟨e0,fs,c1,c2,c3,c4,c5,c6,rfl⟩:=X7 h1;have⟨a1,new,a2,a3,a4,a5⟩:=Ig hJ ha hc c2 c3 c4 l6
   have hm:qE x0=aa e0.length:=by
    have:=UE hJ hj c1 hb
    grind
   have cd:c9 (ay P (ν++[.tree s (e0++fs)])) R φ V.l σ x0 (.sr j):=by
    have hbv:VR (ay P ν) R φ V.l σ x0 (.one (.sr j)):=hb;exact VR.up hJ hbv (λe z h=>SE.dI P e h)
   have fq:=bE.ZW j;have hjd:(V.l.map (LO.drop j))[j]?=aa (.row s st cut dG aW):=by simp[hj,LO.drop]
   have dw:=cd.step (Lm bE j) (Cl.a_ _)
   obtain⟨x',au,R',aV,b1,b2,b3⟩:=Nf fq (dG:=fr) (z':=.var V.n) (x:=x0) hjd (SE.dI P aW c1) hv dw a3 a4 a5 (D3 c4).1 xk (λd t pv hg=>Nh hg) (λi o hi bA=>by
    rw[ay1]at hi;obtain⟨o',_,rfl⟩:=ayR.1 hi;exact o'.oY j)
   refine⟨x',au,R',aV,.one (.sr j),((({V with n:=V.n+1}:SS).vg j).setObj j (.row s st cut (fr||dG) (.var V.n))),[.tree s (e0++fs)],⟨e0.length,fs.length,new,hm,a1,a2,a3,a5,c5,c6,b1⟩,b2,b3,eG,rfl,h2⟩
  .cases hs
 .cases hs
end
section
variable{Cx:Cs}
variable{P:Program}{N:Nat}{σ au:St}{R R':Rs}{φ aV:Ph}{E:Nat->Env}{ν:List IV}
variable{C:Cr}{Q:IV->Prop}{K:List (List IV->Prop)}{V:SS}{d:Nat}{o:Oper}{k:PV SE->SS->aq}{L:List (LO SE)}{Γ:Gm SE}
def qA{t et:TypeId}(h:elemOf P t=aa et):P.underlying t=aa (.slice et):=by
 grind [elemOf]
def J9{e:SE}{z:IV}(h:(SE.len e).den P ν=aa z):∃s es,e.den P ν=aa (.tree s es)/\z=.int es.length:=by
 simp only[SE.den,ay4]at h;have⟨a,h1,h2⟩:=h;unfold H_ at h2
 grind
def aft{e:SE}{z:IV}(h:(SE.uL e).den P ν=aa z):∃b,e.den P ν=aa (.raw (.string b))/\z=.int b.size:=by
 simp only[SE.den,ay4]at h;have⟨a,h1,h2⟩:=h;unfold AO at h2
 grind
def ajH{fr:Bool}{x:IV}{s:Nat}{es:List IV}{ts:Array TypeId}{el:TypeId}(hu:(ts[0]?).bind P.underlying=aa (.slice el))(h:bx fr R σ x (.tree s es)):qF P ts x σ=aa (.int es.length):=by
 generalize hz:IV.tree s es=z at h;cases h with
 |nil s' bu=>simp_all[qF]
 |emp s' bu=>simp_all[qF]
 |pure _ hf hp=>subst hz;simp[qF,hu]
 |sl id off len cap ep s' m cs aE mn aW hR aT a1 a2 bu hl hb hm bH hh=>simp_all[qF]
 |raw v=>grind
 |dP=>grind
 |agg=>grind
 |aF=>grind
variable(hJ:J Cx (ay P ν) R φ V.g V.l E σ)(hn:ν.length=V.n)
include hJ hn
theorem ajI{c:Call}(ho:o.op=.call c)(hc:c.callee=.builtin .len)(hs:(gN P d o V k).sat P C Q K ν):dz Cx P C Q K ν E V.ln k (bT P E d o σ):=by
 simp only[gN,ho,hc]at hs;have bF:=js hJ d c.args.toList c.argTypes.toList;split at hs<;>first|(cases hs)|(exact(‹aDE=aDE->False› rfl).elim)|skip
 all_goals first|(rename_i hb _;cases hb;done)|skip
 rename_i pv _ hh;rw[hh]at bF;have⟨x,hx,hr⟩:=xQ bF
 have fD:∀v,qF P c.argTypes x σ=aa v->aA P 0 (aD (E d)) o σ=aa (.val v σ):=by
  intro v hv;simp[aA,ho,hc,fw,hx,hv]
 split at hs
 .rename_i hu
  have main:∀a:SE,(∀y,a.den P ν=aa y->bx ab R σ x y)->(vk (.uL a) V k).sat P C Q K ν->dz Cx P C Q K ν E V.ln k (bT P E d o σ):=by
   intro a ha hs;have⟨⟨z,hz⟩,hk⟩:=hs;obtain⟨b,h1,rfl⟩:=aft hz;have:=cD (ha _ h1);exact .at (x:=.int b.size) hk hJ hn rfl ⟨_,hz,.raw _,rfl⟩ (fD _ (by simp[qF,hu,this]))
  split at hs
  .rename_i z;have⟨y,h1,h2,_⟩:=hr;exact main z (λy' hy=>by have dH:z.den P ν=aa y:=h1;rw[hy]at dH;cases dH;exact h2.mono hJ.Dj) hs
  .rename_i f z;have⟨y,h1,h2,_⟩:=hr;exact main z (λy' hy=>by have dH:z.den P ν=aa y:=h1;rw[hy]at dH;cases dH;exact h2.cQ) hs
  .cases hs
 .rename_i el hu
  have main:∀a:SE,(∀y,a.den P ν=aa y->bx ab R σ x y)->(vk (.len a) V k).sat P C Q K ν->dz Cx P C Q K ν E V.ln k (bT P E d o σ):=by
   intro a ha hs;have⟨⟨z,hz⟩,hk⟩:=hs;obtain⟨s,es,h1,rfl⟩:=J9 hz;exact .at (x:=.int es.length) hk hJ hn rfl ⟨_,hz,.raw _,rfl⟩ (fD _ (ajH hu (ha _ h1)))
  split at hs
  .rename_i z;have⟨y,h1,h2,_⟩:=hr;exact main z (λy' hy=>by have dH:z.den P ν=aa y:=h1;rw[hy]at dH;cases dH;exact h2.mono hJ.Dj) hs
  .rename_i f z;have⟨y,h1,h2,_⟩:=hr;exact main z (λy' hy=>by have dH:z.den P ν=aa y:=h1;rw[hy]at dH;cases dH;exact h2.cQ) hs
  .rename_i b s;have⟨_,h2⟩:=hr;exact .at (x:=.int 0) hs hJ hn rfl ⟨_,rfl,.raw _,rfl⟩ (fD _ (by subst h2;cases b<;>simp[qF,hu]))
  .rename_i j;split at hs
   .rename_i s st cut fr es hj;have⟨⟨z,hz⟩,hk⟩:=hs;obtain⟨s',aW,h1,rfl⟩:=J9 hz
    have me:s'=s:=by
     have⟨_,mI,g1,_⟩:=hJ.obj j _ hj;have r7:es.den P ν=aa (.tree s mI):=g1;rw[h1]at r7;cases r7;rfl
    subst me;have⟨hl,_⟩:=UE hJ hj h1 hr;refine .at (x:=.int aW.length) hk hJ hn rfl ⟨_,hz,.raw _,rfl⟩ (fD _ ?_);have⟨s2,st2,afs,fr2,z2,X5,a1,a2,a3⟩:=hr;rw[hj]at a1;cases a1;have Bx:es.den P ν=aa (.tree s' X5):=a2;rw[h1]at Bx;cases Bx;rcases a3 with⟨_,b2,rfl|rfl⟩|⟨id,cs,aE,mn,cap,_,_,rfl,_⟩
    .simp[qF,hu,b2]
    .simp[qF,hu,b2]
    .simp[qF,hu]
   .cases hs
  .cases hs
 .rename_i kt0 et0 hu;split at hs<;>try cases hs
  rename_i j;split at hs<;>try cases hs
  rename_i kt pB hj;split at hs
  .cases hs
  rename_i hk;have gu:=hk;have⟨⟨z,hz⟩,yV⟩:=hs;have⟨id,pz,mI,g1,g2,g3⟩:=hr;rw[hj]at g2;cases g2;rw[if_neg gu]at g3;have eW:=hJ.obj j _ hj;rw[lQ,if_neg gu]at eW;have⟨bz,es,clock,ds,c1,c2,c3,c4,c5,c6⟩:=eW;rw[g1]at c2;cases c2;have qn:=c1
  have Ie:z=.int ds.length:=by
   simp only[SE.den,qn,ayK,kO,if_true,ayO]at hz;exact hz.symm
  subst Ie;have hlen:=All2.len c5;exact .at (x:=.int es.length) yV hJ hn rfl ⟨_,hz,by rw[hlen];exact .raw _,rfl⟩ (fD _ (by subst g3;simp[qF,hu,c4]))
 .cases hs
omit hJ hn in
theorem acy{t:TypeId}{e:SE}(h:FN P t=aa e):∃v,db P t=aa v/\e.den P ν=aa (.raw v)/\v.cells= #[v]:=by
 unfold FN at h;split at h<;>first|(cases h;exact⟨_,‹_›,rfl,rfl⟩)|cases h
theorem afu{c:Call}{x0 x1:IV}{t0 t1 et:TypeId}{base ca:Cl SE}(ho:o.op=.call c)(hc:c.callee=.builtin .append)(hx:c.args.toList.map (aD (E d))=[x0,x1])(X8:c.argTypes[0]?=aa t0)(Q8:c.argTypes[1]?=aa t1)(het:elemOf P t0=aa et)
 (EE:VR (ay P ν) R φ V.l σ x0 (.one base))(wK:VR (ay P ν) R φ V.l σ x1 (.one ca))(hs:(aah P et t1 base ca V k).sat P C Q K ν):dz Cx P C Q K ν E V.ln k (bT P E d o σ):=by
 unfold aah at hs;split at hs<;>try cases hs
 rename_i qk s n xg;split at hs<;>try cases hs
 rename_i s' z ze bytes bo wH hze KK;split at hs<;>try exact hs.elim
 rename_i cH;simp only[ayI]at cH;have⟨⟨⟨⟨h1,h2⟩,h3⟩,h4⟩,h5⟩:=cH;have dH:=ay0 h1;have xh:=ay0 h2;subst dH xh;have KF:bytes<=1000000:=yO;have⟨v,e1,e2,e3⟩:=acy (ν:=ν) hze;rw[wH]at e1;cases e1;have⟨y,hy,hk⟩:=hs;simp only[SE.den,ay4]at hy;have⟨nv,n1,zv,n2,n3⟩:=hy;rw[e2]at n2;cases n2;have⟨y',y1,y2,_⟩:=wK;have Q9:n.den P ν=aa y':=y1;rw[n1]at Q9;cases Q9
 obtain⟨q,m,rfl,m1,m2,hq,rfl⟩:∃q m,nv=.raw (.int q m)/\1<=m/\m<=1000000/\(q==azc)=ab/\y=.tree 1 (ay_ m.toNat (.raw z)):=by
  unfold kO at n3
  grind
 have rS:q=.i64:=bc;subst rS;have Co:=cD y2;have⟨_,tb⟩:=EE
 have UI:lK (z.cells.toList.map .raw) (m.toNat*1)=ay_ m.toNat (.raw z):=by
  simp[lK,e3]
 have bf:Ev.ao (.raw z)=ab:=bc;have nZ:(SE.var V.n).den P (ν++[.tree 1 (ay_ m.toNat (.raw z))])=aa (.tree 1 (ay_ m.toNat (.raw z))):=by simp[SE.den,<-hn]
 have bE:=hJ.up (jz:=ay P (ν++[.tree 1 (ay_ m.toNat (.raw z))])) (λe y h=>SE.dI P e h)
 have fq:=bE.zB (.cells (ay_ m.toNat (.raw z)) 0 0) (.row 1 af af af (.var V.n)) ⟨by omega,_,nZ,λe he=>(by rw[az3 he];rfl),.inr ⟨σ.n,(ay_ m.toNat (.raw z)),0,0,by simp[bU],by simp,ayL _,by simp,hJ.rP,ayY.2 λx hx=>bc,λj x d hx hd=>by
  have kY:=az3 (ayX hx)
  have vH:d=.raw z:=by
   have hm:=ayX hd
   grind [flat,cellsOf]
  rw[kY,vH];exact .raw _⟩⟩
 refine⟨.sl σ.n 0 m.toNat ah 0 1,_,R,_,.one (.sr V.l.length),{V with n:=V.n+1,l:=V.l++[.row 1 af af af (.var V.n)]},[.tree 1 (ay_ m.toNat (.raw z))],?_,fq,
  ⟨1,af,af,af,_,_,by simp,nZ,.inr ⟨σ.n,(ay_ m.toNat (.raw z)),0,0,ah,by simp[bU],by simp,by simp,azz _,λ_ _=>by simp,λc hc=>by grind⟩⟩,by grind,rfl,hk⟩
 have zS:m.toNat≠0:=aj;simp only[bT,aA,ho,fw,hx,mw,X8,Q8,qA het,xg,bo,wH,KK,u5,Co,tb];rw[if_neg bc,if_pos ⟨by omega,by omega⟩];simp only[qE];rw[UI];simp only[if_true]
 rw[if_pos ⟨by simp,ayY.2 λx hx=>bc,by
    have:(4*(0+m.toNat)+4096)*bytes<=4004096*1000000:=Nat.mul_le_mul aj KF;omega,by omega⟩]
 simp_all[fv,gl,fU,ret]
theorem aaJ{c:Call}(ho:o.op=.call c)(hc:c.callee=.builtin .append)(hs:(gN P d o V k).sat P C Q K ν):dz Cx P C Q K ν E V.ln k (bT P E d o σ):=by
 simp only[gN,ho,hc]at hs;have bF:=js hJ d c.args.toList c.argTypes.toList;split at hs<;>first|(cases hs)|grind|skip
 all_goals try grind
 rename_i base ca _ hh;rw[hh]at bF;have⟨x0,x1,hx,EE,wK⟩:=LD bF;split at hs<;>try cases hs
 rename_i t0 t1 X8 Q8;split at hs<;>try cases hs
 rotate_left
 .rename_i et het _;exact afu hJ hn ho hc hx X8 Q8 het EE wK hs
 rename_i et et1 het afv;split at hs<;>try cases hs
 rename_i s z bytes bo wH KK;split at hs<;>try cases hs
 have axG:s≠0/\z.cells.size=s:=by
  simp_all
 split at hs<;>try cases hs
 rename_i fr es raw UJ
 have main:(raw=ab->∃z,(SE.rws es).den P ν=aa z)->(EL bytes s base fr es V k).sat P C Q K ν->dz Cx P C Q K ν E V.ln k (bT P E d o σ):=by
  intro l6 hs;have⟨v,av,R1,ew,pv,V1,μ,⟨m,n,new,h1,h2,h3,h4,h5,h6,h7,h8⟩,kj⟩:=aaI hJ hn EE wK UJ l6 hs;refine⟨v,av,R1,ew,pv,V1,μ,?_,kj⟩;simp only[bT,aA,ho,fw,mw,X8,Q8,qA het,qA afv,u5]
  grind
 split at hs
 .have⟨hz,hk⟩:=hs
  grind
 grind
end
section
variable{Cx:Cs}
variable{P:Program}{N:Nat}{σ au:St}{R R':Rs}{φ aV:Ph}{E:Nat->Env}{ν:List IV}
variable{C:Cr}{Q:IV->Prop}{K:List (List IV->Prop)}{V:SS}{d:Nat}{o:Oper}{k:PV SE->SS->aq}{L:List (LO SE)}{Γ:Gm SE}
theorem Gw(hJ:J Cx (ay P ν) R φ V.g V.l E σ){ty:Nat->TypeId}{place:Nat->Option (Nat×Nat)}:∀{parts:List (Nat×Operand)} {cells:List IV} {cs out:List (Cl SE)},All2 (c9 (ay P ν) R φ V.l σ) cells cs->
 pK (λj x=>fE (bP P d V (ty j) x)) place parts cs=aa out->∃iP,sC place cells (parts.map λ(i,x)=>(i,aD (E d) x))=aa iP/\All2 (c9 (ay P ν) R φ V.l σ) iP out/\iP.length=cells.length/\(cells.all Ev.ao=ab->iP.all Ev.ao=ab)
 |[],cells,cs,out,h,hp=>by
  simp only[pK,ayO]at hp;subst hp;exact⟨cells,rfl,h,rfl,λh=>h⟩
 |(j,x)::ps,cells,cs,out,h,hp=>by
  simp only[pK]at hp;split at hp
  .rename_i off sz gd;split at hp
   .rename_i hc;simp only[ayI,azv,aAb]at hc;have⟨⟨c1,c2⟩,c3⟩:=hc;have jH:=Dg (bw hJ d (ty j) x) c1;have bf:=wG jH c1;have hl:=jH.len;have w_:=h.len;have⟨iP,h1,h2,h3,h4⟩:=Gw hJ (Q4 off h jH) hp;refine⟨iP,?_,h2,by rw[h3,Au aj],λha=>h4 (Gt ha bf)⟩
    simp_all[sC]
   grind
  grind
def LF{zero:List IV}{s:Nat}(hl:zero.length=s)(hs:0<s)(n:Nat):lK zero (n*s)=(ay_ n zero).flatten:=by
 unfold lK;split
 .simp at hl;subst hl;simp
 simp_all
theorem Q_{zero:List IV}{zc:List (Cl SE)}(h:All2 (c9 (ay P ν) R φ L σ) zero zc):∀n,All2 (c9 (ay P ν) R φ L σ) (ay_ n zero).flatten (Ub zc n)
 |0=>trivial
 |n+1=>by
  rw[List.replicate_succ,List.flatten_cons];exact h.app (Q_ h n)
def ap9{zero:List IV}{s:Nat}(hl:zero.length=s):∀n,(ay_ n zero).flatten.length=n*s
 |0=>by simp
 |n+1=>by simp_all
def acz{z:SE}(h:MS z=ab){y:IV}(hy:z.den P ν=aa y):aL y=ab:=by
 cases z<;>simp[MS]at h<;>(simp only[SE.den,ayO]at hy;subst hy;rfl)
def al_{V':SS}{c:Cl SE}{t:TypeId}{fr:Bool}{z:SE}{vy:List SE}(h:J Cx (ay P ν) R φ V.g V.l E σ)(hr:rdT P V c t=aa (fr,z,V',vy)):
 ∃R',jM P ν R φ V σ R' V'/\J Cx (ay P ν) R' φ V'.g V'.l E σ/\∀x,c9 (ay P ν) R φ V.l σ x c->∃y,z.den P ν=aa y/\bx ab R' σ x y/\Ev.ao y=ab/\((∀e∈vy,∃q,(SE.rw e).den P ν=aa q)->bx fr R' σ x y):=by
 unfold rdT at hr;split at hr
 .rename_i z';have Jr:=Ic (c:=.v z') h rfl;have⟨R',h1,h2,h3⟩:=Jr;split at hr
  .simp only[ayO,aAt]at hr;obtain⟨rfl,rfl,rfl,rfl⟩:=hr;refine⟨R',h1,h2,λx hx=>?_⟩;have⟨y,a1,a2,a3⟩:=h3 x hx;refine⟨y,a1,a2,a3,λl6=>?_⟩
   have hy:aL y=ab:=by
    by_cases hl:MS z'=ab
    .exact acz hl a1
    simp_all[SE.den]
   unfold aL at hy;split at hy
   .rw[cD a2];exact .raw _
   grind
  grind
 .split at hr
  .rename_i dG z' V1 fm;obtain⟨rfl,rfl,rfl,rfl⟩:=hr;have⟨R',h1,h2,h3⟩:=Ic h fm;refine⟨R',h1,h2,λx hx=>?_⟩;have⟨y,a1,a2,a3⟩:=h3 x hx;exact⟨y,a1,a2.cQ,a3,λ_=>a2⟩
  grind
theorem X9:∀{cs:List (Cl SE)} {ts:List TypeId} {V V':SS} {R:Rs} {fr:Bool} {zs vy:List SE},J Cx (ay P ν) R φ V.g V.l E σ->aaa P V cs ts=aa (fr,zs,V',vy)->
 ∃R',jM P ν R φ V σ R' V'/\J Cx (ay P ν) R' φ V'.g V'.l E σ/\zs.length=cs.length/\∀xs,All2 (c9 (ay P ν) R φ V.l σ) xs cs->∃ys,All2 (λ(z:SE) y=>z.den P ν=aa y) zs ys/\All2 (bx ab R' σ) xs ys/\ys.all Ev.ao=ab/\
  ((∀e∈vy,∃q,(SE.rw e).den P ν=aa q)->All2 (bx fr R' σ) xs ys)
 |[],_,V,V',R,fr,zs,vy,h,hr=>by
  obtain⟨rfl,rfl,rfl,rfl⟩:=hr;refine⟨R,.refl h,h,rfl,λxs hx=>⟨[],trivial,?_,rfl,λ_=>?_⟩⟩<;>
  .cases xs with
   |nil=>trivial
   |cons=>assumption
 |c::cs,[],V,V',R,fr,zs,vy,h,hr=>by contradiction
 |c::cs,t::ts,V,V',R,fr,zs,vy,h,hr=>by
  simp only[aaa]at hr;split at hr
  .rename_i f1 z V1 r1 h1;split at hr
   .rename_i f2 zs' V2 r2 h2;obtain⟨rfl,rfl,rfl,rfl⟩:=hr;have⟨R1,a1,a2,a3⟩:=al_ h h1;have⟨R2,b1,b2,bl,b3⟩:=X9 a2 h2;refine⟨R2,a1.trans b1,b2,by grind,λxs hx=>?_⟩;cases xs with
    |nil=>cases hx
    |cons x xs=>
     have⟨y,c1,c2,c3,c4⟩:=a3 x hx.1;have⟨ys,d1,d2,d3,d4⟩:=b3 xs (hx.2.mono λ_ _ cG=>a1.Us cG);refine⟨y::ys,⟨c1,d1⟩,⟨c2.mono b1.2.2.2.grow,d2⟩,by grind,λl6=>⟨((c4 λe he=>l6 e bc).mono b1.2.2.2.grow).wide (λh=>by grind),(d4 λe he=>l6 e bc).mono λ_ _ cG=>cG.wide (λh=>by grind)⟩⟩
   grind
  grind
theorem Ra{f:aq}:∀{es:List SE},(aab es f).sat P C Q K ν->(∀e∈es,∃q,(SE.rw e).den P ν=aa q)/\f.sat P C Q K ν
 |[],h=>⟨λe he=>bc,h⟩
 |e::es,h=>by
  have⟨h1,h2⟩:=h;have⟨h3,h4⟩:=Ra h2
  grind
theorem Rb{s:Nat}:∀(n:Nat) {zs:List SE} {ys:List IV},All2 (λ(z:SE) y=>z.den P ν=aa y) zs ys->ys.length=n*s->∃es:List IV,All2 (λ(z:SE) y=>z.den P ν=aa y) (Bq s n zs) es/\es.length=n/\(∀e∈es,(cellsOf e).length=s)/\flat es=ys
 |0,zs,ys,h,hl=>by
  have:ys=[]:=azb aj;subst this;exact⟨[],trivial,rfl,λe he=>bc,rfl⟩
 |n+1,zs,ys,h,hl=>by
  rw[azD,aEb]at hl;have⟨es,h1,h2,h3,h4⟩:=Rb (s:=s) n (h.drop s) bc;refine⟨.agg (ys.take s)::es,⟨gH (h.take s),h1⟩,by grind,λe he=>?_,?_⟩
  .grind [cellsOf]
  .show cellsOf (.agg (ys.take s))++flat es=ys;rw[h4];exact List.take_append_drop s ys
theorem Rc:∀{ys:List IV},ys.all Ev.ao=ab->(∀e∈ys,(cellsOf e).length=1)/\flat ys=ys
 |[],_=>⟨λe he=>bc,rfl⟩
 |y::ys,h=>by
  simp only[List.all_cons,ayI]at h;have⟨h1,h2⟩:=Rc h.2;refine⟨λe he=>?_,?_⟩
  .rcases ayW.1 he with rfl|he
   .rw[D2 h.1];rfl
   grind
  .show cellsOf y++flat ys=y::ys;rw[h2,D2 h.1];rfl
variable(hJ:J Cx (ay P ν) R φ V.g V.l E σ)(hn:ν.length=V.n)
include hJ hn
theorem acA{t:TypeId}{parts:Array (Nat×Operand)}(ho:o.op=.build t parts)(hs:(gN P d o V k).sat P C Q K ν):dz Cx P C Q K ν E V.ln k (bT P E d o σ):=by
 simp only[gN,ho]at hs;split at hs
 .rename_i fields hu;split at hs<;>try cases hs
  split at hs<;>try cases hs
  rename_i cs hp;cases hz:db P t with
  |none=>grind
  |some z=>
   have⟨iP,h1,h2,_⟩:=Gw (ty:=alP fields) hJ (rZ (P:=P) (ν:=ν) (R:=R) (φ:=φ) (L:=V.l) (σ:=σ) hz) hp;refine .here (x:=.agg iP) (pv:=.ag cs) (av:=σ) ?_ hJ ⟨_,rfl,h2⟩ hn rfl hs;have dH:sC (λi=>(fields[i]?).bind λf=>(aX P f.type).map λs=>(f.offset,s)) (z.cells.toList.map IV.raw) (parts.toList.map λ(i,x)=>(i,aD (E d) x))=aa iP:=h1
   simp_all[bT,aA,ret]
 .rename_i len et hu;split at hs<;>try cases hs
  rename_i s bo;split at hs<;>try cases hs
  split at hs<;>try cases hs
  rename_i cs hp;cases hz:db P t with
  |none=>grind
  |some z=>
   have⟨iP,h1,h2,_⟩:=Gw (ty:=λ_=>et) hJ (rZ (P:=P) (ν:=ν) (R:=R) (φ:=φ) (L:=V.l) (σ:=σ) hz) hp;refine .here (x:=.agg iP) (pv:=.ag cs) (av:=σ) ?_ hJ ⟨_,rfl,h2⟩ hn rfl hs;have dH:sC (λi=>aa (i*s,s)) (z.cells.toList.map IV.raw) (parts.toList.map λ(i,x)=>(i,aD (E d) x))=aa iP:=h1;simp only[bT,aA,ho,hz,hu,bo,dH,ret]
 .cases hs
theorem O4{t:TypeId}{len:Nat}{parts:Array (Nat×Operand)}(ho:o.op=.buildSlice t len parts)(hs:(gN P d o V k).sat P C Q K ν):dz Cx P C Q K ν E V.ln k (bT P E d o σ):=by
 simp only[gN,ho]at hs;split at hs<;>try cases hs
 rename_i et het;have hu:=qA het;split at hs<;>try cases hs
 rename_i s z bo hz;split at hs<;>try cases hs
 rename_i hc;simp only[azp,azY,not_or,Bool.not_eq_false,aAb]at hc;have⟨⟨c1,c2⟩,c3⟩:=hc;have cw:s≠0:=by intro h;simp_all
 have Kl:=ay0 c2;have hzl:(z.cells.toList.map IV.raw).length=s:=bc;split at hs
 .rename_i mc;have auT:=ay0 mc;split at hs<;>try cases hs
  have ayw:parts.toList=[]:=bc;refine .at (x:=.emp) hs hJ hn rfl ⟨by omega,rfl⟩ ?_
  have UI:lK (z.cells.toList.map IV.raw) 0=[]:=by
   have:=LF hzl aj 0
   grind
  simp_all[bT,aA,sC,ret]
 .have auT:len≠0:=yO;split at hs<;>try cases hs
  rename_i cs hp;split at hs<;>try cases hs
  rename_i fr zs V2 rws fm;split at hs<;>try cases hs
  have⟨l6,hk⟩:=Ra hs;have auU:=Q_ (rZ (P:=P) (ν:=ν) (R:=R) (φ:=φ) (L:=V.l) (σ:=σ) hz) len;have⟨iP,h1,h2,h3,h4⟩:=Gw (ty:=λ_=>et) hJ auU hp;have⟨R',bL,fq,ayx,Uy⟩:=X9 hJ fm;have⟨ys,b1,b2,b3,b4⟩:=Uy _ h2;have jy:iP.length=len*s:=yO;have Nb:ys.length=len*s:=by rw[<-b2.len,jy]
  have LC:iP.all Ev.ao=ab:=by
   rw[ayY];intro c hc;have⟨i,hi⟩:=az0 hc;have ak:i<ys.length:=bc;exact(b2.get hi (ayG ak)).ao (ayY.1 b3 _ (ayJ ak))
  have⟨es,m8,ayy,auV,auW⟩:∃es:List IV,(ff (if isAgg P et=ab then Bq s len zs else zs)).den P ν=aa (.agg es)/\es.length=len/\(∀e∈es,(cellsOf e).length=s)/\flat es=ys:=by
   by_cases ha:isAgg P et=ab
   .rw[if_pos ha];have⟨es,e1,e2,e3,e4⟩:=Rb (s:=s) len b1 Nb;exact⟨es,gH e1,e2,e3,e4⟩
   .rw[if_neg ha]
    have gy:s=1:=by
     simp_all
    subst gy;have⟨e1,e2⟩:=Rc b3;exact⟨ys,gH b1,by omega,e1,e2⟩
  have hcr:r9 fr R' σ iP (flat es):=by
   rw[auW];intro j x y hx hy;cases fr with
   |true=>exact b2.get hx hy
   |false=>exact(b4 l6).get hx hy
  have nZ:(SE.tr s (ff (if isAgg P et=ab then Bq s len zs else zs))).den P ν=aa (.tree s es):=by
   simp_all[SE.den]
  have A7:ν.length=V2.n:=by rw[hn];exact bL.2.1.symm
  have wI:=fq.zB (.cells iP 0 0) (.row s af af fr (.tr s (ff (if isAgg P et then Bq s len zs else zs))))
   ⟨by omega,es,nZ,auV,.inr ⟨σ.n,iP,0,0,by simp[bU],by simp,ayL _,by grind,fq.rP,LC,λj x y hx hy=>(hcr j x y hx hy).mono (QV fq _)⟩⟩
  refine .at (x:=.sl σ.n 0 len (aa len) 0 s) (V1:={V2 with l:=V2.l++[.row s af af fr (.tr s (ff (if isAgg P et then Bq s len zs else zs)))]}) hk wI A7 bL.2.2.1
   ⟨s,af,af,fr,_,es,by simp,nZ,.inr ⟨σ.n,iP,0,0,aa len,by simp[bU],by simp,by grind,azz _,λh=>(by cases h),λc hc=>bc⟩⟩ ?_
  have dH:sC (λi=>aa (i*s,s)) (ay_ len (z.cells.toList.map IV.raw)).flatten (parts.toList.map λ(i,x)=>(i,aD (E d) x))=aa iP:=h1;simp only[bT,aA,ho,hu,bo,hz,LF hzl aj,ret]
  grind
end
section
variable{Cx:Cs}
variable{P:Program}{N:Nat}{σ au:St}{R R':Rs}{φ aV:Ph}{E:Nat->Env}{ν:List IV}
variable{C:Cr}{Q:IV->Prop}{K:List (List IV->Prop)}{V:SS}{d:Nat}{o:Oper}{k:PV SE->SS->aq}{L:List (LO SE)}{Γ:Gm SE}
variable(hJ:J Cx (ay P ν) R φ V.g V.l E σ)(hn:ν.length=V.n)
include hJ
theorem X_:∀{xs:List Operand} {bs:List (Nat×Nat)},Ua P d V xs=aa bs->All2 (λy (p:Nat×Nat)=>∃id cs,φ p.1=aa id/\V.l[p.1]?=aa (.var cs)/\y=.ptr id 0 0 p.2) (xs.map (aD (E d))) bs
 |[],bs,h=>by
  simp only[Ua,ayO]at h;subst h;trivial
 |x::xs,bs,h=>by
  simp only[Ua]at h;split at h
  .rename_i j ext hx;split at h
   .rename_i l hl;simp only[ayO]at h;subst h;have hv:=bw hJ d 0 x;rw[hx]at hv;exact⟨hv,X_ hl⟩
   .cases h
  .cases h
include hn
theorem UK{f:FuncId}{first cap:Array Operand}(ho:o.op=.makeFunc (.func f) first cap)(hs:(jj P d o V k).sat P C Q K ν):dz Cx P C Q K ν E V.ln k (bT P E d o σ):=by
 unfold jj at hs;rw[ho]at hs;simp only at hs;split at hs
 .rename_i hf;split at hs
  .rename_i bs hb;refine .at (x:=.fn (.func f) [] (cap.toList.map (aD (E d)))) hs hJ hn rfl (.inr ⟨_,rfl,X_ hJ hb⟩) ?_;simp only[List.isEmpty_iff]at hf;simp[bT,aA,ho,ret,hf]
  .exact hs.elim
 .exact hs.elim
theorem Xd{t:TypeId}{r:Option Operand}(ho:o.op=.makeMap t r)(hs:(jj P d o V k).sat P C Q K ν):dz Cx P C Q K ν E V.ln k (bT P E d o σ):=by
 unfold jj at hs;rw[ho]at hs;simp only at hs;split at hs
 .rename_i kt et hu;split at hs
  .exact hs.elim
  rename_i gu;have gu:¬oX kt=ab:=gu;have h1:=hJ.zB (.map [] 0) (.mp kt (.tp .an)) (by rw[lQ,if_neg gu];exact⟨σ.n,[],0,[],by simp[ay,SE.den],by simp[bU],hJ.rP,by simp,trivial,rfl,λi e h=>by simp at h⟩);refine .at (x:=.map σ.n) (V1:={V with l:=V.l++[.mp kt (.tp .an)]}) hs h1 hn rfl ⟨σ.n,kt,SE.tp .an,by simp[bU],by simp,(if_neg gu).symm⟩ ?_;simp[bT,aA,ho,ret]
 .exact hs.elim
end
section
variable{P:Program}{N:Nat}{σ au:St}{R R':Rs}{φ aV:Ph}{E:Nat->Env}{ν:List IV}
variable{C:Cr}{Q:IV->Prop}{K:List (List IV->Prop)}{V:SS}{d:Nat}{o:Oper}{k:PV SE->SS->aq}{L:List (LO SE)}{Γ:Gm SE}
theorem BB:∀{cs:List IV} {vs:List Value},uR cs=aa vs->cs=vs.map .raw
 |[],vs,h=>by simp only[uR,ayO]at h;subst h;rfl
 |c::cs,vs,h=>by
  unfold uR at h;split at h<;>try (cases h;done)
  all_goals
   obtain⟨ws,h1,rfl⟩:=ayR.1 h;rw[BB h1];rfl
theorem BC:∀vs:List Value,lx (vs.map .raw)=aa vs
 |[]=>rfl
 |v::vs=>by simp only[azr,lx,BC vs]
def Ih{x:IV}{v:Value}(h:keyOf x=aa v):lJ x=aa v/\lift v=x:=by
 unfold keyOf at h;split at h<;>first|(cases h;exact⟨rfl,rfl⟩)|(cases h;done)|skip
 rename_i cs;obtain⟨vs,h1,rfl⟩:=ayR.1 h;have:=BB h1;subst this;refine⟨?_,by simp[lift]⟩;simp only[lJ,rH,BC]
def LG{fr:Bool}{x:IV}{cs:List IV}(h:bx fr R σ x (.agg cs)):∃xs,x=.agg xs/\All2 (bx fr R σ) xs cs:=by
 cases h with
 |agg tN _ hl hh=>exact⟨tN,rfl,.mk hl hh⟩
 |pure _ hf hp=>
  refine⟨cs,rfl,.mk rfl λi a b h1 h2=>?_⟩;rw[h1]at h2;cases h2;cases hp with
  |agg _ hh=>exact .pure a hf (hh a (ayX h1))
def Ii{fr:Bool}{x u:IV}{v:Value}(h:keyOf x=aa v)(hc:bx fr R σ u x):u=x:=by
 unfold keyOf at h;split at h<;>first|(exact cD hc)|(cases h;done)|skip
 rename_i cs;obtain⟨vs,h1,rfl⟩:=ayR.1 h;have:=BB h1;subst this;obtain⟨xs,rfl,oz⟩:=LG hc
 congr 1
 apply List.ext_getElem?;intro i;cases hi:xs[i]? with
 |none=>
  have:(vs.map IV.raw)[i]?=ah:=by
   rw[List.getElem?_eq_none_iff]at hi⊢;rw[<-oz.len];exact hi
  rw[this]
 |some a=>
  have ak:=(ayH.1 hi).1;rw[oz.len]at ak;have hb:=ayG ak;have:=oz.get hi hb;rw[hb];simp only[List.getElem_map]at this⊢;rw[cD this]
def afw{u v:Value}(h:keyOf (lift u)=aa v):u=v:=by
 obtain⟨h1,_⟩:=Ih h;unfold lift at h1;split at h1
 .rename_i cs;simp only[lJ,rH,BC,ayO]at h1;rw[<-h1]
 .cases h1;rfl
def Ya{es:List (Value×IV×Nat)}{ds:List IV}{ks:List Value}(he:FF R σ es ds)(h:mH ds=aa ks):es.map (·.1)=ks:=by
 unfold FF at he;induction ds generalizing es ks with
 |nil=>
  cases es with
  |nil=>simp only[mH,ayO]at h;subst h;rfl
  |cons=>exact he.elim
 |cons d ds ih=>
  cases es with
  |nil=>exact he.elim
  |cons e es=>
   obtain⟨⟨z,rfl,_⟩,h2⟩:=he;simp only[mH]at h;split at h
   .rename_i v vs h3 h4;simp only[ayO]at h;subst h;simp only[azr,afw h3,ih h2 h4]
   .cases h
theorem Ni{kd:TypeDesc}{key:Value}:∀{es:List (Value×IV×Nat)} {n:Nat} {q:Option Nat},nowAt kd key (es.map (·.1)) n=aa q->
 ∃r,az9 kd key (es.map λe=>{key:=e.1,val:=azm,born:=e.2.2}) n=aa r/\(q=ah->r=ah)/\(∀j,q=aa j->(∃v,r=aa (j,v))/\n<=j/\∃e,es[j- n]?=aa e/\aBq kd key e.1=aa ab)
 |[],n,q,h=>by
  simp only[List.map_nil,nowAt,ayO]at h;subst h;exact⟨ah,rfl,λ_=>rfl,λj hj=>by cases hj⟩
 |e::es,n,q,h=>by
  simp only[azr,nowAt]at h;simp only[azr,az9];split at h
  .rename_i hs;simp only[ayO]at h;subst h;refine⟨aa (n,azm),by rw[hs],(λh=>by cases h),λj hj=>?_⟩;cases hj;exact⟨⟨_,rfl⟩,ayL _,e,by simp,hs⟩
  .rename_i hs;obtain⟨r,h1,h2,h3⟩:=Ni h;refine⟨r,by rw[hs];exact h1,h2,λj hj=>?_⟩;obtain⟨h4,h5,e',h6,h7⟩:=h3 j hj;refine⟨h4,by omega,e',?_,h7⟩;rw[show j- n=(j-(n+1))+1 by omega];simpa using h6
  .cases h
def run_underlying{t:TypeId}{kd:TypeDesc}(h:P.underlying t=aa kd):aK P (underlying t)=aa kd:=by
 unfold underlying;rw[aO];show(aK P (.program λp=>.pure p)).bind _=_;simp only[aK,ayK,h];rfl
theorem Hp{kd:TypeDesc}{k:Value}:∀(es aW:List MapEntry) (n:Nat),es.map (λe=>(e.key,e.val))=aW.map (λe=>(e.key,e.val))->az9 kd k es n=az9 kd k aW n
 |[],[],_,_=>rfl
 |[],e'::aW,_,h=>by simp at h
 |e::es,[],_,h=>by simp at h
 |e::es,e'::aW,n,h=>by
  simp only[azr,aBb,aAt]at h;simp only[az9];rw[h.1.1,h.1.2,Hp es aW (n+1) h.2]
theorem BD{kt:TypeId}{k:Value}:∀(es aW:List MapEntry) (n:Nat),es.map (λe=>(e.key,e.val))=aW.map (λe=>(e.key,e.val))->azt kt k es n=azt kt k aW n
 |[],[],_,_=>rfl
 |[],e'::aW,_,h=>by simp at h
 |e::es,[],_,h=>by simp at h
 |e::es,e'::aW,n,h=>by
  simp only[azr,aBb,aAt]at h;simp only[azt];rw[h.1.1,h.1.2,BD es aW (n+1) h.2]
def aaK{b:Bool}{kt:TypeId}{k:Value}{es aW:List (Value×IV×Nat)}(h:es.map (·.1)=aW.map (·.1)):fG P b kt k es=fG P b kt k aW:=by
 have hm:(es.map λe=>({key:=e.1,val:=azm,born:=e.2.2}:MapEntry)).map (λe=>(e.key,e.val))=(aW.map λe=>({key:=e.1,val:=azm,born:=e.2.2}:MapEntry)).map (λe=>(e.key,e.val)):=by
  simp only[aCe]
  have:∀l:List (Value×IV×Nat),l.map ((λe:MapEntry=>(e.key,e.val))∘λe=>({key:=e.1,val:=azm,born:=e.2.2}:MapEntry))=(l.map (·.1)).map λk=>(k,azm):=λl=>by
   rw[aCe];rfl
  rw[this,this,h]
 unfold fG
 have hf:azR kt k (es.map λe=>{key:=e.1,val:=azm,born:=e.2.2})=azR kt k (aW.map λe=>{key:=e.1,val:=azm,born:=e.2.2}):=by
  unfold azR
  congr 1
  funext d;rw[Hp _ _ 0 hm,BD _ _ 0 hm]
 rw[hf]
def zj{kt:TypeId}{ds:List IV}{x:IV}{q:Option Nat}{es:List (Value×IV×Nat)}(he:FF R σ es ds)(h:fK P kt ds x=aa q)(b:Bool):
 ∃key,keyOf x=aa key/\lJ x=aa key/\lift key=x/\fG P b kt key es=aa q/\∀j,q=aa j->∃e,es[j]?=aa e/\aAD 10000 e.1 key=ab:=by
 unfold fK at h;split at h
 .rename_i kd ks key hk dJ tB;have h1:=tB;obtain⟨h2,h3⟩:=Ih tB;have m8:=Ya he dJ;rw[<-m8]at h;obtain⟨r,g1,g2,g3⟩:=Ni h;refine⟨key,h1,h2,h3,?_,λj hj=>?_⟩
  .have hu:P.underlying kt=aa kd/\((∃q,kd=.int q)\/kd=.string):=by
    unfold xN at hk;split at hk
    .rename_i q hq;cases hk;exact⟨hq,.inl ⟨_,rfl⟩⟩
    .rename_i hq;cases hk;exact⟨hq,.inr rfl⟩
    .cases hk
   have hck:aK P (aA7 b 10000 kt key)=aa ():=by
    show aK P (aA7 b (9999+1) kt key)=aa ();unfold aA7;rw[aO,run_underlying hu.1,ayK];rcases hu.2 with⟨q,rfl⟩|rfl<;>rfl
   have hfk:aK P (azR kt key (es.map λe=>{key:=e.1,val:=azm,born:=e.2.2}))=aa r:=by
    unfold azR;rw[aO,run_underlying hu.1,ayK,g1];rfl
   unfold fG;rw[aO,hck,ayK,hfk];cases q with
   |none=>rw[g2 rfl]
   |some j=>obtain⟨⟨v,rfl⟩,_⟩:=g3 j rfl;rfl
  .obtain⟨_,_,e,g4,g5⟩:=g3 j hj;refine⟨e,by simpa using g4,?_⟩;unfold aBq at g5;split at g5
   .rename_i hh;split at g5
    .rename_i hq;simp only[ayO]at g5;rw[‹e.1=_›];simp[aAD,hq,eq_of_beq g5]
    .cases g5
   .rename_i a b nq;rw[nq];simp only[ayO]at g5;have hd:a.data=b.data:=eq_of_beq (show(a.data==b.data)=ab from g5);show(b.data==a.data)=ab;simp[hd]
   .rw[‹e.1=_›];simp only[ayO]at g5;simp[aAD,eq_of_beq g5]
   .cases g5
 .rename_i ks key hk dJ tB;obtain⟨h2,h3⟩:=Ih tB;have m8:=Ya he dJ;have yV:∀b',fG P b' kt key es=fG P b' kt key (ks.map λe=>(e,.undef,0)):=λb'=>aaK (by rw[m8];simp[Function.comp_def]);unfold EP at h;split at h<;>try (cases h;done)
  rename_i q1 q2 B_ Ko;split at h<;>try (cases h;done)
  rename_i Yb;subst Yb
  have hkb:fG P b kt key es=aa q1:=by
   rw[yV];cases b
   .exact Ko
   .exact B_
  split at h
  .cases h;exact⟨key,tB,h2,h3,hkb,λj hj=>by cases hj⟩
  .rename_i j;split at h<;>try (cases h;done)
   rename_i e hj;split at h<;>try (cases h;done)
   rename_i hsb;cases h;refine⟨key,tB,h2,h3,hkb,λj' oT=>?_⟩;cases oT;rw[<-m8,ay1]at hj;obtain⟨e',h5,h6⟩:=ayR.1 hj;exact⟨e',h5,by rw[h6];exact hsb⟩
 .cases h
variable{Cx:Cs}
theorem LH:∀{ds:List (Cl SE)} {es:List SE},Jv ds=aa es->ds=es.map .v
 |[],es,h=>by simp_all[Jv]
 |c::ds,es,h=>by
  cases c<;>simp only[Jv]at h<;>try grind
  split at h
  .rename_i aW he;simp only[ayO]at h;subst h;rw[LH he];rfl
  grind
theorem LI(hJ:J Cx (ay P ν) R φ V.g V.l E σ):∀{cs:List (Cl SE)} {es:List SE} {xs:List IV},zd cs=aa es->All2 (c9 (ay P ν) R φ V.l σ) xs cs->
 ∃ys:List IV,All2 (λ(z:SE) y=>z.den P ν=aa y) es ys/\All2 (bx ab R σ) xs ys
 |[],es,[],h,_=>by simp only[zd,ayO]at h;subst h;exact⟨[],trivial,trivial⟩
 |[],es,_::_,_,hx=>hx.elim
 |c::cs,es,[],_,hx=>hx.elim
 |c::cs,es,x::xs,h,hx=>by
  have next:∀{e:SE} {y:IV},(zd cs).map (e::·)=aa es->e.den P ν=aa y->bx ab R σ x y->∃ys:List IV,All2 (λ(z:SE) y=>z.den P ν=aa y) es ys/\All2 (bx ab R σ) (x::xs) ys:=by
   intro e y h h1 h2;obtain⟨aW,h3,rfl⟩:=ayR.1 h;have⟨ys,h4,h5⟩:=LI hJ h3 hx.2;exact⟨y::ys,⟨h1,h4⟩,⟨h2,h5⟩⟩
  simp only[zd]at h;split at h
  .have⟨y,h1,h2,_⟩:=hx.1;exact next h h1 (h2.mono hJ.Dj)
  .have⟨y,h1,h2,_⟩:=hx.1;exact next h h1 h2.cQ
  .rename_i b s;have⟨h1,h2⟩:=hx.1;refine next (y:=.tree s []) h (by simp[SE.den,h1]) ?_
   subst h2;cases b
   .exact .emp s h1
   .exact .nil s h1
  grind
def ES(hJ:J Cx (ay P ν) R φ V.g V.l E σ){pv:PV SE}{ke:SE}{x:IV}(hx:VR (ay P ν) R φ V.l σ x pv)(h:Lr pv=aa ke):∃kv,ke.den P ν=aa kv/\bx ab R σ x kv:=by
 unfold Lr at h;split at h<;>try grind
 .cases h;have⟨y,h1,h2,_⟩:=hx;exact⟨y,h1,h2.mono hJ.Dj⟩
 .cases h;have⟨y,h1,h2,_⟩:=hx;exact⟨y,h1,h2.cQ⟩
 .obtain⟨es,h1,rfl⟩:=ayR.1 h;obtain⟨xs,rfl,oz⟩:=hx;have⟨ys,g1,g2⟩:=LI hJ h1 oz;exact⟨.agg ys,gH g1,.agg xs ys g2.len λi c e h1 h2=>g2.get h1 h2⟩
theorem All2.ama{α β:Type}{r:α->β->Prop}{a:α}{b:β}(hr:r a b):∀{as:List α} {bs:List β} {i:Nat},All2 r as bs->All2 r (as.set i a) (bs.set i b)
 |[],[],i,_=>by grind
 |_::_,_::_,0,h=>⟨hr,h.2⟩
 |_::_,_::_,i+1,h=>⟨h.1,All2.ama hr h.2⟩
 |[],_::_,_,h=>h.elim
 |_::_,[],_,h=>h.elim
def ajJ(hJ:J Cx (ay P ν) R φ V.g V.l E σ)(hn:ν.length=V.n){j id:Nat}{kt:TypeId}{pB:SE}(hj:V.l[j]?=aa (.mp kt pB)){es aW:List (Value×IV×Nat)}{clock qo:Nat}{qe:List IV}(gu:¬oX kt=ab)(kh:φ j=aa id)(hR:R id=ah)(aT:σ.at id=aa (.map es clock))
 (he:FF R σ aW qe/\Canon aW qo):J Cx (ay P (ν++[.aF qe])) R φ V.g (V.l.set j (.mp kt (.var V.n))) E (σ.put id (.map aW qo)):=by
 have bE:=hJ.up (jz:=ay P (ν++[.aF qe])) (λe y h=>SE.dI P e h)
 exact(bE.tU (R':=R) (bad:=λ_=>False) (kK:=.mp kt (.var V.n)) (fB:=.map aW qo) kh hj (λ_ _=>rfl)
  (λm hm=>by rw[hR]at hm;cases hm) (λm _ _ _ hm=>by rw[hR]at hm;cases hm) (λm _ _ _ hm=>by rw[hR]at hm;cases hm)
  (λ_ h=>by cases h) (λ_ _ _=>by rename_i h;cases h;exact⟨_,rfl⟩) (λ_ _ _ _ _ h=>by cases h) (λ_ _ pv _=>pv.a_) (λ_ o _ _=>o.a_)
  (λgy=>by rw[lQ,if_neg gu];exact⟨id,aW,qo,qe,by simp[SE.den,<-hn],kh,hR,by rw[St.dt,if_pos rfl],he.1.mono λ_ _ ⟨z,h1,h2⟩=>⟨z,h1,h2.mono gy.grow⟩,he.2⟩)).2
def Nj{t:TypeId}{m key x:Operand}(hJ:J Cx (ay P ν) R φ V.g V.l E σ)(hn:ν.length=V.n)(ho:o.op=.mapUpdate t m key x\/o.op=.insert t m key x)(hs:(jj P d o V k).sat P C Q K ν):dz Cx P C Q K ν E V.ln k (bT P E d o σ):=by
 have gy:(match P.underlying t with
  |some (.map kt et)=>OQ kt (bP P d V t m) (bP P d V kt key) (bP P d V et x) V k
  |_=>.fail 66).sat P C Q K ν:=by
  rcases ho with ho|ho<;>(unfold jj at hs;grind)
 split at gy<;>try contradiction
 rename_i kt et hu;unfold OQ at gy;split at gy<;>try contradiction
 rename_i j ke xe hm hk hx;split at gy<;>try contradiction
 rename_i rO pB hj;split at gy<;>try contradiction
 rename_i lu;rw[ayI,azY]at lu;have⟨lu,gu⟩:=lu;have Gx:=ay0 lu;subst Gx;have gu:¬oX kt=ab:=bc;have⟨z,hz,auX⟩:=gy;have r_:=bw hJ d t m;have UL:=bw hJ d kt key;have⟨xv,z8,hxr⟩:=ES hJ (bw hJ d et x) hx;rw[hm]at r_;have⟨id,pz,mI,g1,g2,g3⟩:=r_;rw[hj]at g2;cases g2;rw[if_neg gu]at g3;have⟨kv,a1,a2⟩:=ES hJ UL hk;have eW:=hJ.obj j _ hj;rw[lQ,if_neg gu]at eW;have⟨bz,es,clock,ds,c1,c2,c3,c4,c5⟩:=eW;rw[g1]at c2;cases c2;have qn:=c1;have z7:=a1;simp only[SE.den,qn,z7,z8,ayK]at hz
 have fin:∀{aW:List (Value×IV×Nat)} {qo:Nat} {qe:List IV},FF R σ aW qe/\Canon aW qo->z=.aF qe->qa P 0 kt (aD (E d) m) (aD (E d) key) (aD (E d) x) σ=aa (σ.put id (.map aW qo))->dz Cx P C Q K ν E V.ln k (bT P E d o σ):=by
  intro aW qo qe he Ie D1;subst Ie;have fq:=ajJ (qo:=qo) hJ hn hj gu g1 c3 c4 he;refine⟨.undef,_,R,φ,.one .un,{V with n:=V.n+1,l:=V.l.set j (.mp kt (.var V.n))},[.aF qe],?_,fq,trivial,by grind,rfl,auX⟩;rcases ho with ho|ho<;>simp[bT,aA,ho,hu,D1,ret]
 split at hz
 .rename_i q hq;have⟨kk,e1,e2,e3,e4,e5⟩:=zj c5.1 hq af;have hkr:=Ii e1 a2;obtain⟨e,h6,h7⟩:=e5 q rfl;refine fin (aW:=es.set q (kk,aD (E d) x,e.2.2)) (qo:=clock) (qe:=ds.set q (.aF [kv,xv])) ⟨All2.ama ⟨xv,by rw[e3],hxr⟩ c5.1,c5.2.set h6 _ _⟩ bc ?_
  simp_all[qa]
 .rename_i hq;have⟨kk,e1,e2,e3,e4,e5⟩:=zj c5.1 hq af;have hkr:=Ii e1 a2;refine fin (aW:=es++[(kk,aD (E d) x,clock)]) (qo:=clock+1) (qe:=ds++[.aF [kv,xv]]) ⟨c5.1.app ⟨⟨xv,by rw[e3],hxr⟩,trivial⟩,c5.2.app _ _⟩ bc ?_
  simp_all[qa]
 grind
def afx{t:TypeId}{e:SE}(h:FN P t=aa e):∃v,db P t=aa v/\e.den P ν=aa (.raw v)/\lift v=.raw v:=by
 unfold FN at h;split at h<;>first|(cases h;exact⟨_,‹_›,rfl,rfl⟩)|cases h
def amb{fr:Bool}{x:IV}(h:bx fr R σ x (.agg [])):x=.agg []:=by
 cases h with
 |agg cs _ hl _=>
  grind
 |pure=>rfl
def afy{t:TypeId}(h:Sr P t=ab):db P t=aa (.agg #[]):=by
 unfold Sr at h
 grind
def Xe{t:TypeId}{m key:Operand}{kt et:TypeId}(hJ:J Cx (ay P ν) R φ V.g V.l E σ)(hn:ν.length=V.n)(ho:o.op=.lookup t m key ab)(hu:P.underlying t=aa (.map kt et))(hz:Sr P et=ab)
 (hs:(OT kt (bP P d V t m) (bP P d V kt key) V k).sat P C Q K ν):dz Cx P C Q K ν E V.ln k (bT P E d o σ):=by
 have tO:=afy hz;unfold OT at hs;split at hs<;>try cases hs
 rename_i j ke hm hk;split at hs<;>try cases hs
 rename_i rO pB hj;split at hs<;>try exact hs.elim
 rename_i lu;rw[ayI,azY]at lu;have⟨lu,gu⟩:=lu;have Gx:=ay0 lu;subst Gx;have gu:¬oX kt=ab:=bc;have⟨⟨u,hu0⟩,h,hh,hs⟩:=hs;have r_:=bw hJ d t m;have UL:=bw hJ d kt key;rw[hm]at r_;have⟨id,pz,mI,g1,g2,g3⟩:=r_;rw[hj]at g2;cases g2;rw[if_neg gu]at g3;have⟨kv,a1,a2⟩:=ES hJ UL hk;have eW:=hJ.obj j _ hj;rw[lQ,if_neg gu]at eW;have⟨bz,es,clock,ds,c1,c2,c3,c4,c5⟩:=eW;rw[g1]at c2;cases c2;have qn:=c1;have z7:=a1
 have hg:∃q,fK P kt ds kv=aa q/\(q=ah\/∃i a,q=aa i/\ds[i]?=aa (.aF [a,.agg []])):=by
  simp only[SE.den,qn,z7,ayK]at hu0
  grind
 have⟨q,hq,y6⟩:=hg;have⟨kk,e1,e2,e3,e4,e5⟩:=zj c5.1 hq es.isEmpty;have hkr:=Ii e1 a2;simp only[SE.den,qn,z7,ayK,hq,azl,ayO]at hh;subst hh;have bE:=hJ.up (jz:=ay P (ν++[.bool q.isSome])) (λe y h=>SE.dI P e h);have Ou:entriesOf σ (aD (E d) m)=aa es:=by rw[g3];simp[entriesOf,c4]
 have j8:aA P 0 (aD (E d)) o σ=aa (.val (.aF [.agg [],.raw (.bool q.isSome)]) σ):=by
  simp only[aA,ho,hu,Ou,hkr,e2,e4,tO];rcases y6 with rfl|⟨i,a,rfl,hd⟩
  .rfl
  .obtain⟨e,h6,_⟩:=e5 i rfl;have⟨z',h8,h9⟩:=All2.get c5.1 h6 hd;obtain⟨_,rfl⟩:=h8;simp[ret,h6,amb h9]
 refine⟨.aF [.agg [],.raw (.bool q.isSome)],σ,R,φ,.tu [(ab,[]),(af,[.v (.var V.n)])],{V with n:=V.n+1},[.bool q.isSome],j8,bE,⟨_,rfl,⟨[],rfl,trivial⟩,⟨_,rfl,.raw (.bool q.isSome),?_,.raw _,rfl⟩,trivial⟩,by grind,rfl,hs⟩;simp[SE.den,<-hn]
def Xf{t:TypeId}{m key:Operand}{kt et:TypeId}{ok:Bool}(hJ:J Cx (ay P ν) R φ V.g V.l E σ)(hn:ν.length=V.n)(ho:o.op=.lookup t m key ok)(hu:P.underlying t=aa (.map kt et))
 (hs:(OS P kt et (bP P d V t m) (bP P d V kt key) ok V k).sat P C Q K ν):dz Cx P C Q K ν E V.ln k (bT P E d o σ):=by
 unfold OS at hs;split at hs<;>try cases hs
 rename_i j ke zs n hm hk wH Yc;split at wH<;>try grind
 rename_i arr tO;split at hs<;>try cases hs
 rename_i rO pB hj;split at hs<;>try exact hs.elim
 rename_i lu;rw[ayI,azY]at lu;have⟨lu,gu⟩:=lu;have Gx:=ay0 lu;subst Gx;have gu:¬oX kt=ab:=bc;have⟨z,hz,hs⟩:=hs;have r_:=bw hJ d t m;have UL:=bw hJ d kt key;rw[hm]at r_;have⟨id,pz,mI,g1,g2,g3⟩:=r_;rw[hj]at g2;cases g2;rw[if_neg gu]at g3;have⟨kv,a1,a2⟩:=ES hJ UL hk;have eW:=hJ.obj j _ hj;rw[lQ,if_neg gu]at eW;have⟨bz,es,clock,ds,c1,c2,c3,c4,c5⟩:=eW;rw[g1]at c2;cases c2;have qn:=c1;have z7:=a1;have⟨zys,y1,y2⟩:=LI hJ wH (rZ (R:=R) (φ:=φ) (L:=V.l) (σ:=σ) tO);have auY:=gH y1;simp only[Value.cells]at y2;have axU:lift (.agg arr)=.agg (arr.toList.map .raw):=rfl
 have hg:∃q,fK P kt ds kv=aa q/\∃cs,z=.agg cs/\cs.length=n/\cs.all Ev.ao=ab/\((q=ah/\cs=zys)\/∃i a,q=aa i/\ds[i]?=aa (.aF [a,.agg cs])):=by
  simp only[SE.den,qn,z7,auY,ayK]at hz
  grind
 obtain⟨q,hq,cs,rfl,jy,LC,y6⟩:=hg;have⟨kk,e1,e2,e3,e4,e5⟩:=zj c5.1 hq es.isEmpty;have hkr:=Ii e1 a2;have bE:=hJ.up (jz:=ay P (ν++[.agg cs])) (λe y h=>SE.dI P e h);have Ou:entriesOf σ (aD (E d) m)=aa es:=by rw[g3];simp[entriesOf,c4]
 have j8:∃xs,All2 (bx ab R σ) xs cs/\aA P 0 (aD (E d)) o σ=aa (.val (if ok then .aF [.agg xs,.raw (.bool q.isSome)]else .agg xs) σ):=by
  rcases y6 with⟨rfl,rfl⟩|⟨i,a,rfl,hd⟩
  .refine⟨_,y2,?_⟩
   simp_all[aA,ret]
  .obtain⟨e,h6,_⟩:=e5 i rfl;have⟨z',h8,h9⟩:=All2.get c5.1 h6 hd;obtain⟨_,rfl⟩:=h8;have⟨xs,yS,s5⟩:=LG h9;refine⟨xs,s5,?_⟩
   simp_all[aA,ret]
 have⟨xs,oz,j8⟩:=j8
 have jP:∀(μ:List IV) (m0:Nat),ν.length=m0->All2 (c9 (ay P (ν++(.agg cs::μ))) R φ V.l σ) xs ((azT n).map λj=>.w ab (.aP (.var m0) j)):=by
  intro μ m0 zS;refine .mk (by simp[oz.len,jy]) λi a b h1 h2=>?_;have hi:=(ayH.1 h1).1;rw[oz.len]at hi;rw[ay1,aAC aj]at h2;simp only[azl,ayO]at h2;subst h2;have Nk:=ayG hi;have bf:=(ayY.1 LC) _ (ayJ hi);exact⟨cs[i],by simp[SE.den,<-zS,Nk,wF,bf],oz.get h1 Nk,bf⟩
 cases ok with
 |false=>
  exact⟨.agg xs,σ,R,φ,.ag _,{V with n:=V.n+1},[.agg cs],j8,bE,⟨xs,rfl,jP [] V.n hn⟩,by grind,rfl,hs⟩
 |true=>
  have⟨h,hh,hs⟩:=hs;have afz:=SE.dI P pB (μ:=[.agg cs]) qn;have afA:=SE.dI P ke (μ:=[.agg cs]) z7;simp only[SE.den,afz,afA,ayK,hq,azl,ayO]at hh;subst hh;rw[ay3]at hs;have fq:=bE.up (jz:=ay P (ν++([.agg cs]++[.bool q.isSome]))) (λe y h=>by rw[<-ay3];exact SE.dI P e h);refine⟨.aF [.agg xs,.raw (.bool q.isSome)],σ,R,φ,.tu [(ab,_),(af,[.v (.var (V.n+1))])],{V with n:=V.n+1+1},[.agg cs]++[.bool q.isSome],j8,fq,⟨_,rfl,⟨xs,rfl,jP [.bool q.isSome] V.n hn⟩,⟨_,rfl,.raw (.bool q.isSome),?_,.raw _,rfl⟩,trivial⟩,by grind,rfl,hs⟩;simp[SE.den,<-hn]
def aaL{t:TypeId}{m key:Operand}{ok:Bool}(hJ:J Cx (ay P ν) R φ V.g V.l E σ)(hn:ν.length=V.n)(ho:o.op=.lookup t m key ok)(hs:(jj P d o V k).sat P C Q K ν):dz Cx P C Q K ν E V.ln k (bT P E d o σ):=by
 simp only[jj,ho]at hs;split at hs<;>try cases hs
 rename_i kt et hu;split at hs
 .rename_i bf;simp only[ayI]at bf;obtain⟨rfl,hz⟩:=bf;exact Xe hJ hn ho hu hz hs
 split at hs
 .exact Xf hJ hn ho hu hs
 unfold X0 at hs;split at hs<;>try cases hs
 rename_i j ke z0 hm hk tO;split at hs<;>try cases hs
 rename_i rO pB hj;split at hs<;>try exact hs.elim
 rename_i lu;rw[ayI,azY]at lu;have⟨lu,gu⟩:=lu;have Gx:=ay0 lu;subst Gx;have gu:¬oX kt=ab:=bc;have⟨z,hz,hs⟩:=hs;have⟨vj,O5⟩:=r8 hz;have r_:=bw hJ d t m;have UL:=bw hJ d kt key;rw[hm]at r_;have⟨id,pz,mI,g1,g2,g3⟩:=r_;rw[hj]at g2;cases g2;rw[if_neg gu]at g3;have⟨kv,a1,a2⟩:=ES hJ UL hk;have eW:=hJ.obj j _ hj;rw[lQ,if_neg gu]at eW;have⟨bz,es,clock,ds,c1,c2,c3,c4,c5⟩:=eW;rw[g1]at c2;cases c2;have qn:=c1;have z7:=a1;have⟨v0,y1,y2,y3⟩:=afx (ν:=ν) tO
 have hg:∃q,fK P kt ds kv=aa q/\∃u,z=.raw u/\((q=ah/\u=v0)\/∃i a,q=aa i/\ds[i]?=aa (.aF [a,.raw u])):=by
  simp only[SE.den,qn,z7,y2,ayK]at vj;cases hq:fK P kt ds kv with
  |none=>grind
  |some q=>
   refine⟨q,rfl,?_⟩;rw[hq]at vj;cases q with
   |none=>
    grind
   |some i=>
    simp only at vj;split at vj
    .simp only[ayK]at vj;split at vj
     .rename_i hr;cases vj;cases z<;>simp only[aL]at hr<;>try (cases hr;done)
      grind
     grind
    grind
 obtain⟨q,hq,u,rfl,y6⟩:=hg;have⟨kk,e1,e2,e3,e4,e5⟩:=zj c5.1 hq es.isEmpty;have hkr:=Ii e1 a2;have bE:=hJ.up (jz:=ay P (ν++[.raw u])) (λe y h=>SE.dI P e h);have o_:(SE.var V.n).den P (ν++[.raw u])=aa (.raw u):=by simp[SE.den,<-hn]
 have Ou:entriesOf σ (aD (E d) m)=aa es:=by rw[g3];simp[entriesOf,c4]
 have j8:aA P 0 (aD (E d)) o σ=aa (.val (if ok then .aF [.raw u,.raw (.bool q.isSome)]else .raw u) σ):=by
  simp only[aA];rcases y6 with⟨rfl,rfl⟩|⟨i,a,rfl,hd⟩
  .simp_all[ret]
  .obtain⟨e,h6,_⟩:=e5 i rfl;have⟨z',h8,h9⟩:=All2.get c5.1 h6 hd;obtain⟨_,rfl⟩:=h8;have:=cD h9
   simp_all[ret]
 cases ok with
 |false=>
  exact⟨.raw u,σ,R,φ,.one (.v (.var V.n)),{V with n:=V.n+1},[.raw u],j8,bE,⟨.raw u,o_,.raw u,O5⟩,by grind,rfl,hs⟩
 |true=>
  have⟨h,hh,hs⟩:=hs;have afz:=SE.dI P pB (μ:=[.raw u]) qn;have afA:=SE.dI P ke (μ:=[.raw u]) z7;simp only[SE.den,afz,afA,ayK,hq,azl,ayO]at hh;subst hh;rw[ay3]at hs;have fq:=bE.up (jz:=ay P (ν++([.raw u]++[.bool q.isSome]))) (λe y h=>by rw[<-ay3];exact SE.dI P e h);refine⟨.aF [.raw u,.raw (.bool q.isSome)],σ,R,φ,.tu [(af,[.v (.var V.n)]),(af,[.v (.var (V.n+1))])],{V with n:=V.n+1+1},[.raw u]++[.bool q.isSome],j8,fq,⟨_,rfl,⟨_,rfl,.raw u,?_,.raw u,O5⟩,⟨_,rfl,.raw (.bool q.isSome),?_,.raw _,rfl⟩,trivial⟩,by grind,rfl,hs⟩
  .simp[SE.den,<-hn]
  simp_all[SE.den]
def Yd{s:Nat}{e lo hi:SE}{z:IV}(h:(SE.sub s e lo hi).den P ν=aa z):∃es a b l m q r,e.den P ν=aa (.tree s es)/\lo.den P ν=aa a/\hi.den P ν=aa b/\a=.raw (.int q (l:Nat))/\b=.raw (.int r (m:Nat))/\l<=m/\m<=es.length/\z=.tree s ((es.take m).drop l):=by
 simp only[SE.den,ay4]at h;obtain⟨x,h1,a,h2,b,h3,h4⟩:=h;unfold nD at h4;split at h4<;>try (cases h4;done)
 rename_i s1 es;split at h4<;>try (cases h4;done)
 rename_i l m hl hm;split at h4<;>try (cases h4;done)
 rename_i hc;obtain⟨rfl,h5,h6,h7,h8⟩:=hc;cases h4;obtain⟨q,rfl⟩:=LB hl;obtain⟨r,rfl⟩:=LB hm;exact⟨es,_,_,l.toNat,m.toNat,q,r,h1,h2,h3,by rw[aBL h5],by rw[aBL h7],h6,h8,rfl⟩
def bx.part{fr:Bool}{x:IV}{s l m:Nat}{es:List IV}{t el:TypeId}(hu:P.underlying t=aa (.slice el))(bo:aX P el=aa s)(h:bx fr R σ x (.tree s es))(h1:l<=m)(h2:m<=es.length){lo hi:Option IV}
 (kG:∀id off len c ep s',x=.sl id off len (aa c) ep s'->len<=c)
 (yW:iD lo=aa (aa l)\/(iD lo=aa ah/\l=0))(hhi:iD hi=aa (aa m)\/(iD hi=aa ah/\m=es.length)):
 ∃x',gm P t x lo hi ah=aa x'/\bx fr R σ x' (.tree s ((es.take m).drop l)):=by
 obtain⟨kK,O6,O7⟩:∃q:Option Nat,iD lo=aa q/\q.getD 0=l:=by
  rcases yW with h|⟨h,rfl⟩
  .exact⟨_,h,rfl⟩
  .exact⟨_,h,rfl⟩
 obtain⟨ct,O8,afB⟩:∃q:Option Nat,iD hi=aa q/\∀n,n=es.length\/q≠ah->q.getD n=m:=by
  rcases hhi with h|⟨h,rfl⟩
  .exact⟨_,h,λn _=>rfl⟩
  .exact⟨_,h,λn hn=>by rcases hn with rfl|hn;·rfl
                       .exact absurd rfl hn⟩
 have vF:iD ah=aa ah:=rfl
 have hz:es.length=0->l=0/\m=0/\(es.take m).drop l=[]/\ct.getD 0=0:=by
  intro h;have:es=[]:=azb h;subst this;have zS:m=0:=by simpa using h2
  refine⟨by omega,zS,by simp,?_⟩;have:=afB 0 (.inl rfl);omega
 cases h with
 |nil _ hs=>
  obtain⟨z1,z2,z3,z4⟩:=hz rfl;refine⟨.raw (.slice ah 0 0),?_,by rw[z3];exact .nil s hs⟩;simp[gm,O6,O8,vF,hu,bo,O7,z1,z4]
 |emp _ hs=>
  obtain⟨z1,z2,z3,z4⟩:=hz rfl;refine⟨.emp,?_,by rw[z3];exact .emp s hs⟩;simp[gm,O6,O8,vF,hu,bo,O7,z1,z4]
 |pure _ hf hp=>
  refine⟨.tree s ((es.take m).drop l),?_,.pure _ hf ?_⟩
  .have:=afB es.length (.inl rfl);simp[gm,O6,O8,vF,hu,bo,O7,this,h1,h2]
  .cases hp with
   |tree _ _ hh=>exact .tree s _ λe he=>hh e (azM (aAQ he))
 |sl id off len cap ep _ m0 cs aE mn _ hR aT h3 h4 hs hl hb hm bH hh=>
  have Cc:=afB len (.inl hl.symm)
  have ic:∀LJ:Option Nat,bx fr R σ (.sl id (off+l*s) (m- l) LJ ep s) (.tree s ((es.take m).drop l)):=λLJ=>by
   refine .sl id (off+l*s) (m- l) LJ ep s m0 cs aE mn _ hR aT h3 h4 hs (by simp;omega) ?_ hm (λe he=>bH e (azM (aAQ he))) λi e j c d' he hd hc=>?_
   .have:(m- l)*s+l*s<=len*s:=by rw[<-azD];exact azd s aj
    omega
   .rw[aAp,azn]at he;split at he
    .refine hh (l+i) e j c d' he hd ?_;rw[azD];rw[show off+(l*s+i*s)+j=off+l*s+i*s+j by omega];exact hc
    .cases he
  cases cap with
  |none=>
   refine⟨.sl id (off+l*s) (m- l) ah ep s,?_,ic ah⟩;have:ct.getD len=m:=Cc;simp[gm,O6,O8,vF,hu,bo,O7,this,h1];omega
  |some c=>
   by_cases Xy:m<=c
   .by_cases hc:c=l
    .refine⟨.emp,?_,?_⟩
     .simp[gm,O6,O8,vF,hu,bo,O7,Cc,h1,Xy,hc];omega
     .have:(es.take m).drop l=[]:=by
       apply azb;simp;omega
      rw[this];exact .emp s hs
    .refine⟨.sl id (off+l*s) (m- l) (aa (c- l)) ep s,?_,ic _⟩;simp[gm,O6,O8,vF,hu,bo,O7,Cc,h1,Xy,hc]
   .have:=kG _ _ _ _ _ _ rfl;omega
def UM{q:IntKind}{n:Nat}:iD (aa (.raw (.int q (n:Nat))))=aa (aa n):=by
 simp[iD]
def Nl(hJ:J Cx (ay P ν) R φ V.g V.l E σ){aae e:SE}{x:Option Operand}(h:Ls P d V aae x=aa e){n:Nat}{q:IntKind}(he:e.den P ν=aa (.raw (.int q (n:Nat)))):
 iD (x.map (aD (E d)))=aa (aa n)\/(iD (x.map (aD (E d)))=aa ah/\e=aae):=by
 cases x with
 |none=>simp only[Ls,ayO]at h;exact .inr ⟨rfl,h.symm⟩
 |some x=>
  simp only[Ls]at h;split at h
  .rename_i e' hx;cases h;have hv:=bw hJ d 3 x;rw[hx]at hv;obtain⟨y,h1,h2,_⟩:=hv;have dH:e.den P ν=aa y:=h1;rw[he]at dH;cases dH;rw[azl,cD h2];exact .inl UM
  .cases h
def acB{t:TypeId}{x:Operand}{lo hi mx:Option Operand}(hJ:J Cx (ay P ν) R φ V.g V.l E σ)(hn:ν.length=V.n)(ho:o.op=.slice t x lo hi mx)(hs:(OU P d t (bP P d V t x) lo hi mx V k).sat P C Q K ν):dz Cx P C Q K ν E V.ln k (bT P E d o σ):=by
 unfold OU at hs;split at hs<;>try exact hs.elim
 rename_i el c hu hx;have Co:=bw hJ d t x;rw[hx]at Co;split at hs<;>try exact hs.elim
 rename_i s bo;split at hs
 .rename_i j l _;split at hs<;>try exact hs.elim
  rename_i s' cut fr es e hj he;split at hs<;>try exact hs.elim
  rename_i me;have Gu:=ay0 me;subst Gu;obtain⟨⟨z,hz⟩,hs⟩:=hs;obtain⟨jC,a,b,n,m,q,r,h1,h2,h3,rfl,rfl,h4,h5,rfl⟩:=Yd hz
  have hm:m=jC.length:=by
   obtain⟨s0,pB,h6,h7⟩:=J9 h3;rw[h1]at h6;cases h6;simp at h7;omega
  subst hm;have hl:=bw hJ d 3 l;rw[he]at hl;obtain⟨y,y1,y2,_⟩:=hl;have Q9:e.den P ν=aa y:=y1;rw[h2]at Q9;cases Q9;have gh:=cD y2;obtain⟨s1,pA,zI,zZ,z1,mI,b1,b2,b3⟩:=Co;rw[hj]at b1;cases b1;have xl:es.den P ν=aa (.tree s mI):=b2;rw[h1]at xl;cases xl;have Yc:nat? (.raw (.int q (n:Nat)))=aa n:=by simp[nat?]
  have UN:iD (aa (aD (E d) l))=aa (aa n):=by rw[gh];exact UM
  have vF:iD ah=aa ah:=rfl
  have fin:∀x',gm P t (aD (E d) x) (aa (aD (E d) l)) ah ah=aa x'->(OF φ σ j s cut n jC.length x'\/(n=jC.length/\x'=.emp))->dz Cx P C Q K ν E V.ln k (bT P E d o σ):=λx' g1 g2=>by
   refine .at (x:=x') hs hJ hn rfl ⟨s,af,cut,fr,es,jC,_,n,hj,h1,h2,Yc,h4,g2⟩ ?_;simp[bT,aA,ho,g1,ret]
  rcases b3 with⟨c1,c2,c3⟩|⟨id,cs,aE,mn,cap,c1,c2,c3,c4,c5,c6⟩
  .have m7:n=0:=aj;subst m7;rcases c3 with c3|c3
   .refine fin (.raw (.slice ah 0 0)) ?_ (.inl (.inl ⟨c1,c2,.inl rfl⟩));rw[c3];simp[gm,UN,vF,hu,bo]
   .refine fin .emp ?_ (.inl (.inl ⟨c1,c2,.inr rfl⟩));rw[c3];simp[gm,UN,vF,hu,bo]
  .cases cap with
   |none=>
    refine fin (.sl id (n*s) (jC.length- n) ah aE s) ?_ (.inl (.inr ⟨id,cs,aE,mn,ah,c1,c2,rfl,h4,c5,λc hc=>by cases hc⟩));rw[c3];simp[gm,UN,vF,hu,bo,h4]
   |some c=>
    obtain⟨d1,d2,d3⟩:=c6 c rfl;by_cases hc:c=n
    .refine fin .emp ?_ (.inr ⟨by omega,rfl⟩);rw[c3];simp[gm,UN,vF,hu,bo,h4,hc];omega
    .refine fin (.sl id (n*s) (jC.length- n) (aa (c- n)) aE s) ?_ (.inl (.inr ⟨id,cs,aE,mn,aa (c- n),c1,c2,rfl,h4,(λh=>by simp at h),λc' qd=>?_⟩))
     .rw[c3];have:jC.length<=c:=aj;simp[gm,UN,vF,hu,bo,h4,hc,this]
     .have auZ:c- n=c':=by simpa using qd
      subst auZ;refine⟨d1,?_,by omega⟩;have:n*s+(c- n)*s=c*s:=by rw[<-azD];congr 1;omega
      omega
 .rename_i c lo hi c0 lo0 HS b0 _;split at hs<;>try exact hs.elim
  rename_i fr z V2 fm;split at hs<;>try exact hs.elim
  rename_i le he hl hh
  have Uy:KD V c=aa (fr,z,V2):=by
   split at fm<;>first|exact fm|cases fm
  obtain⟨R',g1,g2,g3⟩:=Ic hJ Uy;obtain⟨y,g4,g5,_⟩:=g3 _ Co;have A7:ν.length=V2.n:=by rw[g1.2.1];exact hn
  obtain⟨w,w1,w2,w3,w4,w5⟩:=wJ g2 A7 hs;obtain⟨jC,a,b,l,m,q,r,h1,h2,h3,rfl,rfl,h4,h5,rfl⟩:=Yd w1;rw[g4]at h1;cases h1
  have kG:∀id off len c1 ep s',aD (E d) x=.sl id off len (aa c1) ep s'->len<=c1:=by
   intro id off len c1 ep s' kY;split at fm<;>try (cases fm;done)
   .obtain⟨y',_,q2,_⟩:=Co;rw[kY]at q2;cases q2 with
    |pure _ _ hp=>cases hp
    |sl _ _ _ _ _ _ _ _ _ _ _ hR=>cases hR
   .obtain⟨_,q2⟩:=Co;rw[kY]at q2;split at q2<;>cases q2
   .obtain⟨s1,pA,zI,zZ,z1,mI,b1,b2,⟨_,_,b3|b3⟩|⟨bz,cs,aE,mn,cap,qn,c2,c3,c4,c5,c6⟩⟩:=Co
    .rw[kY]at b3;cases b3
    .rw[kY]at b3;cases b3
    .rw[kY]at c3;cases c3;have:=(c6 c1 rfl).2.2;omega
  have yW:iD (lo.map (aD (E d)))=aa (aa l)\/(iD (lo.map (aD (E d)))=aa ah/\l=0):=by
   refine(Nl hJ hl h2).imp_right λ⟨e1,e2⟩=>⟨e1,?_⟩;subst e2;simp only[SE.den,ayO,IV.raw.injEq,aBU]at h2;have:=h2.2;omega
  have hhi:iD (hi.map (aD (E d)))=aa (aa m)\/(iD (hi.map (aD (E d)))=aa ah/\m=jC.length):=by
   refine(Nl hJ hh h3).imp_right λ⟨e1,e2⟩=>⟨e1,?_⟩;subst e2;obtain⟨s0,pB,h6,h7⟩:=J9 h3;rw[g4]at h6;cases h6;simp at h7;omega
  obtain⟨x',k1,k2⟩:=g5.part (t:=t) (el:=el) hu bo h4 h5 kG yW hhi;refine⟨x',σ,R',φ,.one (.w fr (.var V2.n)),{V2 with n:=V2.n+1},[.tree s ((jC.take m).drop l)],?_,w4,⟨_,w3,k2,rfl⟩,w5,g1.2.2.1,w2⟩;simp[bT,aA,ho,k1,ret]
def AR(hJ:J Cx (ay P ν) R φ V.g V.l E σ){x:IV}{pv:PV SE}{e:SE}(h:uM pv=aa e)(hx:VR (ay P ν) R φ L σ x pv):∀y,e.den P ν=aa y->bx ab R σ x y:=by
 intro y hy;unfold uM at h;split at h<;>cases h
 .have⟨u,h1,h2,_⟩:=hx;have dH:e.den P ν=aa u:=h1;rw[hy]at dH;cases dH;exact h2.mono hJ.Dj
 .have⟨u,h1,h2,_⟩:=hx;have dH:e.den P ν=aa u:=h1;rw[hy]at dH;cases dH;exact h2.cQ
def acC{t:TypeId}{x ix:Operand}(hJ:J Cx (ay P ν) R φ V.g V.l E σ)(hn:ν.length=V.n)(ho:o.op=.index t x ix)(hs:(jj P d o V k).sat P C Q K ν):dz Cx P C Q K ν E V.ln k (bT P E d o σ):=by
 simp only[jj,ho]at hs;split at hs<;>try exact hs.elim
 rename_i a b hu ha hb;have UO:=AR hJ ha (bw hJ d t x);have hxb:=AR hJ hb (bw hJ d 0 ix);have⟨⟨z,hz⟩,hk⟩:=hs;have tO:=hz;simp only[SE.den,ay4]at hz;have⟨u,h1,v,h2,h3⟩:=hz;split at h3<;>try grind
 split at h3<;>try grind
 rename_i m7;rw[ayR]at h3;obtain⟨c,h4,rfl⟩:=h3;exact .at (x:=.raw (.int .u8 c.toNat)) hk hJ hn rfl ⟨_,tO,.raw _,rfl⟩ (by unfold bT aA;rw[ho];simp only[hu,cD (UO _ h1),cD (hxb _ h2),if_pos m7,h4];rfl)
def UP{a b:IV}{vs:List Value}(h:lx [a,b]=aa vs):∃u v,a=.raw u/\b=.raw v:=by
 cases a<;>simp[lx]at h
 grind
def amc{c:Call}(hJ:J Cx (ay P ν) R φ V.g V.l E σ)(hn:ν.length=V.n)(ho:o.op=.call c)(hc:c.callee=.builtin .max)(hs:(mxS ab (kz P d V c.args.toList c.argTypes.toList) V k).sat P C Q K ν):dz Cx P C Q K ν E V.ln k (bT P E d o σ):=by
 unfold mxS at hs;split at hs<;>try cases hs
 rename_i pa pb bF;split at hs<;>try exact hs.elim
 rename_i a b ha u7;have bX:=js hJ d c.args.toList c.argTypes.toList;rw[bF]at bX;have⟨x,y,hxy,hx,hy⟩:=LD bX;have UO:=AR hJ ha hx;have hxb:=AR hJ u7 hy;have⟨⟨z,hz⟩,hk⟩:=hs;have⟨h1,bf⟩:=r8 hz;simp only[SE.den,ay4]at h1;have⟨w,⟨u,h2,v,h3,h4⟩,h5⟩:=h1;split at h5<;>cases h5;rename_i l6
 have arl:∃u' v',u=.raw u'/\v=.raw v':=by
  simp only[if_true]at h4;unfold Oj at h4;split at h4
  .exact UP ‹_›
  grind
 obtain⟨u',v',rfl,rfl⟩:=arl;have kY:=cD (UO _ h2);have hy':=cD (hxb _ h3)
 have hzr:j_ z z:=by
  cases z<;>simp only[aL]at l6<;>try grind
  exact .raw _
 refine .here (pv:=.one (.v (.ok (.rw (.mx ab a b))))) (x:=z) ?_ hJ ⟨z,hz,hzr,bf⟩ hn rfl hk
 simp_all[bT,aA,fw]
def afC{t:TypeId}(h:isStr P t=ab):P.underlying t=aa .string:=by
 grind [isStr]
def aaM{t:TypeId}{x:Operand}{lo hi mx:Option Operand}(hJ:J Cx (ay P ν) R φ V.g V.l E σ)(hn:ν.length=V.n)(ho:o.op=.slice t x lo hi mx)(hu:P.underlying t=aa .string)(hs:(Lt P d (bP P d V t x) lo hi mx V k).sat P C Q K ν):dz Cx P C Q K ν E V.ln k (bT P E d o σ):=by
 unfold Lt at hs;split at hs<;>try cases hs
 rename_i a ha;split at hs<;>try exact hs.elim
 rename_i l h hl hh;have⟨z,hz,hs⟩:=hs;have UO:=AR hJ ha (bw hJ d t x);have tO:=hz;simp only[SE.den,ay4]at hz;have⟨u,h1,b,h2,c,h3,h4⟩:=hz;split at h4<;>try (cases h4;done)
 rename_i q lv hv e1 e2;split at h4<;>try (cases h4;done)
 rename_i hc;cases h4
 have hint:∀{w:IV} {n:Int},gW w=aa n->0<=n->∃k,w=.raw (.int k (n.toNat:Nat)):=by
  intro w n h h0;unfold gW at h;split at h
  .cases h;exact⟨_,by rw[aBL h0]⟩
  .cases h
 obtain⟨k1,rfl⟩:=hint e1 hc.1;obtain⟨k2,rfl⟩:=hint e2 hc.2.2.1
 have n1:iD (lo.map (aD (E d)))=aa (aa lv.toNat)\/(iD (lo.map (aD (E d)))=aa ah/\lv.toNat=0):=by
  rcases Nl hJ hl h2 with g|⟨g,rfl⟩
  .exact .inl g
  .refine .inr ⟨g,?_⟩;simp only[SE.den,ayO,IV.raw.injEq,aBU]at h2;omega
 have n2:iD (hi.map (aD (E d)))=aa (aa hv.toNat)\/(iD (hi.map (aD (E d)))=aa ah/\hv.toNat=q.size):=by
  rcases Nl hJ hh h3 with g|⟨g,rfl⟩
  .exact .inl g
  .refine .inr ⟨g,?_⟩;simp only[SE.den,h1,ayK,AO,ayO,IV.raw.injEq,aBU]at h3;omega
 have hx:=cD (UO _ h1);have vF:iD ah=aa ah:=rfl;have bE:=hJ.up (jz:=ay P (ν++[.raw (.string ⟨((q.data.toList.drop lv.toNat).take (hv.toNat- lv.toNat)).toArray⟩)])) (λe y h=>SE.dI P e h);refine⟨.raw (.string ⟨((q.data.toList.drop lv.toNat).take (hv.toNat- lv.toNat)).toArray⟩),σ,R,φ,.one (.v (.var V.n)),{V with n:=V.n+1},[_],?_,bE,⟨_,by simp[SE.den,<-hn],.raw _,rfl⟩,by simp[hn],rfl,hs⟩
 have bo:gm P t (.raw (.string q)) (lo.map (aD (E d))) (hi.map (aD (E d))) ah=aa (.raw (.string ⟨((q.data.toList.drop lv.toNat).take (hv.toNat- lv.toNat)).toArray⟩)):=by
  rcases n1 with g1|⟨g1,g2⟩<;>rcases n2 with g3|⟨g3,g4⟩
  .simp[gm,g1,g3,vF,hu,hc.2.1,hc.2.2.2]
  .simp[gm,g1,g3,vF,hu];rw[<-g4];have:=hc.2.1;omega
  .simp[gm,g1,g3,vF,hu,g2,hc.2.2.2]
  .simp[gm,g1,g3,vF,hu,g2,g4]
 simp[bT,aA,ho,hx,bo,ret]
def acD{t:TypeId}{x:Operand}(hJ:J Cx (ay P ν) R φ V.g V.l E σ)(hn:ν.length=V.n)(ho:o.op=.range t x)(hs:(jj P d o V k).sat P C Q K ν):dz Cx P C Q K ν E V.ln k (bT P E d o σ):=by
 simp only[jj,ho]at hs;split at hs<;>try exact hs.elim
 .rename_i a hu ha;have UO:=AR hJ ha (bw hJ d t x);have⟨⟨z,hz⟩,hk⟩:=hs;simp only[SE.den,ay4]at hz;have⟨u,h1,h2⟩:=hz
  have hb:∃ba,u=.raw (.string ba):=by
   unfold AO at h2;split at h2
   .exact⟨_,rfl⟩
   .cases h2
  obtain⟨ba,rfl⟩:=hb;have hv:=cD (UO _ h1);have bE:=hJ.zB (.sB ba 0) (.mp 0 (.tp (.ac a (.ac (.i 0) .an)))) (by rw[lQ,if_pos (show oX 0=ab from rfl)];exact .inl ⟨rfl,σ.n,ba,0,by simp[SE.den,h1],by simp[bU],hJ.rP,by simp⟩);refine .at (x:=.ptr σ.n 0 0 1) (V1:={V with l:=V.l++[.mp 0 (.tp (.ac a (.ac (.i 0) .an)))]}) hk bE hn rfl ⟨σ.n,0,SE.tp (.ac a (.ac (.i 0) .an)),by simp[bU],by simp,rfl⟩ ?_;simp[bT,aA,ho,hu,hv,ret]
 .rename_i _ _ _ _ hu;have r_:=bw hJ d t x;split at hs<;>try cases hs
  rename_i m hm;rw[hm]at r_;split at hs<;>try cases hs
  rename_i kt pB hj;split at hs
  .cases hs
  rename_i lu;simp only[azp,not_or]at lu;have⟨gu,ak⟩:=lu;have ak:m<1000000:=by simpa using ak
  have⟨_,hk⟩:=hs;have⟨id,pz,mI,g1,g2,g3⟩:=r_;rw[hj]at g2;cases g2;rw[if_neg gu]at g3;have eW:=hJ.obj m _ hj;rw[lQ,if_neg gu]at eW;have⟨bz,es,clock,ds,c1,c2,c3,c4,c5,c6⟩:=eW;rw[g1]at c2;cases c2;have qn:=c1;have hlen:=All2.len c5;have amd:=alN t m ak;have hit:=H4 (ahA t m);have Cc:=(ayH.1 hj).1
  have bE:=hJ.zB (.kV (aa id) clock [] clock) (.mp ((t+1)*1000000+m) (.tp (.ac pB (.ac pB .an)))) (by
   rw[lQ,if_pos hit];refine .inr ⟨ahA t m,σ.n,id,ds,[],ds,[],by simp[SE.den,qn],by simp[bU],hJ.rP,⟨kt,pB,by rw[amd,ayZ Cc];exact hj⟩,by rw[amd];simp[bU,show m≠V.l.length by omega,g1],?_,by simp,Left.init ds,.inl rfl⟩;have:=c6.1;simp[this,hlen])
  refine .at (x:=.ptr σ.n 0 0 1) (V1:={V with l:=V.l++[.mp ((t+1)*1000000+m) (.tp (.ac pB (.ac pB .an)))]}) hk bE hn rfl ⟨σ.n,(t+1)*1000000+m,SE.tp (.ac pB (.ac pB .an)),by simp[bU],by simp,(if_pos hit).symm⟩ ?_;simp[bT,aA,ho,hu,g3,c4,ret]
def Ye(hJ:J Cx (ay P ν) R φ V.g V.l E σ){t:TypeId}{e:SE}{x y:IV}(hy:e.den P ν=aa y)(hx:bx ab R σ x y){k:aq}(hs:(MT P t e k).sat P C Q K ν):vR (ay P ν) R φ V.l σ x (aag P t e)/\k.sat P C Q K ν:=by
 unfold MT at hs;unfold aag;split at hs
 .rename_i ha;rw[if_pos ha];have⟨⟨z,hz⟩,hk⟩:=hs;refine⟨?_,hk⟩;simp only[SE.den,hy,ayK]at hz;split at hz<;>try grind
  rename_i cs;split at hz
  .rename_i hc;obtain⟨xs,rfl,oz⟩:=LG hx;refine⟨xs,rfl,.mk (by simp_all[oz.len]) λi a b h1 h2=>?_⟩;have hi:=(ayH.1 h1).1;rw[oz.len]at hi;rw[ay1,aAC aj]at h2;simp only[azl,ayO]at h2;subst h2;have Nk:=ayG hi;have bf:=(ayY.1 hc.2) _ (ayJ hi);exact⟨cs[i],by simp[SE.den,hy,Nk,wF,bf],oz.get h1 Nk,bf⟩
  grind
 .rename_i ha;rw[if_neg ha];split at hs
  .rename_i xk;rw[if_pos xk];have⟨⟨z,hz⟩,hk⟩:=hs;refine⟨?_,hk⟩;have⟨vj,O5⟩:=r8 hz;simp only[SE.den,hy,ayK]at vj;split at vj
   .rename_i hr;cases vj;cases y<;>simp only[aL]at hr<;>try grind
    rename_i u;have:=cD hx;subst this;exact⟨_,rfl,.raw u,hz,.raw u,O5⟩
   grind
  .rename_i xk;rw[if_neg xk];have⟨⟨z,hz⟩,hk⟩:=hs;refine⟨?_,hk⟩;have⟨vj,O5⟩:=r8 hz;rw[hy]at vj;cases vj;exact⟨_,rfl,_,hz,hx,O5⟩
def afD(v:Value):bx ab R σ (lift v) (lift v):=by
 unfold lift;split
 .exact .pure _ rfl (.agg _ λc hc=>by obtain⟨v,_,rfl⟩:=List.mem_map.1 hc;exact .raw v)
 all_goals exact .raw _
def acE{it:Operand}(hJ:J Cx (ay P ν) R φ V.g V.l E σ)(hn:ν.length=V.n)(ho:o.op=.entry it)(hs:(jj P d o V k).sat P C Q K ν):dz Cx P C Q K ν E V.ln k (bT P E d o σ):=by
 unfold jj at hs;simp only[ho]at hs;unfold acn at hs;have r_:=bw hJ d 0 it;split at hs<;>try cases hs
 rename_i j hm;rw[hm]at r_;split at hs<;>try cases hs
 rename_i kt x hj;split at hs
 rotate_left
 .cases hs
 have hle:1000000<=kt:=yO;split at hs<;>try cases hs
 rename_i pz pB kt1 et hjm hu;split at hs
 .cases hs
 rename_i gu;have⟨qe,r,d1,d2,hs⟩:=hs;have hit:=H4 hle;have⟨id,kt3,x3,g1,g2,g3⟩:=r_;rw[hj]at g2;cases g2;rw[if_pos hit]at g3;have eW:=hJ.obj j _ hj;rw[lQ,if_pos hit]at eW;rcases eW with⟨h0,_⟩|⟨_,bz,m,ds,seen,rem,rest,e1,e2,e3,e4,e5,e6,e7,e8,e9⟩
 .grind
 rw[g1]at e2;cases e2;have cS:x.den P ν=aa (.aF (.aF ds::.aF rem::rest)):=e1;rw[cS]at d2;have CE:ds=qe:=bc;have UQ:=hJ.obj _ _ hjm;rw[lQ,if_neg gu]at UQ;have⟨T6,es,clock,TR,c1,c2,c3,c4,c5,c6⟩:=UQ;rw[e5]at c2;cases c2;have qn:pB.den P ν=aa (.aF TR):=c1;rw[qn]at d1;have CE:ds=TR:=bc;subst CE;have hlen:=All2.len c5;rcases e9 with rfl|⟨i,last,rfl,f1,f2⟩
 .unfold MT at hs;exfalso;have hp:(SE.proj (.proj x 2) 0).den P ν=ah:=by simp[SE.den,cS]
  split at hs
  .have⟨⟨z,hz⟩,_⟩:=hs;simp[SE.den,cS]at hz
  .repeat' split at hs
   all_goals (have⟨⟨z,hz⟩,_⟩:=hs;simp[SE.den,cS]at hz)
 .have hi:i<es.length:=bc;have HI:=ayG hi;have⟨z,h1,h2⟩:=All2.get c5 HI f2;subst h1;have hp0:(SE.proj (.proj x 2) 0).den P ν=aa (lift es[i].1):=by simp[SE.den,cS]
  have np:(SE.proj (.proj x 2) 1).den P ν=aa z:=by simp[SE.den,cS]
  have⟨v1,hs⟩:=Ye hJ hp0 (afD _) hs;have⟨v2,hs⟩:=Ye hJ np h2 hs;refine .here (pv:=.tu [_,_]) (x:=.aF [lift es[i].1,es[i].2.1]) ?_ hJ ⟨_,rfl,v1,v2,trivial⟩ hn rfl hs
  have hf:es.find? (λe=>e.2.2==i)=aa es[i]:=by
   rw[List.find?_eq_some_iff_getElem];refine⟨by simp[c6.2 i _ HI],i,hi,rfl,λq hq=>?_⟩;have:=c6.2 q es[q] (ayG aj)
   grind
  have jy:clock=ds.length:=by rw[<-hlen];exact c6.1
  simp[bT,aA,ho,g3,e6,c4,f1,hf,jy,ret]
def acG(hJ:J Cx (ay P ν) R φ V.g V.l E σ)(hn:ν.length=V.n){j id:Nat}{pB:SE}(hj:V.l[j]?=aa (.mp 0 pB)){ba:ByteArray}{p p':Nat}(kh:φ j=aa id)(hR:R id=ah)(aT:σ.at id=aa (.sB ba p)):
 J Cx (ay P (ν++[.aF [.raw (.string ba),.raw (.int .i64 (p':Nat))]])) R φ V.g (V.l.set j (.mp 0 (.var V.n))) E (σ.put id (.sB ba p')):=by
 have bE:=hJ.up (jz:=ay P (ν++[.aF [.raw (.string ba),.raw (.int .i64 (p':Nat))]])) (λe y h=>SE.dI P e h)
 exact(bE.tU (R':=R) (bad:=λ_=>False) (kK:=.mp 0 (.var V.n)) (fB:=.sB ba p') kh hj (λ_ _=>rfl)
  (λm hm=>by rw[hR]at hm;cases hm) (λm _ _ _ hm=>by rw[hR]at hm;cases hm) (λm _ _ _ hm=>by rw[hR]at hm;cases hm)
  (λ_ h=>by cases h) (λ_ _ _=>by rename_i h;cases h;exact⟨_,rfl⟩) (λ_ _ _ _ _ h=>by cases h) (λ_ _ pv _=>pv.a_) (λ_ o _ _=>o.a_)
  (λgy=>by rw[lQ,if_pos (show oX 0=ab from rfl)];exact .inl ⟨rfl,id,ba,p',by simp[SE.den,<-hn],kh,hR,by rw[St.dt,if_pos rfl]⟩)).2
def afE{it:Operand}(hJ:J Cx (ay P ν) R φ V.g V.l E σ)(hn:ν.length=V.n)(ho:o.op=.next it ab)(hs:(jj P d o V k).sat P C Q K ν):dz Cx P C Q K ν E V.ln k (bT P E d o σ):=by
 simp only[jj,ho]at hs;split at hs<;>try cases hs
 rename_i j hm;split at hs<;>try cases hs
 rename_i kt es hj;split at hs<;>try exact hs.elim
 rename_i lu;have Gx:=ay0 lu;subst Gx;have r_:=bw hJ d 0 it;rw[hm]at r_;have⟨id,pz,mI,g1,g2,g3⟩:=r_;rw[hj]at g2;cases g2;rw[if_pos (show oX 0=ab from rfl)]at g3;have eW:=hJ.obj j _ hj;rw[lQ,if_pos (show oX 0=ab from rfl)]at eW;rcases eW with⟨_,bz,ba,p,c1,c2,c3,c4⟩|⟨h0,_⟩
 rotate_left
 .omega
 rw[g1]at c2;cases c2;have qn:=c1
 have hd:∀w,(SE.dec w (.proj es 0) (.proj es 1)).den P ν=kO w (.raw (.string ba)) (.raw (.int .i64 (p:Nat))):=by
  simp_all[SE.den]
 rcases hs with⟨h0,hs⟩|⟨h0,hs⟩
 .rw[hd]at h0;simp[kO]at h0;have⟨z,hz,hs⟩:=hs
  have ta:z=.aF [.raw (.string ba),.raw (.int .i64 ((p+(aAc ba p).2:Nat):Nat))]:=by
   have:=hd 2;simp only[SE.den]at this hz
   simp_all[kO]
  subst ta;have fq:=acG (p':=p+(aAc ba p).2) hJ hn hj g1 c3 c4;have e1:(SE.proj es 1).den P (ν++[.aF [.raw (.string ba),.raw (.int .i64 ((p+(aAc ba p).2:Nat):Nat))]])=aa (.raw (.int .i64 (p:Nat))):=SE.dI P _ (by simp[SE.den,qn]);have e2:(SE.dec 1 (.proj es 0) (.proj es 1)).den P (ν++[.aF [.raw (.string ba),.raw (.int .i64 ((p+(aAc ba p).2:Nat):Nat))]])=aa (.raw (.int .i32 (aAc ba p).1)):=SE.dI P _ (by rw[hd];rfl);refine⟨.aF [.bool ab,.raw (.int .i64 (p:Nat)),.raw (.int .i32 (aAc ba p).1)],_,R,φ,.tu [(af,[.v (.b ab)]),(af,[.v (.proj es 1)]),(af,[.v (.dec 1 (.proj es 0) (.proj es 1))])],{V with n:=V.n+1,l:=V.l.set j (.mp 0 (.var V.n))},[_],?_,fq,⟨_,rfl,⟨_,rfl,.raw (.bool ab),rfl,.raw _,rfl⟩,⟨_,rfl,_,e1,.raw _,rfl⟩,⟨_,rfl,_,e2,.raw _,rfl⟩,trivial⟩,by grind,rfl,hs⟩;simp[bT,aA,ho,g3,c4,h0,ret]
 .rw[hd]at h0;simp[kO]at h0;refine .here (pv:=.tu [(af,[.v (.b af)])]) (x:=.aF [.bool af]) ?_ hJ ⟨_,rfl,⟨_,rfl,.raw (.bool af),rfl,.raw _,rfl⟩,trivial⟩ hn rfl hs;have:¬p<ba.size:=aj;simp[bT,aA,ho,g3,c4,this,ret]
def arn{x z:IV}{b:Bool}(h:kO 7 x (.raw (.bool b))=aa z):∃q c,x=.raw (.int q c)/\0<=c/\c<=1000000:=by
 unfold kO at h
 grind
def LK(hJ:J Cx (ay P ν) R φ V.g V.l E σ){x:IV}{pv:PV SE}{e:SE}(hx:VR (ay P ν) R φ V.l σ x pv)(h:uM pv=aa e):∃y,e.den P ν=aa y/\bx ab R σ x y:=by
 unfold uM at h;split at h<;>try grind
 .cases h;have⟨y,h1,h2,_⟩:=hx;exact⟨y,h1,h2.mono hJ.Dj⟩
 .cases h;have⟨y,h1,h2,_⟩:=hx;exact⟨y,h1,h2.cQ⟩
def ame{x p z:IV}(h:kO 10 x p=aa z):∃q c,x=.raw (.int q c)/\0<=c/\c<=1000000/\z=.tree 1 (ay_ c.toNat p):=by
 unfold kO at h
 grind
def acH{t:TypeId}{l c:Operand}(hJ:J Cx (ay P ν) R φ V.g V.l E σ)(hn:ν.length=V.n)(ho:o.op=.makeSlice t l c)(hs:(aaf P d t l c V k).sat P C Q K ν):dz Cx P C Q K ν E V.ln k (bT P E d o σ):=by
 unfold aaf at hs;split at hs
 rotate_left
 .rename_i el ce hu hc _;split at hs<;>try cases hs
  rename_i le s z ze bytes hl bo wH hze KK;split at hs<;>try exact hs.elim
  rename_i cH;simp only[ayI]at cH;have⟨⟨⟨⟨h0,h1⟩,h3⟩,h4⟩,h5⟩:=cH;have dH:=ay0 h1;subst dH;have KF:bytes<=1000000:=by simpa using h3
  have:=SE.eq_eq h0;subst this;have⟨v,e1,e2,e3⟩:=acy (ν:=ν) hze;rw[wH]at e1;cases e1;have⟨y,hy,hk⟩:=hs;simp only[SE.den,ay4]at hy;have⟨nv,n1,zv,n2,n3⟩:=hy;rw[e2]at n2;cases n2;have⟨yl,l1,l2⟩:=LK hJ (bw hJ d 0 l) hl;have⟨yc,c1,c2⟩:=LK hJ (bw hJ d 0 c) hc;rw[n1]at l1 c1;cases l1;cases c1;obtain⟨q,m,rfl,m1,m2,rfl⟩:=ame n3;have gh:=cD l2;have hcv:=cD c2
  have UI:lK (z.cells.toList.map .raw) (m.toNat*1)=ay_ m.toNat (.raw z):=by
   simp[lK,e3]
  have bf:Ev.ao (.raw z)=ab:=by simpa[e3]using h5
  have nZ:(SE.var V.n).den P (ν++[.tree 1 (ay_ m.toNat (.raw z))])=aa (.tree 1 (ay_ m.toNat (.raw z))):=by simp[SE.den,<-hn]
  have bE:=hJ.up (jz:=ay P (ν++[.tree 1 (ay_ m.toNat (.raw z))])) (λe y h=>SE.dI P e h);by_cases zS:m=0
  .subst zS;have ahZ:=nZ
   refine⟨.emp,_,R,_,.one (.sr V.l.length),{V with n:=V.n+1,l:=V.l++[.row 1 af af af (.var V.n)]},[.tree 1 (ay_ (0:Int).toNat (.raw z))],?_,(bE.AQ (s:=1) (fr:=af) (z:=.var V.n) aj ahZ).2,
    ⟨1,af,af,af,.var V.n,[],by simp,ahZ,.inl ⟨xR hJ (ayL _),rfl,.inr rfl⟩⟩,by simp[hn],rfl,hk⟩
   simp only[bT,aA,ho,hu,gh,hcv,bo,wH,KK];rw[if_neg (by simp[e3];omega),if_pos trivial];rfl
  have fq:=bE.zB (.cells (ay_ m.toNat (.raw z)) 0 0) (.row 1 af af af (.var V.n)) ⟨by omega,_,nZ,λe he=>(by rw[az3 he];rfl),.inr ⟨σ.n,(ay_ m.toNat (.raw z)),0,0,by simp[bU],by simp,ayL _,by simp,hJ.rP,ayY.2 λx hx=>(by rw[az3 hx];exact bf),λj x d hx hd=>by
   have kY:=az3 (ayX hx)
   have vH:d=.raw z:=by
    have hm:=ayX hd;have⟨e,he,Yf⟩:=az1.1 hm;rw[az3 he]at Yf;simpa[cellsOf]using Yf
   rw[kY,vH];exact .raw _⟩⟩
  refine⟨.sl σ.n 0 m.toNat (aa m.toNat) 0 1,_,R,_,.one (.sr V.l.length),{V with n:=V.n+1,l:=V.l++[.row 1 af af af (.var V.n)]},[.tree 1 (ay_ m.toNat (.raw z))],?_,fq,
   ⟨1,af,af,af,_,_,by simp,nZ,.inr ⟨σ.n,(ay_ m.toNat (.raw z)),0,0,aa m.toNat,by simp[bU],by simp,by simp,azz _,λh=>(by cases h),λc hc=>(by cases hc;exact⟨rfl,by simp,by simp⟩)⟩⟩,by simp[hn],rfl,hk⟩
  simp only[bT,aA,ho,hu,gh,hcv,bo,wH,KK];rw[if_neg (by simp[e3];omega),if_neg zS,UI];rfl
 .cases hs
 rename_i el ce hu hl hc;split at hs<;>try cases hs
 rename_i s z bytes bo wH KK;split at hs<;>try exact hs.elim
 rename_i cH;simp only[ayI]at cH;have⟨⟨⟨h1,h2⟩,h3⟩,h4⟩:=cH;have xh:=ay0 h2;have KF:bytes<=1000000:=by simpa using h3
 have cw:0<s:=by
  rcases Nat.eq_zero_or_pos s with h|h
  .subst h;simp at h1
  .exact h
 have⟨⟨u,hu0⟩,hk⟩:=hs;have gh:=bw hJ d 0 l;rw[hl]at gh;have⟨y0,b1,b2,_⟩:=gh
 have z8:y0=.raw (.int .i64 0):=by
  have:=b1;simp only[SE.den,ayO]at this;exact this.symm
 subst z8;have hle:=cD b2;have⟨y,c1,c2⟩:=LK hJ (bw hJ d 0 c) hc;simp only[SE.den,c1]at hu0;obtain⟨q,n,rfl,d1,d2⟩:=arn hu0;have vC:=cD c2;have nZ:(SE.tr s SE.an).den P ν=aa (.tree s []):=by simp[SE.den,cw]
 have oE:(V.l++[LO.row s af af af (SE.tr s SE.an)])[V.l.length]?=aa (.row s af af af (SE.tr s SE.an)):=aw;by_cases m7:n=0
 .subst m7;refine .at (x:=.emp) (V1:={V with l:=V.l++[.row s af af af (.tr s .an)]}) hk (hJ.AQ (fr:=af) cw nZ).2 hn rfl ⟨s,af,af,af,_,[],oE,nZ,.inl ⟨xR hJ (ayL _),rfl,.inr rfl⟩⟩ ?_;simp only[bT,aA,ho,hu,hle,vC,bo,wH,KK];rw[if_neg aj,if_pos trivial];rfl
 .have UI:lK (z.cells.toList.map .raw) (n.toNat*s)=(ay_ n.toNat (z.cells.toList.map IV.raw)).flatten:=LF (by simp[xh]) cw _
  have hlen:(lK (z.cells.toList.map .raw) (n.toNat*s)).length=n.toNat*s:=by
   rw[UI];simp[xh]
  have jH:(lK (z.cells.toList.map .raw) (n.toNat*s)).all Ev.ao=ab:=by
   rw[UI];refine ayY.2 λx hx=>?_;have⟨l',cJ,kY⟩:=List.mem_flatten.1 hx;have:=az3 cJ;subst this;exact(ayY.1 h4) x kY
  refine .at (x:=.sl σ.n 0 0 (aa n.toNat) 0 s) (V1:={V with l:=V.l++[.row s af af af (.tr s .an)]}) hk (hJ.zB (.cells (lK (z.cells.toList.map .raw) (n.toNat*s)) 0 0) _ ⟨cw,[],nZ,λe he=>(by cases he),.inr ⟨σ.n,(lK (z.cells.toList.map .raw) (n.toNat*s)),0,0,by simp[bU],by simp,ayL _,by simp,hJ.rP,jH,λj x d hx hd=>by simp[flat]at hd⟩⟩) hn rfl ⟨s,af,af,af,_,[],oE,nZ,.inr ⟨σ.n,(lK (z.cells.toList.map .raw) (n.toNat*s)),0,0,aa n.toNat,by simp[bU],by simp,by simp,ayL _,λh=>(by cases h),λc hc=>?_⟩⟩ ?_
  .cases hc;exact⟨rfl,by rw[hlen];simp,azz _⟩
  .simp only[bT,aA,ho,hu,hle,vC,bo,wH,KK];rw[if_neg aj,if_neg m7];rfl
def afF(hJ:J Cx (ay P ν) R φ V.g V.l E σ){id:Nat}{ob:Ob}(h:σ.at id=aa ob):σ.put id ob=σ:=by
 have:=Go.Ev.T.WF.ext (hJ.wf.set _ _) hJ.wf λi=>by
  show(σ.put id ob).at i=σ.at i;rw[St.dt]
  grind
 simp_all[St.put]
def aaN{t:TypeId}{x:Operand}{lo hi mx:Option Operand}{f:aq}(hJ:J Cx (ay P ν) R φ V.g V.l E σ)(hn:ν.length=V.n)(ho:o.op=.slice t x lo hi mx)(hz:Uc P d t (bP P d V t x) lo hi mx V k=aa f)(hs:f.sat P C Q K ν):dz Cx P C Q K ν E V.ln k (bT P E d o σ):=by
 unfold Uc at hz;split at hz<;>try (cases hz;done)
 rename_i el c kK ct h hu hx;have Co:=bw hJ d t x;rw[hx]at Co;split at hz<;>try (cases hz;done)
 .rename_i s s' hh bo;split at hz<;>try (cases hz;done)
  rename_i me;have:=ay0 me;subst this;cases hz;have hhv:=bw hJ d 3 h;rw[hh]at hhv;have⟨y,y1,y2,_⟩:=hhv;simp only[SE.den,ayO]at y1;subst y1;have QA:=cD y2;have⟨h0,h1⟩:=Co;refine .at (x:=.raw (.slice ah 0 0)) hs hJ hn rfl ⟨h0,rfl⟩ ?_;simp[bT,aA,ho,h1,QA,gm,iD,hu,bo,ret]
 .rename_i s j hh bo;split at hz<;>try (cases hz;done)
  rename_i s' cut fr es hj;split at hz<;>try (cases hz;done)
  rename_i me;have:=ay0 me;subst this;cases hz;have hhv:=bw hJ d 3 h;rw[hh]at hhv;have⟨y,y1,y2,_⟩:=hhv;simp only[SE.den,ayO]at y1;subst y1;have QA:=cD y2;have⟨⟨z,hz⟩,hk⟩:=hs;have⟨s1,pA,zI,zZ,z1,jC,b1,b2,b3⟩:=Co;rw[hj]at b1;cases b1;have xl:es.den P ν=aa (.tree s jC):=b2
  have bA:jC≠[]:=by
   rintro rfl;simp[SE.den,xl,cb,gW]at hz
  have hlen:1<=jC.length:=by
   cases jC with
   |nil=>exact absurd rfl bA
   |cons=>simp
  rcases b3 with⟨_,c2,_⟩|⟨id,cs,aE,mn,cap,c1,c2,c3,c4,c5,c6⟩
  .omega
  have⟨cw,mI,d1,d2,d3⟩:=hJ.obj j _ hj;have d1':es.den P ν=aa (.tree s mI):=d1;rw[xl]at d1';cases d1';rcases d3 with⟨_,d3⟩|⟨bz,bK,lP,tT,g1,g2,g3,g4,g5,g6,g7⟩
  .exact absurd d3 bA
  rw[c1]at g1;cases g1;rw[c2]at g2;cases g2;have hR:R id=ah:=by simpa using g5
  have nZ:(SE.tr s SE.an).den P ν=aa (.tree s []):=by simp[SE.den,cw]
  have hjd:(V.l.map (LO.drop j))[j]?=aa (.row s af cut fr es):=by simp[hj,LO.drop]
  have bE:=(hJ.ZW j).tU (R':=R) (bad:=(·=j)) (kK:=.row s af ab fr (.tr s .an)) (fB:=.cells cs aE mn) c1 hjd (λ_ _=>rfl) (λm hm=>by rw[hR]at hm;cases hm) (λm _ _ _ hm=>by rw[hR]at hm;cases hm) (λm _ _ _ hm=>by rw[hR]at hm;cases hm)
   (λ_ h=>by cases h) (λ_ _ h=>by cases h) (λ_ _ _ _ _ _=>rfl) (λd t pv hg=>by obtain⟨q,_,rfl⟩:=HV _ hg;exact q.oY j) (λi o hi _=>by
    rw[ay1]at hi;obtain⟨o',_,rfl⟩:=ayR.1 hi;exact o'.oY j)
   (λ_=>⟨cw,[],nZ,λe he=>(by cases he),.inr ⟨id,cs,aE,mn,c1,by rw[St.dt,if_pos rfl],g3,by simp,hR,g6,λj x d hx hd=>by simp[flat]at hd⟩⟩)
  have fq:=bE.2;rw[afF hJ c2]at fq
  have oE:((V.l.map (LO.drop j)).set j (LO.row s af ab fr (SE.tr s SE.an)))[j]?=aa (.row s af ab fr (SE.tr s SE.an)):=by
   rw[List.getElem?_set,if_pos rfl,if_pos (by have:=(ayH.1 hj).1;simpa using this)]
  cases cap with
  |none=>
   refine .at (x:=.sl id 0 0 ah aE s) (V1:=(V.vg j).setObj j (.row s af ab fr (.tr s .an))) hk fq hn rfl ⟨s,af,ab,fr,_,[],oE,nZ,.inr ⟨id,cs,aE,mn,ah,c1,c2,by simp,azz _,(λ_ h=>(by cases h)),λc hc=>by cases hc⟩⟩ ?_;simp[bT,aA,ho,c3,QA,gm,iD,hu,bo,ret]
  |some m=>
   obtain⟨f1,f2,f3⟩:=c6 m rfl;have zS:m≠0:=aj;refine .at (x:=.sl id 0 0 (aa m) aE s) (V1:=(V.vg j).setObj j (.row s af ab fr (.tr s .an))) hk fq hn rfl ⟨s,af,ab,fr,_,[],oE,nZ,.inr ⟨id,cs,aE,mn,aa m,c1,c2,by simp,azz _,(λh=>(by cases h)),λc hc=>by cases hc;exact⟨f1,by omega,azz _⟩⟩⟩ ?_;simp[bT,aA,ho,c3,QA,gm,iD,hu,bo,ret,zS]
def afG{c:Call}(hJ:J Cx (ay P ν) R φ V.g V.l E σ)(hn:ν.length=V.n)(ho:o.op=.call c)(hc:c.callee=.builtin .cap)(hs:(jj P d o V k).sat P C Q K ν):dz Cx P C Q K ν E V.ln k (bT P E d o σ):=by
 simp only[jj,ho,hc]at hs;have bF:=js hJ d c.args.toList c.argTypes.toList;split at hs<;>try cases hs
 rename_i s et hh hu;rw[hh]at bF;have⟨x,hx,hr⟩:=xQ bF;have⟨_,h1⟩:=hr;refine .at (x:=.raw (.int .i64 0)) hs hJ hn rfl ⟨_,rfl,.raw _,rfl⟩ ?_;simp[bT,aA,ho,hc,fw,hx,h1,Zs,hu]
def Yg(hJ:J Cx (ay P ν) R φ V.g V.l E σ)(hn:ν.length=V.n)(hs:(jj P d o V k).sat P C Q K ν):dz Cx P C Q K ν E V.ln k (bT P E d o σ):=by
 cases ho:o.op with
 |makeFunc f first cap=>
  cases f with
  |func f=>exact UK hJ hn ho hs
  |_=>simp only[jj,ho]at hs;cases hs
 |makeMap t r=>exact Xd hJ hn ho hs
 |makeSlice t l c=>simp only[jj,ho]at hs;exact acH hJ hn ho hs
 |mapUpdate t m key x=>exact Nj hJ hn (.inl ho) hs
 |insert t m key x=>exact Nj hJ hn (.inr ho) hs
 |lookup t m key ok=>exact aaL hJ hn ho hs
 |slice t x lo hi mx=>
  simp only[jj,ho]at hs;split at hs
  .exact aaN hJ hn ho ‹_› hs
  split at hs
  .exact aaM hJ hn ho (afC ‹_›) hs
  .exact acB hJ hn ho hs
 |index t x ix=>exact acC hJ hn ho hs
 |range t x=>exact acD hJ hn ho hs
 |next it str=>
  cases str with
  |true=>exact afE hJ hn ho hs
  |false=>simp only[jj,ho]at hs;cases hs
 |entry it=>exact acE hJ hn ho hs
 |call c=>
  cases hc:c.callee with
  |builtin b=>
   cases b with
   |cap=>exact afG hJ hn ho hc hs
   |max=>simp only[jj,ho,hc]at hs;exact amc hJ hn ho hc hs
   |_=>simp only[jj,ho,hc]at hs;cases hs
  |_=>simp only[jj,ho,hc]at hs;cases hs
 |_=>simp only[jj,ho]at hs;cases hs
def ajK(hJ:J Cx (ay P ν) R φ V.g V.l E σ)(hn:ν.length=V.n){op:BinOp}{t yt:TypeId}{x y:Operand}(ho:o.op=.binOp op t x y yt)(hs:(gN P d o V k).sat P C Q K ν):dz Cx P C Q K ν E V.ln k (bT P E d o σ):=by
 unfold gN at hs;rw[ho]at hs;simp only at hs;have hx:=bw hJ d t x;have hy:=bw hJ d t y
 have rdv:∀{xv:IV} {a:SE},VR (ay P ν) R φ V.l σ xv (.one (.v a))->∀z,a.den P ν=aa z->bx ab R σ xv z:=by
  intro xv a ⟨u,h1,h2,_⟩ z hz;have dH:a.den P ν=aa u:=h1;rw[hz]at dH;cases dH;exact h2.mono hJ.Dj
 have rdw:∀{xv:IV} {f:Bool} {a:SE},VR (ay P ν) R φ V.l σ xv (.one (.w f a))->∀z,a.den P ν=aa z->bx ab R σ xv z:=by
  intro xv f a ⟨u,h1,h2,_⟩ z hz;have dH:a.den P ν=aa u:=h1;rw[hz]at dH;cases dH;exact h2.cQ
 split at hs
 .rename_i cs ds xf va;rw[xf]at hx;rw[va]at hy;split at hs
  .rename_i f1 a V1 f2 b V2 h1 h2;obtain⟨R1,a1,a2,_,a3⟩:=AP hJ h1;obtain⟨R2,b1,b2,_,b3⟩:=AP hJ h2;obtain⟨xs,yS,s5⟩:=hx;obtain⟨ys,y9,vS⟩:=hy;obtain⟨us,c1,c2,_⟩:=a3 xs s5;obtain⟨vs,d1,d2,_⟩:=b3 ys vS;obtain⟨⟨z,hz⟩,hk⟩:=hs;obtain⟨h3,h4⟩:=r8 hz;simp only[SE.den,gH c1,gH d1,ayK]at h3;have ha:bx f1 R1 σ (aD (E d) x) (.agg us):=by rw[yS];exact .agg xs us c2.len λi c e h1 h2=>c2.get h1 h2
   have hb:bx f2 R2 σ (aD (E d) y) (.agg vs):=by rw[y9];exact .agg ys vs d2.len λi c e h1 h2=>d2.get h1 h2
   have h6:tz P op t x y (aD (E d) x) (aD (E d) y)=aa z:=by
    unfold dg at h3;split at h3
    .cases h3
    .rename_i u v bA hu hv;rw[Gs ha hu,Gs hb hv,UA (x':=.func 0) (y':=.func 0) hu hv (λhc=>bA hc)];exact h3
    .cases h3
   exact .at (x:=z) hk hJ hn rfl ⟨z,hz,UC h6,h4⟩ (by simp[bT,aA,ho,h6,ret])
  .exact hs.elim
 .rename_i a b xf va;rw[xf]at hx;rw[va]at hy;exact Nd hJ hn ho (rdv hx) (rdv hy) hs
 .rename_i f a b xf va;rw[xf]at hx;rw[va]at hy;exact Nd hJ hn ho (rdw hx) (rdv hy) hs
 .rename_i a f b xf va;rw[xf]at hx;rw[va]at hy;exact Nd hJ hn ho (rdv hx) (rdw hy) hs
 .rename_i f a g b xf va;rw[xf]at hx;rw[va]at hy;exact Nd hJ hn ho (rdw hx) (rdw hy) hs
 .exact hs.elim
def acI(hJ:J Cx (ay P ν) R φ V.g V.l E σ)(hn:ν.length=V.n)(hs:(gN P d o V k).sat P C Q K ν):dz Cx P C Q K ν E V.ln k (bT P E d o σ):=by
 cases ho:o.op with
 |move x=>exact acp hJ hn (.inl ho) hs
 |assign x=>exact acp hJ hn (.inr ho) hs
 |pick c a b=>exact afl hJ hn ho hs
 |alloc t=>exact acq hJ hn ho hs
 |box t x=>exact ajF hJ hn ho hs
 |load t a=>exact afo hJ hn ho hs
 |store t a x=>exact acr hJ hn ho hs
 |nilCheck x=>exact Uv hJ hn ho hs
 |binOp op t x y yt=>exact ajK hJ hn ho hs
 |unOp op t x=>exact al5 hJ hn ho hs
 |convert a b x=>exact al6 hJ hn ho hs
 |build t p=>exact acA hJ hn ho hs
 |buildSlice t l p=>exact O4 hJ hn ho hs
 |fieldAddr s x f=>exact Sd hJ hn ho hs
 |field t x f=>exact acx hJ hn ho hs
 |indexAddr t x i=>exact Se hJ hn ho hs
 |extract x i=>exact Xc hJ hn ho hs
 |call c=>
  cases hc:c.callee with
  |builtin b=>
   by_cases hl:b=.len
   .subst hl;exact ajI hJ hn ho hc hs
   .by_cases ha:b=.append
    .subst ha;exact aaJ hJ hn ho hc hs
    .unfold gN at hs;rw[ho]at hs;simp only[hc]at hs;split at hs<;>first|exact absurd rfl hl|exact absurd rfl ha|exact hs.elim|exact Yg hJ hn hs
  |value f=>unfold gN at hs;rw[ho]at hs;simp only[hc]at hs;exact hs.elim
  |invoke x n=>unfold gN at hs;rw[ho]at hs;simp only[hc]at hs;exact hs.elim
 |_=>unfold gN at hs;rw[ho]at hs;exact Yg hJ hn hs
end
end Go.Ev
namespace Go.Ev
variable{P:Program}{N:Nat}{σ au:St}{ι:Io}{w:World}
namespace T
variable{α:Type}
def of(f:Nat->Option α):Nat->T α
 |0=>.lf
 |n+1=>match f n with
  |some x=>(of f n).set n x
  |none=>of f n
theorem J_(f:Nat->Option α):∀n,(of f n).WF
 |0=>WF.lf
 |n+1=>by
  unfold of;split
  .exact(J_ f n).set _ _
  .exact J_ f n
theorem Nn(f:Nat->Option α):∀(n i:Nat),(of f n).get i=if i<n then f i else ah
 |0,i=>by simp[of,get]
 |n+1,i=>by
  unfold of;split
  .rename_i x hx;rw[hZ];split
   .rename_i h;subst h;rw[if_pos aj,hx]
   .rw[Nn f n i];by_cases h:i<n
    .rw[if_pos h,if_pos aj]
    .rw[if_neg h,if_neg aj]
  .rename_i hx;rw[Nn f n i];by_cases h:i<n
   .rw[if_pos h,if_pos aj]
   .rw[if_neg h];by_cases h2:i=n
    .subst h2;rw[if_pos aj,hx]
    .rw[if_neg aj]
end T
def St.only(σ:St)(dB:Nat->Bool):St:=⟨σ.n,T.of (λi=>if dB i then σ.at i else ah) σ.n⟩
def O9(dB:Nat->Bool)(Lh:∀id,σ.n<=id->σ.at id=ah)(i:Nat):(σ.only dB).at i=if dB i then σ.at i else ah:=by
 unfold St.only St.at;simp only[T.Nn];split
 .rfl
 .rename_i h;have:=Lh i aj;unfold St.at at this;rw[this];simp
def St.back(σ av:St)(dB:Nat->Bool):St:=⟨av.n,T.of (λi=>if i<σ.n/\dB i=af then σ.at i else av.at i) av.n⟩
def O_{av:St}(dB:Nat->Bool)(hn:σ.n<=av.n)(Lh:∀id,av.n<=id->av.at id=ah)(i:Nat):(σ.back av dB).at i=if i<σ.n/\dB i=af then σ.at i else av.at i:=by
 unfold St.back St.at;simp only[T.Nn];split
 .rfl
 .rename_i h;rw[if_neg aj];have:=Lh i aj;unfold St.at at this;rw[this]
theorem fc.frame{f:FuncId}{args:List IV}{RW:IV->St->Prop}(dB:Nat->Bool)(Lh:∀id,σ.n<=id->σ.at id=ah)(h:fc P N f args (σ.only dB) RW):
 fc P N f args σ (λv au=>∃av,RW v av/\au=σ.back av dB/\σ.n<=av.n/\(∀id,av.n<=id->av.at id=ah)/\∀id,id<σ.n->dB id=af->av.at id=ah):=by
 intro ι us w hi hr;have aT:=O9 dB Lh
 have HS:Inv N ι (σ.only dB) w:=by
  refine⟨hi.mem,hi.sep,hi.gU,hi.fresh,hi.inj,λid o ho=>?_,λid hid=>?_⟩
  .rw[aT]at ho;split at ho
   .exact hi.obj id o ho
   .cases ho
  .rw[aT];split
   .exact hi.wf id hid
   .rfl
 refine(h ι us w HS hr).mono λed w' hR=>?_;obtain⟨v,av,vT,hR⟩:=hR;cases ed with
 |returned u=>
  obtain⟨aM,h1,h2,h3⟩:=hR;have hn:σ.n<=av.n:=h3.zy
  have Gy:∀id,id<σ.n->dB id=af->av.at id=ah:=λid hid hv=>by
   refine h3.dead id ?_ (.inl hid);rw[aT,hv];simp
  have BE:=O_ (σ:=σ) (av:=av) dB hn h2.wf;refine⟨v,σ.back av dB,⟨av,vT,rfl,hn,h2.wf,Gy⟩,aM,h1,⟨h2.mem,h2.sep,h2.gU,h2.fresh,h2.inj,λid o ho=>?_,λid hid=>?_⟩,?_⟩
  .rw[BE]at ho;split at ho
   .rename_i hc;refine(hi.obj id o ho).vz h3.ext (h3.B8 id (by rw[aT,hc.2];simp) (.inl hc.1)) λb hb=>h3.frame b (hi.gU id b hb) λbz u7=>.inr ?_;have:=hi.inj id bz b hb u7;subst this;rw[aT,hc.2];simp
   .exact h2.obj id o ho
  .rw[BE];have j9:av.n<=id:=hid;rw[if_neg aj];exact h2.wf id j9
  .refine⟨h3.ext,h3.own,λid hid hr=>h3.B8 id (by rw[aT,hid];simp) hr,λid hid hr=>?_,λid hr=>absurd hr (Nat.not_lt_zero _),hn,h3.os,h3.tape,h3.output,h3.size,λb hb hc=>h3.frame b hb λid ho=>?_,h3.zz⟩
   .rw[BE];split
    .exact hid
    .exact h3.dead id (by rw[aT,hid];simp) hr
   .rcases hc id ho with h|h
    .exact .inl h
    .exact .inr (by rw[aT,h];simp)
 |outgrown=>exact hR.elim
 |panicked chain=>exact hR.elim
end Go.Ev
