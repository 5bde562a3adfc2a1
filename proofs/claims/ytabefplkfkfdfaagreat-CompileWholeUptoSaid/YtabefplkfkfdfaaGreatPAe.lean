/- Lemmas over the model, without conditions. -/
import Derived.Test.YtabefplkfkfdfaaGreatPAd
import Derived.Test.YtabefplkfkfdfaaGreatPAc
open Option.some renaming injEq->awf
open Bool renaming and_eq_true->awb,or_eq_true->awO,not_eq_true'->awX,not_eq_true->aAU,not_eq_false->ayV,false_eq_true->awA,false_or->ayc
open Nat renaming beq_eq->awV,ble_eq->axS,add_mul->awU,eq_of_beq_eq_true->awk,le_refl->awe,zero_le->aw5,mul_le_mul_right->awL,lt_of_lt_of_le->axV,blt->aw6,zero_add->axo
open List renaming map_cons->awZ,replicate->awE,replicate_succ->ayQ,flatten_cons->ax6,length_append->awi,mem_cons->aws,eq_nil_of_length_eq_zero->awG,all_cons->aBl,map_nil->ayf,all_eq_true->awt,getElem?_of_mem->axG,getElem?_eq_some_iff->awa,getElem?_eq_getElem->av_,getElem_mem->awd,isEmpty_iff->axT,mem_of_getElem?->awq,map_map->azb,getElem?_map->awu,range->axt,getElem?_range->ax9,append_assoc->awv,mem_of_mem_take->axv,mem_of_mem_drop->ayM,getElem?_append_left->awp,eq_of_mem_replicate->axl,mem_flatMap->axq,getElem?_set_ne->ayo,length_cons->awJ,length->awN,append_nil->aww,nil_append->axp,mapM_cons->ayk,mapM_nil->aAb,mem_cons_of_mem->awI
open Prod.mk renaming injEq->awM
open Option renaming bind_some->awc,map_eq_some_iff->awj,map_some->awQ,bind_eq_some_iff->awx
open Go.Instr renaming findNow->axE,sameNow->azm,findAsking->aw1,findKey->axr,sameBits->ayi,checkKey->ayC
open Go renaming undef->awT
open List.cons renaming injEq->axC
open Function renaming comp_def->aAe
open Int renaming toNat_of_nonneg->azn
open Go.Value.int renaming injEq->azx
open Go.Utf8 renaming decode->axU
open Array renaming getElem?_eq_some_iff->aw4
open Go.ResultVar renaming tmp->aBO,cell->aBP
open Option renaming some->aa,none->ah
open Bool renaming true->ab,false->af
set_option linter.all false
namespace Go.Ev
section
variable{Cx:Cs}
variable{P:Program}{N:Nat}{G au:St}{R R':Rs}{X aU:Ph}{E:Nat->Env}{O:List IV}
variable{C:Cr}{Q:IV->Prop}{K:List (List IV->Prop)}{V:SS}{d:Nat}{o:Oper}{k:PV SE->SS->aq}{L:List (LO SE)}{Γ:Gm SE}
theorem Fc(hJ:J Cx (ax P O) R X V.g V.l E G){ty:Nat->TypeId}{place:Nat->Option (Nat×Nat)}:∀{parts:List (Nat×Operand)} {cells:List IV} {cs out:List (Cl SE)},All2 (cR (ax P O) R X V.l G) cells cs->
 pe (λj x=>ff (bM P d V (ty j) x)) place parts cs=aa out->∃iC,rX place cells (parts.map λ(i,x)=>(i,aB (E d) x))=aa iC/\All2 (cR (ax P O) R X V.l G) iC out/\iC.length=cells.length/\(cells.all Ev.ao=ab->iC.all Ev.ao=ab)
 |[],cells,cs,out,h,hp=>by
  simp only[pe,awf]at hp;subst hp;exact⟨cells,rfl,h,rfl,λh=>h⟩
 |(j,x)::ps,cells,cs,out,h,hp=>by
  simp only[pe]at hp;split at hp
  .rename_i off sz dZ;split at hp
   .rename_i hc;simp only[awb,awV,axS]at hc;obtain⟨⟨c1,c2⟩,c3⟩:=hc;have iR:=B8 (bw hJ d (ty j) x) c1;have a_:=vK iR c1;have hl:=iR.len;have tx:=h.len;obtain⟨iC,h1,h2,h3,h4⟩:=Fc hJ (Qd off h iR) hp;refine⟨iC,?_,h2,by rw[h3,zH aj],λha=>h4 (Fa ha a_)⟩;simp only[awZ,rX,dZ];rw[if_pos ⟨by omega,by omega,a_⟩];exact h1
   .cases hp
  .cases hp
def KA{zero:List IV}{s:Nat}(hl:zero.length=s)(hs:0<s)(n:Nat):lu zero (n*s)=(awE n zero).flatten:=by
 unfold lu;split
 .rename_i z;simp at hl;subst hl;rw[Nat.mul_one];induction n with
  |zero=>rfl
  |succ n ih=>simp[ayQ]
 .rw[hl,Nat.mul_div_cancel _ hs]
theorem Ql{zero:List IV}{zc:List (Cl SE)}(h:All2 (cR (ax P O) R X L G) zero zc):∀n,All2 (cR (ax P O) R X L G) (awE n zero).flatten (Tn zc n)
 |0=>trivial
 |n+1=>by
  rw[ayQ,ax6];exact h.app (Ql h n)
theorem JK{zero:List IV}{s:Nat}(hl:zero.length=s):∀n,(awE n zero).flatten.length=n*s
 |0=>by simp
 |n+1=>by rw[ayQ,ax6,awi,JK hl n,hl,awU];omega
def abJ{z:SE}(h:LY z=ab){y:IV}(hy:z.den P O=aa y):aN y=ab:=by
 cases z<;>simp[LY]at h<;>(simp only[SE.den,awf]at hy;subst hy;rfl)
def akD{V':SS}{c:Cl SE}{t:TypeId}{fr:Bool}{z:SE}{vi:List SE}(h:J Cx (ax P O) R X V.g V.l E G)(hr:rdT P V c t=aa (fr,z,V',vi)):
 ∃R',jq P O R X V G R' V'/\J Cx (ax P O) R' X V'.g V'.l E G/\∀x,cR (ax P O) R X V.l G x c->∃y,z.den P O=aa y/\bx ab R' G x y/\Ev.ao y=ab/\((∀e∈vi,∃q,(SE.rw e).den P O=aa q)->bx fr R' G x y):=by
 unfold rdT at hr;split at hr
 .rename_i z';have IC:=Ht (c:=.v z') h rfl;obtain⟨R',h1,h2,h3⟩:=IC;split at hr
  .simp only[awf,awM]at hr;obtain⟨rfl,rfl,rfl,rfl⟩:=hr;refine⟨R',h1,h2,λx hx=>?_⟩;obtain⟨y,a1,a2,a3⟩:=h3 x hx;refine⟨y,a1,a2,a3,λjM=>?_⟩
   have hy:aN y=ab:=by
    by_cases hl:LY z'=ab
    .exact abJ hl a1
    .rw[if_neg hl]at jM;obtain⟨q,hq⟩:=jM z' ay;simp only[SE.den,a1,awc]at hq;split at hq
     .assumption
     .cases hq
   unfold aN at hy;split at hy
   .rw[cA a2];exact .raw _
   .cases hy
  .simp only[awf,awM]at hr;obtain⟨rfl,rfl,rfl,rfl⟩:=hr;refine⟨R',h1,h2,λx hx=>?_⟩;obtain⟨y,a1,a2,a3⟩:=h3 x hx;exact⟨y,a1,a2,a3,λ_=>a2⟩
 .split at hr
  .rename_i dk z' V1 eQ;simp only[awf,awM]at hr;obtain⟨rfl,rfl,rfl,rfl⟩:=hr;obtain⟨R',h1,h2,h3⟩:=Ht h eQ;refine⟨R',h1,h2,λx hx=>?_⟩;obtain⟨y,a1,a2,a3⟩:=h3 x hx;exact⟨y,a1,a2.cG,a3,λ_=>a2⟩
  .cases hr
theorem Xo:∀{cs:List (Cl SE)} {ts:List TypeId} {V V':SS} {R:Rs} {fr:Bool} {zs vi:List SE},J Cx (ax P O) R X V.g V.l E G->NW P V cs ts=aa (fr,zs,V',vi)->
 ∃R',jq P O R X V G R' V'/\J Cx (ax P O) R' X V'.g V'.l E G/\zs.length=cs.length/\∀xs,All2 (cR (ax P O) R X V.l G) xs cs->∃ys,All2 (λ(z:SE) y=>z.den P O=aa y) zs ys/\All2 (bx ab R' G) xs ys/\ys.all Ev.ao=ab/\
  ((∀e∈vi,∃q,(SE.rw e).den P O=aa q)->All2 (bx fr R' G) xs ys)
 |[],_,V,V',R,fr,zs,vi,h,hr=>by
  simp only[NW,awf,awM]at hr;obtain⟨rfl,rfl,rfl,rfl⟩:=hr;refine⟨R,.refl h,h,rfl,λxs hx=>⟨[],trivial,?_,rfl,λ_=>?_⟩⟩<;>
  .cases xs with
   |nil=>trivial
   |cons=>exact hx.elim
 |c::cs,[],V,V',R,fr,zs,vi,h,hr=>by simp[NW]at hr
 |c::cs,t::ts,V,V',R,fr,zs,vi,h,hr=>by
  simp only[NW]at hr;split at hr
  .rename_i f1 z V1 r1 h1;split at hr
   .rename_i f2 zs' V2 r2 h2;simp only[awf,awM]at hr;obtain⟨rfl,rfl,rfl,rfl⟩:=hr;obtain⟨R1,a1,a2,a3⟩:=akD h h1;obtain⟨R2,b1,b2,bl,b3⟩:=Xo a2 h2;refine⟨R2,a1.trans b1,b2,by simp[bl],λxs hx=>?_⟩;cases xs with
    |nil=>exact hx.elim
    |cons x xs=>
     obtain⟨y,c1,c2,c3,c4⟩:=a3 x hx.1;obtain⟨ys,d1,d2,d3,d4⟩:=b3 xs (hx.2.mono λ_ _ b_=>a1.TB b_);refine⟨y::ys,⟨c1,d1⟩,⟨c2.mono b1.2.2.2.grow,d2⟩,by simp[c3,d3],λjM=>⟨((c4 λe he=>jM e (by simp[he])).mono b1.2.2.2.grow).wide (λh=>by simp[h]),(d4 λe he=>jM e (by simp[he])).mono λ_ _ b_=>b_.wide (λh=>by simp[h])⟩⟩
   .cases hr
  .cases hr
theorem Qm{f:aq}:∀{es:List SE},(Zl es f).sat P C Q K O->(∀e∈es,∃q,(SE.rw e).den P O=aa q)/\f.sat P C Q K O
 |[],h=>⟨λe he=>(by cases he),h⟩
 |e::es,h=>by
  obtain⟨h1,h2⟩:=h;obtain⟨h3,h4⟩:=Qm h2;exact⟨λx hx=>(by rcases aws.1 hx with rfl|hx;exact h1;exact h3 x hx),h4⟩
theorem Qn{s:Nat}:∀(n:Nat) {zs:List SE} {ys:List IV},All2 (λ(z:SE) y=>z.den P O=aa y) zs ys->ys.length=n*s->∃es:List IV,All2 (λ(z:SE) y=>z.den P O=aa y) (AR s n zs) es/\es.length=n/\(∀e∈es,(cellsOf e).length=s)/\flat es=ys
 |0,zs,ys,h,hl=>by
  have:ys=[]:=awG (by simpa using hl);subst this;exact⟨[],trivial,rfl,λe he=>(by cases he),rfl⟩
 |n+1,zs,ys,h,hl=>by
  rw[awU,Nat.one_mul]at hl;obtain⟨es,h1,h2,h3,h4⟩:=Qn (s:=s) n (h.drop s) (by simp;omega);refine⟨.agg (ys.take s)::es,⟨gy (h.take s),h1⟩,by simp[h2],λe he=>?_,?_⟩
  .rcases aws.1 he with rfl|he
   .simp[cellsOf];omega
   .exact h3 e he
  .show cellsOf (.agg (ys.take s))++flat es=ys;rw[h4];exact List.take_append_drop s ys
theorem Qo:∀{ys:List IV},ys.all Ev.ao=ab->(∀e∈ys,(cellsOf e).length=1)/\flat ys=ys
 |[],_=>⟨λe he=>(by cases he),rfl⟩
 |y::ys,h=>by
  simp only[aBl,awb]at h;obtain⟨h1,h2⟩:=Qo h.2;refine⟨λe he=>?_,?_⟩
  .rcases aws.1 he with rfl|he
   .rw[Dg h.1];rfl
   .exact h1 e he
  .show cellsOf y++flat ys=y::ys;rw[h2,Dg h.1];rfl
variable(hJ:J Cx (ax P O) R X V.g V.l E G)(hn:O.length=V.n)
include hJ hn
theorem abK{t:TypeId}{parts:Array (Nat×Operand)}(ho:o.op=.build t parts)(hs:(gH P d o V k).sat P C Q K O):dm Cx P C Q K O E V.ln k (bQ P E d o G):=by
 unfold gH at hs;rw[ho]at hs;simp only at hs;split at hs
 .rename_i fields hu;split at hs
  .exact hs.elim
  .rename_i hc;simp only[awO,awX,not_or,aAU,ayV]at hc;split at hs
   .rename_i cs hp;cases hz:cZ P t with
    |none=>rw[hz]at hc;simp at hc
    |some z=>
     obtain⟨iC,h1,h2,_⟩:=Fc (ty:=akk fields) hJ (ry (P:=P) (O:=O) (R:=R) (X:=X) (L:=V.l) (G:=G) hz) hp;refine .here (x:=.agg iC) (pv:=.ag cs) (av:=G) ?_ hJ ⟨_,rfl,h2⟩ hn rfl hs;have dh:rX (λi=>(fields[i]?).bind λf=>(aW P f.type).map λs=>(f.offset,s)) (z.cells.toList.map IV.raw) (parts.toList.map λ(i,x)=>(i,aB (E d) x))=aa iC:=h1;simp only[bQ,aA,ho,hz,hu,dh,hc.1,ret,if_true]
   .exact hs.elim
 .rename_i len et hu;split at hs
  .rename_i s bf;split at hs
   .exact hs.elim
   .rename_i hc;split at hs
    .rename_i cs hp;cases hz:cZ P t with
     |none=>rw[hz]at hc;simp at hc
     |some z=>
      obtain⟨iC,h1,h2,_⟩:=Fc (ty:=λ_=>et) hJ (ry (P:=P) (O:=O) (R:=R) (X:=X) (L:=V.l) (G:=G) hz) hp;refine .here (x:=.agg iC) (pv:=.ag cs) (av:=G) ?_ hJ ⟨_,rfl,h2⟩ hn rfl hs;have dh:rX (λi=>aa (i*s,s)) (z.cells.toList.map IV.raw) (parts.toList.map λ(i,x)=>(i,aB (E d) x))=aa iC:=h1;simp only[bQ,aA,ho,hz,hu,bf,dh,ret]
    .exact hs.elim
  .exact hs.elim
 .exact hs.elim
theorem N8{t:TypeId}{len:Nat}{parts:Array (Nat×Operand)}(ho:o.op=.buildSlice t len parts)(hs:(gH P d o V k).sat P C Q K O):dm Cx P C Q K O E V.ln k (bQ P E d o G):=by
 unfold gH at hs;rw[ho]at hs;simp only at hs;split at hs<;>try exact hs.elim
 rename_i et het;have hu:=qc het;split at hs<;>try exact hs.elim
 rename_i s z bf hz;split at hs<;>try exact hs.elim
 rename_i hc;simp only[awO,awX,not_or,aAU,ayV,axS]at hc;obtain⟨⟨c1,c2⟩,c3⟩:=hc;have cj:s≠0:=by intro h;subst h;simp at c1
 have DH:z.cells.size=s:=awk c2;have hzl:(z.cells.toList.map IV.raw).length=s:=by simp[DH]
 split at hs
 .rename_i iP;have aex:=awk iP;subst aex;split at hs
  .rename_i yk;have asm:parts.toList=[]:=by simpa using yk
   refine .at (x:=.emp) hs hJ hn rfl ⟨by omega,rfl⟩ ?_
   have Qk:lu (z.cells.toList.map IV.raw) 0=[]:=by
    have:=KA hzl aj 0;simpa using this
   simp only[bQ,aA,ho,hu,bf,hz,asm,ayf,rX,Nat.zero_mul,Qk];rw[if_neg (by rintro(h|h|h);exact cj h;exact h DH;simp at h)];simp[ret]
  .exact hs.elim
 .rename_i iP;have aex:len≠0:=by intro h;subst h;simp at iP
  split at hs<;>try exact hs.elim
  rename_i cs hp;split at hs<;>try exact hs.elim
  rename_i fr zs V2 rws eQ;split at hs<;>try exact hs.elim
  rename_i JH;obtain⟨jM,hk⟩:=Qm hs;have asn:=Ql (ry (P:=P) (O:=O) (R:=R) (X:=X) (L:=V.l) (G:=G) hz) len;obtain⟨iC,h1,h2,h3,h4⟩:=Fc (ty:=λ_=>et) hJ asn hp;obtain⟨R',cy,fg,av3,TG⟩:=Xo hJ eQ;obtain⟨ys,b1,b2,b3,b4⟩:=TG _ h2;have g_:iC.length=len*s:=by rw[h3,JK hzl]
  have GC:ys.length=len*s:=by rw[<-b2.len,g_]
  have Hu:iC.all Ev.ao=ab:=by
   rw[awt];intro c hc;obtain⟨i,hi⟩:=axG hc;have ak:i<ys.length:=by rw[<-b2.len];exact(awa.1 hi).1
   exact(b2.get hi (av_ ak)).ao (awt.1 b3 _ (awd ak))
  obtain⟨es,jR,akE,akF,aso⟩:∃es:List IV,(eR (if isAgg P et=ab then AR s len zs else zs)).den P O=aa (.agg es)/\es.length=len/\(∀e∈es,(cellsOf e).length=s)/\flat es=ys:=by
   by_cases ha:isAgg P et=ab
   .rw[if_pos ha];obtain⟨es,e1,e2,e3,e4⟩:=Qn (s:=s) len b1 GC;exact⟨es,gy e1,e2,e3,e4⟩
   .rw[if_neg ha]
    have fq:s=1:=by
     simp only[awX,Bool.or_eq_false_iff,not_and,ayV]at JH;exact awk (JH (by simpa using ha))
    subst fq;obtain⟨e1,e2⟩:=Qo b3;exact⟨ys,gy b1,by omega,e1,e2⟩
  have hcr:rD fr R' G iC (flat es):=by
   rw[aso];intro j x y hx hy;cases fr with
   |true=>exact b2.get hx hy
   |false=>exact(b4 jM).get hx hy
  have nL:(SE.tr s (eR (if isAgg P et=ab then AR s len zs else zs))).den P O=aa (.tree s es):=by
   simp only[SE.den,jR,awc];rw[if_pos ⟨by omega,by rw[awt];intro e he;simp[akF e he]⟩]
  have zi:O.length=V2.n:=by rw[hn];exact cy.2.1.symm
  have vM:=fg.yS (.cells iC 0 0) (.row s af af fr (.tr s (eR (if isAgg P et then AR s len zs else zs))))
   ⟨by omega,es,nL,akF,.inr ⟨G.n,iC,0,0,by simp[bT],by simp,awe _,by rw[g_,akE];exact awe _,fg.ra,Hu,λj x y hx hy=>(hcr j x y hx hy).mono (P6 fg _)⟩⟩
  refine .at (x:=.sl G.n 0 len (aa len) 0 s) (V1:={V2 with l:=V2.l++[.row s af af fr (.tr s (eR (if isAgg P et then AR s len zs else zs)))]}) hk vM zi cy.2.2.1
   ⟨s,af,af,fr,_,es,by simp,nL,.inr ⟨G.n,iC,0,0,aa len,by simp[bT],by simp,by simp[akE],aw5 _,λh=>(by cases h),λc hc=>(by cases hc;exact⟨rfl,by omega,by omega⟩)⟩⟩ ?_
  have dh:rX (λi=>aa (i*s,s)) (awE len (z.cells.toList.map IV.raw)).flatten (parts.toList.map λ(i,x)=>(i,aB (E d) x))=aa iC:=h1;simp only[bQ,aA,ho,hu,bf,hz,KA hzl aj,dh,ret];rw[if_neg (by rintro(h|h|h);exact cj h;exact h DH;omega),if_pos ⟨g_,Hu⟩,if_neg aex]
end
section
variable{Cx:Cs}
variable{P:Program}{N:Nat}{G au:St}{R R':Rs}{X aU:Ph}{E:Nat->Env}{O:List IV}
variable{C:Cr}{Q:IV->Prop}{K:List (List IV->Prop)}{V:SS}{d:Nat}{o:Oper}{k:PV SE->SS->aq}{L:List (LO SE)}{Γ:Gm SE}
variable(hJ:J Cx (ax P O) R X V.g V.l E G)(hn:O.length=V.n)
include hJ
theorem Xp:∀{xs:List Operand} {bs:List (Nat×Nat)},Tk P d V xs=aa bs->All2 (λy (p:Nat×Nat)=>∃id cs,X p.1=aa id/\V.l[p.1]?=aa (.var cs)/\y=.ptr id 0 0 p.2) (xs.map (aB (E d))) bs
 |[],bs,h=>by
  simp only[Tk,awf]at h;subst h;trivial
 |x::xs,bs,h=>by
  simp only[Tk]at h;split at h
  .rename_i j ext hx;split at h
   .rename_i l hl;simp only[awf]at h;subst h;have hv:=bw hJ d 0 x;rw[hx]at hv;exact⟨hv,Xp hl⟩
   .cases h
  .cases h
include hn
theorem TS{f:FuncId}{first cap:Array Operand}(ho:o.op=.makeFunc (.func f) first cap)(hs:(i7 P d o V k).sat P C Q K O):dm Cx P C Q K O E V.ln k (bQ P E d o G):=by
 unfold i7 at hs;rw[ho]at hs;simp only at hs;split at hs
 .rename_i hf;split at hs
  .rename_i bs hb;refine .at (x:=.fn (.func f) [] (cap.toList.map (aB (E d)))) hs hJ hn rfl (.inr ⟨_,rfl,Xp hJ hb⟩) ?_;simp only[axT]at hf;simp[bQ,aA,ho,ret,hf]
  .exact hs.elim
 .exact hs.elim
theorem Ws{t:TypeId}{r:Option Operand}(ho:o.op=.makeMap t r)(hs:(i7 P d o V k).sat P C Q K O):dm Cx P C Q K O E V.ln k (bQ P E d o G):=by
 unfold i7 at hs;rw[ho]at hs;simp only at hs;split at hs
 .rename_i kt et hu;split at hs
  .exact hs.elim
  rename_i fO;have fO:¬mO kt=ab:=fO;have h1:=hJ.yS (.map [] 0) (.mp kt (.tp .an)) (by rw[lA,if_neg fO];exact⟨G.n,[],0,[],by simp[ax,SE.den],by simp[bT],hJ.ra,by simp,trivial,rfl,λi e h=>by simp at h⟩);refine .at (x:=.map G.n) (V1:={V with l:=V.l++[.mp kt (.tp .an)]}) hs h1 hn rfl ⟨G.n,kt,SE.tp .an,by simp[bT],by simp,(if_neg fO).symm⟩ ?_;simp[bQ,aA,ho,ret]
 .exact hs.elim
end
section
variable{P:Program}{N:Nat}{G au:St}{R R':Rs}{X aU:Ph}{E:Nat->Env}{O:List IV}
variable{C:Cr}{Q:IV->Prop}{K:List (List IV->Prop)}{V:SS}{d:Nat}{o:Oper}{k:PV SE->SS->aq}{L:List (LO SE)}{Γ:Gm SE}
theorem AY:∀{cs:List IV} {vs:List Value},uC cs=aa vs->cs=vs.map .raw
 |[],vs,h=>by simp only[uC,awf]at h;subst h;rfl
 |c::cs,vs,h=>by
  unfold uC at h;split at h<;>try (cases h;done)
  all_goals
   obtain⟨ws,h1,rfl⟩:=awj.1 h;rw[AY h1];rfl
theorem AZ:∀vs:List Value,kR (vs.map .raw)=aa vs
 |[]=>rfl
 |v::vs=>by simp only[awZ,kR,AZ vs]
def Hy{x:IV}{v:Value}(h:keyOf x=aa v):lr x=aa v/\lift v=x:=by
 unfold keyOf at h;split at h<;>first|(cases h;exact⟨rfl,rfl⟩)|(cases h;done)|skip
 rename_i cs;obtain⟨vs,h1,rfl⟩:=awj.1 h;have:=AY h1;subst this;refine⟨?_,by simp[lift]⟩;simp only[lr,qV,AZ]
def KB{fr:Bool}{x:IV}{cs:List IV}(h:bx fr R G x (.agg cs)):∃xs,x=.agg xs/\All2 (bx fr R G) xs cs:=by
 cases h with
 |agg sI _ hl hh=>exact⟨sI,rfl,.mk hl hh⟩
 |pure _ hf hp=>
  refine⟨cs,rfl,.mk rfl λi a b h1 h2=>?_⟩;rw[h1]at h2;cases h2;cases hp with
  |agg _ hh=>exact .pure a hf (hh a (awq h1))
def Hz{fr:Bool}{x u:IV}{v:Value}(h:keyOf x=aa v)(hc:bx fr R G u x):u=x:=by
 unfold keyOf at h;split at h<;>first|(exact cA hc)|(cases h;done)|skip
 rename_i cs;obtain⟨vs,h1,rfl⟩:=awj.1 h;have:=AY h1;subst this;obtain⟨xs,rfl,nZ⟩:=KB hc
 congr 1
 apply List.ext_getElem?;intro i;cases hi:xs[i]? with
 |none=>
  have:(vs.map IV.raw)[i]?=ah:=by
   rw[List.getElem?_eq_none_iff]at hi⊢;rw[<-nZ.len];exact hi
  rw[this]
 |some a=>
  have ak:=(awa.1 hi).1;rw[nZ.len]at ak;have hb:=av_ ak;have:=nZ.get hi hb;rw[hb];simp only[List.getElem_map]at this⊢;rw[cA this]
def aey{u v:Value}(h:keyOf (lift u)=aa v):u=v:=by
 obtain⟨h1,_⟩:=Hy h;unfold lift at h1;split at h1
 .rename_i cs;simp only[lr,qV,AZ,awf]at h1;rw[<-h1]
 .cases h1;rfl
def Xq{es:List (Value×IV×Nat)}{ds:List IV}{ks:List Value}(he:EU R G es ds)(h:mf ds=aa ks):es.map (·.1)=ks:=by
 unfold EU at he;induction ds generalizing es ks with
 |nil=>
  cases es with
  |nil=>simp only[mf,awf]at h;subst h;rfl
  |cons=>exact he.elim
 |cons d ds ih=>
  cases es with
  |nil=>exact he.elim
  |cons e es=>
   obtain⟨⟨z,rfl,_⟩,h2⟩:=he;simp only[mf]at h;split at h
   .rename_i v vs h3 h4;simp only[awf]at h;subst h;simp only[awZ,aey h3,ih h2 h4]
   .cases h
theorem Md{kd:TypeDesc}{key:Value}:∀{es:List (Value×IV×Nat)} {n:Nat} {q:Option Nat},nowAt kd key (es.map (·.1)) n=aa q->
 ∃r,axE kd key (es.map λe=>{key:=e.1,val:=awT,born:=e.2.2}) n=aa r/\(q=ah->r=ah)/\(∀j,q=aa j->(∃v,r=aa (j,v))/\n<=j/\∃e,es[j- n]?=aa e/\azm kd key e.1=aa ab)
 |[],n,q,h=>by
  simp only[ayf,nowAt,awf]at h;subst h;exact⟨ah,rfl,λ_=>rfl,λj hj=>by cases hj⟩
 |e::es,n,q,h=>by
  simp only[awZ,nowAt]at h;simp only[awZ,axE];split at h
  .rename_i hs;simp only[awf]at h;subst h;refine⟨aa (n,awT),by rw[hs],(λh=>by cases h),λj hj=>?_⟩;cases hj;exact⟨⟨_,rfl⟩,awe _,e,by simp,hs⟩
  .rename_i hs;obtain⟨r,h1,h2,h3⟩:=Md h;refine⟨r,by rw[hs];exact h1,h2,λj hj=>?_⟩;obtain⟨h4,h5,e',h6,h7⟩:=h3 j hj;refine⟨h4,by omega,e',?_,h7⟩;rw[show j- n=(j-(n+1))+1 by omega];simpa using h6
  .cases h
def run_underlying{t:TypeId}{kd:TypeDesc}(h:P.underlying t=aa kd):aH P (underlying t)=aa kd:=by
 unfold underlying;rw[aP];show(aH P (.program λp=>.pure p)).bind _=_;simp only[aH,awc,h];rfl
theorem GD{kd:TypeDesc}{k:Value}:∀(es aT:List MapEntry) (n:Nat),es.map (λe=>(e.key,e.val))=aT.map (λe=>(e.key,e.val))->axE kd k es n=axE kd k aT n
 |[],[],_,_=>rfl
 |[],e'::aT,_,h=>by simp at h
 |e::es,[],_,h=>by simp at h
 |e::es,e'::aT,n,h=>by
  simp only[awZ,axC,awM]at h;simp only[axE];rw[h.1.1,h.1.2,GD es aT (n+1) h.2]
theorem A4{kt:TypeId}{k:Value}:∀(es aT:List MapEntry) (n:Nat),es.map (λe=>(e.key,e.val))=aT.map (λe=>(e.key,e.val))->aw1 kt k es n=aw1 kt k aT n
 |[],[],_,_=>rfl
 |[],e'::aT,_,h=>by simp at h
 |e::es,[],_,h=>by simp at h
 |e::es,e'::aT,n,h=>by
  simp only[awZ,axC,awM]at h;simp only[aw1];rw[h.1.1,h.1.2,A4 es aT (n+1) h.2]
def ZL{b:Bool}{kt:TypeId}{k:Value}{es aT:List (Value×IV×Nat)}(h:es.map (·.1)=aT.map (·.1)):fy P b kt k es=fy P b kt k aT:=by
 have hm:(es.map λe=>({key:=e.1,val:=awT,born:=e.2.2}:MapEntry)).map (λe=>(e.key,e.val))=(aT.map λe=>({key:=e.1,val:=awT,born:=e.2.2}:MapEntry)).map (λe=>(e.key,e.val)):=by
  simp only[azb]
  have:∀l:List (Value×IV×Nat),l.map ((λe:MapEntry=>(e.key,e.val))∘λe=>({key:=e.1,val:=awT,born:=e.2.2}:MapEntry))=(l.map (·.1)).map λk=>(k,awT):=λl=>by
   rw[azb];rfl
  rw[this,this,h]
 unfold fy
 have hf:axr kt k (es.map λe=>{key:=e.1,val:=awT,born:=e.2.2})=axr kt k (aT.map λe=>{key:=e.1,val:=awT,born:=e.2.2}):=by
  unfold axr
  congr 1
  funext d;rw[GD _ _ 0 hm,A4 _ _ 0 hm]
 rw[hf]
def yA{kt:TypeId}{ds:List IV}{x:IV}{q:Option Nat}{es:List (Value×IV×Nat)}(he:EU R G es ds)(h:eZ P kt ds x=aa q)(b:Bool):
 ∃key,keyOf x=aa key/\lr x=aa key/\lift key=x/\fy P b kt key es=aa q/\∀j,q=aa j->∃e,es[j]?=aa e/\ayi 10000 e.1 key=ab:=by
 unfold eZ at h;split at h
 .rename_i kd ks key hk dz s6;have h1:=s6;obtain⟨h2,h3⟩:=Hy s6;have jR:=Xq he dz;rw[<-jR]at h;obtain⟨r,g1,g2,g3⟩:=Md h;refine⟨key,h1,h2,h3,?_,λj hj=>?_⟩
  .have hu:P.underlying kt=aa kd/\((∃q,kd=.int q)\/kd=.string):=by
    unfold xf at hk;split at hk
    .rename_i q hq;cases hk;exact⟨hq,.inl ⟨_,rfl⟩⟩
    .rename_i hq;cases hk;exact⟨hq,.inr rfl⟩
    .cases hk
   have hck:aH P (ayC b 10000 kt key)=aa ():=by
    show aH P (ayC b (9999+1) kt key)=aa ();unfold ayC;rw[aP,run_underlying hu.1,awc];rcases hu.2 with⟨q,rfl⟩|rfl<;>rfl
   have hfk:aH P (axr kt key (es.map λe=>{key:=e.1,val:=awT,born:=e.2.2}))=aa r:=by
    unfold axr;rw[aP,run_underlying hu.1,awc,g1];rfl
   unfold fy;rw[aP,hck,awc,hfk];cases q with
   |none=>rw[g2 rfl]
   |some j=>obtain⟨⟨v,rfl⟩,_⟩:=g3 j rfl;rfl
  .obtain⟨_,_,e,g4,g5⟩:=g3 j hj;refine⟨e,by simpa using g4,?_⟩;unfold azm at g5;split at g5
   .rename_i hh;split at g5
    .rename_i hq;simp only[awf]at g5;rw[‹e.1=_›];simp[ayi,hq,eq_of_beq g5]
    .cases g5
   .rename_i a b kZ;rw[kZ];simp only[awf]at g5;have hd:a.data=b.data:=eq_of_beq (show(a.data==b.data)=ab from g5);show(b.data==a.data)=ab;simp[hd]
   .rw[‹e.1=_›];simp only[awf]at g5;simp[ayi,eq_of_beq g5]
   .cases g5
 .rename_i ks key hk dz s6;obtain⟨h2,h3⟩:=Hy s6;have jR:=Xq he dz;have yd:∀b',fy P b' kt key es=fy P b' kt key (ks.map λe=>(e,.undef,0)):=λb'=>ZL (by rw[jR];simp[aAe]);unfold D5 at h;split at h<;>try (cases h;done)
  rename_i q1 q2 BB Jr;split at h<;>try (cases h;done)
  rename_i Xr;subst Xr
  have hkb:fy P b kt key es=aa q1:=by
   rw[yd];cases b
   .exact Jr
   .exact BB
  split at h
  .cases h;exact⟨key,s6,h2,h3,hkb,λj hj=>by cases hj⟩
  .rename_i j;split at h<;>try (cases h;done)
   rename_i e hj;split at h<;>try (cases h;done)
   rename_i hsb;cases h;refine⟨key,s6,h2,h3,hkb,λj' nW=>?_⟩;cases nW;rw[<-jR,awu]at hj;obtain⟨e',h5,h6⟩:=awj.1 hj;exact⟨e',h5,by rw[h6];exact hsb⟩
 .cases h
variable{Cx:Cs}
theorem KC:∀{ds:List (Cl SE)} {es:List SE},IG ds=aa es->ds=es.map .v
 |[],es,h=>by simp only[IG,awf]at h;subst h;rfl
 |c::ds,es,h=>by
  cases c<;>simp only[IG]at h<;>try (cases h;done)
  split at h
  .rename_i aT he;simp only[awf]at h;subst h;rw[KC he];rfl
  .cases h
theorem KD(hJ:J Cx (ax P O) R X V.g V.l E G):∀{cs:List (Cl SE)} {es:List SE} {xs:List IV},yv cs=aa es->All2 (cR (ax P O) R X V.l G) xs cs->
 ∃ys:List IV,All2 (λ(z:SE) y=>z.den P O=aa y) es ys/\All2 (bx ab R G) xs ys
 |[],es,[],h,_=>by simp only[yv,awf]at h;subst h;exact⟨[],trivial,trivial⟩
 |[],es,_::_,_,hx=>hx.elim
 |c::cs,es,[],_,hx=>hx.elim
 |c::cs,es,x::xs,h,hx=>by
  have next:∀{e:SE} {y:IV},(yv cs).map (e::·)=aa es->e.den P O=aa y->bx ab R G x y->∃ys:List IV,All2 (λ(z:SE) y=>z.den P O=aa y) es ys/\All2 (bx ab R G) (x::xs) ys:=by
   intro e y h h1 h2;obtain⟨aT,h3,rfl⟩:=awj.1 h;obtain⟨ys,h4,h5⟩:=KD hJ h3 hx.2;exact⟨y::ys,⟨h1,h4⟩,⟨h2,h5⟩⟩
  simp only[yv]at h;split at h
  .obtain⟨y,h1,h2,_⟩:=hx.1;exact next h h1 (h2.mono hJ.B_)
  .obtain⟨y,h1,h2,_⟩:=hx.1;exact next h h1 h2.cG
  .rename_i b s;obtain⟨h1,h2⟩:=hx.1;refine next (y:=.tree s []) h (by simp[SE.den,h1]) ?_
   subst h2;cases b
   .exact .emp s h1
   .exact .nil s h1
  .cases h
def D8(hJ:J Cx (ax P O) R X V.g V.l E G){pv:PV SE}{ke:SE}{x:IV}(hx:VR (ax P O) R X V.l G x pv)(h:Ko pv=aa ke):∃kv,ke.den P O=aa kv/\bx ab R G x kv:=by
 unfold Ko at h;split at h<;>try (cases h;done)
 .cases h;obtain⟨y,h1,h2,_⟩:=hx;exact⟨y,h1,h2.mono hJ.B_⟩
 .cases h;obtain⟨y,h1,h2,_⟩:=hx;exact⟨y,h1,h2.cG⟩
 .rename_i cs;obtain⟨es,h1,rfl⟩:=awj.1 h;obtain⟨xs,rfl,nZ⟩:=hx;obtain⟨ys,g1,g2⟩:=KD hJ h1 nZ;exact⟨.agg ys,gy g1,.agg xs ys g2.len λi c e h1 h2=>g2.get h1 h2⟩
theorem All2.akG{α β:Type}{r:α->β->Prop}{a:α}{b:β}(hr:r a b):∀{as:List α} {bs:List β} {i:Nat},All2 r as bs->All2 r (as.set i a) (bs.set i b)
 |[],[],i,_=>by simp;trivial
 |_::_,_::_,0,h=>⟨hr,h.2⟩
 |_::_,_::_,i+1,h=>⟨h.1,All2.akG hr h.2⟩
 |[],_::_,_,h=>h.elim
 |_::_,[],_,h=>h.elim
def ain(hJ:J Cx (ax P O) R X V.g V.l E G)(hn:O.length=V.n){j id:Nat}{kt:TypeId}{lW:SE}(hj:V.l[j]?=aa (.mp kt lW)){es aT:List (Value×IV×Nat)}{clock pW:Nat}{pN:List IV}(fO:¬mO kt=ab)(jS:X j=aa id)(hR:R id=ah)(aM:G.at id=aa (.map es clock))
 (he:EU R G aT pN/\Canon aT pW):J Cx (ax P (O++[.aF pN])) R X V.g (V.l.set j (.mp kt (.var V.n))) E (G.put id (.map aT pW)):=by
 have bH:=hJ.up (jj:=ax P (O++[.aF pN])) (λe y h=>SE.dw P e h)
 exact(bH.tE (R':=R) (bad:=λ_=>False) (kq:=.mp kt (.var V.n)) (fp:=.map aT pW) jS hj (λ_ _=>rfl)
  (λm hm=>by rw[hR]at hm;cases hm) (λm _ _ _ hm=>by rw[hR]at hm;cases hm) (λm _ _ _ hm=>by rw[hR]at hm;cases hm)
  (λ_ h=>by cases h) (λ_ _ _=>by rename_i h;cases h;exact⟨_,rfl⟩) (λ_ _ _ _ _ h=>by cases h) (λ_ _ pv _=>pv.aZ) (λ_ o _ _=>o.aZ)
  (λfq=>by rw[lA,if_neg fO];exact⟨id,aT,pW,pN,by simp[ax,SE.den,<-hn],jS,hR,by rw[St.cW,if_pos rfl],he.1.mono λ_ _ ⟨z,h1,h2⟩=>⟨z,h1,h2.mono fq.grow⟩,he.2⟩)).2
def Me{t:TypeId}{m key x:Operand}(hJ:J Cx (ax P O) R X V.g V.l E G)(hn:O.length=V.n)(ho:o.op=.mapUpdate t m key x\/o.op=.insert t m key x)(hs:(i7 P d o V k).sat P C Q K O):dm Cx P C Q K O E V.ln k (bQ P E d o G):=by
 have fq:(match P.underlying t with
  |some (.map kt et)=>NX kt (bM P d V t m) (bM P d V kt key) (bM P d V et x) V k
  |_=>.fail 66).sat P C Q K O:=by
  rcases ho with ho|ho<;>(unfold i7 at hs;rw[ho]at hs;exact hs)
 split at fq<;>try exact fq.elim
 rename_i kt et hu;unfold NX at fq;split at fq<;>try exact fq.elim
 rename_i j ke xe hm hk hx;split at fq<;>try exact fq.elim
 rename_i qy lW hj;split at fq<;>try exact fq.elim
 rename_i kN;rw[awb,awX]at kN;obtain⟨kN,fO⟩:=kN;have Fe:=awk kN;subst Fe;have fO:¬mO kt=ab:=by rw[fO];simp
 obtain⟨z,hz,asp⟩:=fq;have rE:=bw hJ d t m;have TT:=bw hJ d kt key;obtain⟨xv,zr,hxr⟩:=D8 hJ (bw hJ d et x) hx;rw[hm]at rE;obtain⟨id,oZ,lg,g1,g2,g3⟩:=rE;rw[hj]at g2;cases g2;rw[if_neg fO]at g3;obtain⟨kv,a1,a2⟩:=D8 hJ TT hk;have eK:=hJ.obj j _ hj;rw[lA,if_neg fO]at eK;obtain⟨bt,es,clock,ds,c1,c2,c3,c4,c5⟩:=eK;rw[g1]at c2;cases c2;have oM:lW.den P O=aa (.aF ds):=c1;have zq:ke.den P O=aa kv:=a1;simp only[SE.den,oM,zq,zr,awc]at hz
 have fin:∀{aT:List (Value×IV×Nat)} {pW:Nat} {pN:List IV},EU R G aT pN/\Canon aT pW->z=.aF pN->pK P 0 kt (aB (E d) m) (aB (E d) key) (aB (E d) x) G=aa (G.put id (.map aT pW))->dm Cx P C Q K O E V.ln k (bQ P E d o G):=by
  intro aT pW pN he Hv Dd;subst Hv;have fg:=ain (pW:=pW) hJ hn hj fO g1 c3 c4 he;refine⟨.undef,_,R,X,.one .un,{V with n:=V.n+1,l:=V.l.set j (.mp kt (.var V.n))},[.aF pN],?_,fg,trivial,by simp[hn],rfl,asp⟩;rcases ho with ho|ho<;>simp[bQ,aA,ho,hu,Dd,ret]
 split at hz
 .rename_i q hq;obtain⟨kk,e1,e2,e3,e4,e5⟩:=yA c5.1 hq af;have JL:=Hz e1 a2;obtain⟨e,h6,h7⟩:=e5 q rfl;refine fin (aT:=es.set q (kk,aB (E d) x,e.2.2)) (pW:=clock) (pN:=ds.set q (.aF [kv,xv])) ⟨All2.akG ⟨xv,by rw[e3],hxr⟩ c5.1,c5.2.set h6 _ _⟩ (by simpa using hz.symm) ?_;unfold pK;rw[g3,JL];simp only[e2,c4,e4,h6,h7,if_true,aw5,not_true,if_false]
 .rename_i hq;obtain⟨kk,e1,e2,e3,e4,e5⟩:=yA c5.1 hq af;have JL:=Hz e1 a2;refine fin (aT:=es++[(kk,aB (E d) x,clock)]) (pW:=clock+1) (pN:=ds++[.aF [kv,xv]]) ⟨c5.1.app ⟨⟨xv,by rw[e3],hxr⟩,trivial⟩,c5.2.app _ _⟩ (by simpa using hz.symm) ?_;unfold pK;rw[g3,JL];simp only[e2,c4,e4,aw5,not_true,if_false]
 .cases hz
def aez{t:TypeId}{e:SE}(h:E4 P t=aa e):∃v,cZ P t=aa v/\e.den P O=aa (.raw v)/\lift v=.raw v:=by
 unfold E4 at h;split at h<;>first|(cases h;exact⟨_,‹_›,rfl,rfl⟩)|cases h
def akH{fr:Bool}{x:IV}(h:bx fr R G x (.agg [])):x=.agg []:=by
 cases h with
 |agg cs _ hl _=>
  have h0:cs=[]:=awG (by simpa using hl);rw[h0]
 |pure=>rfl
def aeA{t:TypeId}(h:Ry P t=ab):cZ P t=aa (.agg #[]):=by
 unfold Ry at h;split at h
 .rename_i cs hc;rw[hc];have:cs.toList=[]:=by simpa using h
  rw[show cs= #[]from by cases cs;simp at this;rw[this]]
 .cases h
def Wt{t:TypeId}{m key:Operand}{kt et:TypeId}(hJ:J Cx (ax P O) R X V.g V.l E G)(hn:O.length=V.n)(ho:o.op=.lookup t m key ab)(hu:P.underlying t=aa (.map kt et))(hz:Ry P et=ab)
 (hs:(NZ kt (bM P d V t m) (bM P d V kt key) V k).sat P C Q K O):dm Cx P C Q K O E V.ln k (bQ P E d o G):=by
 have qX:=aeA hz;unfold NZ at hs;split at hs<;>try exact hs.elim
 rename_i j ke hm hk;split at hs<;>try exact hs.elim
 rename_i qy lW hj;split at hs<;>try exact hs.elim
 rename_i kN;rw[awb,awX]at kN;obtain⟨kN,fO⟩:=kN;have Fe:=awk kN;subst Fe;have fO:¬mO kt=ab:=by rw[fO];simp
 obtain⟨⟨u,A5⟩,h,hh,hs⟩:=hs;have rE:=bw hJ d t m;have TT:=bw hJ d kt key;rw[hm]at rE;obtain⟨id,oZ,lg,g1,g2,g3⟩:=rE;rw[hj]at g2;cases g2;rw[if_neg fO]at g3;obtain⟨kv,a1,a2⟩:=D8 hJ TT hk;have eK:=hJ.obj j _ hj;rw[lA,if_neg fO]at eK;obtain⟨bt,es,clock,ds,c1,c2,c3,c4,c5⟩:=eK;rw[g1]at c2;cases c2;have oM:lW.den P O=aa (.aF ds):=c1;have zq:ke.den P O=aa kv:=a1
 have hg:∃q,eZ P kt ds kv=aa q/\(q=ah\/∃i a,q=aa i/\ds[i]?=aa (.aF [a,.agg []])):=by
  simp only[SE.den,oM,zq,awc]at A5;cases hq:eZ P kt ds kv with
  |none=>rw[hq]at A5;simp at A5
  |some q=>
   refine⟨q,rfl,?_⟩;rw[hq]at A5;cases q with
   |none=>exact .inl rfl
   |some i=>
    refine .inr ?_;simp only at A5;split at A5
    .rename_i a y hd;simp only[awc]at A5;split at A5
     .rename_i cs;split at A5
      .rename_i hc;have:cs=[]:=awG hc.1;subst this;exact⟨i,a,rfl,hd⟩
      .cases A5
     .cases A5
    .simp at A5
 obtain⟨q,hq,wG⟩:=hg;obtain⟨kk,e1,e2,e3,e4,e5⟩:=yA c5.1 hq es.isEmpty;have JL:=Hz e1 a2;simp only[SE.den,oM,zq,awc,hq,awQ,awf]at hh;subst hh;have bH:=hJ.up (jj:=ax P (O++[.bool q.isSome])) (λe y h=>SE.dw P e h);have C8:entriesOf G (aB (E d) m)=aa es:=by rw[g3];simp[entriesOf,c4]
 have hZ:aA P 0 (aB (E d)) o G=aa (.val (.aF [.agg [],.raw (.bool q.isSome)]) G):=by
  simp only[aA,ho,hu,C8,JL,e2,e4,qX];rcases wG with rfl|⟨i,a,rfl,hd⟩
  .simp[ret,lift]
  .obtain⟨e,h6,_⟩:=e5 i rfl;obtain⟨z',h8,h9⟩:=All2.get c5.1 h6 hd;simp only[IV.aF.injEq,axC,and_true]at h8;obtain⟨_,rfl⟩:=h8;simp[ret,h6,akH h9]
 refine⟨.aF [.agg [],.raw (.bool q.isSome)],G,R,X,.tu [(ab,[]),(af,[.v (.var V.n)])],{V with n:=V.n+1},[.bool q.isSome],hZ,bH,⟨_,rfl,⟨[],rfl,trivial⟩,⟨_,rfl,.raw (.bool q.isSome),?_,.raw _,rfl⟩,trivial⟩,by simp[hn],rfl,hs⟩;simp[ax,SE.den,<-hn]
def Wu{t:TypeId}{m key:Operand}{kt et:TypeId}{ok:Bool}(hJ:J Cx (ax P O) R X V.g V.l E G)(hn:O.length=V.n)(ho:o.op=.lookup t m key ok)(hu:P.underlying t=aa (.map kt et))
 (hs:(NY P kt et (bM P d V t m) (bM P d V kt key) ok V k).sat P C Q K O):dm Cx P C Q K O E V.ln k (bQ P E d o G):=by
 unfold NY at hs;split at hs<;>try exact hs.elim
 rename_i j ke zs n hm hk tH Xs;split at tH<;>try (cases tH;done)
 rename_i arr qX;split at hs<;>try exact hs.elim
 rename_i qy lW hj;split at hs<;>try exact hs.elim
 rename_i kN;rw[awb,awX]at kN;obtain⟨kN,fO⟩:=kN;have Fe:=awk kN;subst Fe;have fO:¬mO kt=ab:=by rw[fO];simp
 obtain⟨z,hz,hs⟩:=hs;have rE:=bw hJ d t m;have TT:=bw hJ d kt key;rw[hm]at rE;obtain⟨id,oZ,lg,g1,g2,g3⟩:=rE;rw[hj]at g2;cases g2;rw[if_neg fO]at g3;obtain⟨kv,a1,a2⟩:=D8 hJ TT hk;have eK:=hJ.obj j _ hj;rw[lA,if_neg fO]at eK;obtain⟨bt,es,clock,ds,c1,c2,c3,c4,c5⟩:=eK;rw[g1]at c2;cases c2;have oM:lW.den P O=aa (.aF ds):=c1;have zq:ke.den P O=aa kv:=a1;obtain⟨zys,y1,y2⟩:=KD hJ tH (ry (R:=R) (X:=X) (L:=V.l) (G:=G) qX);have asq:=gy y1;simp only[Value.cells]at y2;have aos:lift (.agg arr)=.agg (arr.toList.map .raw):=rfl
 have hg:∃q,eZ P kt ds kv=aa q/\∃cs,z=.agg cs/\cs.length=n/\cs.all Ev.ao=ab/\((q=ah/\cs=zys)\/∃i a,q=aa i/\ds[i]?=aa (.aF [a,.agg cs])):=by
  simp only[SE.den,oM,zq,asq,awc]at hz;cases hq:eZ P kt ds kv with
  |none=>rw[hq]at hz;simp at hz
  |some q=>
   refine⟨q,rfl,?_⟩;rw[hq]at hz;cases q with
   |none=>
    simp only[awc]at hz;split at hz
    .rename_i hc;cases hz;exact⟨zys,rfl,hc.1,hc.2,.inl ⟨rfl,rfl⟩⟩
    .cases hz
   |some i=>
    simp only at hz;split at hz
    .rename_i a y hd;simp only[awc]at hz;split at hz<;>try (cases hz;done)
     rename_i cs;split at hz
     .rename_i hc;cases hz;exact⟨cs,rfl,hc.1,hc.2,.inr ⟨i,a,rfl,hd⟩⟩
     .cases hz
    .simp at hz
 obtain⟨q,hq,cs,rfl,g_,Hu,wG⟩:=hg;obtain⟨kk,e1,e2,e3,e4,e5⟩:=yA c5.1 hq es.isEmpty;have JL:=Hz e1 a2;have bH:=hJ.up (jj:=ax P (O++[.agg cs])) (λe y h=>SE.dw P e h);have C8:entriesOf G (aB (E d) m)=aa es:=by rw[g3];simp[entriesOf,c4]
 have hZ:∃xs,All2 (bx ab R G) xs cs/\aA P 0 (aB (E d)) o G=aa (.val (if ok then .aF [.agg xs,.raw (.bool q.isSome)]else .agg xs) G):=by
  rcases wG with⟨rfl,rfl⟩|⟨i,a,rfl,hd⟩
  .refine⟨_,y2,?_⟩;simp only[aA,ho,hu,C8,JL,e2,e4,qX];cases ok<;>simp[ret,aos]
  .obtain⟨e,h6,_⟩:=e5 i rfl;obtain⟨z',h8,h9⟩:=All2.get c5.1 h6 hd;simp only[IV.aF.injEq,axC,and_true]at h8;obtain⟨_,rfl⟩:=h8;obtain⟨xs,wB,sG⟩:=KB h9;refine⟨xs,sG,?_⟩;simp only[aA,ho,hu,C8,JL,e2,e4,qX];cases ok<;>simp[ret,h6,wB]
 obtain⟨xs,nZ,hZ⟩:=hZ
 have jw:∀(I:List IV) (m0:Nat),O.length=m0->All2 (cR (ax P (O++(.agg cs::I))) R X V.l G) xs ((axt n).map λj=>.w ab (.aO (.var m0) j)):=by
  intro I m0 ye;refine .mk (by simp[nZ.len,g_]) λi a b h1 h2=>?_;have hi:=(awa.1 h1).1;rw[nZ.len]at hi;rw[awu,ax9 aj]at h2;simp only[awQ,awf]at h2;subst h2;have Mf:cs[i]?=aa cs[i]:=av_ hi;have a_:Ev.ao cs[i]=ab:=(awt.1 Hu) _ (awd hi);exact⟨cs[i],by simp[ax,SE.den,<-ye,Mf,vJ,a_],nZ.get h1 Mf,a_⟩
 cases ok with
 |false=>
  simp only[awA,if_false]at hs hZ;exact⟨.agg xs,G,R,X,.ag _,{V with n:=V.n+1},[.agg cs],hZ,bH,⟨xs,rfl,jw [] V.n hn⟩,by simp[hn],rfl,hs⟩
 |true=>
  simp only[if_true]at hs hZ;obtain⟨h,hh,hs⟩:=hs;have aeB:=SE.dw P lW (I:=[.agg cs]) oM;have aeC:=SE.dw P ke (I:=[.agg cs]) zq;simp only[SE.den,aeB,aeC,awc,hq,awQ,awf]at hh;subst hh;rw[awv]at hs;have fg:=bH.up (jj:=ax P (O++([.agg cs]++[.bool q.isSome]))) (λe y h=>by rw[<-awv];exact SE.dw P e h);refine⟨.aF [.agg xs,.raw (.bool q.isSome)],G,R,X,.tu [(ab,_),(af,[.v (.var (V.n+1))])],{V with n:=V.n+1+1},[.agg cs]++[.bool q.isSome],hZ,fg,⟨_,rfl,⟨xs,rfl,jw [.bool q.isSome] V.n hn⟩,⟨_,rfl,.raw (.bool q.isSome),?_,.raw _,rfl⟩,trivial⟩,by simp[hn],rfl,hs⟩;simp[ax,SE.den,<-hn]
def ZM{t:TypeId}{m key:Operand}{ok:Bool}(hJ:J Cx (ax P O) R X V.g V.l E G)(hn:O.length=V.n)(ho:o.op=.lookup t m key ok)(hs:(i7 P d o V k).sat P C Q K O):dm Cx P C Q K O E V.ln k (bQ P E d o G):=by
 unfold i7 at hs;rw[ho]at hs;simp only at hs;split at hs<;>try exact hs.elim
 rename_i kt et hu;split at hs
 .rename_i a_;simp only[awb]at a_;obtain⟨rfl,hz⟩:=a_;exact Wt hJ hn ho hu hz hs
 split at hs
 .exact Wu hJ hn ho hu hs
 unfold Xg at hs;split at hs<;>try exact hs.elim
 rename_i j ke z0 hm hk qX;split at hs<;>try exact hs.elim
 rename_i qy lW hj;split at hs<;>try exact hs.elim
 rename_i kN;rw[awb,awX]at kN;obtain⟨kN,fO⟩:=kN;have Fe:=awk kN;subst Fe;have fO:¬mO kt=ab:=by rw[fO];simp
 obtain⟨z,hz,hs⟩:=hs;obtain⟨oL,N9⟩:=rC hz;have rE:=bw hJ d t m;have TT:=bw hJ d kt key;rw[hm]at rE;obtain⟨id,oZ,lg,g1,g2,g3⟩:=rE;rw[hj]at g2;cases g2;rw[if_neg fO]at g3;obtain⟨kv,a1,a2⟩:=D8 hJ TT hk;have eK:=hJ.obj j _ hj;rw[lA,if_neg fO]at eK;obtain⟨bt,es,clock,ds,c1,c2,c3,c4,c5⟩:=eK;rw[g1]at c2;cases c2;have oM:lW.den P O=aa (.aF ds):=c1;have zq:ke.den P O=aa kv:=a1;obtain⟨v0,y1,y2,y3⟩:=aez (O:=O) qX
 have hg:∃q,eZ P kt ds kv=aa q/\∃u,z=.raw u/\((q=ah/\u=v0)\/∃i a,q=aa i/\ds[i]?=aa (.aF [a,.raw u])):=by
  simp only[SE.den,oM,zq,y2,awc]at oL;cases hq:eZ P kt ds kv with
  |none=>rw[hq]at oL;simp at oL
  |some q=>
   refine⟨q,rfl,?_⟩;rw[hq]at oL;cases q with
   |none=>
    simp only[awc,aN,if_true,awf]at oL;exact⟨v0,oL.symm,.inl ⟨rfl,rfl⟩⟩
   |some i=>
    simp only at oL;split at oL
    .rename_i a y hd;simp only[awc]at oL;split at oL
     .rename_i hr;cases oL;cases z<;>simp only[aN]at hr<;>try (cases hr;done)
      rename_i u;exact⟨u,rfl,.inr ⟨i,a,rfl,hd⟩⟩
     .cases oL
    .simp at oL
 obtain⟨q,hq,u,rfl,wG⟩:=hg;obtain⟨kk,e1,e2,e3,e4,e5⟩:=yA c5.1 hq es.isEmpty;have JL:=Hz e1 a2;have bH:=hJ.up (jj:=ax P (O++[.raw u])) (λe y h=>SE.dw P e h);have oK:(SE.var V.n).den P (O++[.raw u])=aa (.raw u):=by simp[SE.den,<-hn]
 have C8:entriesOf G (aB (E d) m)=aa es:=by rw[g3];simp[entriesOf,c4]
 have hZ:aA P 0 (aB (E d)) o G=aa (.val (if ok then .aF [.raw u,.raw (.bool q.isSome)]else .raw u) G):=by
  simp only[aA,ho,hu,C8,JL,e2,e4,y1];rcases wG with⟨rfl,rfl⟩|⟨i,a,rfl,hd⟩
  .cases ok<;>simp[ret,y3]
  .obtain⟨e,h6,_⟩:=e5 i rfl;obtain⟨z',h8,h9⟩:=All2.get c5.1 h6 hd;simp only[IV.aF.injEq,axC,and_true]at h8;obtain⟨_,rfl⟩:=h8;have:=cA h9;cases ok<;>simp[ret,h6,this]
 cases ok with
 |false=>
  simp only[awA,if_false]at hs hZ;exact⟨.raw u,G,R,X,.one (.v (.var V.n)),{V with n:=V.n+1},[.raw u],hZ,bH,⟨.raw u,oK,.raw u,N9⟩,by simp[hn],rfl,hs⟩
 |true=>
  simp only[if_true]at hs hZ;obtain⟨h,hh,hs⟩:=hs;have aeB:=SE.dw P lW (I:=[.raw u]) oM;have aeC:=SE.dw P ke (I:=[.raw u]) zq;simp only[SE.den,aeB,aeC,awc,hq,awQ,awf]at hh;subst hh;rw[awv]at hs;have fg:=bH.up (jj:=ax P (O++([.raw u]++[.bool q.isSome]))) (λe y h=>by rw[<-awv];exact SE.dw P e h);refine⟨.aF [.raw u,.raw (.bool q.isSome)],G,R,X,.tu [(af,[.v (.var V.n)]),(af,[.v (.var (V.n+1))])],{V with n:=V.n+1+1},[.raw u]++[.bool q.isSome],hZ,fg,⟨_,rfl,⟨_,rfl,.raw u,?_,.raw u,N9⟩,⟨_,rfl,.raw (.bool q.isSome),?_,.raw _,rfl⟩,trivial⟩,by simp[hn],rfl,hs⟩
  .simp[ax,SE.den,<-hn]
  .simp[ax,SE.den,<-hn]
def Xt{s:Nat}{e lo hi:SE}{z:IV}(h:(SE.sub s e lo hi).den P O=aa z):∃es a b l m q r,e.den P O=aa (.tree s es)/\lo.den P O=aa a/\hi.den P O=aa b/\a=.raw (.int q (l:Nat))/\b=.raw (.int r (m:Nat))/\l<=m/\m<=es.length/\z=.tree s ((es.take m).drop l):=by
 simp only[SE.den,awx]at h;obtain⟨x,h1,a,h2,b,h3,h4⟩:=h;unfold pU at h4;split at h4<;>try (cases h4;done)
 rename_i s1 es;split at h4<;>try (cases h4;done)
 rename_i l m hl hm;split at h4<;>try (cases h4;done)
 rename_i hc;obtain⟨rfl,h5,h6,h7,h8⟩:=hc;cases h4;obtain⟨q,rfl⟩:=Kw hl;obtain⟨r,rfl⟩:=Kw hm;exact⟨es,_,_,l.toNat,m.toNat,q,r,h1,h2,h3,by rw[azn h5],by rw[azn h7],h6,h8,rfl⟩
def bx.part{fr:Bool}{x:IV}{s l m:Nat}{es:List IV}{t el:TypeId}(hu:P.underlying t=aa (.slice el))(bf:aW P el=aa s)(h:bx fr R G x (.tree s es))(h1:l<=m)(h2:m<=es.length){lo hi:Option IV}
 (jG:∀id off len c ep s',x=.sl id off len (aa c) ep s'->len<=c)
 (yf:ig lo=aa (aa l)\/(ig lo=aa ah/\l=0))(hhi:ig hi=aa (aa m)\/(ig hi=aa ah/\m=es.length)):
 ∃x',gd P t x lo hi ah=aa x'/\bx fr R G x' (.tree s ((es.take m).drop l)):=by
 obtain⟨kq,N_,Oa⟩:∃q:Option Nat,ig lo=aa q/\q.getD 0=l:=by
  rcases yf with h|⟨h,rfl⟩
  .exact⟨_,h,rfl⟩
  .exact⟨_,h,rfl⟩
 obtain⟨cw,Od,aeD⟩:∃q:Option Nat,ig hi=aa q/\∀n,n=es.length\/q≠ah->q.getD n=m:=by
  rcases hhi with h|⟨h,rfl⟩
  .exact⟨_,h,λn _=>rfl⟩
  .exact⟨_,h,λn hn=>by rcases hn with rfl|hn;·rfl
                       .exact absurd rfl hn⟩
 have vp:ig ah=aa ah:=rfl
 have hz:es.length=0->l=0/\m=0/\(es.take m).drop l=[]/\cw.getD 0=0:=by
  intro h;have:es=[]:=awG h;subst this;have ye:m=0:=by simpa using h2
  refine⟨by omega,ye,by simp,?_⟩;have:=aeD 0 (.inl rfl);omega
 cases h with
 |nil _ hs=>
  obtain⟨z1,z2,z3,z4⟩:=hz rfl;refine⟨.raw (.slice ah 0 0),?_,by rw[z3];exact .nil s hs⟩;simp[gd,N_,Od,vp,hu,bf,Oa,z1,z4]
 |emp _ hs=>
  obtain⟨z1,z2,z3,z4⟩:=hz rfl;refine⟨.emp,?_,by rw[z3];exact .emp s hs⟩;simp[gd,N_,Od,vp,hu,bf,Oa,z1,z4]
 |pure _ hf hp=>
  refine⟨.tree s ((es.take m).drop l),?_,.pure _ hf ?_⟩
  .have:=aeD es.length (.inl rfl);simp[gd,N_,Od,vp,hu,bf,Oa,this,h1,h2]
  .cases hp with
   |tree _ _ hh=>exact .tree s _ λe he=>hh e (axv (ayM he))
 |sl id off len cap ep _ m0 cs aD mn _ hR aM h3 h4 hs hl hb hm bD hh=>
  have DM:=aeD len (.inl hl.symm)
  have iG:∀KE:Option Nat,bx fr R G (.sl id (off+l*s) (m- l) KE ep s) (.tree s ((es.take m).drop l)):=λKE=>by
   refine .sl id (off+l*s) (m- l) KE ep s m0 cs aD mn _ hR aM h3 h4 hs (by simp;omega) ?_ hm (λe he=>bD e (axv (ayM he))) λi e j c d' he hd hc=>?_
   .have:(m- l)*s+l*s<=len*s:=by rw[<-awU];exact awL s aj
    omega
   .rw[List.getElem?_drop,List.getElem?_take]at he;split at he
    .refine hh (l+i) e j c d' he hd ?_;rw[awU];rw[show off+(l*s+i*s)+j=off+l*s+i*s+j by omega];exact hc
    .cases he
  cases cap with
  |none=>
   refine⟨.sl id (off+l*s) (m- l) ah ep s,?_,iG ah⟩;have:cw.getD len=m:=DM;simp[gd,N_,Od,vp,hu,bf,Oa,this,h1];omega
  |some c=>
   by_cases WR:m<=c
   .by_cases hc:c=l
    .refine⟨.emp,?_,?_⟩
     .simp[gd,N_,Od,vp,hu,bf,Oa,DM,h1,WR,hc];omega
     .have:(es.take m).drop l=[]:=by
       apply awG;simp;omega
      rw[this];exact .emp s hs
    .refine⟨.sl id (off+l*s) (m- l) (aa (c- l)) ep s,?_,iG _⟩;simp[gd,N_,Od,vp,hu,bf,Oa,DM,h1,WR,hc]
   .have:=jG _ _ _ _ _ _ rfl;omega
def TU{q:IntKind}{n:Nat}:ig (aa (.raw (.int q (n:Nat))))=aa (aa n):=by
 simp[ig]
def Mg(hJ:J Cx (ax P O) R X V.g V.l E G){Zo e:SE}{x:Option Operand}(h:Kp P d V Zo x=aa e){n:Nat}{q:IntKind}(he:e.den P O=aa (.raw (.int q (n:Nat)))):
 ig (x.map (aB (E d)))=aa (aa n)\/(ig (x.map (aB (E d)))=aa ah/\e=Zo):=by
 cases x with
 |none=>simp only[Kp,awf]at h;exact .inr ⟨rfl,h.symm⟩
 |some x=>
  simp only[Kp]at h;split at h
  .rename_i e' hx;cases h;have hv:=bw hJ d 3 x;rw[hx]at hv;obtain⟨y,h1,h2,_⟩:=hv;have dh:e.den P O=aa y:=h1;rw[he]at dh;cases dh;rw[awQ,cA h2];exact .inl TU
  .cases h
def abL{t:TypeId}{x:Operand}{lo hi mx:Option Operand}(hJ:J Cx (ax P O) R X V.g V.l E G)(hn:O.length=V.n)(ho:o.op=.slice t x lo hi mx)(hs:(N0 P d t (bM P d V t x) lo hi mx V k).sat P C Q K O):dm Cx P C Q K O E V.ln k (bQ P E d o G):=by
 unfold N0 at hs;split at hs<;>try exact hs.elim
 rename_i el c hu hx;have BM:=bw hJ d t x;rw[hx]at BM;split at hs<;>try exact hs.elim
 rename_i s bf;split at hs
 .rename_i j l _;split at hs<;>try exact hs.elim
  rename_i s' cut fr es e hj he;split at hs<;>try exact hs.elim
  rename_i lQ;have Dh:=awk lQ;subst Dh;obtain⟨⟨z,hz⟩,hs⟩:=hs;obtain⟨gu,a,b,n,m,q,r,h1,h2,h3,rfl,rfl,h4,h5,rfl⟩:=Xt hz
  have hm:m=gu.length:=by
   obtain⟨s0,lW,h6,h7⟩:=IQ h3;rw[h1]at h6;cases h6;simp at h7;omega
  subst hm;have hl:=bw hJ d 3 l;rw[he]at hl;obtain⟨y,y1,y2,_⟩:=hl;have Qj:e.den P O=aa y:=y1;rw[h2]at Qj;cases Qj;have fW:=cA y2;obtain⟨s1,m5,xh,wK,z1,lg,b1,b2,b3⟩:=BM;rw[hj]at b1;cases b1;have wM:es.den P O=aa (.tree s lg):=b2;rw[h1]at wM;cases wM;have Xs:nat? (.raw (.int q (n:Nat)))=aa n:=by simp[nat?]
  have TV:ig (aa (aB (E d) l))=aa (aa n):=by rw[fW];exact TU
  have vp:ig ah=aa ah:=rfl
  have fin:∀x',gd P t (aB (E d) x) (aa (aB (E d) l)) ah ah=aa x'->(NK X G j s cut n gu.length x'\/(n=gu.length/\x'=.emp))->dm Cx P C Q K O E V.ln k (bQ P E d o G):=λx' g1 g2=>by
   refine .at (x:=x') hs hJ hn rfl ⟨s,af,cut,fr,es,gu,_,n,hj,h1,h2,Xs,h4,g2⟩ ?_;simp[bQ,aA,ho,g1,ret]
  rcases b3 with⟨c1,c2,c3⟩|⟨id,cs,aD,mn,cap,c1,c2,c3,c4,c5,c6⟩
  .have ma:n=0:=aj;subst ma;rcases c3 with c3|c3
   .refine fin (.raw (.slice ah 0 0)) ?_ (.inl (.inl ⟨c1,c2,.inl rfl⟩));rw[c3];simp[gd,TV,vp,hu,bf]
   .refine fin .emp ?_ (.inl (.inl ⟨c1,c2,.inr rfl⟩));rw[c3];simp[gd,TV,vp,hu,bf]
  .cases cap with
   |none=>
    refine fin (.sl id (n*s) (gu.length- n) ah aD s) ?_ (.inl (.inr ⟨id,cs,aD,mn,ah,c1,c2,rfl,h4,c5,λc hc=>by cases hc⟩));rw[c3];simp[gd,TV,vp,hu,bf,h4]
   |some c=>
    obtain⟨d1,d2,d3⟩:=c6 c rfl;by_cases hc:c=n
    .refine fin .emp ?_ (.inr ⟨by omega,rfl⟩);rw[c3];simp[gd,TV,vp,hu,bf,h4,hc];omega
    .refine fin (.sl id (n*s) (gu.length- n) (aa (c- n)) aD s) ?_ (.inl (.inr ⟨id,cs,aD,mn,aa (c- n),c1,c2,rfl,h4,(λh=>by simp at h),λc' pM=>?_⟩))
     .rw[c3];have:gu.length<=c:=aj;simp[gd,TV,vp,hu,bf,h4,hc,this]
     .have asr:c- n=c':=by simpa using pM
      subst asr;refine⟨d1,?_,by omega⟩;have:n*s+(c- n)*s=c*s:=by rw[<-awU];congr 1;omega
      omega
 .rename_i c lo hi c0 lo0 G9 b0 _;split at hs<;>try exact hs.elim
  rename_i fr z V2 eQ;split at hs<;>try exact hs.elim
  rename_i le he hl hh
  have TG:zo V c=aa (fr,z,V2):=by
   split at eQ<;>first|exact eQ|cases eQ
  obtain⟨R',g1,g2,g3⟩:=Ht hJ TG;obtain⟨y,g4,g5,_⟩:=g3 _ BM;have zi:O.length=V2.n:=by rw[g1.2.1];exact hn
  obtain⟨w,w1,w2,w3,w4,w5⟩:=vN g2 zi hs;obtain⟨gu,a,b,l,m,q,r,h1,h2,h3,rfl,rfl,h4,h5,rfl⟩:=Xt w1;rw[g4]at h1;cases h1
  have jG:∀id off len c1 ep s',aB (E d) x=.sl id off len (aa c1) ep s'->len<=c1:=by
   intro id off len c1 ep s' jQ;split at eQ<;>try (cases eQ;done)
   .obtain⟨y',_,q2,_⟩:=BM;rw[jQ]at q2;cases q2 with
    |pure _ _ hp=>cases hp
    |sl _ _ _ _ _ _ _ _ _ _ _ hR=>cases hR
   .obtain⟨_,q2⟩:=BM;rw[jQ]at q2;split at q2<;>cases q2
   .obtain⟨s1,m5,xh,wK,z1,lg,b1,b2,⟨_,_,b3|b3⟩|⟨bt,cs,aD,mn,cap,oM,c2,c3,c4,c5,c6⟩⟩:=BM
    .rw[jQ]at b3;cases b3
    .rw[jQ]at b3;cases b3
    .rw[jQ]at c3;cases c3;have:=(c6 c1 rfl).2.2;omega
  have yf:ig (lo.map (aB (E d)))=aa (aa l)\/(ig (lo.map (aB (E d)))=aa ah/\l=0):=by
   refine(Mg hJ hl h2).imp_right λ⟨e1,e2⟩=>⟨e1,?_⟩;subst e2;simp only[SE.den,awf,IV.raw.injEq,azx]at h2;have:=h2.2;omega
  have hhi:ig (hi.map (aB (E d)))=aa (aa m)\/(ig (hi.map (aB (E d)))=aa ah/\m=gu.length):=by
   refine(Mg hJ hh h3).imp_right λ⟨e1,e2⟩=>⟨e1,?_⟩;subst e2;obtain⟨s0,lW,h6,h7⟩:=IQ h3;rw[g4]at h6;cases h6;simp at h7;omega
  obtain⟨x',k1,k2⟩:=g5.part (t:=t) (el:=el) hu bf h4 h5 jG yf hhi;refine⟨x',G,R',X,.one (.w fr (.var V2.n)),{V2 with n:=V2.n+1},[.tree s ((gu.take m).drop l)],?_,w4,⟨_,w3,k2,rfl⟩,w5,g1.2.2.1,w2⟩;simp[bQ,aA,ho,k1,ret]
def Ar(hJ:J Cx (ax P O) R X V.g V.l E G){x:IV}{pv:PV SE}{e:SE}(h:uz pv=aa e)(hx:VR (ax P O) R X L G x pv):∀y,e.den P O=aa y->bx ab R G x y:=by
 intro y hy;unfold uz at h;split at h<;>cases h
 .obtain⟨u,h1,h2,_⟩:=hx;have dh:e.den P O=aa u:=h1;rw[hy]at dh;cases dh;exact h2.mono hJ.B_
 .obtain⟨u,h1,h2,_⟩:=hx;have dh:e.den P O=aa u:=h1;rw[hy]at dh;cases dh;exact h2.cG
def abM{t:TypeId}{x ix:Operand}(hJ:J Cx (ax P O) R X V.g V.l E G)(hn:O.length=V.n)(ho:o.op=.index t x ix)(hs:(i7 P d o V k).sat P C Q K O):dm Cx P C Q K O E V.ln k (bQ P E d o G):=by
 unfold i7 at hs;rw[ho]at hs;simp only at hs;split at hs<;>try exact hs.elim
 rename_i a b hu ha hb;have TX:=Ar hJ ha (bw hJ d t x);have hxb:=Ar hJ hb (bw hJ d 0 ix);obtain⟨⟨z,hz⟩,hk⟩:=hs;have qX:=hz;simp only[SE.den,awx]at hz;obtain⟨u,h1,v,h2,h3⟩:=hz;split at h3<;>try (cases h3;done)
 rename_i q kd n;split at h3<;>try (cases h3;done)
 rename_i ma;rw[awj]at h3;obtain⟨c,h4,rfl⟩:=h3;exact .at (x:=.raw (.int .u8 c.toNat)) hk hJ hn rfl ⟨_,qX,.raw _,rfl⟩ (by unfold bQ aA;rw[ho];simp only[hu,cA (TX _ h1),cA (hxb _ h2),if_pos ma,h4];rfl)
def TY{a b:IV}{vs:List Value}(h:kR [a,b]=aa vs):∃u v,a=.raw u/\b=.raw v:=by
 cases a<;>simp[kR]at h;cases b<;>simp at h;exact⟨_,_,rfl,rfl⟩
def akI{c:Call}(hJ:J Cx (ax P O) R X V.g V.l E G)(hn:O.length=V.n)(ho:o.op=.call c)(hc:c.callee=.builtin .max)(hs:(mxS ab (jX P d V c.args.toList c.argTypes.toList) V k).sat P C Q K O):dm Cx P C Q K O E V.ln k (bQ P E d o G):=by
 unfold mxS at hs;split at hs<;>try exact hs.elim
 rename_i pa pb bJ;split at hs<;>try exact hs.elim
 rename_i a b ha sH;have bS:=i_ hJ d c.args.toList c.argTypes.toList;rw[bJ]at bS;obtain⟨x,y,hxy,hx,hy⟩:=Ky bS;have TX:=Ar hJ ha hx;have hxb:=Ar hJ sH hy;obtain⟨⟨z,hz⟩,hk⟩:=hs;obtain⟨h1,a_⟩:=rC hz;simp only[SE.den,awx]at h1;obtain⟨w,⟨u,h2,v,h3,h4⟩,h5⟩:=h1;split at h5<;>cases h5;rename_i jM
 have aot:∃u' v',u=.raw u'/\v=.raw v':=by
  simp only[if_true]at h4;unfold Nq at h4;split at h4
  .exact TY ‹_›
  .cases h4
 obtain⟨u',v',rfl,rfl⟩:=aot;have jQ:=cA (TX _ h2);have hy':=cA (hxb _ h3);subst jQ hy'
 have hzr:jJ z z:=by
  cases z<;>simp only[aN]at jM<;>try (cases jM;done)
  exact .raw _
 refine .here (pv:=.one (.v (.ok (.rw (.mx ab a b))))) (x:=z) ?_ hJ ⟨z,hz,hzr,a_⟩ hn rfl hk;simp only[if_true]at h4;simp[bQ,aA,ho,hc,fk,hxy,h4]
def aeE{t:TypeId}(h:isStr P t=ab):P.underlying t=aa .string:=by
 unfold isStr at h;split at h
 .assumption
 .cases h
def ZN{t:TypeId}{x:Operand}{lo hi mx:Option Operand}(hJ:J Cx (ax P O) R X V.g V.l E G)(hn:O.length=V.n)(ho:o.op=.slice t x lo hi mx)(hu:P.underlying t=aa .string)(hs:(Kq P d (bM P d V t x) lo hi mx V k).sat P C Q K O):dm Cx P C Q K O E V.ln k (bQ P E d o G):=by
 unfold Kq at hs;split at hs<;>try exact hs.elim
 rename_i a ha;split at hs<;>try exact hs.elim
 rename_i l h hl hh;obtain⟨z,hz,hs⟩:=hs;have TX:=Ar hJ ha (bw hJ d t x);have qX:=hz;simp only[SE.den,awx]at hz;obtain⟨u,h1,b,h2,c,h3,h4⟩:=hz;split at h4<;>try (cases h4;done)
 rename_i q lv hv e1 e2;split at h4<;>try (cases h4;done)
 rename_i hc;cases h4
 have hint:∀{w:IV} {n:Int},ie w=aa n->0<=n->∃k,w=.raw (.int k (n.toNat:Nat)):=by
  intro w n h h0;unfold ie at h;split at h
  .cases h;exact⟨_,by rw[azn h0]⟩
  .cases h
 obtain⟨k1,rfl⟩:=hint e1 hc.1;obtain⟨k2,rfl⟩:=hint e2 hc.2.2.1
 have n1:ig (lo.map (aB (E d)))=aa (aa lv.toNat)\/(ig (lo.map (aB (E d)))=aa ah/\lv.toNat=0):=by
  rcases Mg hJ hl h2 with g|⟨g,rfl⟩
  .exact .inl g
  .refine .inr ⟨g,?_⟩;simp only[SE.den,awf,IV.raw.injEq,azx]at h2;omega
 have n2:ig (hi.map (aB (E d)))=aa (aa hv.toNat)\/(ig (hi.map (aB (E d)))=aa ah/\hv.toNat=q.size):=by
  rcases Mg hJ hh h3 with g|⟨g,rfl⟩
  .exact .inl g
  .refine .inr ⟨g,?_⟩;simp only[SE.den,h1,awc,Ao,IV.int,awf,IV.raw.injEq,azx]at h3;omega
 have hx:=cA (TX _ h1);have vp:ig ah=aa ah:=rfl;have bH:=hJ.up (jj:=ax P (O++[.raw (.string ⟨((q.data.toList.drop lv.toNat).take (hv.toNat- lv.toNat)).toArray⟩)])) (λe y h=>SE.dw P e h);refine⟨.raw (.string ⟨((q.data.toList.drop lv.toNat).take (hv.toNat- lv.toNat)).toArray⟩),G,R,X,.one (.v (.var V.n)),{V with n:=V.n+1},[_],?_,bH,⟨_,by simp[ax,SE.den,<-hn],.raw _,rfl⟩,by simp[hn],rfl,hs⟩
 have bf:gd P t (.raw (.string q)) (lo.map (aB (E d))) (hi.map (aB (E d))) ah=aa (.raw (.string ⟨((q.data.toList.drop lv.toNat).take (hv.toNat- lv.toNat)).toArray⟩)):=by
  rcases n1 with g1|⟨g1,g2⟩<;>rcases n2 with g3|⟨g3,g4⟩
  .simp[gd,g1,g3,vp,hu,hc.2.1,hc.2.2.2]
  .simp[gd,g1,g3,vp,hu,g4];rw[<-g4];have:=hc.2.1;omega
  .simp[gd,g1,g3,vp,hu,g2,hc.2.2.2]
  .simp[gd,g1,g3,vp,hu,g2,g4]
 simp[bQ,aA,ho,hx,bf,ret]
def abN{t:TypeId}{x:Operand}(hJ:J Cx (ax P O) R X V.g V.l E G)(hn:O.length=V.n)(ho:o.op=.range t x)(hs:(i7 P d o V k).sat P C Q K O):dm Cx P C Q K O E V.ln k (bQ P E d o G):=by
 unfold i7 at hs;rw[ho]at hs;simp only at hs;split at hs<;>try exact hs.elim
 .rename_i a hu ha;have TX:=Ar hJ ha (bw hJ d t x);obtain⟨⟨z,hz⟩,hk⟩:=hs;simp only[SE.den,awx]at hz;obtain⟨u,h1,h2⟩:=hz
  have hb:∃ba,u=.raw (.string ba):=by
   unfold Ao at h2;split at h2
   .exact⟨_,rfl⟩
   .cases h2
  obtain⟨ba,rfl⟩:=hb;have hv:=cA (TX _ h1);have bH:=hJ.yS (.rW ba 0) (.mp 0 (.tp (.ac a (.ac (.i 0) .an)))) (by rw[lA,if_pos (show mO 0=ab from rfl)];exact .inl ⟨rfl,G.n,ba,0,by simp[ax,SE.den,h1],by simp[bT],hJ.ra,by simp⟩);refine .at (x:=.ptr G.n 0 0 1) (V1:={V with l:=V.l++[.mp 0 (.tp (.ac a (.ac (.i 0) .an)))]}) hk bH hn rfl ⟨G.n,0,SE.tp (.ac a (.ac (.i 0) .an)),by simp[bT],by simp,rfl⟩ ?_;simp[bQ,aA,ho,hu,hv,ret]
 .rename_i _ _ _ _ hu;have rE:=bw hJ d t x;split at hs<;>try exact hs.elim
  rename_i m hm;rw[hm]at rE;split at hs<;>try exact hs.elim
  rename_i kt lW hj;split at hs
  .exact hs.elim
  rename_i kN;simp only[awO,awX,not_or,ayV]at kN;obtain⟨fO,ak⟩:=kN;have ak:m<1000000:=by simpa using ak
  obtain⟨_,hk⟩:=hs;obtain⟨id,oZ,lg,g1,g2,g3⟩:=rE;rw[hj]at g2;cases g2;rw[if_neg fO]at g3;have eK:=hJ.obj m _ hj;rw[lA,if_neg fO]at eK;obtain⟨bt,es,clock,ds,c1,c2,c3,c4,c5,c6⟩:=eK;rw[g1]at c2;cases c2;have oM:lW.den P O=aa (.aF ds):=c1;have hlen:es.length=ds.length:=All2.len c5;have akJ:((t+1)*1000000+m) % 1000000=m:=aki t m ak;have hit:mO ((t+1)*1000000+m)=ab:=Hl (agv t m);have DM:m<V.l.length:=(awa.1 hj).1
  have bH:=hJ.yS (.kG (aa id) clock [] clock) (.mp ((t+1)*1000000+m) (.tp (.ac lW (.ac lW .an)))) (by
   rw[lA,if_pos hit];refine .inr ⟨agv t m,G.n,id,ds,[],ds,[],by simp[ax,SE.den,oM],by simp[bT],hJ.ra,⟨kt,lW,by rw[akJ,awp DM];exact hj⟩,by rw[akJ];simp[bT,show m≠V.l.length by omega,g1],?_,by simp,Left.init ds,.inl rfl⟩;have:=c6.1;simp[this,hlen])
  refine .at (x:=.ptr G.n 0 0 1) (V1:={V with l:=V.l++[.mp ((t+1)*1000000+m) (.tp (.ac lW (.ac lW .an)))]}) hk bH hn rfl ⟨G.n,(t+1)*1000000+m,SE.tp (.ac lW (.ac lW .an)),by simp[bT],by simp,(if_pos hit).symm⟩ ?_;simp[bQ,aA,ho,hu,g3,c4,ret]
def Xu(hJ:J Cx (ax P O) R X V.g V.l E G){t:TypeId}{e:SE}{x y:IV}(hy:e.den P O=aa y)(hx:bx ab R G x y){k:aq}(hs:(LZ P t e k).sat P C Q K O):vA (ax P O) R X V.l G x (Zq P t e)/\k.sat P C Q K O:=by
 unfold LZ at hs;unfold Zq;split at hs
 .rename_i ha;rw[if_pos ha];obtain⟨⟨z,hz⟩,hk⟩:=hs;refine⟨?_,hk⟩;simp only[SE.den,hy,awc]at hz;split at hz<;>try (cases hz;done)
  rename_i cs;split at hz
  .rename_i hc;obtain⟨xs,rfl,nZ⟩:=KB hx;refine⟨xs,rfl,.mk (by simp[nZ.len,hc.1]) λi a b h1 h2=>?_⟩;have hi:=(awa.1 h1).1;rw[nZ.len]at hi;rw[awu,ax9 (by rw[<-hc.1];exact hi)]at h2;simp only[awQ,awf]at h2;subst h2;have Mf:cs[i]?=aa cs[i]:=av_ hi;have a_:Ev.ao cs[i]=ab:=(awt.1 hc.2) _ (awd hi);exact⟨cs[i],by simp[ax,SE.den,hy,Mf,vJ,a_],nZ.get h1 Mf,a_⟩
  .cases hz
 .rename_i ha;rw[if_neg ha];split at hs
  .rename_i wL;rw[if_pos wL];obtain⟨⟨z,hz⟩,hk⟩:=hs;refine⟨?_,hk⟩;obtain⟨oL,N9⟩:=rC hz;simp only[SE.den,hy,awc]at oL;split at oL
   .rename_i hr;cases oL;cases y<;>simp only[aN]at hr<;>try (cases hr;done)
    rename_i u;have:=cA hx;subst this;exact⟨_,rfl,.raw u,hz,.raw u,N9⟩
   .cases oL
  .rename_i wL;rw[if_neg wL];obtain⟨⟨z,hz⟩,hk⟩:=hs;refine⟨?_,hk⟩;obtain⟨oL,N9⟩:=rC hz;rw[hy]at oL;cases oL;exact⟨_,rfl,_,hz,hx,N9⟩
def aeF(v:Value):bx ab R G (lift v) (lift v):=by
 unfold lift;split
 .exact .pure _ rfl (.agg _ λc hc=>by obtain⟨v,_,rfl⟩:=List.mem_map.1 hc;exact .raw v)
 all_goals exact .raw _
def abO{it:Operand}(hJ:J Cx (ax P O) R X V.g V.l E G)(hn:O.length=V.n)(ho:o.op=.entry it)(hs:(i7 P d o V k).sat P C Q K O):dm Cx P C Q K O E V.ln k (bQ P E d o G):=by
 unfold i7 at hs;rw[ho]at hs;simp only at hs;unfold aby at hs;have rE:=bw hJ d 0 it;split at hs<;>try exact hs.elim
 rename_i j hm;rw[hm]at rE;split at hs<;>try exact hs.elim
 rename_i kt x hj;split at hs
 rotate_left
 .exact hs.elim
 rename_i hle;have hle:1000000<=kt:=by simpa using hle
 split at hs<;>try exact hs.elim
 rename_i oZ lW kt1 et Tf hu;split at hs
 .exact hs.elim
 rename_i fO;obtain⟨pN,r,d1,d2,hs⟩:=hs;have hit:mO kt=ab:=Hl hle;obtain⟨id,kt3,x3,g1,g2,g3⟩:=rE;rw[hj]at g2;cases g2;rw[if_pos hit]at g3;have eK:=hJ.obj j _ hj;rw[lA,if_pos hit]at eK;rcases eK with⟨h0,_⟩|⟨_,bt,m,ds,seen,rem,rest,e1,e2,e3,e4,e5,e6,e7,e8,e9⟩
 .exact(agw hle h0).elim
 rw[g1]at e2;cases e2;have cM:x.den P O=aa (.aF (.aF ds::.aF rem::rest)):=e1;rw[cM]at d2;have zn:ds=pN:=by simp only[awf,IV.aF.injEq,axC]at d2;exact d2.1
 subst zn;have TZ:=hJ.obj _ _ Tf;rw[lA,if_neg fO]at TZ;obtain⟨Te,es,clock,LS,c1,c2,c3,c4,c5,c6⟩:=TZ;rw[e5]at c2;cases c2;have oM:lW.den P O=aa (.aF LS):=c1;rw[oM]at d1;have zn:ds=LS:=by simp only[awf,IV.aF.injEq]at d1;exact d1.symm
 subst zn;have hlen:es.length=ds.length:=All2.len c5;rcases e9 with rfl|⟨i,last,rfl,f1,f2⟩
 .unfold LZ at hs;exfalso;have hp:(SE.proj (.proj x 2) 0).den P O=ah:=by simp[SE.den,cM]
  split at hs
  .obtain⟨⟨z,hz⟩,_⟩:=hs;simp[SE.den,cM]at hz
  .split at hs
   .obtain⟨⟨z,hz⟩,_⟩:=hs;simp[SE.den,cM]at hz
   .obtain⟨⟨z,hz⟩,_⟩:=hs;simp[SE.den,cM]at hz
 .have hi:i<es.length:=by rw[hlen];exact(awa.1 f2).1
  have GY:es[i]?=aa es[i]:=av_ hi;obtain⟨z,h1,h2⟩:=All2.get c5 GY f2;subst h1;have hp0:(SE.proj (.proj x 2) 0).den P O=aa (lift es[i].1):=by simp[SE.den,cM]
  have mL:(SE.proj (.proj x 2) 1).den P O=aa z:=by simp[SE.den,cM]
  obtain⟨v1,hs⟩:=Xu hJ hp0 (aeF _) hs;obtain⟨v2,hs⟩:=Xu hJ mL h2 hs;refine .here (pv:=.tu [_,_]) (x:=.aF [lift es[i].1,es[i].2.1]) ?_ hJ ⟨_,rfl,v1,v2,trivial⟩ hn rfl hs
  have hf:es.find? (λe=>e.2.2==i)=aa es[i]:=by
   rw[List.find?_eq_some_iff_getElem];refine⟨by simp[c6.2 i _ GY],i,hi,rfl,λq hq=>?_⟩;have:=c6.2 q es[q] (av_ aj);simp[this];omega
  have g_:clock=ds.length:=by rw[<-hlen];exact c6.1
  simp[bQ,aA,ho,g3,e6,c4,f1,hf,g_,ret]
def abP(hJ:J Cx (ax P O) R X V.g V.l E G)(hn:O.length=V.n){j id:Nat}{lW:SE}(hj:V.l[j]?=aa (.mp 0 lW)){ba:ByteArray}{p p':Nat}(jS:X j=aa id)(hR:R id=ah)(aM:G.at id=aa (.rW ba p)):
 J Cx (ax P (O++[.aF [.raw (.string ba),.raw (.int .i64 (p':Nat))]])) R X V.g (V.l.set j (.mp 0 (.var V.n))) E (G.put id (.rW ba p')):=by
 have bH:=hJ.up (jj:=ax P (O++[.aF [.raw (.string ba),.raw (.int .i64 (p':Nat))]])) (λe y h=>SE.dw P e h)
 exact(bH.tE (R':=R) (bad:=λ_=>False) (kq:=.mp 0 (.var V.n)) (fp:=.rW ba p') jS hj (λ_ _=>rfl)
  (λm hm=>by rw[hR]at hm;cases hm) (λm _ _ _ hm=>by rw[hR]at hm;cases hm) (λm _ _ _ hm=>by rw[hR]at hm;cases hm)
  (λ_ h=>by cases h) (λ_ _ _=>by rename_i h;cases h;exact⟨_,rfl⟩) (λ_ _ _ _ _ h=>by cases h) (λ_ _ pv _=>pv.aZ) (λ_ o _ _=>o.aZ)
  (λfq=>by rw[lA,if_pos (show mO 0=ab from rfl)];exact .inl ⟨rfl,id,ba,p',by simp[ax,SE.den,<-hn],jS,hR,by rw[St.cW,if_pos rfl]⟩)).2
def aeG{it:Operand}(hJ:J Cx (ax P O) R X V.g V.l E G)(hn:O.length=V.n)(ho:o.op=.next it ab)(hs:(i7 P d o V k).sat P C Q K O):dm Cx P C Q K O E V.ln k (bQ P E d o G):=by
 unfold i7 at hs;rw[ho]at hs;simp only at hs;split at hs<;>try exact hs.elim
 rename_i j hm;split at hs<;>try exact hs.elim
 rename_i kt es hj;split at hs<;>try exact hs.elim
 rename_i kN;have Fe:=awk kN;subst Fe;have rE:=bw hJ d 0 it;rw[hm]at rE;obtain⟨id,oZ,lg,g1,g2,g3⟩:=rE;rw[hj]at g2;cases g2;rw[if_pos (show mO 0=ab from rfl)]at g3;have eK:=hJ.obj j _ hj;rw[lA,if_pos (show mO 0=ab from rfl)]at eK;rcases eK with⟨_,bt,ba,p,c1,c2,c3,c4⟩|⟨h0,_⟩
 rotate_left
 .exact absurd h0 (by decide)
 rw[g1]at c2;cases c2;have oM:es.den P O=aa (.aF [.raw (.string ba),.raw (.int .i64 (p:Nat))]):=c1
 have hd:∀w,(SE.dec w (.proj es 0) (.proj es 1)).den P O=jK w (.raw (.string ba)) (.raw (.int .i64 (p:Nat))):=by
  intro w;simp[SE.den,oM]
 rcases hs with⟨h0,hs⟩|⟨h0,hs⟩
 .rw[hd]at h0;simp[jK]at h0;obtain⟨z,hz,hs⟩:=hs
  have rB:z=.aF [.raw (.string ba),.raw (.int .i64 ((p+(axU ba p).2:Nat):Nat))]:=by
   have:=hd 2;simp only[SE.den]at this hz;rw[this]at hz;simp[oM,jK]at hz;rw[<-hz];simp
  subst rB;have fg:=abP (p':=p+(axU ba p).2) hJ hn hj g1 c3 c4;have e1:(SE.proj es 1).den P (O++[.aF [.raw (.string ba),.raw (.int .i64 ((p+(axU ba p).2:Nat):Nat))]])=aa (.raw (.int .i64 (p:Nat))):=SE.dw P _ (by simp[SE.den,oM]);have e2:(SE.dec 1 (.proj es 0) (.proj es 1)).den P (O++[.aF [.raw (.string ba),.raw (.int .i64 ((p+(axU ba p).2:Nat):Nat))]])=aa (.raw (.int .i32 (axU ba p).1)):=SE.dw P _ (by rw[hd];simp[jK]);refine⟨.aF [.bool ab,.raw (.int .i64 (p:Nat)),.raw (.int .i32 (axU ba p).1)],_,R,X,.tu [(af,[.v (.b ab)]),(af,[.v (.proj es 1)]),(af,[.v (.dec 1 (.proj es 0) (.proj es 1))])],{V with n:=V.n+1,l:=V.l.set j (.mp 0 (.var V.n))},[_],?_,fg,⟨_,rfl,⟨_,rfl,.raw (.bool ab),rfl,.raw _,rfl⟩,⟨_,rfl,_,e1,.raw _,rfl⟩,⟨_,rfl,_,e2,.raw _,rfl⟩,trivial⟩,by simp[hn],rfl,hs⟩;simp[bQ,aA,ho,g3,c4,h0,ret]
 .rw[hd]at h0;simp[jK]at h0;refine .here (pv:=.tu [(af,[.v (.b af)])]) (x:=.aF [.bool af]) ?_ hJ ⟨_,rfl,⟨_,rfl,.raw (.bool af),rfl,.raw _,rfl⟩,trivial⟩ hn rfl hs;have:¬p<ba.size:=aj;simp[bQ,aA,ho,g3,c4,this,ret]
def aou{x z:IV}{b:Bool}(h:jK 7 x (.raw (.bool b))=aa z):∃q c,x=.raw (.int q c)/\0<=c/\c<=1000000:=by
 unfold jK at h;split at h
 .rename_i heq;exact absurd heq ay
 .split at h
  .rename_i hc;exact⟨_,_,rfl,hc.2⟩
  .cases h
 .simp at h
 .simp at h
 .cases h
def KF(hJ:J Cx (ax P O) R X V.g V.l E G){x:IV}{pv:PV SE}{e:SE}(hx:VR (ax P O) R X V.l G x pv)(h:uz pv=aa e):∃y,e.den P O=aa y/\bx ab R G x y:=by
 unfold uz at h;split at h<;>try (cases h;done)
 .cases h;obtain⟨y,h1,h2,_⟩:=hx;exact⟨y,h1,h2.mono hJ.B_⟩
 .cases h;obtain⟨y,h1,h2,_⟩:=hx;exact⟨y,h1,h2.cG⟩
def akK{x p z:IV}(h:jK 10 x p=aa z):∃q c,x=.raw (.int q c)/\0<=c/\c<=1000000/\z=.tree 1 (awE c.toNat p):=by
 unfold jK at h;split at h
 .split at h<;>cases h
 .rw[if_neg (λh=>absurd h.1 (by decide)),if_neg (λh=>absurd h.1 (by decide))]at h;split at h
  .rename_i hh;cases h;exact⟨_,_,rfl,hh.2.1,hh.2.2.1,rfl⟩
  .cases h
 .rw[if_neg (by decide)]at h;cases h
 .rw[if_neg (by decide)]at h;cases h
 .cases h
def abQ{t:TypeId}{l c:Operand}(hJ:J Cx (ax P O) R X V.g V.l E G)(hn:O.length=V.n)(ho:o.op=.makeSlice t l c)(hs:(Zp P d t l c V k).sat P C Q K O):dm Cx P C Q K O E V.ln k (bQ P E d o G):=by
 unfold Zp at hs;split at hs
 rotate_left
 .rename_i el ce hu hc _;split at hs<;>try exact hs.elim
  rename_i le s z ze bytes hl bf tH hze Hx;split at hs<;>try exact hs.elim
  rename_i cn;simp only[awb]at cn;obtain⟨⟨⟨⟨h0,h1⟩,h3⟩,h4⟩,h5⟩:=cn;have dh:=awk h1;subst dh;have JF:bytes<=1000000:=by simpa using h3
  have:=SE.eq_eq h0;subst this;obtain⟨v,e1,e2,e3⟩:=abH (O:=O) hze;rw[tH]at e1;cases e1;obtain⟨y,hy,hk⟩:=hs;simp only[SE.den,awx]at hy;obtain⟨nv,n1,zv,n2,n3⟩:=hy;rw[e2]at n2;cases n2;obtain⟨yl,l1,l2⟩:=KF hJ (bw hJ d 0 l) hl;obtain⟨yc,c1,c2⟩:=KF hJ (bw hJ d 0 c) hc;rw[n1]at l1 c1;cases l1;cases c1;obtain⟨q,m,rfl,m1,m2,rfl⟩:=akK n3;have fW:=cA l2;have hcv:=cA c2
  have Qk:lu (z.cells.toList.map .raw) (m.toNat*1)=awE m.toNat (.raw z):=by
   simp[lu,e3]
  have a_:Ev.ao (.raw z)=ab:=by simpa[e3]using h5
  have nL:(SE.var V.n).den P (O++[.tree 1 (awE m.toNat (.raw z))])=aa (.tree 1 (awE m.toNat (.raw z))):=by simp[SE.den,<-hn]
  have bH:=hJ.up (jj:=ax P (O++[.tree 1 (awE m.toNat (.raw z))])) (λe y h=>SE.dw P e h);by_cases ye:m=0
  .subst ye;have agG:(SE.var V.n).den P (O++[.tree 1 (awE (0:Int).toNat (.raw z))])=aa (.tree 1 []):=nL
   refine⟨.emp,_,R,_,.one (.sr V.l.length),{V with n:=V.n+1,l:=V.l++[.row 1 af af af (.var V.n)]},[.tree 1 (awE (0:Int).toNat (.raw z))],?_,(bH.Aq (s:=1) (fr:=af) (z:=.var V.n) aj agG).2,
    ⟨1,af,af,af,.var V.n,[],by simp,agG,.inl ⟨xj hJ (awe _),rfl,.inr rfl⟩⟩,by simp[hn],rfl,hk⟩
   simp only[bQ,aA,ho,hu,fW,hcv,bf,tH,Hx];rw[if_neg (by simp[e3];omega),if_pos trivial];rfl
  have fg:=bH.yS (.cells (awE m.toNat (.raw z)) 0 0) (.row 1 af af af (.var V.n)) ⟨by omega,_,nL,λe he=>(by rw[axl he];rfl),.inr ⟨G.n,(awE m.toNat (.raw z)),0,0,by simp[bT],by simp,awe _,by simp,hJ.ra,awt.2 λx hx=>(by rw[axl hx];exact a_),λj x d hx hd=>by
   have jQ:=axl (awq hx)
   have wF:d=.raw z:=by
    have hm:=awq hd;unfold flat at hm;obtain⟨e,he,TR⟩:=axq.1 hm;rw[axl he]at TR;simpa[cellsOf]using TR
   rw[jQ,wF];exact .raw _⟩⟩
  refine⟨.sl G.n 0 m.toNat (aa m.toNat) 0 1,_,R,_,.one (.sr V.l.length),{V with n:=V.n+1,l:=V.l++[.row 1 af af af (.var V.n)]},[.tree 1 (awE m.toNat (.raw z))],?_,fg,
   ⟨1,af,af,af,_,_,by simp,nL,.inr ⟨G.n,(awE m.toNat (.raw z)),0,0,aa m.toNat,by simp[bT],by simp,by simp,aw5 _,λh=>(by cases h),λc hc=>(by cases hc;exact⟨rfl,by simp,by simp⟩)⟩⟩,by simp[hn],rfl,hk⟩
  simp only[bQ,aA,ho,hu,fW,hcv,bf,tH,Hx];rw[if_neg (by simp[e3];omega),if_neg ye,Qk];rfl
 .exact hs.elim
 rename_i el ce hu hl hc;split at hs<;>try exact hs.elim
 rename_i s z bytes bf tH Hx;split at hs<;>try exact hs.elim
 rename_i cn;simp only[awb,awX]at cn;obtain⟨⟨⟨h1,h2⟩,h3⟩,h4⟩:=cn;have wH:=awk h2;have JF:bytes<=1000000:=by simpa using h3
 have cj:0<s:=by
  rcases Nat.eq_zero_or_pos s with h|h
  .subst h;simp at h1
  .exact h
 obtain⟨⟨u,A5⟩,hk⟩:=hs;have fW:=bw hJ d 0 l;rw[hl]at fW;obtain⟨y0,b1,b2,_⟩:=fW
 have zr:y0=.raw (.int .i64 0):=by
  have:(SE.i 0).den P O=aa y0:=b1;simp only[SE.den,awf]at this;exact this.symm
 subst zr;have hle:=cA b2;obtain⟨y,c1,c2⟩:=KF hJ (bw hJ d 0 c) hc;simp only[SE.den,c1,awc]at A5;obtain⟨q,n,rfl,d1,d2⟩:=aou A5;have tz:=cA c2;have nL:(SE.tr s SE.an).den P O=aa (.tree s []):=by simp[SE.den,cj]
 have oj:(V.l++[LO.row s af af af (SE.tr s SE.an)])[V.l.length]?=aa (.row s af af af (SE.tr s SE.an)):=by simp
 by_cases ma:n=0
 .subst ma;refine .at (x:=.emp) (V1:={V with l:=V.l++[.row s af af af (.tr s .an)]}) hk (hJ.Aq (fr:=af) cj nL).2 hn rfl ⟨s,af,af,af,_,[],oj,nL,.inl ⟨xj hJ (awe _),rfl,.inr rfl⟩⟩ ?_;simp only[bQ,aA,ho,hu,hle,tz,bf,tH,Hx];rw[if_neg aj,if_pos trivial];rfl
 .have Qk:lu (z.cells.toList.map .raw) (n.toNat*s)=(awE n.toNat (z.cells.toList.map IV.raw)).flatten:=KA (by simp[wH]) cj _
  have hlen:(lu (z.cells.toList.map .raw) (n.toNat*s)).length=n.toNat*s:=by
   rw[Qk];simp[wH,aAe]
  have iR:(lu (z.cells.toList.map .raw) (n.toNat*s)).all Ev.ao=ab:=by
   rw[Qk];refine awt.2 λx hx=>?_;obtain⟨l',cz,jQ⟩:=List.mem_flatten.1 hx;have:=axl cz;subst this;exact(awt.1 h4) x jQ
  refine .at (x:=.sl G.n 0 0 (aa n.toNat) 0 s) (V1:={V with l:=V.l++[.row s af af af (.tr s .an)]}) hk (hJ.yS (.cells (lu (z.cells.toList.map .raw) (n.toNat*s)) 0 0) _ ⟨cj,[],nL,λe he=>(by cases he),.inr ⟨G.n,(lu (z.cells.toList.map .raw) (n.toNat*s)),0,0,by simp[bT],by simp,awe _,by simp,hJ.ra,iR,λj x d hx hd=>by simp[flat]at hd⟩⟩) hn rfl ⟨s,af,af,af,_,[],oj,nL,.inr ⟨G.n,(lu (z.cells.toList.map .raw) (n.toNat*s)),0,0,aa n.toNat,by simp[bT],by simp,by simp,awe _,λh=>(by cases h),λc hc=>?_⟩⟩ ?_
  .cases hc;exact⟨rfl,by rw[hlen];simp,aw5 _⟩
  .simp only[bQ,aA,ho,hu,hle,tz,bf,tH,Hx];rw[if_neg aj,if_neg ma];rfl
def aeH(hJ:J Cx (ax P O) R X V.g V.l E G){id:Nat}{ob:Ob}(h:G.at id=aa ob):G.put id ob=G:=by
 have:(G.put id ob).t=G.t:=Go.Ev.T.WF.ext (hJ.wf.set _ _) hJ.wf λi=>by
  show(G.put id ob).at i=G.at i;rw[St.cW];split
  .rename_i hh;rw[<-hh,h]
  .rfl
 cases G;simp only[St.put]at this⊢;rw[this]
def ZO{t:TypeId}{x:Operand}{lo hi mx:Option Operand}{f:aq}(hJ:J Cx (ax P O) R X V.g V.l E G)(hn:O.length=V.n)(ho:o.op=.slice t x lo hi mx)(hz:To P d t (bM P d V t x) lo hi mx V k=aa f)(hs:f.sat P C Q K O):dm Cx P C Q K O E V.ln k (bQ P E d o G):=by
 unfold To at hz;split at hz<;>try (cases hz;done)
 rename_i el c kq cw h hu hx;have BM:=bw hJ d t x;rw[hx]at BM;split at hz<;>try (cases hz;done)
 .rename_i s s' hh bf;split at hz<;>try (cases hz;done)
  rename_i lQ;have:=awk lQ;subst this;cases hz;have hhv:=bw hJ d 3 h;rw[hh]at hhv;obtain⟨y,y1,y2,_⟩:=hhv;simp only[ax,SE.den,awf]at y1;subst y1;have LC:=cA y2;obtain⟨h0,h1⟩:=BM;simp only[if_true]at h1;refine .at (x:=.raw (.slice ah 0 0)) hs hJ hn rfl ⟨h0,rfl⟩ ?_;simp[bQ,aA,ho,h1,LC,gd,ig,hu,bf,ret]
 .rename_i s j hh bf;split at hz<;>try (cases hz;done)
  rename_i s' cut fr es hj;split at hz<;>try (cases hz;done)
  rename_i lQ;have:=awk lQ;subst this;cases hz;have hhv:=bw hJ d 3 h;rw[hh]at hhv;obtain⟨y,y1,y2,_⟩:=hhv;simp only[ax,SE.den,awf]at y1;subst y1;have LC:=cA y2;obtain⟨⟨z,hz⟩,hk⟩:=hs;obtain⟨s1,m5,xh,wK,z1,gu,b1,b2,b3⟩:=BM;rw[hj]at b1;cases b1;have wM:es.den P O=aa (.tree s gu):=b2
  have bg:gu≠[]:=by
   rintro rfl;simp[SE.den,wM,cq,ie]at hz
  have hlen:1<=gu.length:=by
   cases gu with
   |nil=>exact absurd rfl bg
   |cons=>simp
  rcases b3 with⟨_,c2,_⟩|⟨id,cs,aD,mn,cap,c1,c2,c3,c4,c5,c6⟩
  .omega
  obtain⟨cj,lg,d1,d2,d3⟩:=hJ.obj j _ hj;have d1':es.den P O=aa (.tree s lg):=d1;rw[wM]at d1';cases d1';rcases d3 with⟨_,d3⟩|⟨bt,bG,ko,tD,g1,g2,g3,g4,g5,g6,g7⟩
  .exact absurd d3 bg
  rw[c1]at g1;cases g1;rw[c2]at g2;cases g2;have hR:R id=ah:=by simpa using g5
  have nL:(SE.tr s SE.an).den P O=aa (.tree s []):=by simp[SE.den,cj]
  have hjd:(V.l.map (LO.drop j))[j]?=aa (.row s af cut fr es):=by simp[hj,LO.drop]
  have bH:=(hJ.Y8 j).tE (R':=R) (bad:=(·=j)) (kq:=.row s af ab fr (.tr s .an)) (fp:=.cells cs aD mn) c1 hjd (λ_ _=>rfl) (λm hm=>by rw[hR]at hm;cases hm) (λm _ _ _ hm=>by rw[hR]at hm;cases hm) (λm _ _ _ hm=>by rw[hR]at hm;cases hm)
   (λ_ h=>by cases h) (λ_ _ h=>by cases h) (λ_ _ _ _ _ _=>rfl) (λd t pv hg=>by obtain⟨q,_,rfl⟩:=Hc _ hg;exact q.oD j) (λi o hi _=>by
    rw[awu]at hi;obtain⟨o',_,rfl⟩:=awj.1 hi;exact o'.oD j)
   (λ_=>⟨cj,[],nL,λe he=>(by cases he),.inr ⟨id,cs,aD,mn,c1,by rw[St.cW,if_pos rfl],g3,by simp,hR,g6,λj x d hx hd=>by simp[flat]at hd⟩⟩)
  have fg:=bH.2;rw[aeH hJ c2]at fg
  have oj:((V.l.map (LO.drop j)).set j (LO.row s af ab fr (SE.tr s SE.an)))[j]?=aa (.row s af ab fr (SE.tr s SE.an)):=by
   rw[List.getElem?_set,if_pos rfl,if_pos (by have:=(awa.1 hj).1;simpa using this)]
  cases cap with
  |none=>
   refine .at (x:=.sl id 0 0 ah aD s) (V1:=(V.u7 j).setObj j (.row s af ab fr (.tr s .an))) hk fg hn rfl ⟨s,af,ab,fr,_,[],oj,nL,.inr ⟨id,cs,aD,mn,ah,c1,c2,by simp,aw5 _,(λ_ h=>(by cases h)),λc hc=>by cases hc⟩⟩ ?_;simp[bQ,aA,ho,c3,LC,gd,ig,hu,bf,ret]
  |some m=>
   obtain⟨f1,f2,f3⟩:=c6 m rfl;have ye:m≠0:=aj;refine .at (x:=.sl id 0 0 (aa m) aD s) (V1:=(V.u7 j).setObj j (.row s af ab fr (.tr s .an))) hk fg hn rfl ⟨s,af,ab,fr,_,[],oj,nL,.inr ⟨id,cs,aD,mn,aa m,c1,c2,by simp,aw5 _,(λh=>(by cases h)),λc hc=>by cases hc;exact⟨f1,by omega,aw5 _⟩⟩⟩ ?_;simp[bQ,aA,ho,c3,LC,gd,ig,hu,bf,ret,ye]
def aeI{c:Call}(hJ:J Cx (ax P O) R X V.g V.l E G)(hn:O.length=V.n)(ho:o.op=.call c)(hc:c.callee=.builtin .cap)(hs:(i7 P d o V k).sat P C Q K O):dm Cx P C Q K O E V.ln k (bQ P E d o G):=by
 unfold i7 at hs;rw[ho]at hs;simp only[hc]at hs;have bJ:=i_ hJ d c.args.toList c.argTypes.toList;split at hs<;>try exact hs.elim
 rename_i s et hh hu;rw[hh]at bJ;obtain⟨x,hx,hr⟩:=xi bJ;obtain⟨_,h1⟩:=hr;simp only[if_true]at h1;refine .at (x:=.raw (.int .i64 0)) hs hJ hn rfl ⟨_,rfl,.raw _,rfl⟩ ?_;simp[bQ,aA,ho,hc,fk,hx,h1,YG,hu]
def Xv(hJ:J Cx (ax P O) R X V.g V.l E G)(hn:O.length=V.n)(hs:(i7 P d o V k).sat P C Q K O):dm Cx P C Q K O E V.ln k (bQ P E d o G):=by
 cases ho:o.op with
 |makeFunc f first cap=>
  cases f with
  |func f=>exact TS hJ hn ho hs
  |_=>unfold i7 at hs;rw[ho]at hs;exact hs.elim
 |makeMap t r=>exact Ws hJ hn ho hs
 |makeSlice t l c=>unfold i7 at hs;rw[ho]at hs;exact abQ hJ hn ho hs
 |mapUpdate t m key x=>exact Me hJ hn (.inl ho) hs
 |insert t m key x=>exact Me hJ hn (.inr ho) hs
 |lookup t m key ok=>exact ZM hJ hn ho hs
 |slice t x lo hi mx=>
  unfold i7 at hs;rw[ho]at hs;simp only at hs;split at hs
  .exact ZO hJ hn ho ‹_› hs
  split at hs
  .exact ZN hJ hn ho (aeE ‹_›) hs
  .exact abL hJ hn ho hs
 |index t x ix=>exact abM hJ hn ho hs
 |range t x=>exact abN hJ hn ho hs
 |next it str=>
  cases str with
  |true=>exact aeG hJ hn ho hs
  |false=>unfold i7 at hs;rw[ho]at hs;exact hs.elim
 |entry it=>exact abO hJ hn ho hs
 |call c=>
  cases hc:c.callee with
  |builtin b=>
   cases b with
   |cap=>exact aeI hJ hn ho hc hs
   |max=>unfold i7 at hs;rw[ho]at hs;simp only[hc]at hs;exact akI hJ hn ho hc hs
   |_=>unfold i7 at hs;rw[ho]at hs;simp only[hc]at hs;exact hs.elim
  |_=>unfold i7 at hs;rw[ho]at hs;simp only[hc]at hs;exact hs.elim
 |_=>unfold i7 at hs;rw[ho]at hs;exact hs.elim
def aio(hJ:J Cx (ax P O) R X V.g V.l E G)(hn:O.length=V.n){op:BinOp}{t yt:TypeId}{x y:Operand}(ho:o.op=.binOp op t x y yt)(hs:(gH P d o V k).sat P C Q K O):dm Cx P C Q K O E V.ln k (bQ P E d o G):=by
 unfold gH at hs;rw[ho]at hs;simp only at hs;have hx:=bw hJ d t x;have hy:=bw hJ d t y
 have rdv:∀{xv:IV} {a:SE},VR (ax P O) R X V.l G xv (.one (.v a))->∀z,a.den P O=aa z->bx ab R G xv z:=by
  intro xv a ⟨u,h1,h2,_⟩ z hz;have dh:a.den P O=aa u:=h1;rw[hz]at dh;cases dh;exact h2.mono hJ.B_
 have rdw:∀{xv:IV} {f:Bool} {a:SE},VR (ax P O) R X V.l G xv (.one (.w f a))->∀z,a.den P O=aa z->bx ab R G xv z:=by
  intro xv f a ⟨u,h1,h2,_⟩ z hz;have dh:a.den P O=aa u:=h1;rw[hz]at dh;cases dh;exact h2.cG
 split at hs
 .rename_i cs ds wE uY;rw[wE]at hx;rw[uY]at hy;split at hs
  .rename_i f1 a V1 f2 b V2 h1 h2;obtain⟨R1,a1,a2,_,a3⟩:=Ap hJ h1;obtain⟨R2,b1,b2,_,b3⟩:=Ap hJ h2;obtain⟨xs,wB,sG⟩:=hx;obtain⟨ys,yp,vB⟩:=hy;obtain⟨us,c1,c2,_⟩:=a3 xs sG;obtain⟨vs,d1,d2,_⟩:=b3 ys vB;obtain⟨⟨z,hz⟩,hk⟩:=hs;obtain⟨h3,h4⟩:=rC hz;simp only[SE.den,gy c1,gy d1,awc]at h3;have ha:bx f1 R1 G (aB (E d) x) (.agg us):=by rw[wB];exact .agg xs us c2.len λi c e h1 h2=>c2.get h1 h2
   have hb:bx f2 R2 G (aB (E d) y) (.agg vs):=by rw[yp];exact .agg ys vs d2.len λi c e h1 h2=>d2.get h1 h2
   have h6:sZ P op t x y (aB (E d) x) (aB (E d) y)=aa z:=by
    unfold dc at h3;split at h3
    .cases h3
    .rename_i u v bg hu hv;rw[E_ ha hu,E_ hb hv,TI (x':=.func 0) (y':=.func 0) hu hv (λhc=>bg hc)];exact h3
    .cases h3
   exact .at (x:=z) hk hJ hn rfl ⟨z,hz,TK h6,h4⟩ (by simp[bQ,aA,ho,h6,ret])
  .exact hs.elim
 .rename_i a b wE uY;rw[wE]at hx;rw[uY]at hy;exact L_ hJ hn ho (rdv hx) (rdv hy) hs
 .rename_i f a b wE uY;rw[wE]at hx;rw[uY]at hy;exact L_ hJ hn ho (rdw hx) (rdv hy) hs
 .rename_i a f b wE uY;rw[wE]at hx;rw[uY]at hy;exact L_ hJ hn ho (rdv hx) (rdw hy) hs
 .rename_i f a g b wE uY;rw[wE]at hx;rw[uY]at hy;exact L_ hJ hn ho (rdw hx) (rdw hy) hs
 .exact hs.elim
def abR(hJ:J Cx (ax P O) R X V.g V.l E G)(hn:O.length=V.n)(hs:(gH P d o V k).sat P C Q K O):dm Cx P C Q K O E V.ln k (bQ P E d o G):=by
 cases ho:o.op with
 |move x=>exact abA hJ hn (.inl ho) hs
 |assign x=>exact abA hJ hn (.inr ho) hs
 |pick c a b=>exact ael hJ hn ho hs
 |alloc t=>exact abB hJ hn ho hs
 |box t x=>exact aij hJ hn ho hs
 |load t a=>exact aeo hJ hn ho hs
 |store t a x=>exact abC hJ hn ho hs
 |nilCheck x=>exact TE hJ hn ho hs
 |binOp op t x y yt=>exact aio hJ hn ho hs
 |unOp op t x=>exact aky hJ hn ho hs
 |convert a b x=>exact akz hJ hn ho hs
 |build t p=>exact abK hJ hn ho hs
 |buildSlice t l p=>exact N8 hJ hn ho hs
 |fieldAddr s x f=>exact Ri hJ hn ho hs
 |field t x f=>exact abG hJ hn ho hs
 |indexAddr t x i=>exact Rj hJ hn ho hs
 |extract x i=>exact Wr hJ hn ho hs
 |call c=>
  cases hc:c.callee with
  |builtin b=>
   by_cases hl:b=.len
   .subst hl;exact aim hJ hn ho hc hs
   .by_cases ha:b=.append
    .subst ha;exact ZK hJ hn ho hc hs
    .unfold gH at hs;rw[ho]at hs;simp only[hc]at hs;split at hs<;>first|exact absurd rfl hl|exact absurd rfl ha|exact hs.elim|exact Xv hJ hn hs
  |value f=>unfold gH at hs;rw[ho]at hs;simp only[hc]at hs;exact hs.elim
  |invoke x n=>unfold gH at hs;rw[ho]at hs;simp only[hc]at hs;exact hs.elim
 |_=>unfold gH at hs;rw[ho]at hs;exact Xv hJ hn hs
end
end Go.Ev
namespace Go.Ev
variable{P:Program}{N:Nat}{G au:St}{Z:Io}{w:World}
namespace T
variable{α:Type}
def of(f:Nat->Option α):Nat->T α
 |0=>.lf
 |n+1=>match f n with
  |some x=>(of f n).set n x
  |none=>of f n
theorem IS(f:Nat->Option α):∀n,(of f n).WF
 |0=>WF.lf
 |n+1=>by
  unfold of;split
  .exact(IS f n).set _ _
  .exact IS f n
theorem Mh(f:Nat->Option α):∀(n i:Nat),(of f n).get i=if i<n then f i else ah
 |0,i=>by simp[of,get]
 |n+1,i=>by
  unfold of;split
  .rename_i x hx;rw[gX];split
   .rename_i h;subst h;rw[if_pos aj,hx]
   .rw[Mh f n i];by_cases h:i<n
    .rw[if_pos h,if_pos aj]
    .rw[if_neg h,if_neg aj]
  .rename_i hx;rw[Mh f n i];by_cases h:i<n
   .rw[if_pos h,if_pos aj]
   .rw[if_neg h];by_cases h2:i=n
    .subst h2;rw[if_pos aj,hx]
    .rw[if_neg aj]
end T
def St.only(G:St)(dp:Nat->Bool):St:=⟨G.n,T.of (λi=>if dp i then G.at i else ah) G.n⟩
def Oe(dp:Nat->Bool)(Kc:∀id,G.n<=id->G.at id=ah)(i:Nat):(G.only dp).at i=if dp i then G.at i else ah:=by
 unfold St.only St.at;simp only[T.Mh];split
 .rfl
 .rename_i h;have:=Kc i aj;unfold St.at at this;rw[this];simp
def St.back(G av:St)(dp:Nat->Bool):St:=⟨av.n,T.of (λi=>if i<G.n/\dp i=af then G.at i else av.at i) av.n⟩
def Of{av:St}(dp:Nat->Bool)(hn:G.n<=av.n)(Kc:∀id,av.n<=id->av.at id=ah)(i:Nat):(G.back av dp).at i=if i<G.n/\dp i=af then G.at i else av.at i:=by
 unfold St.back St.at;simp only[T.Mh];split
 .rfl
 .rename_i h;rw[if_neg aj];have:=Kc i aj;unfold St.at at this;rw[this]
theorem eY.frame{f:FuncId}{args:List IV}{RW:IV->St->Prop}(dp:Nat->Bool)(Kc:∀id,G.n<=id->G.at id=ah)(h:eY P N f args (G.only dp) RW):
 eY P N f args G (λv au=>∃av,RW v av/\au=G.back av dp/\G.n<=av.n/\(∀id,av.n<=id->av.at id=ah)/\∀id,id<G.n->dp id=af->av.at id=ah):=by
 intro Z us w hi hr;have aM:=Oe dp Kc
 have G9:Inv N Z (G.only dp) w:=by
  refine⟨hi.mem,hi.sep,hi.gE,hi.fresh,hi.inj,λid o ho=>?_,λid hid=>?_⟩
  .rw[aM]at ho;split at ho
   .exact hi.obj id o ho
   .cases ho
  .rw[aM];split
   .exact hi.wf id hid
   .rfl
 refine(h Z us w G9 hr).mono λed w' hR=>?_;obtain⟨v,av,vC,hR⟩:=hR;cases ed with
 |returned u=>
  obtain⟨aK,h1,h2,h3⟩:=hR;have hn:G.n<=av.n:=h3.yO
  have Ff:∀id,id<G.n->dp id=af->av.at id=ah:=λid hid hv=>by
   refine h3.dead id ?_ (.inl hid);rw[aM,hv];simp
  have A6:=Of (G:=G) (av:=av) dp hn h2.wf;refine⟨v,G.back av dp,⟨av,vC,rfl,hn,h2.wf,Ff⟩,aK,h1,⟨h2.mem,h2.sep,h2.gE,h2.fresh,h2.inj,λid o ho=>?_,λid hid=>?_⟩,?_⟩
  .rw[A6]at ho;split at ho
   .rename_i hc;refine(hi.obj id o ho).vj h3.ext (h3.Bz id (by rw[aM,hc.2];simp) (.inl hc.1)) λb hb=>h3.frame b (hi.gE id b hb) λbt sH=>.inr ?_;have:=hi.inj id bt b hb sH;subst this;rw[aM,hc.2];simp
   .exact h2.obj id o ho
  .rw[A6];have h_:av.n<=id:=hid;rw[if_neg aj];exact h2.wf id h_
  .refine⟨h3.ext,h3.own,λid hid hr=>h3.Bz id (by rw[aM,hid];simp) hr,λid hid hr=>?_,λid hr=>absurd hr (Nat.not_lt_zero _),hn,h3.os,h3.tape,h3.output,h3.size,λb hb hc=>h3.frame b hb λid ho=>?_,h3.yP⟩
   .rw[A6];split
    .exact hid
    .exact h3.dead id (by rw[aM,hid];simp) hr
   .rcases hc id ho with h|h
    .exact .inl h
    .exact .inr (by rw[aM,h];simp)
 |outgrown=>exact hR.elim
 |panicked chain=>exact hR.elim
end Go.Ev
namespace Go.Ev
section
variable{Cx:Cs}
variable{P:Program}{N:Nat}{G au:St}{R R':Rs}{X aU:Ph}{E:Nat->Env}{O:List IV}{L:List (LO SE)}{Γ:Gm SE}
abbrev ZP(s:Nat)(es:List IV)(R:Rs)(X:Ph)(E:Nat->Env)(G:St):Prop:=J (α:=Unit) [] (λ_=>aa (.tree s es)) R X [] [.row s af af af ()] E G
abbrev ZQ(s:Nat)(es:List IV)(R:Rs)(X:Ph)(G:St)(x:IV):Prop:=cR (α:=Unit) (λ_=>aa (.tree s es)) R X [.row s af af af ()] G x (.sr 0)
def Fg(P:Program)(s:Nat)(f:FuncId)(es:List IV)(xs:List IV)(aT:List IV):Prop:=
 ∀R X E G x args,ZP s es R X E G->ZQ s es R X G x->All2 jJ args xs->∀KW:Nat->IV->St->Prop,(∀R' aU au v,ZP s aT R' aU E au->ZQ s aT R' aU au v->∃b,∀N,b<=N->KW N v au)->
  ∃b,∀N,b<=N->eY P N f (x::args) G (KW N)
def bx.move{fr:Bool}{x y:IV}(hm:∀i ob,G.at i=aa ob->au.at i=aa ob/\R' i=R i)(h:bx fr R G x y):bx fr R' au x y:=by
 induction h with
 |raw v=>exact .raw v
 |nil s hs=>exact .nil s hs
 |emp s hs=>exact .emp s hs
 |dK t x y _ ih=>exact .dK t x y ih
 |agg cs ds hl _ ih=>exact .agg cs ds hl ih
 |aF cs ds hl _ ih=>exact .aF cs ds hl ih
 |pure x hf hp=>exact .pure x hf hp
 |sl id off len cap ep s m cs aD mn es hR aM h1 h2 hs hl hb SK bD _ ih=>
  obtain⟨g1,g2⟩:=hm id _ aM;exact .sl id off len cap ep s m cs aD mn es (by rw[g2];exact hR) g1 h1 h2 hs hl hb SK bD ih
def abS{k s:Nat}{f:FuncId}{fr:Bool}{z z':SE}{es aT xs args:List IV}{x:IV}(h:J Cx (ax P O) R X Γ L E G)(hk:L[k]?=aa (.row s af af fr z))(hz:z.den P O=aa (.tree s es))(rB:z'.den P O=aa (.tree s aT))
 (jM:∀e∈es,∀c∈cellsOf e,aN c=ab)(hx:cR (ax P O) R X L G x (.sr k))(bJ:All2 jJ args xs)
 (P7:∀d t pv,ct d t Γ=aa pv->pv.ok (·=k))(hL:∀j o,L[j]?=aa o->j≠k->o.ok (·=k))(hr:Fg P s f es xs aT)
 (KW:Nat->IV->St->Prop)(T0:∀R' aU au v,J Cx (ax P O) R' aU Γ (L.set k (.row s af af af z')) E au->cR (ax P O) R' aU (L.set k (.row s af af af z')) au v (.sr k)->∃b,∀N,b<=N->KW N v au):
 ∃b,∀N,b<=N->eY P N f (x::args) G (KW N):=by
 obtain⟨cj,lg,g1,g2,g3⟩:=h.obj k _ hk;have rA:z.den P O=aa (.tree s lg):=g1;rw[hz]at rA;cases rA;have eX:=c7 hk
 let dp:Nat->Bool:=λi=>match X k with
  |some id=>Nat.beq i id
  |none=>af
 have HA:∀i,dp i=ab↔X k=aa i:=λi=>by
  simp only[dp];cases X k with
  |none=>simp
  |some id=>simp only[awV,awf];exact eq_comm
 have aM:=Oe dp h.top
 have aov:∀d∈flat es,aN d=ab:=λd hd=>by
  obtain⟨e,he,hc⟩:=axq.1 hd;exact jM e he d hc
 have mh:ZP s es (λ_=>ah) (λj=>if j=0 then X k else ah) E (G.only dp):=by
  refine⟨λd t pv hg=>(by cases hg),λj ob hj=>?_,λj j' id h1 h2=>?_,λj id hj=>?_,λid m hm=>(by cases hm),λid m cs aD mn hm=>(by cases hm),T.IS _ _,λid hid=>?_⟩
  .cases j with
   |succ j=>simp at hj
   |zero=>
    simp at hj;subst hj;refine⟨cj,es,rfl,g2,?_⟩;rcases g3 with⟨a,b⟩|⟨id,cs,aD,mn,a1,a2,a3,a4,a5,a6,a7⟩
    .exact .inl ⟨by simp[a],b⟩
    .refine .inr ⟨id,cs,aD,mn,by simp[a1],?_,a3,a4,rfl,a6,λj u v hu hv=>?_⟩
     .rw[aM,(HA id).2 a1];simpa using a2
     .have hd:=aov v (awq hv);have:=a7 j u v hu hv;cases v<;>simp only[aN]at hd<;>try (cases hd;done)
      rw[cA this];exact .raw _
  .split at h1<;>try (cases h1;done)
   split at h2<;>try (cases h2;done)
   omega
  .split at hj<;>try (cases hj;done)
   rename_i hj0;subst hj0;exact⟨by simp,(h.lt k id hj).2⟩
  .rw[aM];split
   .exact h.top id hid
   .rfl
 have hX0:ZQ s es (λ_=>ah) (λj=>if j=0 then X k else ah) (G.only dp) x:=by
  obtain⟨s1,m5,xh,wK,z1,gu,b1,b2,b3⟩:=hx;rw[hk]at b1;cases b1;have wM:z.den P O=aa (.tree s gu):=b2;rw[hz]at wM;cases wM;refine⟨s,af,af,af,(),es,rfl,rfl,?_⟩;rcases b3 with⟨c1,c2,c3⟩|⟨id,cs,aD,mn,cap,c1,c2,c3,c4,c5,c6⟩
  .exact .inl ⟨by simp[c1],c2,c3⟩
  .exact .inr ⟨id,cs,aD,mn,cap,by simp[c1],by rw[aM,(HA id).2 c1];simpa using c2,c3,c4,c5,c6⟩
 suffices ZR:∀R1 eg av v,ZP s aT R1 eg E av->ZQ s aT R1 eg av v->G.n<=av.n->(∀id,id<G.n->dp id=af->av.at id=ah)->∃b,∀N,b<=N->KW N v (G.back av dp) by
  obtain⟨b,hb⟩:=hr _ _ _ _ x args mh hX0 bJ (λN v av=>G.n<=av.n->(∀id,id<G.n->dp id=af->av.at id=ah)->KW N v (G.back av dp)) λR1 eg av v h1 h2=>by
   by_cases hc:G.n<=av.n/\∀id,id<G.n->dp id=af->av.at id=ah
   .obtain⟨b,hb⟩:=ZR R1 eg av v h1 h2 hc.1 hc.2;exact⟨b,λN hN _ _=>hb N hN⟩
   .exact⟨0,λN _ h3 h4=>absurd ⟨h3,h4⟩ hc⟩
  refine⟨b,λN hN Z us w hi qu=>((hb N hN).frame dp h.top Z us w hi qu).mono λed w' hR=>?_⟩;obtain⟨v,au,⟨av,jl,rfl,hle,_,Ff⟩,aeJ⟩:=hR;exact⟨v,G.back av dp,jl hle Ff,aeJ⟩
 intro R1 eg av v bH hX1 hle Ff;have Mi:=bH.top;have A6:=Of (G:=G) (av:=av) dp hle Mi;have hold:∀id,id<G.n->dp id=af->(G.back av dp).at id=G.at id:=λid h1 h2=>by rw[A6,if_pos ⟨h1,h2⟩]
 have gk:∀id ob,av.at id=aa ob->¬(id<G.n/\dp id=af):=λid ob ho hc=>by rw[Ff id hc.1 hc.2]at ho;cases ho
 have Mj:∀id ob,av.at id=aa ob->(G.back av dp).at id=aa ob:=λid ob ho=>by rw[A6,if_neg (gk id ob ho)];exact ho
 let R2:Rs:=λi=>if i<G.n/\dp i=af then R i else R1 i
 let B9:Ph:=λi=>if i=k then eg 0 else X i
 have hRk:∀id,X k=aa id->R id=ah:=λid hid=>by
  rcases g3 with⟨a,_⟩|⟨bt,cs,aD,mn,a1,_,_,_,a5,_⟩
  .rw[hid]at a;cases a
  .rw[hid]at a1;cases a1;simpa using a5
 have A7:∀id m,R id=aa m->id<G.n/\dp id=af:=λid m hm=>by
  refine⟨h.qz id m hm,?_⟩;cases hv:dp id with
  |false=>rfl
  |true=>rw[hRk id ((HA id).1 hv)]at hm;cases hm
 have uj:∀j id,j≠k->X j=aa id->id<G.n/\dp id=af:=λj id hj hid=>by
  refine⟨(h.lt j id hid).2,?_⟩;cases hv:dp id with
  |false=>rfl
  |true=>exact absurd (h.inj j k id hid ((HA id).1 hv)) hj
 have zF:∀id m cs aD mn,R2 id=aa m->(G.back av dp).at id=aa (.cells cs aD mn)->m<=cs.length:=λid m cs aD mn hm ha=>by
  simp only[R2]at hm;rw[A6]at ha;split at hm
  .rename_i hc;rw[if_pos hc]at ha;exact h.fits id m cs aD mn hm ha
  .rename_i hc;rw[if_neg hc]at ha;exact bH.fits id m cs aD mn hm ha
 have r8:iZ R G R2 (G.back av dp):=by
  refine⟨λid m hm=>⟨m,by simp only[R2];rw[if_pos (A7 id m hm)];exact hm,awe _⟩,λid m cs aD mn hm ha=>⟨cs,aD,?_,awe _,λ_ _=>rfl⟩,zF⟩;rw[hold id (A7 id m hm).1 (A7 id m hm).2];exact ha
 have bg:∀j,j≠k->(L.set k (.row s af af af z'))[j]?=L[j]? :=λj hj=>ayo (λhc=>hj hc.symm);have bE:(L.set k (.row s af af af z'))[k]?=aa (.row s af af af z'):=by simp[eX]
 have Dj:∀j,j≠k->B9 j=X j:=λj hj=>by simp only[B9];rw[if_neg hj]
 have uE:B9 k=eg 0:=by simp[B9]
 have hs:kL (ax P O) (ax P O) R X L G R2 B9 (L.set k (.row s af af af z')) (G.back av dp) (·=k):=by
  refine⟨λ_ _ h=>h,r8,λj cs hj=>?_,λj kt gu hj=>?_,λj s1 m5 xh wK z1 hj hb=>?_,λj c m5 snap hj=>?_⟩
  .have bz:j≠k:=λhc=>by subst hc;rw[hk]at hj;cases hj
   exact⟨⟨cs,by rw[bg j bz];exact hj⟩,Dj j bz⟩
  .have bz:j≠k:=λhc=>by subst hc;rw[hk]at hj;cases hj
   exact⟨⟨gu,by rw[bg j bz];exact hj⟩,Dj j bz⟩
  .exact⟨⟨m5,wK,z1,by rw[bg j hb];exact hj,λe he=>⟨e,he,rfl⟩⟩,Dj j hb,λid cs aD mn hid ha=>⟨cs,mn,by rw[hold id (uj j id hb hid).1 (uj j id hb hid).2];exact ha,rfl,λh=>h⟩⟩
  .have bz:j≠k:=λhc=>by subst hc;rw[hk]at hj;cases hj
   exact⟨⟨c,m5,snap,by rw[bg j bz];exact hj⟩,Dj j bz⟩
 obtain⟨fq,TN,k1,k2,k3⟩:=bH.obj 0 _ rfl;have Ca:aa (IV.tree s aT)=aa (.tree s TN):=k1;cases Ca
 have Og:∀id,eg 0=aa id->∃ob,av.at id=aa ob:=λid hid=>by
  rcases k3 with⟨a,_⟩|⟨bt,cs,aD,mn,a1,a2,_⟩
  .rw[hid]at a;cases a
  .rw[hid]at a1;cases a1;exact⟨_,a2⟩
 refine T0 R2 B9 (G.back av dp) v ⟨λd t pv hg=>(h.slot d t pv hg).step hs (P7 d t pv hg),λj ob hj=>?_,λj j' id h1 h2=>?_,λj id hj=>?_,λid m hm=>?_,zF,T.IS _ _,λid hid=>?_⟩ ?_
 .by_cases bz:j=k
  .subst bz;rw[bE]at hj;cases hj;refine⟨fq,aT,rB,k2,?_⟩;rcases k3 with⟨a,b⟩|⟨id,cs,aD,mn,a1,a2,a3,a4,a5,a6,a7⟩
   .exact .inl ⟨by rw[uE];exact a,b⟩
   .refine .inr ⟨id,cs,aD,mn,by rw[uE];exact a1,Mj id _ a2,a3,a4,?_,a6,λq u v hu hv=>?_⟩
    .simp only[R2];rw[if_neg (gk id _ a2)];exact a5
    .refine(a7 q u v hu hv).move λi ob ho=>⟨Mj i ob ho,?_⟩;simp only[R2];rw[if_neg (gk i ob ho)]
  .rw[bg j bz]at hj;exact(h.obj j ob hj).step hs (Dj j bz) (λid hid=>⟨hold id (uj j id bz hid).1 (uj j id bz hid).2,by simp only[R2];rw[if_pos (uj j id bz hid)]⟩) (hL j ob hj bz)
 .by_cases hj:j=k
  .by_cases nW:j'=k
   .rw[hj,nW]
   .exfalso;rw[hj,uE]at h1;rw[Dj j' nW]at h2;obtain⟨ob,ho⟩:=Og id h1;exact gk id ob ho (uj j' id nW h2)
  .by_cases nW:j'=k
   .exfalso;rw[nW,uE]at h2;rw[Dj j hj]at h1;obtain⟨ob,ho⟩:=Og id h2;exact gk id ob ho (uj j id hj h1)
   .rw[Dj j hj]at h1;rw[Dj j' nW]at h2;exact h.inj j j' id h1 h2
 .by_cases bz:j=k
  .subst bz;rw[uE]at hj;exact⟨by simpa using eX,(bH.lt 0 id hj).2⟩
  .rw[Dj j bz]at hj;have:=h.lt j id hj;exact⟨by simpa using this.1,axV this.2 hle⟩
 .simp only[R2]at hm;split at hm
  .exact axV (h.qz id m hm) hle
  .exact bH.qz id m hm
 .have h_:av.n<=id:=hid;rw[A6,if_neg aj];exact Mi id h_
 .obtain⟨s1,m5,xh,wK,z1,gu,b1,b2,b3⟩:=hX1;have zr:aa (LO.row s af af af ())=aa (.row s1 m5 xh wK z1):=b1;cases zr;have wM:aa (IV.tree s aT)=aa (.tree s gu):=b2;cases wM;refine⟨s,af,af,af,z',aT,bE,rB,?_⟩;rcases b3 with⟨c1,c2,c3⟩|⟨id,cs,aD,mn,cap,c1,c2,c3,c4,c5,c6⟩
  .exact .inl ⟨by rw[uE];exact c1,c2,c3⟩
  .exact .inr ⟨id,cs,aD,mn,cap,by rw[uE];exact c1,Mj id _ c2,c3,c4,c5,c6⟩
abbrev ZS(ins:List (List IV)):List (LO IV):=ins.map λcs=>.var (cs.map .v)
abbrev RG(ins:List (List IV))(R:Rs)(X:Ph)(E:Nat->Env)(G:St):Prop:=J (α:=IV) [] aa R X [] (ZS ins) E G
def HB(X:Ph)(ins:List (List IV))(ps:List IV):Prop:=
 ps.length=ins.length/\∀i cs p,ins[i]?=aa cs->ps[i]?=aa p->∃id,X i=aa id/\p=.ptr id 0 0 cs.length
def Fh(P:Program)(f:FuncId)(ins:List (List IV))(xs:List IV)(outs:List (List IV))(z:IV):Prop:=
 ∀R X E G ps args,RG ins R X E G->HB X ins ps->All2 jJ args xs->∀KW:Nat->IV->St->Prop,
  (∀R' aU au v,RG outs R' aU E au->HB aU outs ps->jJ v z->∃b,∀N,b<=N->KW N v au)->∃b,∀N,b<=N->eY P N f (ps++args) G (KW N)
def As{α:Type}(ev:α->Option IV)(ds:List (Cl α))(cs:List IV):Prop:=All2 (λ(c:Cl α) u=>∃e,c=.v e/\ev e=aa u) ds cs
def aip{α:Type}{ev:α->Option IV}{Γ:Gm α}{L:List (LO α)}(h:J Cx ev R X Γ L E G){k:Nat}{ds:List (Cl α)}{cs:List IV}(hk:L[k]?=aa (.var ds))(hc:As ev ds cs):
 ∃id cS,X k=aa id/\R id=ah/\G.at id=aa (.cells cS 0 0)/\cS.length=cs.length/\∀(j:Nat) x u,cS[j]?=aa x->cs[j]?=aa u->jJ x u/\ao u=ab:=by
 obtain⟨id,cS,h1,h2,h3,h4⟩:=h.obj k _ hk;refine⟨id,cS,h1,h2,h3,by rw[h4.len,hc.len],λj x u hx hu=>?_⟩;have hj:j<ds.length:=by rw[hc.len];exact(awa.1 hu).1
 obtain⟨e,he,Gr⟩:=hc.get (av_ hj) hu;have:=h4.get hx (av_ hj);rw[he]at this;obtain⟨y,y1,y2,y3⟩:=this;rw[Gr]at y1;cases y1;exact⟨y2,y3⟩
theorem getElem?_inj{ks:List Nat}(ku:ks.Nodup){i i' k:Nat}(h1:ks[i]?=aa k)(h2:ks[i']?=aa k):i=i':=by
 exact(List.getElem?_inj (awa.1 h1).1 ku).1 (h1.trans h2.symm)
def ZT{α:Type}{ev jj:α->Option IV}{Γ:Gm α}{L L':List (LO α)}(W1:∀e z,ev e=aa z->jj e=aa z)(h:J Cx ev R X Γ L E G){ks:List Nat}(ku:ks.Nodup)
 {ins outs:List (List IV)}{f:FuncId}{xs ps args:List IV}{z:IV}(dz:ks.length=ins.length)(qY:∀(i k:Nat) (cs:List IV),ks[i]?=aa k->ins[i]?=aa cs->∃ds:List (Cl α),L[k]?=aa (LO.var ds)/\As ev ds cs)
 (nY:HB (λi=>(ks[i]?).bind X) ins ps)(bJ:All2 jJ args xs)(hr:Fh P f ins xs outs z)(ho:outs.length=ins.length)(hlL:L'.length=L.length)
 (hLo:∀j,j∉ks->L'[j]?=L[j]?)(hLk:∀(i k:Nat) (cs:List IV),ks[i]?=aa k->outs[i]?=aa cs->∃ds:List (Cl α),L'[k]?=aa (LO.var ds)/\As jj ds cs)
 (KW:Nat->IV->St->Prop)(T0:∀R' au v,J Cx jj R' X Γ L' E au->jJ v z->∃b,∀N,b<=N->KW N v au):
 ∃b,∀N,b<=N->eY P N f (ps++args) G (KW N):=by
 let dp:Nat->Bool:=λi=>ks.any λk=>match X k with
  |some id=>Nat.beq i id
  |none=>af
 have HA:∀i,dp i=ab↔∃k∈ks,X k=aa i:=λi=>by
  simp only[dp,List.any_eq_true];constructor
  .rintro⟨k,hk,hh⟩;refine⟨k,hk,?_⟩;split at hh
   .rename_i id hid;rw[hid,awk hh]
   .cases hh
  .rintro⟨k,hk,hh⟩;exact⟨k,hk,by rw[hh];simp⟩
 have aM:=Oe dp h.top
 let φ0:Ph:=λi=>(ks[i]?).bind X
 have aeK:∀i id,φ0 i=aa id->∃k,ks[i]?=aa k/\X k=aa id:=λi id hi=>by
  simp only[φ0]at hi;exact awx.1 hi
 have Y2:∀(i:Nat) (cs:List IV),ins[i]?=aa cs->∃(k id:Nat) (cS:List IV),ks[i]?=aa k/\X k=aa id/\R id=ah/\G.at id=aa (.cells cS 0 0)/\cS.length=cs.length/\∀(j:Nat) x u,cS[j]?=aa x->cs[j]?=aa u->jJ x u/\ao u=ab:=λi cs hi=>by
  have cw:i<ks.length:=by rw[dz];exact(awa.1 hi).1
  have hk:=av_ cw;obtain⟨ds,d1,d2⟩:=qY i _ cs hk hi;obtain⟨id,cS,a⟩:=aip h d1 d2;exact⟨_,id,cS,hk,a⟩
 have mh:RG ins (λ_=>ah) φ0 E (G.only dp):=by
  refine⟨λd t pv hg=>(by cases hg),λj ob hj=>?_,λj j' id h1 h2=>?_,λj id hj=>?_,λid m hm=>(by cases hm),λid m cs aD mn hm=>(by cases hm),T.IS _ _,λid hid=>?_⟩
  .rw[awu]at hj;obtain⟨cs,bD,rfl⟩:=awj.1 hj;obtain⟨k,id,cS,k1,k2,k3,k4,k5,k6⟩:=Y2 j cs bD;refine⟨id,cS,by simp[φ0,k1,k2],rfl,?_,.mk (by simp[k5]) λq x c hx hc=>?_⟩
   .rw[aM,(HA id).2 ⟨k,awq k1,k2⟩];simpa using k4
   .rw[awu]at hc;obtain⟨u,hu,rfl⟩:=awj.1 hc;obtain⟨c1,c2⟩:=k6 q x u hx hu;exact⟨u,rfl,c1,c2⟩
  .obtain⟨k,k1,k2⟩:=aeK j id h1;obtain⟨k',Ca,k2'⟩:=aeK j' id h2;have:=h.inj k k' id k2 k2';subst this;exact getElem?_inj ku k1 Ca
  .obtain⟨k,k1,k2⟩:=aeK j id hj;refine⟨?_,(h.lt k id k2).2⟩;have:=(awa.1 k1).1;simp;omega
  .rw[aM];split
   .exact h.top id hid
   .rfl
 suffices ZR:∀R1 eg av v,RG outs R1 eg E av->HB eg outs ps->jJ v z->G.n<=av.n->(∀id,id<G.n->dp id=af->av.at id=ah)->∃b,∀N,b<=N->KW N v (G.back av dp) by
  obtain⟨b,hb⟩:=hr _ _ _ _ ps args mh nY bJ (λN v av=>G.n<=av.n->(∀id,id<G.n->dp id=af->av.at id=ah)->KW N v (G.back av dp)) λR1 eg av v h1 h2 h3=>by
   by_cases hc:G.n<=av.n/\∀id,id<G.n->dp id=af->av.at id=ah
   .obtain⟨b,hb⟩:=ZR R1 eg av v h1 h2 h3 hc.1 hc.2;exact⟨b,λN hN _ _=>hb N hN⟩
   .exact⟨0,λN _ h3 h4=>absurd ⟨h3,h4⟩ hc⟩
  refine⟨b,λN hN Z us w hi qu=>((hb N hN).frame dp h.top Z us w hi qu).mono λed w' hR=>?_⟩;obtain⟨v,au,⟨av,jl,rfl,hle,_,Ff⟩,aeJ⟩:=hR;exact⟨v,G.back av dp,jl hle Ff,aeJ⟩
 intro R1 eg av v bH hP1 hv hle Ff;have Mi:=bH.top;have A6:=Of (G:=G) (av:=av) dp hle Mi;have hold:∀id,id<G.n->dp id=af->(G.back av dp).at id=G.at id:=λid h1 h2=>by rw[A6,if_pos ⟨h1,h2⟩]
 have gk:∀id ob,av.at id=aa ob->¬(id<G.n/\dp id=af):=λid ob ho hc=>by rw[Ff id hc.1 hc.2]at ho;cases ho
 have Mj:∀id ob,av.at id=aa ob->(G.back av dp).at id=aa ob:=λid ob ho=>by rw[A6,if_neg (gk id ob ho)];exact ho
 let R2:Rs:=λi=>if i<G.n/\dp i=af then R i else R1 i
 have hRk:∀k id,k∈ks->X k=aa id->R id=ah:=λk id hk hid=>by
  obtain⟨i,hi⟩:=axG hk;have cw:i<ins.length:=by rw[<-dz];exact(awa.1 hi).1
  obtain⟨k',bt,cS,k1,k2,k3,_⟩:=Y2 i _ (av_ cw);rw[hi]at k1;cases k1;rw[hid]at k2;cases k2;exact k3
 have A7:∀id m,R id=aa m->id<G.n/\dp id=af:=λid m hm=>by
  refine⟨h.qz id m hm,?_⟩;cases hv:dp id with
  |false=>rfl
  |true=>
   obtain⟨k,hk,hid⟩:=(HA id).1 hv;rw[hRk k id hk hid]at hm;cases hm
 have uj:∀j id,j∉ks->X j=aa id->id<G.n/\dp id=af:=λj id hj hid=>by
  refine⟨(h.lt j id hid).2,?_⟩;cases hv:dp id with
  |false=>rfl
  |true=>
   obtain⟨k,hk,h_⟩:=(HA id).1 hv;exact absurd (h.inj j k id hid h_▸hk) hj
 have zF:∀id m cs aD mn,R2 id=aa m->(G.back av dp).at id=aa (.cells cs aD mn)->m<=cs.length:=λid m cs aD mn hm ha=>by
  simp only[R2]at hm;rw[A6]at ha;split at hm
  .rename_i hc;rw[if_pos hc]at ha;exact h.fits id m cs aD mn hm ha
  .rename_i hc;rw[if_neg hc]at ha;exact bH.fits id m cs aD mn hm ha
 have r8:iZ R G R2 (G.back av dp):=by
  refine⟨λid m hm=>⟨m,by simp only[R2];rw[if_pos (A7 id m hm)];exact hm,awe _⟩,λid m cs aD mn hm ha=>⟨cs,aD,?_,awe _,λ_ _=>rfl⟩,zF⟩;rw[hold id (A7 id m hm).1 (A7 id m hm).2];exact ha
 have agH:∀k,k∈ks->∃(i:Nat) (cs:List IV) (ds:List (Cl α)),ks[i]?=aa k/\outs[i]?=aa cs/\L'[k]?=aa (.var ds)/\As jj ds cs:=λk hk=>by
  obtain⟨i,hi⟩:=axG hk;have cw:i<outs.length:=by rw[ho,<-dz];exact(awa.1 hi).1
  obtain⟨ds,d1,d2⟩:=hLk i k _ hi (av_ cw);exact⟨i,_,ds,hi,av_ cw,d1,d2⟩
 have T1:∀k,k∈ks->∃ds:List (Cl α),L[k]?=aa (.var ds):=λk hk=>by
  obtain⟨i,hi⟩:=axG hk;have cw:i<ins.length:=by rw[<-dz];exact(awa.1 hi).1
  obtain⟨ds,d1,_⟩:=qY i k _ hi (av_ cw);exact⟨ds,d1⟩
 have hs:kL ev jj R X L G R2 X L' (G.back av dp) (λ_=>False):=by
  refine⟨W1,r8,λj cs hj=>?_,λj kt gu hj=>?_,λj s1 m5 xh wK z1 hj _=>?_,λj c m5 snap hj=>?_⟩
  .by_cases bz:j∈ks
   .obtain⟨_,_,ds,_,_,d1,_⟩:=agH j bz;exact⟨⟨ds,d1⟩,rfl⟩
   .exact⟨⟨cs,by rw[hLo j bz];exact hj⟩,rfl⟩
  .have bz:j∉ks:=λhc=>by obtain⟨ds,hd⟩:=T1 j hc;rw[hj]at hd;cases hd
   exact⟨⟨gu,by rw[hLo j bz];exact hj⟩,rfl⟩
  .have bz:j∉ks:=λhc=>by obtain⟨ds,hd⟩:=T1 j hc;rw[hj]at hd;cases hd
   exact⟨⟨m5,wK,z1,by rw[hLo j bz];exact hj,λe he=>⟨e,W1 _ _ he,rfl⟩⟩,rfl,λid cs aD mn hid ha=>⟨cs,mn,by rw[hold id (uj j id bz hid).1 (uj j id bz hid).2];exact ha,rfl,λh=>h⟩⟩
  .have bz:j∉ks:=λhc=>by obtain⟨ds,hd⟩:=T1 j hc;rw[hj]at hd;cases hd
   exact⟨⟨c,m5,snap,by rw[hLo j bz];exact hj⟩,rfl⟩
 refine T0 R2 (G.back av dp) v ⟨λd t pv hg=>(h.slot d t pv hg).step hs (PV.aZ _),λj ob hj=>?_,h.inj,λj id hj=>?_,λid m hm=>?_,zF,T.IS _ _,λid hid=>?_⟩ hv
 .by_cases bz:j∈ks
  .obtain⟨i,cs,ds,i1,i2,i3,i4⟩:=agH j bz;rw[i3]at hj;cases hj;have cw:i<ps.length:=by rw[hP1.1];exact(awa.1 i2).1
   obtain⟨id,p1,p2⟩:=hP1.2 i cs _ i2 (av_ cw);have JI:i<ins.length:=by rw[<-ho];exact(awa.1 i2).1
   obtain⟨sF,q1,q2⟩:=nY.2 i _ _ (av_ JI) (av_ cw);rw[p2]at q2;injection q2 with q2 _ _ _
   subst q2;have aeL:X j=aa id:=by simpa[i1]using q1
   have eK:(ZS outs)[i]?=aa (.var (cs.map .v)):=by rw[awu,i2];rfl
   obtain⟨bt,cS,o1,o2,o3,o4⟩:=bH.obj i _ eK;rw[p1]at o1;cases o1;refine⟨id,cS,aeL,?_,Mj id _ o3,.mk (by rw[o4.len,List.length_map,i4.len]) λq x c hx hc=>?_⟩
   .simp only[R2];rw[if_neg (gk id _ o3)];exact o2
   .have hq:q<cs.length:=by rw[<-i4.len];exact(awa.1 hc).1
    have hcq:(cs.map Cl.v)[q]?=aa (.v cs[q]):=by rw[awu,av_ hq];rfl
    obtain⟨y,y1,y2,y3⟩:=o4.get hx hcq;cases y1;obtain⟨e,rfl,he⟩:=i4.get hc (av_ hq);exact⟨_,he,y2,y3⟩
  .rw[hLo j bz]at hj;exact(h.obj j ob hj).step hs rfl (λid hid=>⟨hold id (uj j id bz hid).1 (uj j id bz hid).2,by simp only[R2];rw[if_pos (uj j id bz hid)]⟩) (LO.aZ _)
 .have:=h.lt j id hj;exact⟨by rw[hlL];exact this.1,axV this.2 hle⟩
 .simp only[R2]at hm;split at hm
  .exact axV (h.qz id m hm) hle
  .exact bH.qz id m hm
 .have h_:av.n<=id:=hid;rw[A6,if_neg aj];exact Mi id h_
variable{Z:Io}{w:World}{ro:Nat}
def ass(w:World)(s:Nat)(es:List IV)(u:Value)(w':World):Prop:=
 (w'.os=w.os/\w'.tape=w.tape/\w'.output=w.output/\w.heap.size<=w'.heap.size/\∀b,b<w.heap.size->w'.heap[b]?=w.heap[b]?)/\
 ((es=[]/\u=.slice ah 0 0)\/
  es≠[]/\∃b c el cap,w.heap.size<=b/\u=.slice (aa ⟨b,0,ah⟩) es.length cap/\w'.heap[b]?=aa (.cells c el (0,0))/\es.length<=cap/\cap*s<=c.size/\
   ∀(k:Nat) (x:IV),(flat es)[k]?=aa x->∃v,x=.raw v/\c[k]?=aa v)
def ast(w:World)(s:Nat)(es:List IV):Ending->World->Prop
 |.returned u,w'=>ass w s es u w'
 |_,_=>False
def qB(P:Program)(s:Nat)(f:FuncId)(xs:List IV)(es:List IV):Prop:=
 0<s/\(∀e∈es,(cellsOf e).length=s)/\(∀c∈flat es,(∃v,c=.raw v)/\ao c=ab)/\∀M w us,BO M w->aL (iY M) xs us->CallsIn Fence.wide 0 P f us.toArray w (ast w s es)
def D9(n s:Nat)(es:List IV):IV:=if es.isEmpty then .raw (.slice ah 0 0)else .sl n 0 es.length ah 0 s
def vQ(es:List IV):Ob:=.cells (flat es) 0 0
theorem yB{s:Nat}:∀{es:List IV},(∀e∈es,(cellsOf e).length=s)->(flat es).length=es.length*s
 |[],_=>by simp[flat]
 |e::es,h=>by
  have:=yB (es:=es) λe he=>h e (by simp[he]);have he:=h e ay;unfold flat at this⊢;rw[List.flatMap_cons,awi,this,he,awJ,awU];omega
def Inv.aow{w':World}{ob:Ob}{l:Loc}(h:Inv N Z G w)(hN:G.n<N)(bf:w.heap.size<=w'.heap.size)(hold:∀b,b<w.heap.size->w'.heap[b]?=w.heap[b]?)
 (yb:w'.os=w.os)(GJ:w'.tape=w.tape)(GK:w'.output=w.output)(hl:w.heap.size<=l.b)(gg:l.b<w'.heap.size)(eK:l8 (eJ Z G.n 0 l) w' G.n ob):
 Inv N (eJ Z G.n 0 l) (G.add ob) w'/\Le ro Z w G (eJ Z G.n 0 l) w' (G.add ob):=by
 have jT:=h.fresh G.n (awe _) hN;refine⟨h.change (sF:=G.n) (l9 (jT 0)) (λi hi e=>by simp[eJ,hi]) ?_ ?_ bf (λb hb _=>hold b hb) eK (λj=>by simp) ⟨by simp,by simp⟩ ?_,?_⟩
 .intro id b hb;rcases o7 hb with hb|⟨h1,h2⟩
  .exact .inl hb
  .exact .inr ⟨h1,by omega⟩
 .intro b hb;rcases o7 hb with hb|⟨h1,h2⟩
  .have:=h.gE _ _ hb;omega
  .omega
 .intro id hid ak e;simp only[St.o5]at hid;have:id≠G.n:=aj;simp[eJ,this,h.fresh id aj ak e]
 .refine⟨l9 (jT 0),?_,?_,?_,?_,by simp,yb,GJ,GK,bf,λb hb _=>hold b hb,λ_ _ h=>.inl h⟩
  .intro id b hb;rcases o7 hb with hb|⟨h1,h2⟩
   .exact .inl hb
   .exact .inr aj
  .intro id hn hr e;simp only[St.o5]at hr;have:id≠G.n:=aj;simp[eJ,this]
  .intro id hn hr;simp only[St.o5]at hr;have:id≠G.n:=aj;rw[St.iO,if_neg (λhc=>this hc.symm),hn]
  .intro id hr hn;rw[St.iO,if_neg aj]
def Inv.aiq{w':World}(h:Inv N Z G w)(bf:w.heap.size<=w'.heap.size)(hold:∀b,b<w.heap.size->w'.heap[b]?=w.heap[b]?)
 (yb:w'.os=w.os)(GJ:w'.tape=w.tape)(GK:w'.output=w.output):∃aK,(∀v u,Rv Z v u->Rv aK v u)/\Inv N aK G w'/\Le ro Z w G aK w' G:=by
 have hp:ND ab Z.m w (.raw (.int .i64 0)) (.int .i64 0) w':=⟨λ_=>ah,λ_ _ hb=>(by cases hb),λ_ _ hb=>(by cases hb),λhc=>(by cases hc),.raw _,yb,GJ,GK,bf,hold⟩;obtain⟨aK,h1,h2,h3⟩:=NG (ro:=ro) h (λhc=>by cases hc) hp;exact⟨aK,λv u hv=>hv.mono h3.ext,h2,h3⟩
def qB.call{s:Nat}{f:FuncId}{args xs es:List IV}(h:qB P s f xs es)(hr:∀N Z us w,Inv N Z G w->aL Z args us->∃M,BO M w/\aL (iY M) xs us):
 ly P ro f args G (D9 G.n s es) (if es.isEmpty then G else G.add (vQ es)):=by
 obtain⟨hs,bD,_,h⟩:=h;refine⟨by split<;>simp,λN hN Z us w hi qu=>?_⟩;obtain⟨M,hM,qt⟩:=hr N Z us w hi qu;refine(h M w us hM qt).mono λe w' hR=>?_;cases e with
 |panicked ch=>exact hR.elim
 |outgrown=>exact hR.elim
 |returned u=>
  obtain⟨⟨h1,h2,h3,h4,h5⟩,hu⟩:=hR;by_cases he:es.isEmpty
  .rw[if_pos he]at hN⊢;obtain⟨aK,g1,g2,g3⟩:=hi.aiq (ro:=ro) h4 h5 h1 h2 h3;refine⟨aK,?_,g2,g3⟩;unfold D9;rw[if_pos he];rcases hu with⟨_,rfl⟩|⟨a0,_⟩
   .exact .raw _
   .exact absurd (axT.1 he) a0
  .rw[if_neg he]at hN⊢;unfold D9;rw[if_neg he];rcases hu with⟨rfl,_⟩|⟨_,b,c,el,cap,a1,rfl,a3,a4,a5,a6⟩
   .simp at he
   .have hlen:=yB bD;have hle:es.length*s<=cap*s:=awL s a4
    have dv:b<w'.heap.size:=by
     rcases Nat.lt_or_ge b w'.heap.size with ak|Ax
     .exact ak
     .rw[Array.getElem?_eq_none Ax]at a3;cases a3
    have bE:=cE Z G.n 0 ⟨b,es.length*s,c.size⟩;have jT:∀e,Z G.n e=ah:=hi.fresh G.n (awe _) (by simp only[St.o5]at hN;omega)
    obtain⟨g1,g2⟩:=hi.aow (ro:=ro) (w':=w') (ob:=vQ es) (l:=⟨b,es.length*s,c.size⟩) (by simp only[St.o5]at hN;omega) h4 h5 h1 h2 h3 a1 dv (by
     refine⟨⟨awe _,λe he=>?_⟩,⟨_,bE,hlen.symm⟩,λe e1 e2=>?_⟩
     .have:e≠0:=aj;simp[eJ,this,jT]
     .have:e=0:=aj;subst this;refine⟨_,c,el,bE,by rw[hlen];exact awe _,a3,rfl,λk x hk hx=>?_⟩;obtain⟨v,rfl,hv⟩:=a6 k x hx;exact⟨v,hv,.raw _⟩)
    exact⟨_,.sl G.n 0 es.length ah 0 s ⟨b,es.length*s,c.size⟩ cap ⟨b,0,ah⟩ bE ay (by simpa using a5) hs a4 (λk hk=>by cases hk) (λ_=>rfl),g1,g2⟩
def ZU(s:Nat)(es:List IV)(v:IV)(au:St):Prop:=
 (es=[]/\v=.raw (.slice ah 0 0))\/es≠[]/\∃id cs aD mn cap,au.at id=aa (.cells cs aD mn)/\mn<=aD/\v=.sl id 0 es.length cap aD s/\es.length*s<=cs.length/\
  ∀(k:Nat) (x:IV),(flat es)[k]?=aa x->∃u,x=.raw u/\cs[k]?=aa (.raw u)
def qB.S3{s:Nat}{f:FuncId}{xs es:List IV}{RW:IV->St->Prop}(hs:0<s)(bD:∀e∈es,(cellsOf e).length=s)(a_:∀c∈flat es,(∃v,c=.raw v)/\ao c=ab)(h:eY P N f xs ⟨0,.lf⟩ RW)(hc:∀v au,RW v au->ZU s es v au):qB P s f xs es:=by
 refine⟨hs,bD,a_,λM w us hM hr=>?_⟩;refine(h (iY M) us w (NF hM) hr).mono λe w' hR=>?_;obtain⟨v,au,vC,hR⟩:=hR;cases e with
 |panicked ch=>exact hR.elim
 |outgrown=>exact hR.elim
 |returned u=>
  obtain⟨aK,h1,h2,h3⟩:=hR;have AI:∀b,b<w.heap.size->w'.heap[b]?=w.heap[b]? :=λb hb=>h3.frame b hb λid ho=>(by obtain⟨_,_,h,_⟩:=ho;cases h);refine⟨⟨h3.os,h3.tape,h3.output,h3.size,AI⟩,?_⟩;rcases hc v au vC with⟨rfl,rfl⟩|⟨bg,id,cs,aD,mn,cap,a1,a2,rfl,a3,a4⟩
  .cases h1;exact .inl ⟨rfl,rfl⟩
  .obtain⟨_,_,o3⟩:=h2.obj id _ a1;obtain⟨l,c,el,b1,b2,b3,b4,b5⟩:=o3 aD a2 (awe _);cases h1 with
   |sl _ _ _ _ _ _ l' KE a hl hn kc bp hle jG ha=>
    rw[b1]at hl;cases hl;have wW:0<es.length:=List.length_pos_iff.2 bg
    have hb:w.heap.size<=l.b:=by
     rcases h3.own id l.b ⟨aD,l,b1,rfl⟩with ho|ho
     .obtain⟨_,_,h,_⟩:=ho;cases h
     .exact ho
    rw[ha aj];refine .inr ⟨bg,l.b,c,el,KE,hb,rfl,b3,hle,by rw[<-b4];omega,λk x hx=>?_⟩;obtain⟨u,rfl,hu⟩:=a4 k x hx
    have hk:k<l.n:=by
     have:=(awa.1 hx).1;rw[yB bD]at this;omega
    obtain⟨y,hy,hr⟩:=b5 k _ hk hu;cases hr;exact⟨_,rfl,hy⟩
variable{C:Cr}{Q:IV->Prop}{K:List (List IV->Prop)}{V:SS}{d:Nat}{o:Oper}{k:PV SE->SS->aq}
def air{fr:Bool}{x z:IV}(hi:(λ(_:Nat)=>(ah:Option Nat))=R)(DR:G=⟨0,.lf⟩)(h:bx fr R G x z):∀{u:Value},Rv Z x u->Rv (iY Z.m) z u:=by
 induction h with
 |raw v=>intro u h;cases h;exact .raw v
 |nil s hs=>intro u h;cases h;exact .eB s ah 0 hs (λ_=>rfl)
 |emp s hs=>intro u h;cases h;exact .eB s _ 0 hs (λh=>by cases h)
 |dK t x y _ ih=>intro u h;cases h with|dK _ _ v hh=>exact .dK t y v (ih hh)
 |agg cs ds hl _ ih=>
  intro u h;cases h with
  |agg _ vs cz hh=>
   refine .agg ds vs (hl▸cz) λi d v h1 h2=>?_;have cw:i<cs.length:=by have:=(awa.1 h1).1;omega
   exact ih i _ d (av_ cw) h1 (hh i _ v (av_ cw) h2)
 |aF cs ds hl _ ih=>
  intro u h;cases h with
  |aF _ vs cz hh=>
   refine .aF ds vs (hl▸cz) λi d v h1 h2=>?_;have cw:i<cs.length:=by have:=(awa.1 h1).1;omega
   exact ih i _ d (av_ cw) h1 (hh i _ v (av_ cw) h2)
 |pure x hf hp=>intro u h;exact hp.rv h (λ_ _ h=>h)
 |sl id off len cap ep s m cs aD mn es hR=>rw[<-hi]at hR;cases hR
def eC.aox{f:FuncId}{args xs:List IV}{z:IV}(h:eC P af af f xs z)(hc:All2 jJ args xs):ly P ro f args G z G:=by
 refine⟨awe _,λN hN Z us w hi hr=>?_⟩
 have qt:aL (iY Z.m) xs us:=⟨hc.len▸hr.1,λi c v h1 h2=>by
  have cw:i<args.length:=by have:=(awa.1 h1).1;rw[hc.len];exact this
  exact air rfl rfl (hc.get (av_ cw) h1) (hr.2 i _ v (av_ cw) h2)⟩
 refine(h Z.m w us hi.mem qt).mono λe w' hR=>?_;cases e with
 |returned u=>exact NG hi (λ_ _ _=>Iff.rfl) hR.2
 |panicked ch=>exact absurd hR.1 ay
 |outgrown=>exact hR.elim
def qB.Rq{s:Nat}{f:FuncId}{args xs es:List IV}(h:qB P s f xs es)(hc:NH ab G args xs):ly P ro f args G (D9 G.n s es) (if es.isEmpty then G else G.add (vQ es)):=
 h.call λ_ _ _ w hi hr=>⟨allM w,NI,hc.rv hi hr⟩
def RH(n:Nat):IV->Bool
 |.aF vs=>vs.length==n
 |_=>af
def oq(P:Program)(f:FuncId)(z:IV):Bool:=
 match P.funcs[f]? with
 |some fn=>fn.resultTypes.size==1||RH fn.resultTypes.size z
 |none=>af
def mj(P:Program)(C:Cr):Prop:=∀f new xs z,C f new xs z->(f<P.funcs.size->eC P af new f xs z/\Pure z/\oq P f z=ab)/\
 (∀g,g<P.funcs.size->f=P.funcs.size+g->∃s es yh aT,xs=.tree s es::yh/\z=.tree s aT/\Fg P s g es yh aT)/\
 (∀g,g<P.funcs.size->f=2*P.funcs.size+g->∃ins yh outs z0,xs=.agg (ins.map IV.agg)::yh/\z=.aF (z0::outs.map IV.agg)/\outs.map awN=ins.map awN/\(∀cs∈outs,∀u∈cs,ao u=ab)/\Fh P g ins yh outs z0)/\
 (∀g,g<P.funcs.size->f=3*P.funcs.size+g->∃t:Nat,xs=[.int t]/\He P g t)/\
 ∀g,g<P.funcs.size->f=4*P.funcs.size+g->∃es,z=.tree (eo P g) es/\qB P (eo P g) g xs es
def Qp{c:Cl SE}{fr:Bool}{z:SE}{V':SS}(hp:w6 [c]=ab)(hr:zo V c=aa (fr,z,V')){x:IV}(hx:cR (ax P O) R X V.l G x c):∃y,z.den P O=aa y/\jJ x y:=by
 cases c<;>simp only[w6]at hp<;>try (cases hp;done)
 .simp only[zo,awf,awM]at hr;obtain⟨rfl,rfl,rfl⟩:=hr;obtain⟨y,h1,h2,_⟩:=hx;exact⟨y,h1,h2⟩
 .rename_i b s;simp only[zo,awf,awM]at hr;obtain⟨rfl,rfl,rfl⟩:=hr;obtain⟨h1,rfl⟩:=hx;refine⟨.tree s [],by simp[SE.den,h1],?_⟩;cases b
  .exact .emp s h1
  .exact .nil s h1
def Qq{c:Cl SE}{fr:Bool}{z:SE}{V':SS}(hp:w6 [c]=ab)(hr:zo V c=aa (fr,z,V')):V'=V:=by
 cases c<;>simp only[w6]at hp<;>try (cases hp;done)
 all_goals
  simp only[zo,awf,awM]at hr;exact hr.2.2.symm
def abT{c:Cl SE}{cs:List (Cl SE)}(h:w6 (c::cs)=ab):w6 [c]=ab/\w6 cs=ab:=by
 cases c<;>simp only[w6]at h⊢<;>first|(cases h;done)|exact⟨trivial,h⟩
theorem Mk:∀{cs:List (Cl SE)} {fr:Bool} {zs:List SE} {V':SS},w6 cs=ab->wZ V cs=aa (fr,zs,V')->V'=V/\∀{xs:List IV},All2 (cR (ax P O) R X V.l G) xs cs->∃ys,All2 (λ(z:SE) y=>z.den P O=aa y) zs ys/\All2 jJ xs ys
 |[],fr,zs,V',_,hr=>by
  simp only[wZ,awf,awM]at hr;obtain⟨rfl,rfl,rfl⟩:=hr;refine⟨rfl,λ{xs} hx=>?_⟩;cases xs with
  |nil=>exact⟨[],trivial,trivial⟩
  |cons=>exact hx.elim
 |c::cs,fr,zs,V',hp,hr=>by
  obtain⟨h1,h2⟩:=abT hp;simp only[wZ]at hr;split at hr
  .rename_i f1 z V1 vP;have e0:=Qq h1 vP;rw[e0]at hr;split at hr
   .rename_i f2 zs' V2 T2;simp only[awf,awM]at hr;obtain⟨rfl,rfl,rfl⟩:=hr;obtain⟨rfl,h3⟩:=Mk h2 T2;refine⟨rfl,λ{xs} hx=>?_⟩;cases xs with
    |nil=>exact hx.elim
    |cons x xs=>
     obtain⟨y,a1,a2⟩:=Qp h1 vP hx.1;obtain⟨ys,b1,b2⟩:=h3 hx.2;exact⟨y::ys,⟨a1,b1⟩,⟨a2,b2⟩⟩
   .cases hr
  .cases hr
def Oh{V':SS}{pv:PV SE}{fr:Bool}{z:SE}(h:J Cx (ax P O) R X V.g V.l E G)(hr:vG V pv=aa (fr,z,V'))(ht:∀vs,pv≠.tu vs):
 ∃R',jq P O R X V G R' V'/\J Cx (ax P O) R' X V'.g V'.l E G/\∀x,VR (ax P O) R X V.l G x pv->∃y,z.den P O=aa y/\bx fr R' G x y:=by
 cases pv with
 |one c=>
  obtain⟨R',h1,h2,h3⟩:=Ht h hr;exact⟨R',h1,h2,λx hx=>by obtain⟨y,a,b,_⟩:=h3 x hx;exact⟨y,a,b⟩⟩
 |ag cs=>
  simp only[vG]at hr;split at hr
  .rename_i f zs V1 vP;simp only[awf,awM]at hr;obtain⟨rfl,rfl,rfl⟩:=hr;obtain⟨R',h1,h2,_,h3⟩:=Ap h vP;refine⟨R',h1,h2,λx hx=>?_⟩;obtain⟨xs,rfl,sG⟩:=hx;obtain⟨ys,a,b,_⟩:=h3 xs sG;exact⟨.agg ys,gy a,.agg xs ys b.len λi c e h1 h2=>b.get h1 h2⟩
  .cases hr
 |tu vs=>exact absurd rfl (ht vs)
def ZV{V':SS}{pv:PV SE}{fr:Bool}{z:SE}(hp:qb pv=ab)(hr:vG V pv=aa (fr,z,V')):V'=V/\∀{x:IV},VR (ax P O) R X V.l G x pv->∃y,z.den P O=aa y/\jJ x y:=by
 cases pv with
 |one c=>exact⟨Qq hp hr,λ{x} hx=>Qp hp hr hx⟩
 |ag cs=>
  simp only[vG]at hr;split at hr
  .rename_i f zs V1 vP;simp only[awf,awM]at hr;obtain⟨rfl,rfl,rfl⟩:=hr;obtain⟨h1,h2⟩:=Mk (P:=P) (O:=O) (R:=R) (X:=X) (G:=G) hp vP;refine⟨h1,λ{x} hx=>?_⟩;obtain⟨xs,rfl,sG⟩:=hx;obtain⟨ys,a,b⟩:=h2 sG;exact⟨.agg ys,gy a,.agg xs ys b.len λi c e h1 h2=>b.get h1 h2⟩
  .cases hr
 |tu vs=>cases hp
theorem Oi:∀{da:List (PV SE)} {V V':SS} {R:Rs} {zs:List SE},J Cx (ax P O) R X V.g V.l E G->yY V da=aa (zs,V')->Ks da=ab->
 ∃R',jq P O R X V G R' V'/\J Cx (ax P O) R' X V'.g V'.l E G/\∀xs,All2 (VR (ax P O) R X V.l G) xs da->∃ys,All2 (λ(z:SE) y=>z.den P O=aa y) zs ys/\All2 (bx ab R' G) xs ys
 |[],V,V',R,zs,h,hr,_=>by
  simp only[yY,awf,awM]at hr;obtain⟨rfl,rfl⟩:=hr;refine⟨R,.refl h,h,λxs hx=>?_⟩;cases xs with
  |nil=>exact⟨[],trivial,trivial⟩
  |cons=>exact hx.elim
 |pv::da,V,V',R,zs,h,hr,ht=>by
  have Xw:(∀vs,pv≠.tu vs)/\Ks da=ab:=by
   cases pv<;>simp_all[Ks]
  simp only[yY]at hr;split at hr
  .rename_i f z V1 vP;split at hr
   .rename_i zs' V2 T2;simp only[awf,awM]at hr;obtain⟨rfl,rfl⟩:=hr;obtain⟨R1,a1,a2,a3⟩:=Oh h vP Xw.1;obtain⟨R2,b1,b2,b3⟩:=Oi a2 T2 Xw.2;refine⟨R2,a1.trans b1,b2,λxs hx=>?_⟩;cases xs with
    |nil=>exact hx.elim
    |cons x xs=>
     obtain⟨y,c1,c2⟩:=a3 x hx.1;obtain⟨ys,d1,d2⟩:=b3 xs (hx.2.mono λ_ _ b_=>a1.vr b_);exact⟨y::ys,⟨c1,d1⟩,⟨(c2.mono b1.2.2.2.grow).cG,d2⟩⟩
   .cases hr
  .cases hr
theorem zI:∀{da:List (PV SE)} {V':SS} {zs:List SE},yY V da=aa (zs,V')->da.all qb=ab->
 V'=V/\∀{xs:List IV},All2 (VR (ax P O) R X V.l G) xs da->∃ys,All2 (λ(z:SE) y=>z.den P O=aa y) zs ys/\All2 jJ xs ys
 |[],V',zs,hr,_=>by
  simp only[yY,awf,awM]at hr;obtain⟨rfl,rfl⟩:=hr;refine⟨rfl,λ{xs} hx=>?_⟩;cases xs with
  |nil=>exact⟨[],trivial,trivial⟩
  |cons=>exact hx.elim
 |pv::da,V',zs,hr,hp=>by
  simp only[aBl,awb]at hp;simp only[yY]at hr;split at hr
  .rename_i f z V1 vP;obtain⟨e1,a1⟩:=ZV (P:=P) (O:=O) (R:=R) (X:=X) (G:=G) hp.1 vP;rw[e1]at hr;split at hr
   .rename_i zs' V2 T2;simp only[awf,awM]at hr;obtain⟨rfl,rfl⟩:=hr;obtain⟨e2,b1⟩:=zI T2 hp.2;refine⟨e2,λ{xs} hx=>?_⟩;cases xs with
    |nil=>exact hx.elim
    |cons x xs=>
     obtain⟨y,c1,c2⟩:=a1 hx.1;obtain⟨ys,d1,d2⟩:=b1 hx.2;exact⟨y::ys,⟨c1,d1⟩,⟨c2,d2⟩⟩
   .cases hr
  .cases hr
def HC{t:TypeId}{e:SE}{z:IV}{f:aq}(hz:e.den P O=aa z)(hp:Pure z)(hs:(tO P t e f).sat P C Q K O):f.sat P C Q K O/\VR (ax P O) R X L G z (ofType P t e)/\vA (ax P O) R X L G z (isAgg P t,ff (ofType P t e)):=by
 unfold tO at hs;unfold ofType;by_cases ha:isAgg P t=ab
 .rw[if_pos ha]at hs;obtain⟨⟨y,hy⟩,hk⟩:=hs;simp only[SE.den,hz,awc]at hy;split at hy
  .rename_i cs;split at hy
   .rename_i hc
    have bS:All2 (cR (ax P O) R X L G) cs ((axt ((aW P t).getD 0)).map λj=>Cl.v (SE.aO e j)):=by
     refine .mk (by simp[hc.1]) λi a b h1 h2=>?_;have hi:=(awa.1 h1).1;rw[awu,ax9 aj]at h2;simp only[awQ,awf]at h2;subst h2;have a_:Ev.ao a=ab:=(awt.1 hc.2) a (awq h1);have oJ:Pure a:=by cases hp with|agg _ hh=>exact hh a (awq h1)
     exact⟨a,by simp[ax,SE.den,hz,h1,vJ,a_],.pure a rfl oJ,a_⟩
    simp only[ha,if_true];exact⟨hk,⟨cs,rfl,bS⟩,by simp only[vA,if_true,ff];exact⟨cs,rfl,bS⟩⟩
   .cases hy
  .cases hy
 .rw[if_neg ha]at hs;obtain⟨⟨y,hy⟩,hk⟩:=hs;obtain⟨h1,h2⟩:=rC hy;rw[hz]at h1;cases h1;have hv:cR (ax P O) R X L G z (.v (.ok e)):=⟨z,hy,.pure z rfl hp,h2⟩;rw[if_neg ha];refine⟨hk,hv,?_⟩;simp only[vA,ff];rw[if_neg (by simpa using ha)];exact⟨_,rfl,hv⟩
theorem Ml{e:SE}{vs:List IV}{f:aq}(hz:e.den P O=aa (.aF vs))(hp:∀v∈vs,Pure v):∀{ts:List TypeId} {j:Nat},(Tj P e j ts f).sat P C Q K O->j+ts.length=vs.length->f.sat P C Q K O/\All2 (vA (ax P O) R X L G) (vs.drop j) (NV P e j ts)
 |[],j,hs,hl=>by
  simp at hl;rw[List.drop_of_length_le aj];exact⟨hs,trivial⟩
 |t::ts,j,hs,hl=>by
  simp at hl;have hj:j<vs.length:=aj;have hd:(SE.proj e j).den P O=aa vs[j]:=by simp[SE.den,hz,hj]
  obtain⟨h1,_,h3⟩:=HC (R:=R) (X:=X) (L:=L) (G:=G) hd (hp _ (awd hj)) hs;obtain⟨h4,h5⟩:=Ml hz hp h1 aj;refine⟨h4,?_⟩;rw[List.drop_eq_getElem_cons hj];exact⟨h3,h5⟩
def aeM{fn:Func}{e:SE}{z:IV}(hz:e.den P O=aa z)(hp:Pure z)(ht:fn.resultTypes.size≠1->RH fn.resultTypes.size z=ab)(hs:(RC P fn V e k).sat P C Q K O):∃pv,(k pv V).sat P C Q K O/\VR (ax P O) R X L G z pv:=by
 unfold RC at hs;split at hs
 .rename_i t _;obtain⟨h1,h2,_⟩:=HC (R:=R) (X:=X) (L:=L) (G:=G) hz hp hs;exact⟨_,h1,h2⟩
 .rename_i hn
  have bf:fn.resultTypes.size≠1:=by
   intro h;have:fn.resultTypes.toList.length=1:=by simpa using h
   obtain⟨t,ht⟩:=List.length_eq_one_iff.1 this;exact hn t ht
  have:=ht bf;unfold RH at this;split at this
  .rename_i vs;have hl:vs.length=fn.resultTypes.size:=by simpa using this
   obtain⟨h1,h2⟩:=Ml (R:=R) (X:=X) (L:=L) (G:=G) (j:=0) hz (λv hv=>by cases hp with|aF _ hh=>exact hh v hv) hs (by simp[hl]);exact⟨_,h1,vs,rfl,by simpa using h2⟩
  .cases this
variable{cfg:fe}{self:nJ}
variable{f0:Nat}
def akL{ys:List IV}{bs:List (Nat×Nat)}(h:All2 (λy (p:Nat×Nat)=>∃id cs,X p.1=aa id/\L[p.1]?=aa (.var cs)/\y=.ptr id 0 0 p.2) ys bs):All2 (VR (ax P O) R X L G) ys (bs.map λ(p:Nat×Nat)=>.one (.pt p.1 0 p.2)):=
 h.map (f:=λ(p:Nat×Nat)=>PV.one (Cl.pt p.1 0 p.2)) λ_ _ h=>h
def m6{x:IV}{g:FuncId}{bs:List (Nat×Nat)}{args:List IV}{fn:Func}(hx:VR (ax P O) R X L G x (.one (.fn g bs)))(cL:P.funcs[g]?=aa fn)(hb:fn.body.isSome=ab)(ot:(fn.name != "runtime.NumGoroutine")=ab):
 ∃ys,gV P x args=aa (.enter g (args++ys))/\All2 (VR (ax P O) R X L G) ys (bs.map λ(p:Nat×Nat)=>.one (.pt p.1 0 p.2)):=by
 rcases hx with⟨rfl,rfl⟩|⟨ys,rfl,h⟩
 .refine⟨[],?_,trivial⟩;simp only[gV,cL,hb,ot,Array.size_empty,aww];simp
 .refine⟨ys,?_,akL h⟩;simp only[gV,cL,hb,ot,axp,Bool.and_self,if_true]
def Xx{xs ys:List IV}(h:All2 (bx ab R G) xs ys):NH ab G xs ys:=⟨h.len,λ_ _ _ h1 h2=>(h.get h1 h2).can⟩
def asu(Cx:Cs)(P:Program)(C:Cr)(Q:IV->Prop)(K:List (List IV->Prop))(O:List IV)(E:Nat->Env)(lv:Nat×Nat)(k:PV SE->SS->aq)(X:Ph)(G:St)(res:FuncId->List IV->Prop):Prop:=
 ∃g args z R1 pv V1 I,res g args/\(∀ro,ly P ro g args G z G)/\J Cx (ax P (O++I)) R1 X V1.g V1.l E G/\VR (ax P (O++I)) R1 X V1.l G z pv/\(O++I).length=V1.n/\V1.ln=lv/\(k pv V1).sat P C Q K (O++I)
def T3(hC:mj P C)(hJ:J Cx (ax P O) R X V.g V.l E G)(hn:O.length=V.n){c:Call}{f:Operand}{g:FuncId}(ho:o.op=.call c)(hc:c.callee=.value f)(hf:bM P d V 0 f=.one (.fn g [])){zs:List SE}{V':SS}{fn:Func}
 (hr:yY V (jX P d V c.args.toList c.argTypes.toList)=aa (zs,V'))(cL:P.funcs[g]?=aa fn)(hb:fn.body.isSome=ab)(ot:(fn.name != "runtime.NumGoroutine")=ab)(ht:Ks (jX P d V c.args.toList c.argTypes.toList)=ab)
 (hs:(aq.call g (!(jX P d V c.args.toList c.argTypes.toList).all qb) (eR zs) (RC P fn {V' with n:=V'.n+1} (.var V'.n) k)).sat P C Q K O):
 asu Cx P C Q K O E V.ln k X G (λg args=>aA P 0 (aB (E d)) o G=aa (.enter g args)):=by
 obtain⟨xs,z,h1,h2,h3⟩:=hs;obtain⟨ki,hpz,htu⟩:=(hC _ _ _ _ h2).1 (aw4.1 cL).1;have bJ:=i_ hJ d c.args.toList c.argTypes.toList;have sO:=bw hJ d 0 f;rw[hf]at sO;obtain⟨ys,kg,va⟩:=m6 (args:=c.args.toList.map (aB (E d))) sO cL hb ot
 have KG:ys=[]:=by
  cases ys with
  |nil=>rfl
  |cons=>exact va.elim
 subst KG;rw[aww]at kg
 have fv:aA P 0 (aB (E d)) o G=aa (.enter g (c.args.toList.map (aB (E d)))):=by
  simp only[aA,ho,hc];exact kg
 have asv:fn.resultTypes.size≠1->RH fn.resultTypes.size z=ab:=by
  intro bg;unfold oq at htu;rw[cL]at htu;simp only[awO,beq_iff_eq]at htu;exact htu.resolve_left bg
 have nL:∀{us:List IV},All2 (λ(z:SE) y=>z.den P O=aa y) zs us->xs=us:=by
  intro us hu;unfold jL at h1;rw[gy hu]at h1;cases h1;rfl
 obtain⟨R1,cy,bH,eQ⟩:=Oi hJ hr ht;obtain⟨us,b1,b2⟩:=eQ _ bJ;have nZ:=nL b1;subst nZ
 have akM:∀ro,ly P ro g (c.args.toList.map (aB (E d))) G z G:=by
  intro ro;by_cases bS:(jX P d V c.args.toList c.argTypes.toList).all qb=ab
  .rw[bS]at ki;obtain⟨_,dZ⟩:=zI (P:=P) (O:=O) (R:=R) (X:=X) (G:=G) hr bS;obtain⟨wA,c1,c2⟩:=dZ bJ;have:=nL c1;subst this;exact eC.aox ki c2
  .have hf:(jX P d V c.args.toList c.argTypes.toList).all qb=af:=by simpa using bS
   rw[hf]at ki;exact eC.Rq ki (Xx b2)
 have dW:O.length=V'.n:=by rw[hn,cy.2.1]
 have fg:=bH.up (jj:=ax P (O++[z])) (λe y h=>SE.dw P e h);have oK:(SE.var V'.n).den P (O++[z])=aa z:=by simp[SE.den,<-dW]
 obtain⟨pv,hk,hv⟩:=aeM (R:=R1) (X:=X) (L:=V'.l) (G:=G) oK hpz asv h3;exact⟨g,_,z,R1,pv,{V' with n:=V'.n+1},[z],fv,akM,fg,hv,by simp[dW],cy.2.2.1,hk⟩
def Wv{c:Call}{g:FuncId}{es:List IV}{V':SS}{R1:Rs}(hn:O.length=V.n)(cy:jq P O R X V G R1 V')(mh:J Cx (ax P O) R1 X V'.g V'.l E G)
 (fv:aA P 0 (aB (E d)) o G=aa (.enter g (c.args.toList.map (aB (E d)))))(wL:∀ro,ly P ro g (c.args.toList.map (aB (E d))) G (D9 G.n (eo P g) es) (if es.isEmpty then G else G.add (vQ es)))
 (cj:0<eo P g)(bD:∀e∈es,(cellsOf e).length=eo P g)(a_:∀c∈flat es,(∀(R:Rs) (G:St),bx af R G c c)/\ao c=ab)
 (h3:(k (.one (.sr V'.l.length)) {V' with n:=V'.n+1,l:=V'.l++[.row (eo P g) af af af (.var V'.n)]}).sat P C Q K (O++[IV.tree (eo P g) es])):
 ∃args v av R1 eg pv V1 I,aA P 0 (aB (E d)) o G=aa (.enter g args)/\(∀ro,ly P ro g args G v av)/\(av=G\/∃ob,av=G.add ob)/\J Cx (ax P (O++I)) R1 eg V1.g V1.l E av/\VR (ax P (O++I)) R1 eg V1.l av v pv/\(O++I).length=V1.n/\V1.ln=V.ln/\(k pv V1).sat P C Q K (O++I):=by
 have dW:O.length=V'.n:=by rw[hn,cy.2.1]
 have bH:=mh.up (jj:=ax P (O++[IV.tree (eo P g) es])) (λe y h=>SE.dw P e h);have oK:(SE.var V'.n).den P (O++[IV.tree (eo P g) es])=aa (.tree (eo P g) es):=by simp[SE.den,<-dW]
 have oj:(V'.l++[LO.row (eo P g) af af af (SE.var V'.n)])[V'.l.length]?=aa (.row (eo P g) af af af (.var V'.n)):=by simp
 by_cases he:es.isEmpty
 .have fM:=axT.1 he;subst fM;refine⟨_,_,_,R1,X,.one (.sr V'.l.length),{V' with n:=V'.n+1,l:=V'.l++[.row (eo P g) af af af (.var V'.n)]},[.tree (eo P g) []],fv,wL,.inl rfl,?_,?_,by simp[dW],cy.2.2.1,h3⟩
  .exact(bH.Aq (fr:=af) cj oK).2
  .exact⟨eo P g,af,af,af,_,[],oj,oK,.inl ⟨xj mh (awe _),rfl,.inl rfl⟩⟩
 .have hif:(if es.isEmpty then G else G.add (vQ es))=G.add (vQ es):=if_neg he;have sO:D9 G.n (eo P g) es=.sl G.n 0 es.length ah 0 (eo P g):=if_neg he;have hlen:=yB bD;refine⟨_,_,_,R1,bT X V'.l.length G.n,.one (.sr V'.l.length),{V' with n:=V'.n+1,l:=V'.l++[.row (eo P g) af af af (.var V'.n)]},[.tree (eo P g) es],fv,wL,.inr ⟨_,hif⟩,?_,?_,by simp[dW],cy.2.2.1,h3⟩
  .rw[hif];refine bH.yS (vQ es) _ ⟨cj,es,oK,bD,.inr ⟨G.n,flat es,0,0,by simp[bT],by simp[vQ],awe _,by rw[hlen];exact awe _,?_,awt.2 λc hc=>(a_ c hc).2,λj x d hx hd=>?_⟩⟩
   .cases hR:R1 G.n with
    |none=>rfl
    |some m=>exact absurd (mh.qz _ _ hR) (Nat.lt_irrefl _)
   .rw[hx]at hd;cases hd;exact a_ x (awq hx)|>.1 _ _
  .rw[hif,sO];exact⟨eo P g,af,af,af,_,es,oj,oK,.inr ⟨G.n,flat es,0,0,ah,by simp[bT],by simp[vQ],by simp,aw5 _,λ_ _=>hlen.symm,λc hc=>by cases hc⟩⟩
def Qr(hC:mj P C)(hJ:J Cx (ax P O) R X V.g V.l E G)(hn:O.length=V.n){c:Call}{f:Operand}{g:FuncId}(ho:o.op=.call c)(hc:c.callee=.value f)(hf:bM P d V 0 f=.one (.fn g []))
 (hs:(Tv P g (jX P d V c.args.toList c.argTypes.toList) V k).sat P C Q K O):
 ∃args v av R1 eg pv V1 I,aA P 0 (aB (E d)) o G=aa (.enter g args)/\(∀ro,ly P ro g args G v av)/\(av=G\/∃ob,av=G.add ob)/\J Cx (ax P (O++I)) R1 eg V1.g V1.l E av/\VR (ax P (O++I)) R1 eg V1.l av v pv/\(O++I).length=V1.n/\V1.ln=V.ln/\(k pv V1).sat P C Q K (O++I):=by
 unfold Tv at hs;split at hs<;>try exact hs.elim
 rename_i zs V' fn hr cL;split at hs<;>try exact hs.elim
 rename_i cn;simp only[awb]at cn;obtain⟨ht,hb,ot⟩:=cn;have bJ:=i_ hJ d c.args.toList c.argTypes.toList;have sO:=bw hJ d 0 f;rw[hf]at sO;obtain⟨ys,kg,va⟩:=m6 (args:=c.args.toList.map (aB (E d))) sO cL hb ot
 have KG:ys=[]:=by
  cases ys with
  |nil=>rfl
  |cons=>exact va.elim
 subst KG;rw[aww]at kg
 have fv:aA P 0 (aB (E d)) o G=aa (.enter g (c.args.toList.map (aB (E d)))):=by
  simp only[aA,ho,hc];exact kg
 obtain⟨R1,cy,mh,eQ⟩:=Oi hJ hr ht;obtain⟨us,c1,c2⟩:=eQ _ bJ;obtain⟨xs,z,h1,h2,h3⟩:=hs;obtain⟨es,rfl,WS⟩:=(hC _ _ _ _ h2).2.2.2.2 g (aw4.1 cL).1 rfl
 have nZ:xs=us:=by
  unfold jL at h1;rw[gy c1]at h1;cases h1;rfl
 subst nZ
 exact Wv hn cy mh fv (λro=>WS.Rq (ro:=ro) (G:=G) (Xx c2)) WS.1 WS.2.1 (λc hc=>by
  obtain⟨⟨v,rfl⟩,h2⟩:=WS.2.2.1 c hc;exact⟨λ_ _=>.raw _,h2⟩) h3
def eO(e:Env)(dst:Option Nat)(x:IV):(e.put dst x).n=e.n:=by simp[Env.mY]
def Fi{V1:SS}{x:IV}{pv:PV SE}{dst:Option Nat}(hJ:J Cx (ax P O) R X V1.g V1.l E G)(hx:VR (ax P O) R X V1.l G x pv)(hd:∀t,dst=aa t->t<(E d).n):J Cx (ax P O) R X (V1.bY d dst pv).g (V1.bY d dst pv).l (kS E d ((E d).put dst x)) G:=by
 cases dst with
 |none=>exact hJ.Y7 (JC:=V1.g) d ah x (λt h=>by cases h) (λ_=>rfl)
 |some t=>exact hJ.put d (hd t rfl) hx
def Fj{V1:SS}{x:IV}{dst:Option Nat}(hJ:J Cx (ax P O) R X V1.g V1.l E G):J Cx (ax P O) R X (V1.kM d dst).g (V1.kM d dst).l (kS E d ((E d).put dst x)) G:=by
 cases dst with
 |none=>exact hJ.Y7 (JC:=V1.g) d ah x (λt h=>by cases h) (λ_=>rfl)
 |some t=>exact hJ.Y7 (JC:=EV d t V1.g) d (aa t) x (λt' h=>by cases h;rfl) (λh=>by cases h)
@[simp] theorem HD(V1:SS)(dst:Option Nat)(pv:PV SE):(V1.bY d dst pv).n=V1.n:=by cases dst<;>rfl
@[simp] theorem ZW(V1:SS)(dst:Option Nat)(pv:PV SE):(V1.bY d dst pv).ln=V1.ln:=by cases dst<;>rfl
@[simp] theorem HE(V1:SS)(dst:Option Nat):(V1.kM d dst).n=V1.n:=by cases dst<;>rfl
@[simp] theorem Fk(V1:SS)(dst:Option Nat):(V1.kM d dst).ln=V1.ln:=by cases dst<;>rfl
theorem J.refine(hJ:J Cx (ax P O) R X V.g V.l E G){t:Nat}{e:SE}{b:Bool}(hg:ct d t V.g=aa (.one (.v e))\/∃f,ct d t V.g=aa (.one (.w f e)))(he:e.den P O=aa (.bool b)):(E d).at t=.raw (.bool b)/\J Cx (ax P O) R X (V.bY d (aa t) (.one (.v (.b b)))).g V.l E G:=by
 have aM:(E d).at t=.raw (.bool b):=by
  rcases hg with hg|⟨f,hg⟩
  .obtain⟨y,h1,h2,_⟩:=hJ.slot d t _ hg;have dh:e.den P O=aa y:=h1;rw[he]at dh;cases dh;exact cA h2
  .obtain⟨y,h1,h2,_⟩:=hJ.slot d t _ hg;have dh:e.den P O=aa y:=h1;rw[he]at dh;cases dh;exact cA h2
 refine⟨aM,{hJ with slot:=λd' t' Gx wN=>?_}⟩;rcases lU wN with⟨rfl,rfl,rfl⟩|⟨_,h3⟩
 .exact⟨.raw (.bool b),rfl,by rw[aM];exact .raw _,rfl⟩
 .exact hJ.slot d' t' Gx (Ki V.g h3).2
def T4(hJ:J Cx (ax P O) R X V.g V.l E G)(bR:(E d).n=V.nt){ops:Array Oper}:
 (vH ops d V o=.run->aX o ops (E d)=ab)/\(vH ops d V o=.skip->aX o ops (E d)=af)/\
 ∀t e want,vH ops d V o=.test t e want->(ct d t V.g=aa (.one (.v e))\/∃f,ct d t V.g=aa (.one (.w f e)))/\∀b,(E d).at t=.raw (.bool b)->aX o ops (E d)=(b==want):=by
 unfold vH aX;cases o.guard with
 |none=>simp
 |some p=>
  obtain⟨j,want⟩:=p;simp only;cases hd:(ops[j]?).bind (·.dst)with
  |none=>simp
  |some t=>
   simp only;by_cases ak:aw6 t V.nt=ab
   .rw[bR,ak];simp only[Bool.not_true,if_true];cases hg:ct d t V.g with
    |none=>simp
    |some pv=>
     have hs:=hJ.slot d t pv hg;cases pv with
     |ag|tu=>simp
     |one c=>
      cases c with
      |v e=>
       cases e with
       |b x=>
        obtain⟨y,h1,h2,_⟩:=hs;simp only[ax,SE.den,awf]at h1;subst h1;rw[cA h2];simp only;refine⟨λh=>?_,λh=>?_,λt e w h=>?_⟩
        .simp only[awA,if_false]at h;split at h
         .assumption
         .cases h
        .simp only[awA,if_false]at h;split at h
         .cases h
         .rename_i hh;simpa using hh
        .simp only[awA,if_false]at h;split at h<;>cases h
       |_=>
        refine⟨λh=>by simp at h,λh=>by simp at h,λt' e' w' h=>?_⟩;simp only[awA,if_false,Want.test.injEq]at h;obtain⟨rfl,rfl,rfl⟩:=h;exact⟨.inl hg,λb hb=>by rw[hb]⟩
      |w f e=>
       refine⟨λh=>by simp at h,λh=>by simp at h,λt' e' w' h=>?_⟩;simp only[awA,if_false,Want.test.injEq]at h;obtain⟨rfl,rfl,rfl⟩:=h;exact⟨.inr ⟨f,hg⟩,λb hb=>by rw[hb]⟩
      |_=>simp
   .have gj:aw6 t V.nt=af:=by cases h:aw6 t V.nt;rfl;exact absurd h ak
    rw[gj];simp
variable{rd:Option Nat}{df:List Df}
def XR(P:Program)(O:List IV)(R:Rs)(X:Ph)(L:List (LO SE))(G:St):yw->Ex->Prop
 |.normal,x=>x=.normal
 |.exit i,x=>x=.exit i
 |.ret,x=>x=.ret
 |.cd t pv,x=>∃v,x=.cd (.dK t v)/\VR (ax P O) R X L G v pv
structure yC(Cx:Cs)(P:Program)(d:Nat)(E:Nat->Env)(K:List (List IV->Prop))(O:List IV)(nt:Nat)(V':SS)(I:List IV)(K':List (List IV->Prop))(R':Rs)(aU:Ph)(E':Nat->Env)(au:St):Prop where
 hK:K<+:K'
 fW:K'.length=V'.lv
 bR:V'.nt=nt
 hJ:J Cx (ax P (O++I)) R' aU V'.g V'.l E' au
 hn:(O++I).length=V'.n
 hE:∀j,j<d->E' j=E j
 GF:(E' d).n=(E d).n
def KW(Cx:Cs)(P:Program)(C:Cr)(Q:IV->Prop)(d:Nat)(E:Nat->Env)(K:List (List IV->Prop))(O:List IV)(nt:Nat)(k:yw->SS->aq)(CW:Nat->kT):Prop:=
 ∀ex (V':SS) I K' R' aU E' au x,yC Cx P d E K O nt V' I K' R' aU E' au->XR P (O++I) R' aU V'.l au ex x->(k ex V').sat P C Q K' (O++I)->∃b,∀N,b<=N->au.n<=N/\CW N x (E' d) au
def KP(Cx:Cs)(P:Program)(C:Cr)(Q:IV->Prop)(d:Nat)(E:Nat->Env)(K:List (List IV->Prop))(O:List IV)(nt:Nat)(kx:Kx)(CW:Nat->IV->Env->St->Prop):Prop:=
 ∀t pv (V':SS) I K' R' aU E' au v,yC Cx P d E K O nt V' I K' R' aU E' au->VR (ax P (O++I)) R' aU V'.l au v pv->(kx t pv V').sat P C Q K' (O++I)->∃b,∀N,b<=N->au.n<=N/\CW N (.dK t v) (E' d) au
def KS(Cx:Cs)(P:Program)(C:Cr)(Q:IV->Prop)(d:Nat)(E:Nat->Env)(K:List (List IV->Prop))(O:List IV)(nt:Nat)(k:SS->aq)(CW:Nat->Env->St->Prop):Prop:=
 ∀(V':SS) I K' R' aU E' au,yC Cx P d E K O nt V' I K' R' aU E' au->(k V').sat P C Q K' (O++I)->∃b,∀N,b<=N->au.n<=N/\CW N (E' d) au
def ou(Cx:Cs)(P:Program)(C:Cr)(Q:IV->Prop)(self:nJ):Prop:=
 ∀jk d f c (V:SS) k O K R X E G CW rd df,(jk=af->rd=ah)->(self jk d f c V k).sat P C Q K O->J Cx (ax P O) R X V.g V.l E G->O.length=V.n->K.length=V.lv->(E d).n=V.nt->KW Cx P C Q d E K O V.nt k CW->∃b,∀N,b<=N->cT P N rd c (E d) df G (CW N)
theorem yC.trans{nt:Nat}{V1 V2:SS}{Cb μ2:List IV}{K1 K2:List (List IV->Prop)}{R1 R2:Rs}{eg B9:Ph}{E1 E2:Nat->Env}{av cK:St}(h1:K<+:K1)(h2:∀j,j<d->E1 j=E j)(h3:(E1 d).n=(E d).n)
 (h:yC Cx P d E1 K1 (O++Cb) nt V2 μ2 K2 R2 B9 E2 cK):yC Cx P d E K O nt V2 (Cb++μ2) K2 R2 B9 E2 cK where
 hK:=h1.trans h.hK
 fW:=h.fW
 bR:=h.bR
 hJ:=by rw[<-awv];exact h.hJ
 hn:=by rw[<-awv];exact h.hn
 hE:=λj hj=>(h.hE j hj).trans (h2 j hj)
 GF:=h.GF.trans h3
def KW.fwd{nt:Nat}{kk:yw->SS->aq}{CW:Nat->kT}{Cb:List IV}{K1:List (List IV->Prop)}{E1:Nat->Env}(h:KW Cx P C Q d E K O nt kk CW)(h1:K<+:K1)(h2:∀j,j<d->E1 j=E j)(h3:(E1 d).n=(E d).n):KW Cx P C Q d E1 K1 (O++Cb) nt kk CW:=
 λex V' I K' R' aU E' au x hf hx hs=>h ex V' (Cb++I) K' R' aU E' au x (yC.trans (V1:=V') (R1:=R') (eg:=aU) (av:=au) h1 h2 h3 hf) (by rw[<-awv];exact hx) (by rw[<-awv];exact hs)
def KP.fwd{nt:Nat}{kk:Kx}{CW:Nat->IV->Env->St->Prop}{Cb:List IV}{K1:List (List IV->Prop)}{E1:Nat->Env}(h:KP Cx P C Q d E K O nt kk CW)(h1:K<+:K1)(h2:∀j,j<d->E1 j=E j)(h3:(E1 d).n=(E d).n):KP Cx P C Q d E1 K1 (O++Cb) nt kk CW:=
 λt pv V' I K' R' aU E' au v hf hv hs=>h t pv V' (Cb++I) K' R' aU E' au v (yC.trans (V1:=V') (R1:=R') (eg:=aU) (av:=au) h1 h2 h3 hf) (by rw[<-awv];exact hv) (by rw[<-awv];exact hs)
def KW.kp{nt:Nat}{kk:yw->SS->aq}{CW:Nat->kT}(h:KW Cx P C Q d E K O nt kk CW):KP Cx P C Q d E K O nt (λt pv V=>kk (.cd t pv) V) (λN v e G=>CW N (.cd v) e G):=
 λt pv V' I K' R' aU E' au v hf hv hs=>h (.cd t pv) V' I K' R' aU E' au _ hf ⟨v,rfl,hv⟩ hs
def KS.fwd{nt:Nat}{kk:SS->aq}{CW:Nat->Env->St->Prop}{Cb:List IV}{K1:List (List IV->Prop)}{E1:Nat->Env}(h:KS Cx P C Q d E K O nt kk CW)(h1:K<+:K1)(h2:∀j,j<d->E1 j=E j)(h3:(E1 d).n=(E d).n):KS Cx P C Q d E1 K1 (O++Cb) nt kk CW:=
 λV' I K' R' aU E' au hf hs=>h V' (Cb++I) K' R' aU E' au (yC.trans (V1:=V') (R1:=R') (eg:=aU) (av:=au) h1 h2 h3 hf) (by rw[<-awv];exact hs)
def yC.here(hJ:J Cx (ax P O) R X V.g V.l E G)(hn:O.length=V.n)(hK:K.length=V.lv):yC Cx P d E K O V.nt V [] K R X E G:=
 ⟨List.prefix_refl _,hK,rfl,by rw[aww];exact hJ,by rw[aww];exact hn,λ_ _=>rfl,rfl⟩
def KS.now{kk:SS->aq}{CW:Nat->Env->St->Prop}(h:KS Cx P C Q d E K O V.nt kk CW)(hJ:J Cx (ax P O) R X V.g V.l E G)(hn:O.length=V.n)(hK:K.length=V.lv)(hs:(kk V).sat P C Q K O):∃b,∀N,b<=N->G.n<=N/\CW N (E d) G:=
 h V [] K R X E G (.here hJ hn hK) (by rw[aww];exact hs)
def KW.now{kk:yw->SS->aq}{CW:Nat->kT}(h:KW Cx P C Q d E K O V.nt kk CW)(hJ:J Cx (ax P O) R X V.g V.l E G)(hn:O.length=V.n)(hK:K.length=V.lv){ex:yw}{x:Ex}(hx:XR P O R X V.l G ex x)(hs:(kk ex V).sat P C Q K O):∃b,∀N,b<=N->G.n<=N/\CW N x (E d) G:=
 h ex V [] K R X E G x (.here hJ hn hK) (by rw[aww];exact hx) (by rw[aww];exact hs)
def abU(hJ:J Cx (ax P O) R X V.g V.l E G){t:TypeId}{pa pv:PV SE}{x:IV}(hx:VR (ax P O) R X V.l G x pa)(hl:Tu P t pa V=aa pv):
 ∃id off ext s cS v,x=.ptr id off 0 ext/\aW P t=aa s/\G.at id=aa (.cells cS 0 0)/\s<=ext/\partOf P t cS off=aa v/\VR (ax P O) R X V.l G v pv:=by
 unfold Tu at hl;split at hl<;>try (cases hl;done)
 rename_i s b j off ext bf JH;split at hl<;>try (cases hl;done)
 rename_i cs hj;split at hl<;>try (cases hl;done)
 rename_i hle;simp only[awb,axS]at hle;obtain⟨id,sI,h1,h2,rfl⟩:=hx;obtain⟨bt,cS,h3,h4,h5,h6⟩:=hJ.obj j _ hj;rw[h1]at h3;cases h3
 have sN:if isAgg P t=ab then pv=.ag ((cs.drop off).take s)else∃c,(cs.drop off).take s=[c]/\pv=.one c:=by
  split at hl
  .rename_i ha;cases hl;rw[if_pos ha]
  .rename_i ha;rw[if_neg ha];split at hl
   .rename_i c hc;cases hl;exact⟨c,hc,rfl⟩
   .cases hl
 obtain⟨v,hv,hr⟩:=u_ bf JH h6 hle.2 sN;exact⟨id,off,ext,s,cS,v,rfl,bf,h5,hle.1,hv,hr⟩
def yZ(P:Program)(e:Env)(G:St)(r:ResultVar):Option IV:=
 match r with
 |.tmp t=>aa (e.at t)
 |.cell a t=>match e.at a with
  |.ptr id off ep ext=>match aW P t,G.at id with
   |some s,aa (.cells cs aD mn)=>if s<=ext/\mn<=ep/\ep<=aD then partOf P t cs off else ah
   |_,_=>ah
  |_=>ah
theorem vb(hJ:J Cx (ax P O) R X V.g V.l E G):∀{rs:List ResultVar} {da:List (PV SE)},s9 P d V rs=aa da->∃vs,rs.mapM (yZ P (E d) G)=aa vs/\All2 (VR (ax P O) R X V.l G) vs da
 |[],da,h=>by
  simp only[s9,awf]at h;subst h;exact⟨[],rfl,trivial⟩
 |.tmp t::rs,da,h=>by
  simp only[s9]at h;split at h
  .rename_i kC hp;cases h;obtain⟨vs,h1,h2⟩:=vb hJ hp;refine⟨(E d).at t::vs,by simp[ayk,yZ,h1],?_,h2⟩;exact bw hJ d 0 (.tmp t)
  .cases h
 |.cell a t::rs,da,h=>by
  simp only[s9]at h;split at h
  .rename_i pa oJ;split at h
   .rename_i pv kC hl hp;cases h;obtain⟨vs,h1,h2⟩:=vb hJ hp;obtain⟨id,off,ext,s,cS,v,g1,g2,g3,g4,g5,g6⟩:=abU hJ (hJ.slot d a pa oJ) hl;refine⟨v::vs,?_,g6,h2⟩;have:yZ P (E d) G (.cell a t)=aa v:=by simp[yZ,g1,g2,g3,g4,g5]
    simp[ayk,this,h1]
   .cases h
  .cases h
def HF:List IV->IV
 |[v]=>v
 |l=>.aF l
def Oj{vs:List IV}{da:List (PV SE)}(h:All2 (VR (ax P O) R X L G) vs da):VR (ax P O) R X L G (HF vs) (Hn da):=by
 have conv:∀{x:IV} {pv:PV SE},VR (ax P O) R X L G x pv->vA (ax P O) R X L G x (match pv with|.one c=>(af,[c])|.ag cs=>(ab,cs)|.tu _=>(af,[.un])):=by
  intro x pv hx;cases pv with
  |one c=>exact⟨c,rfl,hx⟩
  |ag cs=>exact hx
  |tu vs=>exact⟨.un,rfl,trivial⟩
 match vs,da,h with
 |[],[],_=>trivial
 |[v],[pv],h=>exact h.1
 |v::v'::vs,pv::Gx::da,h=>exact⟨_,rfl,h.map λ_ _ b_=>conv b_⟩
def vc{fn:Func}{e:Env}{vs:List IV}(h:fn.results.toList.mapM (yZ P e G)=aa vs):cV P fn e G=aa (HF vs):=by
 unfold cV;simp only
 have Ol:∀r,(match r with
  |aBO t=>aa (e.at t)
  |aBP a t=>match e.at a with
   |.ptr id off ep ext=>match aW P t,G.at id with
    |some s,aa (.cells cs aD mn)=>if s<=ext/\mn<=ep/\ep<=aD then partOf P t cs off else ah
    |_,_=>ah
   |_=>ah)=yZ P e G r:=λr=>rfl
 generalize hl:fn.results.toList=l at h⊢
 match l,h with
 |[],h=>simp[aAb]at h;subst h;rfl
 |[r],h=>
  simp only[ayk,aAb]at h;cases ho:yZ P e G r with
  |none=>rw[ho]at h;simp at h
  |some v=>rw[ho]at h;simp at h;subst h;exact ho
 |r::r'::rs,h=>
  have hlen:∃v v' zf,vs=v::v'::zf:=by
   simp only[ayk]at h;cases h1:yZ P e G r with
   |none=>rw[h1]at h;simp at h
   |some v=>
    cases h2:yZ P e G r' with
    |none=>rw[h1,h2]at h;simp at h
    |some v'=>
     cases h3:rs.mapM (yZ P e G)with
     |none=>rw[h1,h2,h3]at h;simp at h
     |some zf=>rw[h1,h2,h3]at h;simp at h;exact⟨v,v',zf,h.symm⟩
  obtain⟨v,v',zf,rfl⟩:=hlen;have h':(r::r'::rs).mapM (yZ P e G)=aa (v::v'::zf):=h;have e2:(match(r::r'::rs).mapM (yZ P e G)with|some vs=>aa (IV.aF vs)|none=>ah)=aa (HF (v::v'::zf)):=by rw[h'];rfl
  exact e2
def eS(E:Nat->Env)(d:Nat)(e:Env){j:Nat}(h:j≠d):kS E d e j=E j:=by simp[kS,h]
theorem Dk{α:Type}{d t:Nat}{pv:PV α}:∀{g h:List (Nat×Nat×PV α)},ct d t (g++h)=aa pv->ct d t g=aa pv\/ct d t h=aa pv
 |[],h,hg=>.inr hg
 |(a,b,q)::g,h,hg=>by
  simp only[List.cons_append,ct]at hg⊢;split at hg
  .rename_i hc;rw[if_pos hc];exact .inl hg
  .rename_i hc;rw[if_neg hc];exact Dk hg
theorem ml{α:Type}{d d' t:Nat}{pv:PV SE}:∀{da:List (PV SE)} {j:Nat},ct d' t (setArgs d j da)=aa pv->d'=d/\j<=t/\da[t- j]?=aa pv
 |[],j,h=>by cases h
 |q::da,j,h=>by
  simp only[setArgs]at h;rcases lU h with⟨rfl,rfl,rfl⟩|⟨bg,h2⟩
  .simp
  .obtain⟨rfl,h3,h4⟩:=ml (α:=α) h2;refine⟨rfl,by omega,?_⟩;rw[show t- j=(t-(j+1))+1 by omega];simpa using h4
theorem pf{d d' t:Nat}{pv:PV SE}:∀{g:List (Nat×Nat×PV SE)},ct d' t (eE d g)=aa pv->d'≠d/\ct d' t g=aa pv
 |[],h=>by cases h
 |(a,b,q)::g,h=>by
  simp only[eE]at h;split at h
  .rename_i hc;have pM:=awk hc;obtain⟨h1,h2⟩:=pf h;refine⟨h1,?_⟩;unfold ct;rw[if_neg]
   .exact h2
   .simp only[awb,awV];rintro⟨rfl,_⟩;exact h1 pM
  .rename_i hc;have pM:a≠d:=by intro h;subst h;simp at hc
   rcases lU h with⟨rfl,rfl,rfl⟩|⟨bg,h2⟩
   .exact⟨pM,by simp[ct]⟩
   .obtain⟨h3,h4⟩:=pf h2;refine⟨h3,?_⟩;unfold ct;rw[if_neg (by simpa only[awb,awV]using bg)];exact h4
theorem Mm:∀(args:List IV) (j:Nat) (e:Env) (t:Nat),j+args.length<=e.n->((args.zipIdx j).foldl (λe (p:IV×Nat)=>e.put (aa p.2) p.1) e).n=e.n/\
 (((args.zipIdx j).foldl (λe (p:IV×Nat)=>e.put (aa p.2) p.1) e).at t=if j<=t/\t<j+args.length then(args[t- j]?).getD .undef else e.at t)
 |[],j,e,t,_=>by simp;intro h1 h2;omega
 |a::args,j,e,t,h=>by
  simp only[awJ]at h;simp only[List.zipIdx_cons,List.foldl_cons];obtain⟨h1,h2⟩:=Mm args (j+1) (e.put (aa j) a) t (by rw[eO];omega);refine⟨by rw[h1,eO],?_⟩;rw[h2];by_cases hc:j+1<=t/\t<j+1+args.length
  .rw[if_pos hc,if_pos ⟨by omega,by simp;omega⟩,show t- j=(t-(j+1))+1 by omega];simp
  .rw[if_neg hc];by_cases ht:t=j
   .subst ht;rw[if_pos ⟨awe _,by simp⟩,Env.cW,if_pos ⟨by omega,rfl⟩];simp
   .rw[if_neg (by simp;omega),Gw _ _ _ _ (by simpa using λh=>ht h.symm)]
def fi{args:List IV}{n t:Nat}(h:args.length<=n):(dX args n).n=n/\(t<args.length->(dX args n).at t=(args[t]?).getD .undef):=by
 obtain⟨h1,h2⟩:=Mm args 0 ⟨n,.lf⟩ t (by simpa using h);refine⟨h1,λht=>?_⟩;have:=h2;rw[if_pos ⟨aw5 _,by omega⟩]at this;exact this
def abV(hJ:J Cx (ax P O) R X V.g V.l E G){args:List IV}{da:List (PV SE)}{n:Nat}(h:All2 (VR (ax P O) R X V.l G) args da)(hl:args.length<=n):
 J Cx (ax P O) R X (setArgs (d+1) 0 da++eE (d+1) V.g) V.l (kS E (d+1) (dX args n)) G:=by
 refine{hJ with slot:=λd' t pv hg=>?_};rcases Dk hg with hg|hg
 .obtain⟨rfl,_,h3⟩:=ml (α:=IV) hg;have ht:t<args.length:=by rw[h.len];have:=(awa.1 h3).1;simpa using this
  rw[bI,(fi hl).2 ht,av_ ht];exact h.get (av_ ht) (by simpa using h3)
 .obtain⟨h1,h2⟩:=pf hg;rw[eS _ _ _ h1];exact hJ.slot d' t pv h2
def vd(hJ:J Cx (ax P O) R X V.g V.l E G)(d:Nat):J Cx (ax P O) R X (eE d V.g) V.l E G:=hJ.less λ_ _ _ h=>(pf h).2
def zJ(bE:ou Cx P C Q self)(hJ:J Cx (ax P O) R X V.g V.l E G)(hn:O.length=V.n)(hK:K.length=V.lv)(bR:(E d).n=V.nt){g:FuncId}{dst:Option Nat}{args:List IV}{da:List (PV SE)}(bJ:All2 (VR (ax P O) R X V.l G) args da)
 {kx:Kx}(hs:(oH P cfg self kx d f0 dst g da V k).sat P C Q K O){RW PW:Nat->IV->St->Prop}
 (hk:∀(pv:PV SE) (V':SS) I K' R' aU E' au v,yC Cx P d E K O V.nt V' I K' R' aU E' au->E' d=E d->VR (ax P (O++I)) R' aU V'.l au v pv->(k pv V').sat P C Q K' (O++I)->∃b,∀N,b<=N->au.n<=N/\RW N v au)
 (Cc:∀t (pv:PV SE) (V':SS) I K' R' aU E' au v,yC Cx P d E K O V.nt V' I K' R' aU E' au->E' d=E d->VR (ax P (O++I)) R' aU V'.l au v pv->(kx t pv V').sat P C Q K' (O++I)->∃b,∀N,b<=N->au.n<=N/\PW N (.dK t v) au):
 ∃fn,P.funcs[g]?=aa fn/\fn.body.isSome=ab/\(fn.name != "runtime.NumGoroutine")=ab/\∃b,∀N,b<=N->vD P N g args G (RW N) (PW N):=by
 unfold oH at hs;split at hs<;>try exact hs.elim
 rename_i fn cL;split at hs<;>try exact hs.elim
 rename_i body hb;split at hs<;>try exact hs.elim
 split at hs<;>try exact hs.elim
 rename_i hc;simp only[awb,axS]at hc;have hl:args.length<=fn.ntmps:=by rw[bJ.len];exact hc.1
 refine⟨fn,cL,by simp[hb],hc.2,?_⟩;have bH:=abV (d:=d) hJ bJ hl
 obtain⟨b,sH⟩:=bE af (d+1) _ body {V with g:=setArgs (d+1) 0 da++eE (d+1) V.g,nt:=fn.ntmps} _ O K R X (kS E (d+1) (dX args fn.ntmps)) G
  (λN ex e1 av=>av.n<=N/\(((ex=.normal\/ex=.ret)/\∃v,cV P fn e1 av=aa v/\RW N v av)\/∃v,ex=.cd v/\PW N v av)) ah [] (λ_=>rfl) hs bH hn hK (by rw[bI,(fi (t:=0) hl).1]) (by
   intro ex V' I K' R' aU E' au x hf hx bp;have mq:E' d=E d:=by rw[hf.hE d aj,eS _ _ _ aj]
   have main:∀kC,s9 P (d+1) V' fn.results.toList=aa kC->(k (Hn kC) {V' with g:=eE (d+1) V'.g,nt:=V.nt}).sat P C Q K' (O++I)->∃b,∀N,b<=N->au.n<=N/\au.n<=N/\∃v,cV P fn (E' (d+1)) au=aa v/\RW N v au:=by
    intro kC hr gJ;obtain⟨vs,h1,h2⟩:=vb hf.hJ hr;have hv:=Oj h2
    obtain⟨b,hb⟩:=hk (Hn kC) {V' with g:=eE (d+1) V'.g,nt:=V.nt} I K' R' aU E' au (HF vs)
     ⟨hf.hK,hf.fW,rfl,vd hf.hJ (d+1),hf.hn,λj hj=>by rw[hf.hE j aj,eS _ _ _ aj],by rw[mq]⟩ mq hv gJ
    exact⟨b,λN hN=>⟨(hb N hN).1,(hb N hN).1,HF vs,vc h1,(hb N hN).2⟩⟩
   cases ex with
   |exit i=>exact bp.elim
   |cd t pv=>
    obtain⟨v,rfl,hv⟩:=hx
    obtain⟨b,hb⟩:=Cc t pv {V' with g:=eE (d+1) V'.g,nt:=V.nt} I K' R' aU E' au v
     ⟨hf.hK,hf.fW,rfl,vd hf.hJ (d+1),hf.hn,λj hj=>by rw[hf.hE j aj,eS _ _ _ aj],by rw[mq]⟩ mq hv bp
    exact⟨b,λN hN=>⟨(hb N hN).1,(hb N hN).1,.inr ⟨_,rfl,(hb N hN).2⟩⟩⟩
   |normal=>
    obtain rfl:=hx;simp only at bp;split at bp
    .rename_i kC hr;obtain⟨b,hb⟩:=main kC hr bp;exact⟨b,λN hN=>⟨(hb N hN).1,(hb N hN).2.1,.inl ⟨.inl rfl,(hb N hN).2.2⟩⟩⟩
    .exact bp.elim
   |ret=>
    obtain rfl:=hx;simp only at bp;split at bp
    .rename_i kC hr;obtain⟨b,hb⟩:=main kC hr bp;exact⟨b,λN hN=>⟨(hb N hN).1,(hb N hN).2.1,.inl ⟨.inr rfl,(hb N hN).2.2⟩⟩⟩
    .exact bp.elim)
 refine⟨b,λN hN=>?_⟩;have:=sH N hN;rw[bI]at this;exact vD.body cL hb hl this
end
section
variable{Cx:Cs}
variable{P:Program}{N:Nat}{G au:St}{R R':Rs}{X aU:Ph}{E:Nat->Env}{O sP vs:List IV}{n:Nat}{args:List SE}{ef:List (Nat×Nat)}
def ais{sP a b:List IV}:∀(e:SE),e.zp sP.length=ab->e.den P (sP++a)=e.den P (sP++b):=by
 intro e;induction e with
 |var x=>
  intro h;simp only[SE.zp]at h;have hx:x<sP.length:=by simpa using h
  simp[SE.den,awp hx]
 |i|k|b|s|raw|an=>intro _;rfl
 |ok e ih|lV _ e ih|aO e _ ih|len e ih|uy e ih|tr _ e ih|tp e ih|proj e _ ih|un _ e ih|cv _ _ e ih|rw e ih|rws e ih=>intro h;simp only[SE.zp]at h;simp only[SE.den,ih h]
 |idx _ e f gI fL|oY _ e f _ gI fL|ac e f gI fL|cat _ _ e f gI fL|bin _ _ e f gI fL|mx _ e f gI fL|LW e f gI fL|has _ e f gI fL|dec _ e f gI fL=>
  intro h;simp only[SE.zp,awb]at h;simp only[SE.den,gI h.1,fL h.2]
 |yV _ e f g gI fL Hr|sub _ e f g gI fL Hr|Kn e f g gI fL Hr|ins _ e f g gI fL Hr|get _ e f g gI fL Hr=>
  intro h;simp only[SE.zp,awb]at h;simp only[SE.den,gI h.1.1,fL h.1.2,Hr h.2]
structure Ins(P:Program)(n:Nat)(args:List SE)(O sP vs:List IV):Prop where
 len:sP.length=n
 pre:∃I,O=sP++I
 args:All2 (λ(e:SE) y=>e.den P O=aa y) args vs
def mu(hI:Ins P n args O sP vs){h e:SE}(hc:xG n args h e=ab){y:IV}(hy:e.den P O=aa y):h.den P (sP++vs)=aa y:=by
 obtain⟨hl,⟨I,rfl⟩,ha⟩:=hI;unfold xG at hc;split at hc
 .rename_i x;split at hc
  .rename_i hx;have jQ:x<sP.length:=by rw[hl];simpa using hx
   have:=SE.eq_eq hc;subst this;simp only[SE.den,awp jQ]at hy⊢;exact hy
  .rename_i hx;have jQ:n<=x:=by simpa using hx
   split at hc
   .rename_i a hax;have:=SE.eq_eq hc;subst this;have ak:x- n<vs.length:=by rw[<-ha.len];exact(awa.1 hax).1
    have hv:=ha.get hax (av_ ak);rw[hy]at hv;simp only[SE.den];rw[List.getElem?_append_right aj,hl,av_ ak];exact hv.symm
   .cases hc
 .simp only[awb]at hc;obtain⟨h1,h2⟩:=hc;have:=SE.eq_eq h2;subst this;rw[<-hl]at h1;rw[ais (b:=I) h h1];exact hy
variable{H V:SS}
def jS(X:Ph)(H:SS)(ef:List (Nat×Nat)):Ph:=λk=>if isLive H.l k=ab then(uA ef k).bind X else ah
def T5{α:Type}{l:List (Nat×α)}{k:Nat}{a:α}(h:uA l k=aa a):(k,a)∈l:=by
 induction l with
 |nil=>cases h
 |cons p l ih=>
  obtain⟨x,y⟩:=p;simp only[uA]at h;split at h
  .rename_i hc;cases h;rw[awk hc];simp
  .exact awI _ (ih h)
def akN(h:aeh ef=ab){k k' e:Nat}(h1:uA ef k=aa e)(h2:uA ef k'=aa e):k=k':=by
 unfold aeh at h;rw[awt]at h;have:=h _ (T5 h1);rw[awt]at this;have:=this _ (T5 h2);simpa using this
theorem Om{l:List (LO SE)}:∀{os:List (LO SE)} {k:Nat},Tt n args ef l k os=ab->∀{j:Nat} {o:LO SE},os[j]?=aa o->o≠.dead->∃k' o',uA ef (k+j)=aa k'/\l[k']?=aa o'/\yX n args ef o o'=ab
 |[],k,_,j,o,h,_=>by simp at h
 |a::os,k,hc,j,o,h,hd=>by
  simp only[Tt,awb]at hc;cases j with
  |zero=>
   simp at h;subst h;have bU:=hc.1;split at bU
   .exact absurd rfl hd
   .split at bU
    .rename_i k' hk;split at bU
     .rename_i o' ho;exact⟨k',o',hk,ho,bU⟩
     .cases bU
    .cases bU
  |succ j=>
   simp at h;obtain⟨k',o',h1,h2,h3⟩:=Om hc.2 h hd;exact⟨k',o',by rw[show k+(j+1)=k+1+j by omega];exact h1,h2,h3⟩
def T6{l:List (LO SE)}{k:Nat}(h:isLive l k=ab):∃o,l[k]?=aa o/\o≠.dead:=by
 unfold isLive at h;split at h
 .cases h
 .cases h
 .rename_i h1 h2;cases hk:l[k]? with
  |none=>exact absurd hk h2
  |some o=>exact⟨o,rfl,λhc=>h1 (by rw[hk,hc])⟩
theorem nM{α β:Type}{f:α->α->Bool}{r:β->α->Prop}{r':β->α->Prop}:∀{xs:List β} {as bs:List α},(∀x a b,a∈as->f a b=ab->r x b->r' x a)->kB f as bs=ab->All2 r xs bs->All2 r' xs as
 |[],[],[],_,_,_=>trivial
 |x::xs,a::as,b::bs,hf,h,hx=>by
  simp only[kB,awb]at h;exact⟨hf x a b ay h.1 hx.1,nM (λx a b ha=>hf x a b (by simp[ha])) h.2 hx.2⟩
 |[],a::as,[],_,h,_=>by cases h
 |[],[],b::bs,_,h,_=>by cases h
 |[],_::_,_::_,_,_,hx=>hx.elim
 |_::_,[],[],_,_,hx=>hx.elim
 |_::_,_::_,[],_,h,_=>by cases h
 |_::_,[],_::_,_,h,_=>by cases h
theorem Mn{α:Type}{f:α->α->Bool}:∀{as bs:List α},kB f as bs=ab->∀{a:α},a∈as->∃b,b∈bs/\f a b=ab
 |[],_,_,_,h=>by cases h
 |x::as,y::bs,h,a,ha=>by
  simp only[kB,awb]at h;rcases aws.1 ha with rfl|ha
  .exact⟨y,by simp,h.1⟩
  .obtain⟨b,h1,h2⟩:=Mn h.2 ha;exact⟨b,by simp[h1],h2⟩
 |_::_,[],h,_,_=>by cases h
variable(hI:Ins P n args O sP vs)(hJ:J Cx (ax P O) R X V.g V.l E G)(hL:Tt n args ef V.l 0 H.l=ab)
include hI hJ hL
theorem D_{h e:Cl SE}{x:IV}(zK:∀k∈tP h,isLive H.l k=ab)(hc:rp n args ef h e=ab)(hx:cR (ax P O) R X V.l G x e):cR (ax P (sP++vs)) R (jS X H ef) H.l G x h:=by
 have key:∀k k',E5 ef k k'=ab->isLive H.l k=ab->∃o o',H.l[k]?=aa o/\V.l[k']?=aa o'/\yX n args ef o o'=ab/\jS X H ef k=X k':=by
  intro k k' hk hl;obtain⟨o,h1,h2⟩:=T6 hl;obtain⟨k2,o',h3,h4,h5⟩:=Om hL h1 h2;rw[axo]at h3;unfold E5 at hk;rw[h3]at hk;have:=awk hk;subst this;exact⟨o,o',h1,h4,h5,by simp[jS,hl,h3]⟩
 cases h with
 |un=>trivial
 |v a=>
  cases e<;>simp only[rp]at hc<;>try (cases hc;done)
  .obtain⟨y,h1,h2⟩:=hx;exact⟨y,mu hI hc h1,h2⟩
  .rename_i b s;obtain⟨h1,h2⟩:=hx;refine⟨.tree s [],mu hI hc (by simp[SE.den,h1]),?_,rfl⟩;subst h2;cases b
   .exact .emp s h1
   .exact .nil s h1
 |w f a=>
  cases e<;>simp only[rp,awb]at hc<;>try (cases hc;done)
  .obtain⟨hf,hc⟩:=hc;obtain⟨y,h1,h2,h3⟩:=hx;subst hf;exact⟨y,mu hI hc h1,h2.mono hJ.B_,h3⟩
  .rename_i f' b;obtain⟨hf,hc⟩:=hc;obtain⟨y,h1,h2,h3⟩:=hx;exact⟨y,mu hI hc h1,h2.wide (λh=>by subst h;simpa using hf),h3⟩
  .rename_i b s;obtain⟨h1,h2⟩:=hx;refine⟨.tree s [],mu hI hc (by simp[SE.den,h1]),?_,rfl⟩;subst h2;cases b
   .exact .emp s h1
   .exact .nil s h1
 |nl a s=>
  cases e<;>simp only[rp,awb,awV,beq_iff_eq]at hc<;>try (cases hc;done)
  obtain⟨rfl,rfl⟩:=hc;exact hx
 |pt k o x'=>
  cases e<;>simp only[rp,awb,awV]at hc<;>try (cases hc;done)
  obtain⟨⟨rfl,rfl⟩,hk⟩:=hc;obtain⟨id,cs,h1,h2,h3⟩:=hx;obtain⟨o1,o2,g1,g2,g3,g4⟩:=key _ _ hk (zK k (by simp[tP]));rw[h2]at g2;cases g2;cases o1<;>simp only[yX]at g3<;>try (cases g3;done)
  exact⟨id,_,by rw[g4];exact h1,g1,h3⟩
 |tp a=>
  cases e<;>simp only[rp]at hc<;>try (cases hc;done)
  obtain⟨ds,h1,h2⟩:=hx;exact⟨ds,h1,nM (λd a b _ b_ ⟨y,h3,h4⟩=>⟨y,mu hI b_ h3,h4⟩) hc h2⟩
 |tw f a=>cases e<;>simp[rp]at hc
 |sr k=>
  cases e<;>simp only[rp]at hc<;>try (cases hc;done)
  obtain⟨s,st,cut,fr,z,es,h1,h2,h3⟩:=hx;obtain⟨o1,o2,g1,g2,g3,g4⟩:=key _ _ hc (zK k (by simp[tP]));rw[h1]at g2;cases g2;cases o1<;>simp only[yX,awb,awV,beq_iff_eq]at g3<;>try (cases g3;done)
  obtain⟨⟨⟨⟨rfl,rfl⟩,TQ⟩,qW⟩,hz⟩:=g3;refine⟨_,_,_,_,_,es,g1,mu hI hz h2,?_⟩;rcases h3 with⟨a1,a2,a3⟩|⟨id,cs,aD,mn,cap,a1,a2,a3,a4,a5,a6⟩
  .exact .inl ⟨by rw[g4];exact a1,a2,a3⟩
  .exact .inr ⟨id,cs,aD,mn,cap,by rw[g4];exact a1,a2,a3,a4,λhn pM=>a5 hn (by subst pM;simpa using TQ),a6⟩
 |sv k lo=>cases e<;>simp[rp]at hc
 |pr k i off ext=>cases e<;>simp[rp]at hc
 |mp k=>
  cases e<;>simp only[rp]at hc<;>try (cases hc;done)
  obtain⟨id,kt,es,h1,h2,h3⟩:=hx;obtain⟨o1,o2,g1,g2,g3,g4⟩:=key _ _ hc (zK k (by simp[tP]));rw[h2]at g2;cases g2;cases o1<;>simp only[yX,awb,awV]at g3<;>try (cases g3;done)
  obtain⟨⟨rfl,_⟩,_⟩:=g3;exact⟨id,_,_,by rw[g4];exact h1,g1,h3⟩
 |yl k=>
  cases e<;>simp only[rp]at hc<;>try (cases hc;done)
  obtain⟨id,c,st,sn,h1,h2,h3⟩:=hx;obtain⟨o1,o2,g1,g2,g3,g4⟩:=key _ _ hc (zK k (by simp[tP]));rw[h2]at g2;cases g2;cases o1<;>simp only[yX]at g3<;>try (cases g3;done)
  exact⟨id,_,_,_,by rw[g4];exact h1,g1,h3⟩
 |fn f a=>
  cases e<;>simp only[rp,awb,awV]at hc<;>try (cases hc;done)
  obtain⟨rfl,hl⟩:=hc;rcases hx with⟨rfl,h2⟩|⟨ys,h1,h2⟩
  .have:a=[]:=by cases a with|nil=>rfl|cons=>cases hl
   subst this;exact .inl ⟨rfl,h2⟩
  .refine .inr ⟨ys,h1,?_⟩;refine nM (λy p q hp AL ⟨id,cs,h3,h4,h5⟩=>?_) hl h2;simp only[awb,awV]at AL;obtain⟨o1,o2,g1,g2,g3,g4⟩:=key _ _ AL.2 (zK p.1 (by simp only[tP];exact List.mem_map_of_mem hp));rw[h4]at g2;cases g2;cases o1<;>simp only[yX]at g3<;>try (cases g3;done)
   exact⟨id,_,by rw[g4];exact h3,g1,by rw[AL.1];exact h5⟩
theorem T7{h e:PV SE}{x:IV}(zK:∀k∈Hm h,isLive H.l k=ab)(hc:II n args ef h e=ab)(hx:VR (ax P O) R X V.l G x e):VR (ax P (sP++vs)) R (jS X H ef) H.l G x h:=by
 cases h with
 |one c=>
  cases e<;>simp only[II]at hc<;>try (cases hc;done)
  exact D_ hI hJ hL zK hc hx
 |ag cs=>
  cases e<;>simp only[II]at hc<;>try (cases hc;done)
  obtain⟨xs,h1,h2⟩:=hx;exact⟨xs,h1,nM (r:=cR (ax P O) R X V.l G) (λx a b ha b_ hx=>D_ hI hJ hL (λk hk=>zK k (axq.2 ⟨a,ha,hk⟩)) b_ hx) hc h2⟩
 |tu us=>
  cases e<;>simp only[II]at hc<;>try (cases hc;done)
  obtain⟨xs,h1,h2⟩:=hx;refine⟨xs,h1,nM (λx a b ha b_ hx=>?_) hc h2⟩;simp only[awb,beq_iff_eq]at b_;have hla:∀c∈a.2,∀k∈tP c,isLive H.l k=ab:=λc hc k hk=>zK k (axq.2 ⟨a,ha,axq.2 ⟨c,hc,hk⟩⟩);unfold vA at hx⊢;rw[b_.1];split at hx
  .rename_i hb;rw[if_pos hb];obtain⟨ys,h3,h4⟩:=hx;exact⟨ys,h3,nM (r:=cR (ax P O) R X V.l G) (λx c c' hca jy hx=>D_ hI hJ hL (hla c hca) jy hx) b_.2 h4⟩
  .rename_i hb;rw[if_neg hb];obtain⟨c,h3,h4⟩:=hx;have gg:=b_.2;rw[h3]at gg;obtain⟨a1,a2⟩:=a;cases a2 with
   |nil=>cases gg
   |cons c' r=>
    cases r with
    |cons=>simp[kB]at gg
    |nil=>
     simp only[kB,Bool.and_true]at gg;exact⟨c',rfl,D_ hI hJ hL (hla c' ay) gg h4⟩
omit hI hJ hL in
theorem On{m:Nat}(hJ:J Cx (ax P O) R X V.g V.l E G)(hl:sP.length=n)(hp:∃I,O=sP++I)(h:inst n m H V=aa (args,ef)){vs:List IV}(hv:All2 (λ(e:SE) y=>e.den P O=aa y) args vs):
 vs.length=m/\J Cx (ax P (sP++vs)) R (jS X H ef) H.g H.l E G:=by
 unfold inst at h;split at h
 .cases h
 .rename_i hlr;have aeN:Kr H=ab:=by simpa using hlr
  split at h<;>try (cases h;done)
  split at h<;>try (cases h;done)
  split at h<;>try (cases h;done)
  split at h<;>try (cases h;done)
  rename_i hc;simp only[awf,awM]at h;obtain⟨e1,e2⟩:=h;rw[e1,e2]at hc;simp only[awb,awV]at hc;obtain⟨⟨⟨c1,c2⟩,c3⟩,c4⟩:=hc;have hI:Ins P n args O sP vs:=⟨hl,hp,hv⟩;unfold Kr at aeN;simp only[awb,awt]at aeN;obtain⟨l1,l2⟩:=aeN
  have Og:∀{k id},jS X H ef k=aa id->isLive H.l k=ab/\∃k',uA ef k=aa k'/\X k'=aa id:=by
   intro k id hk;unfold jS at hk;split at hk
   .rename_i fW;obtain⟨k',h1,h2⟩:=awx.1 hk;exact⟨fW,k',h1,h2⟩
   .cases hk
  refine⟨by rw[<-hv.len];exact c4,λd t pv hg=>?_,λk o ho=>?_,λk k' id h1 h2=>?_,λk id hk=>?_,hJ.qz,hJ.fits,hJ.wf,hJ.top⟩
  .have dD:(d,t,pv)∈H.g:=by
    have:∀{g:List (Nat×Nat×PV SE)},ct d t g=aa pv->(d,t,pv)∈g:=by
     intro g;induction g with
     |nil=>intro h;cases h
     |cons p g ih=>
      obtain⟨a,b,q⟩:=p;intro h;rcases lU h with⟨rfl,rfl,rfl⟩|⟨_,h2⟩
      .simp
      .exact awI _ (ih h2)
    exact this hg
   unfold akq at c1;rw[awt]at c1;have:=c1 _ dD;simp only at this;split at this
   .rename_i Gx sN;exact T7 hI hJ c2 (λk hk=>l1 _ dD k hk) this (hJ.slot d t Gx sN)
   .cases this
  .by_cases hd:o=.dead
   .subst hd;trivial
   .obtain⟨k',o',h1,h2,h3⟩:=Om c2 ho hd;rw[axo]at h1
    have fW:isLive H.l k=ab:=by
     unfold isLive;rw[ho];cases o<;>first|rfl|exact absurd rfl hd
    have uE:jS X H ef k=X k':=by simp[jS,fW,h1]
    have eK:=hJ.obj k' o' h2;cases o with
    |dead=>exact absurd rfl hd
    |var cs=>
     cases o'<;>simp only[yX]at h3<;>try (cases h3;done)
     obtain⟨id,cS,g1,g2,g3,g4⟩:=eK;have hrefs:=l2 _ (awq ho);simp only at hrefs;rw[awt]at hrefs;exact⟨id,cS,by rw[uE];exact g1,g2,g3,nM (r:=cR (ax P O) R X V.l G) (λx a b ha b_ hx=>D_ hI hJ c2 (λk hk=>hrefs k (axq.2 ⟨a,ha,hk⟩)) b_ hx) h3 g4⟩
    |row s st cut fr z=>
     cases o'<;>simp only[yX,awb,awV,beq_iff_eq]at h3<;>try (cases h3;done)
     obtain⟨⟨⟨⟨rfl,rfl⟩,TQ⟩,qW⟩,hz⟩:=h3;obtain⟨cj,es,g1,g2,g3⟩:=eK;refine⟨cj,es,mu hI hz g1,g2,?_⟩;rcases g3 with⟨a1,a2⟩|⟨id,cs,aD,mn,a1,a2,a3,a4,a5,a6,a7⟩
     .exact .inl ⟨by rw[uE];exact a1,a2⟩
     .exact .inr ⟨id,cs,aD,mn,by rw[uE];exact a1,a2,a3,a4,a5,a6,λj x y hx hy=>(a7 j x y hx hy).wide (λh=>by subst h;simpa using qW)⟩
    |mp kt z=>
     cases o'<;>simp only[yX,awb,awV]at h3<;>try (cases h3;done)
     obtain⟨⟨rfl,hz⟩,Jn⟩:=h3;rw[lA]at eK⊢;split at eK
     .rename_i fO;rw[if_pos fO];rcases eK with⟨h0,id,ba,p,g1,g2,g3,g4⟩|⟨h0,id,m,ds,seen,rem,rest,g1,g2,g3,_,g5,g6⟩
      .exact .inl ⟨h0,id,ba,p,mu hI hz g1,by rw[uE];exact g2,g3,g4⟩
      .have sJ:aw6 kt 1000000=af:=by
        cases hb:aw6 kt 1000000 with
        |false=>rfl
        |true=>exact absurd (show kt<1000000 by simpa using hb) (Nat.not_lt.2 h0)
       have Mo:=l2 _ (awq ho);simp only[sJ,ayc]at Mo;rw[sJ,ayc]at Jn;unfold akp at Mo;split at Mo<;>try (cases Mo;done)
       rename_i oZ z2 akO;refine .inr ⟨h0,id,m,ds,seen,rem,rest,mu hI hz g1,by rw[uE];exact g2,g3,⟨oZ,z2,akO⟩,?_,g6⟩;unfold jS;rw[if_pos (by unfold isLive;rw[akO])];unfold E5 at Jn;split at Jn<;>try (cases Jn;done)
       rename_i e' fM;have:=awk Jn;rw[fM,<-this];exact g5
     .rename_i fO;rw[if_neg fO];obtain⟨id,es,clock,ds,g1,g2,g3,g4,g5⟩:=eK;exact⟨id,es,clock,ds,mu hI hz g1,by rw[uE];exact g2,g3,g4,g5⟩
    |lp c st sn=>
     cases o'<;>simp only[yX,awb,awV]at h3<;>try (cases h3;done)
     obtain⟨⟨rfl,rfl⟩,ym⟩:=h3;obtain⟨id,rc,tm,fT,s,p,f,g1,g2,g3,g4,g5,g6⟩:=eK;have hrefs:=l2 _ (awq ho);simp only at hrefs;rw[awt]at hrefs;refine⟨id,rc,tm,fT,s,p,f,by rw[uE];exact g1,g2,g3,g4,g5,λq hq=>?_⟩;obtain⟨q',rj,Xr⟩:=Mn ym hq;simp only[awb,awV]at Xr;refine⟨Xr.1.2,?_⟩;rw[Xr.1.1];exact T7 hI hJ c2 (λk hk=>hrefs k (axq.2 ⟨q,hq,hk⟩)) Xr.2 (g6 q' rj).2
  .obtain⟨_,a,sQ,vR⟩:=Og h1;obtain⟨_,b,cB,dv⟩:=Og h2;have:=hJ.inj a b id vR dv;subst this;exact akN c3 sQ cB
  .obtain⟨fW,a,sQ,vR⟩:=Og hk;obtain⟨o,ho,_⟩:=T6 fW;exact⟨c7 ho,(hJ.lt a id vR).2⟩
end
section
variable{Cx:Cs}
variable{P:Program}{N:Nat}{G au:St}{R R':Rs}{X aU:Ph}{E:Nat->Env}{O sP vs:List IV}{V:SS}{d t:Nat}
def J.T8{Γ:Gm SE}{L:List (LO SE)}(hJ:J Cx (ax P O) R X Γ L E G){pv:PV SE}(h:VR (ax P O) R X L G ((E d).at t) pv):J Cx (ax P O) R X (NL d t pv Γ) L E G:=by
 refine{hJ with slot:=λd' t' Gx wN=>?_};rcases lU wN with⟨rfl,rfl,rfl⟩|⟨_,h3⟩
 .exact h
 .exact hJ.slot d' t' Gx (Ki Γ h3).2
def ZX(hJ:J Cx (ax P O) R X V.g V.l E G)(d t:Nat):∃R',J Cx (ax P O) R' X (Am d t V).g (Am d t V).l E G/\(Am d t V).n=V.n/\(Am d t V).ln=V.ln:=by
 unfold Am;split
 .rename_i k hg;split
  .rename_i s st cut fr es hk;obtain⟨R',h1,h2,h3⟩:=xH hJ k;have hv:=hJ.slot d t _ hg;have Qs:cR (ax P O) R' X (nI k V).l G ((E d).at t) (.sr k):=h1.TB hv;obtain⟨y,a1,a2,a3⟩:=Tz h2 (h3 _ _ _ _ _ hk) Qs;refine⟨R',h2.T8 (pv:=.one (.w fr es)) ⟨y,a1,a2,a3⟩,?_,?_⟩
   .rw[HD];exact h1.2.1
   .rw[ZW];exact h1.2.2.1
  .exact⟨R,hJ,rfl,rfl⟩
 .exact⟨R,hJ,rfl,rfl⟩
theorem Cd:∀(ws:List (Nat×Nat×Nat)) {V:SS} {R:Rs},J Cx (ax P O) R X V.g V.l E G->∃R',J Cx (ax P O) R' X (settle ws V).g (settle ws V).l E G/\(settle ws V).n=V.n/\(settle ws V).ln=V.ln
 |[],V,R,hJ=>⟨R,hJ,rfl,rfl⟩
 |(d,t,m)::ws,V,R,hJ=>by
  simp only[settle];split
  .obtain⟨R1,h1,h2,h3⟩:=ZX hJ d t;obtain⟨R2,h4,h5,h6⟩:=Cd ws h1;exact⟨R2,h4,h5.trans h2,h6.trans h3⟩
  .exact Cd ws hJ
theorem yD(L:List (LO SE)):∀(g:List (Nat×Nat×PV SE)) {V:SS} {R:Rs},J Cx (ax P O) R X V.g V.l E G->∃R',J Cx (ax P O) R' X (yx L g V).g (yx L g V).l E G/\(yx L g V).n=V.n/\(yx L g V).ln=V.ln
 |[],V,R,hJ=>⟨R,hJ,rfl,rfl⟩
 |(d,t,pv)::g,V,R,hJ=>by
  unfold yx;split
  .rename_i hh;cases hh
  .rename_i d' t' k g' hh;cases hh;split
   .split
    .rename_i k' _;obtain⟨R1,h1,h2,_⟩:=xH hJ k';obtain⟨R2,h4,h5,h6⟩:=yD L g h2;exact⟨R2,h4,h5.trans h1.2.1,h6.trans h1.2.2.1⟩
    .exact yD L g hJ
   .exact yD L g hJ
  .rename_i p g' _ hh;cases hh;exact yD L g hJ
def aeO(ws:List (Nat×Nat×Nat))(H:SS){V:SS}{R:Rs}(hJ:J Cx (ax P O) R X V.g V.l E G):∃R',J Cx (ax P O) R' X (IH ws H V).g (IH ws H V).l E G/\(IH ws H V).n=V.n/\(IH ws H V).ln=V.ln:=by
 obtain⟨R1,h1,h2,h3⟩:=Cd ws hJ;obtain⟨R2,h4,h5,h6⟩:=yD H.l H.g h1;exact⟨R2,h4,h5.trans h2,h6.trans h3⟩
def T9{L:List (LO SE)}{Γ:Gm SE}(hJ:J Cx (ax P O) R X Γ L E G){x:IV}{b:Bool}{s:Nat}(hx:cR (ax P O) R X L G x (.nl b s)):
 J Cx (ax P O) R X Γ (L++[.row s af af af (.tr s .an)]) E G/\kL (ax P O) (ax P O) R X L G R X (L++[.row s af af af (.tr s .an)]) G (λ_=>False)/\cR (ax P O) R X (L++[.row s af af af (.tr s .an)]) G x (.sr L.length):=by
 obtain⟨hs,hx⟩:=hx;have hz:(SE.tr s .an).den P O=aa (.tree s []):=by simp[SE.den,hs]
 obtain⟨h1,h2⟩:=hJ.Aq (fr:=af) hs hz;exact⟨h2,h1,s,af,af,af,_,[],by simp,hz,.inl ⟨xj hJ (awe _),rfl,by subst hx;cases b<;>simp⟩⟩
theorem All2.set{α β:Type}{r:α->β->Prop}:∀{as:List α} {bs:List β} {i:Nat} {b:β},All2 r as bs->(∀a,as[i]?=aa a->r a b)->All2 r as (bs.set i b)
 |[],[],i,b,_,_=>by simp;trivial
 |a::as,b'::bs,i,b,h,hr=>by
  cases i with
  |zero=>exact⟨hr a rfl,h.2⟩
  |succ i=>exact⟨h.1,All2.set h.2 λa ha=>hr a (by simpa using ha)⟩
 |[],_::_,_,_,h,_=>h.elim
 |_::_,[],_,_,h,_=>h.elim
def abW(hJ:J Cx (ax P O) R X V.g V.l E G)(d t j:Nat):J Cx (ax P O) R X (D3 d t j V).g (D3 d t j V).l E G/\(D3 d t j V).n=V.n/\(D3 d t j V).ln=V.ln:=by
 unfold D3;split
 .rename_i b s hg;split
  .obtain⟨h1,_,h2⟩:=T9 hJ (x:=(E d).at t) (b:=b) (s:=s) (hJ.slot d t _ hg);exact⟨h1.T8 (pv:=.one (.sr V.l.length)) h2,rfl,rfl⟩
  .exact⟨hJ,rfl,rfl⟩
 .rename_i cs hg;split
  .rename_i b s hc;obtain⟨xs,wB,sG⟩:=hJ.slot d t _ hg;obtain⟨x,hx,hr⟩:=sG.Db hc;obtain⟨h1,h3,h2⟩:=T9 hJ hr;refine⟨h1.T8 (pv:=.ag _) ⟨xs,wB,(sG.mono λ_ _ b_=>b_.step h3 (Cl.aZ _)).set λa ha=>?_⟩,rfl,rfl⟩;rw[hx]at ha;cases ha;exact h2
  .exact⟨hJ,rfl,rfl⟩
 .exact⟨hJ,rfl,rfl⟩
def abX(hJ:J Cx (ax P O) R X V.g V.l E G)(k j:Nat):∃R',J Cx (ax P O) R' X (D4 k j V).g (D4 k j V).l E G/\(D4 k j V).n=V.n/\(D4 k j V).ln=V.ln:=by
 unfold D4;split
 .rename_i cs hk;split
  .rename_i b s hc;obtain⟨id,cS,g1,g2,g3,g4⟩:=hJ.obj k _ hk;obtain⟨x,hx,hr⟩:=g4.Db hc;obtain⟨h1,h3,h2⟩:=T9 hJ hr;have eX:=c7 hk;have kj:(V.l++[LO.row s af af af (SE.tr s SE.an)])[k]?=aa (.var cs):=by rw[awp eX];exact hk
   obtain⟨fq,bH⟩:=h1.tE (R':=R) (bad:=λ_=>False) (kq:=.var (cs.set j (.sr V.l.length))) (fp:=.cells cS 0 0) g1 kj (λ_ _=>rfl)
    (λm hm=>by rw[g2]at hm;cases hm) (λm _ _ _ hm=>by rw[g2]at hm;cases hm) (λm _ _ _ hm=>by rw[g2]at hm;cases hm)
    (λ_ _=>⟨_,rfl⟩) (λ_ _ h=>by cases h) (λ_ _ _ _ _ h=>by cases h) (λ_ _ pv _=>pv.aZ) (λ_ o _ _=>o.aZ)
    (λfq=>⟨id,cS,g1,g2,by rw[St.cW,if_pos rfl],((g4.mono λ_ _ b_=>b_.step h3 (Cl.aZ _)).set λa ha=>by rw[hx]at ha;cases ha;exact h2).mono λ_ _ b_=>b_.step fq (Cl.aZ _)⟩)
   have DR:G.put id (.cells cS 0 0)=G:=by
    unfold St.put
    have:G.t.set id (.cells cS 0 0)=G.t:=T.WF.ext (hJ.wf.set _ _) hJ.wf λi=>by
     rw[T.gX];split
     .rename_i hh;subst hh;exact g3.symm
     .rfl
    rw[this]
   rw[DR]at bH
   have Dd:(V.l++[LO.row s af af af (SE.tr s SE.an)]).set k (LO.var (cs.set j (Cl.sr V.l.length)))=V.l.set k (LO.var (cs.set j (Cl.sr V.l.length)))++[LO.row s af af af (SE.tr s SE.an)]:=by
    rw[List.set_append_left _ _ eX]
   rw[Dd]at bH;exact⟨R,bH,rfl,rfl⟩
  .exact⟨R,hJ,rfl,rfl⟩
 .split
  .obtain⟨R',h1,h2,h3⟩:=xH hJ k;exact⟨R',h2,h1.2.1,h1.2.2.1⟩
  .exact⟨R,hJ,rfl,rfl⟩
 .exact⟨R,hJ,rfl,rfl⟩
theorem Fl(h:Hint):∀(l:List (Nat×Nat×Nat)) {V:SS},J Cx (ax P O) R X V.g V.l E G->J Cx (ax P O) R X (w7 h l V).g (w7 h l V).l E G/\(w7 h l V).n=V.n/\(w7 h l V).ln=V.ln
 |[],V,hJ=>⟨hJ,rfl,rfl⟩
 |(d,t,j)::l,V,hJ=>by
  simp only[w7];split
  .obtain⟨h1,h2,h3⟩:=abW hJ d t j;obtain⟨h4,h5,h6⟩:=Fl h l h1;exact⟨h4,h5.trans h2,h6.trans h3⟩
  .exact Fl h l hJ
theorem Mp:∀(l:List (Nat×Nat)) {V:SS} {R:Rs},J Cx (ax P O) R X V.g V.l E G->∃R',J Cx (ax P O) R' X (w8 l V).g (w8 l V).l E G/\(w8 l V).n=V.n/\(w8 l V).ln=V.ln
 |[],V,R,hJ=>⟨R,hJ,rfl,rfl⟩
 |(k,j)::l,V,R,hJ=>by
  simp only[w8];obtain⟨R1,h1,h2,h3⟩:=abX hJ k j;obtain⟨R2,h4,h5,h6⟩:=Mp l h1;exact⟨R2,h4,h5.trans h2,h6.trans h3⟩
def T_(h:Hint)(hJ:J Cx (ax P O) R X V.g V.l E G):∃R',J Cx (ax P O) R' X (w9 h (settle h.AP V)).g (w9 h (settle h.AP V)).l E G/\(w9 h (settle h.AP V)).n=V.n/\(w9 h (settle h.AP V)).ln=V.ln:=by
 obtain⟨R',h1,h2,h3⟩:=Cd h.AP hJ;obtain⟨h4,h5,h6⟩:=Fl h h.LX.reverse h1;obtain⟨R2,h7,h8,h9⟩:=Mp h.AO.reverse h4;exact⟨R2,h7,h8.trans (h5.trans h2),h9.trans (h6.trans h3)⟩
variable{ro:Nat}{Z:Io}{w:World}{cfg:fe}{self:nJ}
variable{C:Cr}{Q:IV->Prop}{K:List (List IV->Prop)}{f0:Nat}{o:Oper}{k:PV SE->SS->aq}{L:List (LO SE)}{Γ:Gm SE}
def Mq{g:FuncId}{bs:List (Nat×Nat)}{args:List (PV SE)}{t:TypeId}{c:FuncId}{wJ:List (Nat×Nat)}(h:IJ cfg g bs args=aa (t,c,wJ)):bs=[]/\args=[.one (.fn c wJ)]/\guardOf cfg g=aa t:=by
 unfold IJ at h;split at h
 .rw[awj]at h;obtain⟨t',h1,h2⟩:=h;cases h2;exact⟨rfl,rfl,h1⟩
 .cases h
def HG{j:Nat}(h:Ho d V=aa j):ct d 2 V.g=aa (.one (.pt j 0 1))/\V.l[j]?=aa (.var [.v (.i 0)]):=by
 unfold Ho at h;split at h
 .rename_i j' hg;split at h
  .rename_i z hj;split at h
   .rename_i hz;cases h;have:z=0:=by simpa using hz
    subst this;exact⟨hg,hj⟩
   .cases h
  .cases h
 .cases h
def Ua(hJ:J Cx (ax P O) R X V.g V.l E G){j:Nat}(h:Ho d V=aa j){sF:Nat}(he:(E d).at 2=.ptr sF 0 0 1):X j=aa sF/\R sF=ah/\G.at sF=aa (.cells [.int 0] 0 0):=by
 obtain⟨hg,hj⟩:=HG h;obtain⟨id,cs,h1,h2,h3⟩:=hJ.slot d 2 _ hg;obtain⟨bt,cS,h4,h5,h6,h7⟩:=hJ.obj j _ hj;rw[he]at h3;have hid:id=sF:=by injection h3 with e;exact e.symm
 subst hid;rw[h1]at h4;cases h4;refine⟨h1,h5,?_⟩;rw[h6]
 match cS,h7 with
 |[x],h7=>
  obtain⟨y,h8,h9,_⟩:=h7.1;simp only[ax,SE.den,awf]at h8;subst h8;rw[cA h9]
def J.abY(hJ:J Cx (ax P O) R X Γ L E G){j id:Nat}{cs bG:List (Cl SE)}{cS:List IV}(h1:X j=aa id)(hj:L[j]?=aa (.var cs))(h2:R id=ah)(hc:All2 (cR (ax P O) R X L G) cS bG):
 J Cx (ax P O) R X Γ (L.set j (.var bG)) E (G.put id (.cells cS 0 0))/\kL (ax P O) (ax P O) R X L G R X (L.set j (.var bG)) (G.put id (.cells cS 0 0)) (λ_=>False):=by
 obtain⟨fq,bH⟩:=hJ.tE (R':=R) (bad:=λ_=>False) (kq:=.var bG) (fp:=.cells cS 0 0) h1 hj (λ_ _=>rfl)
  (λm hm=>by rw[h2]at hm;cases hm) (λm _ _ _ hm=>by rw[h2]at hm;cases hm) (λm _ _ _ hm=>by rw[h2]at hm;cases hm)
  (λ_ _=>⟨_,rfl⟩) (λ_ _ h=>by cases h) (λ_ _ _ _ _ h=>by cases h) (λ_ _ pv _=>pv.aZ) (λ_ o _ _=>o.aZ)
  (λfq=>⟨id,_,h1,h2,by rw[St.cW,if_pos rfl],hc.mono λ_ _ b_=>b_.step fq (Cl.aZ _)⟩)
 exact⟨bH,fq⟩
def J.ait(hJ:J Cx (ax P O) R X Γ L E G)(ob fp:Ob):J Cx (ax P O) R (bT X L.length G.n) Γ ((L++[LO.dead]).set L.length LO.dead) E ((G.add ob).put G.n fp)/\
 kL (ax P O) (ax P O) R X L G R (bT X L.length G.n) (L++[LO.dead]) (G.add ob) (λ_=>False)/\
 kL (ax P O) (ax P O) R (bT X L.length G.n) (L++[LO.dead]) (G.add ob) R (bT X L.length G.n) ((L++[LO.dead]).set L.length LO.dead) ((G.add ob).put G.n fp) (λ_=>False):=by
 have hs:=DY hJ ob .dead;have bH:=hJ.yS ob .dead trivial;have hn:=hJ.ra
 obtain⟨gJ,fg⟩:=bH.tE (k:=L.length) (id:=G.n) (lo:=.dead) (R':=R) (bad:=λ_=>False) (kq:=.dead) (fp:=fp) (by simp[bT]) ay (λ_ _=>rfl)
  (λm hm=>by rw[hn]at hm;cases hm) (λm _ _ _ hm=>by rw[hn]at hm;cases hm) (λm _ _ _ hm=>by rw[hn]at hm;cases hm)
  (λ_ h=>by cases h) (λ_ _ h=>by cases h) (λ_ _ _ _ _ h=>by cases h) (λ_ _ pv _=>pv.aZ) (λ_ o _ _=>o.aZ) (λ_=>trivial)
 exact⟨fg,hs,gJ⟩
def Qt(hC:mj P C)(bE:ou Cx P C Q self)(hJ:J Cx (ax P O) R X V.g V.l E G)(hn:O.length=V.n)(hK:K.length=V.lv)(bR:(E d).n=V.nt){g c:FuncId}{t:TypeId}{dst:Option Nat}{wJ:List (Nat×Nat)}{cl:IV}(hg:g<P.funcs.size)
 (g_:VR (ax P O) R X V.l G cl (.one (.fn c wJ)))(hs:(L0 P cfg self d f0 dst g t c wJ V k).sat P C Q K O){RW:Nat->IV->St->Prop}
 (hk:∀(pv:PV SE) (V':SS) I K' R' aU E' au v,yC Cx P d E K O V.nt V' I K' R' aU E' au->E' d=E d->VR (ax P (O++I)) R' aU V'.l au v pv->(k pv V').sat P C Q K' (O++I)->∃b,∀N,b<=N->au.n<=N/\RW N v au):
 ∃b,∀N,b<=N->eY P N g [cl] G (RW N):=by
 unfold L0 at hs;obtain⟨xs,z,hx,hc,hs⟩:=hs;obtain⟨t',rfl,asw⟩:=(hC _ _ _ _ hc).2.2.2.1 g hg rfl
 have htt:t'=t:=by
  unfold jL at hx;simp[eR,SE.den]at hx;omega
 subst htt;have hJu:J Cx (ax P (O++[z])) R X V.g V.l E G:=hJ.up λe z h=>SE.dw P e h;have asx:VR (ax P (O++[z])) R X V.l G cl (.one (.fn c wJ)):=g_;have jw:All2 (cR (ax P (O++[z])) R X V.l G) [.int 0] [.v (.i 0)]:=⟨⟨.int 0,rfl,.raw _,rfl⟩,trivial⟩;have cj:=DY hJu (.cells [.int 0] 0 0) (.var [.v (.i 0)])
 have bH:J Cx (ax P (O++[z])) R (bT X V.l.length G.n) V.g (V.l++[.var [.v (.i 0)]]) E (G.add (.cells [.int 0] 0 0)):=
  hJu.yS _ _ ⟨G.n,[.int 0],by simp[bT],hJu.ra,by simp,jw.mono λ_ _ b_=>b_.step cj (Cl.aZ _)⟩
 have hpt:VR (ax P (O++[z])) R (bT X V.l.length G.n) (V.l++[.var [.v (.i 0)]]) (G.add (.cells [.int 0] 0 0)) (.ptr G.n 0 0 1) (.one (.pt V.l.length 0 1)):=⟨G.n,[.v (.i 0)],by simp[bT],by simp,rfl⟩;have asy:VR (ax P (O++[z])) R (bT X V.l.length G.n) (V.l++[.var [.v (.i 0)]]) (G.add (.cells [.int 0] 0 0)) cl (.one (.fn c wJ)):=asx.step cj (PV.aZ _)
 let e1:Env:=(⟨3,.lf⟩:Env).put (aa 2) (.ptr G.n 0 0 1)
 have kZ:e1.at 2=.ptr G.n 0 0 1:=cC (by decide);have aeP:e1.n=3:=eO ..
 have fg:J Cx (ax P (O++[z])) R (bT X V.l.length G.n) ((d+1,2,.one (.pt V.l.length 0 1))::eE (d+1) V.g) (V.l++[.var [.v (.i 0)]]) (kS E (d+1) e1) (G.add (.cells [.int 0] 0 0)):=by
  refine{bH with slot:=λd' t pv wN=>?_};rcases lU wN with⟨rfl,rfl,rfl⟩|⟨bg,wN⟩
  .rw[bI,kZ];exact hpt
  .obtain⟨h1,h2⟩:=pf wN;rw[eS _ _ _ h1];exact bH.slot d' t pv h2
 have cL:∃fn,P.funcs[c]?=aa fn/\fn.body.isSome=ab/\(fn.name != "runtime.NumGoroutine")=ab:=by
  unfold oH at hs;split at hs<;>try exact hs.elim
  rename_i fn cL;split at hs<;>try exact hs.elim
  rename_i body hb;split at hs<;>try exact hs.elim
  split at hs<;>try exact hs.elim
  rename_i jy;simp only[awb]at jy;exact⟨fn,cL,by simp[hb],jy.2⟩
 obtain⟨fn,cL,hb,ot⟩:=cL;obtain⟨ys,kg,va⟩:=m6 (args:=[]) asy cL hb ot;rw[axp]at kg
 obtain⟨_,_,_,_,b,hcx⟩:=zJ (d:=d+1) (V:={V with n:=V.n+1,l:=V.l++[.var [.v (.i 0)]],g:=(d+1,2,.one (.pt V.l.length 0 1))::eE (d+1) V.g,nt:=3}) (O:=O++[z]) (E:=kS E (d+1) e1)
  (RW:=λN _ cK=>cK.at G.n=aa (.cells [.int 0] 0 0)/\cK.n<=N/\RW N (.int 0) (cK.put G.n (.cells [.int 0] 0 0)))
  (PW:=λN v cK=>∃u,v=.dK t' (.agg [.raw u])/\ao (.raw u)=ab/\cK.at G.n=aa (.cells [.int 0] 0 0)/\cK.n+1<=N/\G.n<cK.n/\RW N (.raw u) (Al cK G.n (.raw u)))
  bE fg (by simp[hn]) hK (by rw[bI,aeP]) va hs (by
   intro pv V' I K' R' aU E' au v hf mq hv bp;split at bp<;>try exact bp.elim
   rename_i j hj;have Ub:(E' (d+1)).at 2=.ptr G.n 0 0 1:=by rw[mq,bI,kZ]
   obtain⟨h1,h2,h3⟩:=Ua hf.hJ hj Ub;obtain⟨_,pS⟩:=HG hj;obtain⟨vM,_⟩:=hf.hJ.abY h1 pS h2 (cS:=[.int 0]) (bG:=[.v (.i 0)]) ⟨⟨.int 0,rfl,.raw _,rfl⟩,trivial⟩;have vS:E' d=E d:=by rw[hf.hE d aj,eS _ _ _ aj]
   obtain⟨b,hb⟩:=hk (.one (.v (.i 0))) {V' with g:=eE (d+1) V'.g,nt:=V.nt,l:=V'.l.set j (.var [.v (.i 0)])} ([z]++I) K' R' aU E' (au.put G.n (.cells [.int 0] 0 0)) (.int 0)
    ⟨hf.hK,hf.fW,rfl,by rw[<-awv];exact vd (V:={V' with l:=V'.l.set j (.var [.v (.i 0)])}) vM (d+1),by rw[<-awv];exact hf.hn,λi hi=>by rw[hf.hE i aj,eS _ _ _ aj],by rw[vS]⟩ vS
    (by rw[<-awv];exact⟨.int 0,rfl,.raw _,rfl⟩) (by rw[<-awv];exact bp)
   exact⟨max b au.n,λN hN=>⟨by omega,h3,by omega,(hb N aj).2⟩⟩) (by
   intro tt pv V' I K' R' aU E' au v hf mq hv bp;split at bp<;>try exact bp.elim
   rename_i e j hj;split at bp<;>try exact bp.elim
   rename_i htt;have:=awk htt;subst this;obtain⟨⟨y0,Uc⟩,bp⟩:=bp;have Ub:(E' (d+1)).at 2=.ptr G.n 0 0 1:=by rw[mq,bI,kZ]
   obtain⟨h1,h2,h3⟩:=Ua hf.hJ hj Ub;obtain⟨_,pS⟩:=HG hj;obtain⟨vs,rfl,dP⟩:=hv
   obtain⟨x0,rfl,y,yp,vB,JE⟩:∃x0,vs=[x0]/\∃y,ax P (O++[z]++I) e=aa y/\jJ x0 y/\ao y=ab:=by
    match vs,dP with
    |[x0],dP=>exact⟨x0,rfl,dP.1⟩
   have hyr:aN y=ab:=by
    have aen:e.den P (O++[z]++I)=aa y:=yp;simp only[SE.den,aen,awc]at Uc;split at Uc
    .assumption
    .cases Uc
   obtain⟨u,rfl⟩:∃u,y=.raw u:=by
    cases y<;>simp[aN]at hyr;exact⟨_,rfl⟩
   have hxu:=cA vB;subst hxu;obtain⟨Qu,bU,mN⟩:=hf.hJ.ait (.cells [.int 0] 0 0) (.cells [.raw u] 0 0);have asz:=c7 pS;have aeL:bT aU V'.l.length au.n j=aa G.n:=by simp[bT,show j≠V'.l.length by omega,h1]
   have asA:((V'.l++[LO.dead]).set V'.l.length LO.dead)[j]?=aa (.var [.v (.i 0)]):=by
    rw[ayo aj,awp asz];exact pS
   obtain⟨hJb,_⟩:=Qu.abY aeL asA h2 (cS:=[.raw u]) (bG:=[.v e]) ⟨⟨.raw u,yp,.raw _,JE⟩,trivial⟩;have ak:=(hf.hJ.lt j G.n h1).2;have vS:E' d=E d:=by rw[hf.hE d aj,eS _ _ _ aj]
   obtain⟨b,hb⟩:=hk (.one (.v e)) {V' with g:=eE (d+1) V'.g,nt:=V.nt,l:=((V'.l++[LO.dead]).set V'.l.length LO.dead).set j (.var [.v e])} ([z]++I) K' R' (bT aU V'.l.length au.n) E' (Al au G.n (.raw u)) (.raw u)
    ⟨hf.hK,hf.fW,rfl,by rw[<-awv];exact vd (V:={V' with l:=((V'.l++[LO.dead]).set V'.l.length LO.dead).set j (.var [.v e])}) hJb (d+1),by rw[<-awv];exact hf.hn,λi hi=>by rw[hf.hE i aj,eS _ _ _ aj],by rw[vS]⟩ vS
    (by rw[<-awv];exact⟨.raw u,yp,.raw _,JE⟩) (by rw[<-awv];exact bp)
   refine⟨max b (au.n+1),λN hN=>⟨by omega,u,rfl,JE,h3,by omega,ak,(hb N aj).2⟩⟩)
 refine⟨max b (G.n+1),λN hN=>?_⟩;exact asw N cl c ys G _ _ _ kg aj (hcx N aj) (λv cK h=>h) λv cK h=>h
end
end Go.Ev
