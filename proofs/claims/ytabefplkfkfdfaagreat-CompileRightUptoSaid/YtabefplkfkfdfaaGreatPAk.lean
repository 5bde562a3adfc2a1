/- A part of the proof, no condition: what functions of the program and of the reference compute. -/
import Derived.Test.YtabefplkfkfdfaaGreatPAh
import Derived.Test.YtabefplkfkfdfaaGreatPAg
import Derived.Test.YtabefplkfkfdfaaGreatPAc
import Derived.Test.YtabefplkfkfdfaaGreatPAj
import Derived.Test.YtabefplkfkfdfaaGreatPAb
import Derived.RowKit3
import Derived.Below
open List renaming mem_cons->ayW,mem_singleton->ayU,take_succ_eq_append_getElem->ayN,mem_append->ayS,take_of_length_le->ayV,getElem_mem->ayJ,drop_of_length_le->azf,append_nil->ay2,mem_of_getElem?->ayX,getElem?_eq_some_iff->ayH,getElem?_eq_none->aCA,getElem?_eq_getElem->ayG,getElem?_map->ay1,map_set->aBX,take_append_drop->azW,flatMap_append->aBR,length_map->azq,length_take->azS,drop_eq_getElem_cons->ay5,map_cons->azr,map_append->azQ,set_append_right->aBC,map_nil->aAW,append_assoc->ay3,singleton_append->aCB,isEmpty_iff->aAg,mk_mem_zipIdx_iff_getElem?->aAe,findIdx?_eq_some_iff_getElem->aBW,findIdx?_eq_none_iff->aCl,perm_middle->aDo,pairwise_append->aCJ,pairwise_cons->aCW,cons_append->azO,getElem?_append_right->aze,mem_iff_getElem->aAv,pairwise_iff_getElem->aAd,take_length->aBc,nodup_cons->azP,eq_nil_of_length_eq_zero->azb,mem_cons_of_mem->azg,length_cons->azh,mem_append_left->azw,length_append->ayP,nil_append->azN,getD_eq_getElem?_getD->azu,mem_map->ay8,getElem?_append_left->ayZ,length_flatten->az2,getElem?_cons_zero->az8,replicate->ay_,map_map->aCe,forIn_cons->aDv,forIn_nil->aDI,getElem?_cons_succ->aBz,length_eraseIdx->aCK,mem_of_mem_eraseIdx->aCo
open Go.Proofs.Tryz renaming prog->ayF,underlying28->aDc,underlying214->aCX
open Go.Value renaming int->aAf
open Option renaming bind_some->ayK,map_eq_some_iff->ayR
open Nat renaming min_eq_left->aCn,le_of_lt->aD9,beq->ayQ,ble->azK,blt_eq->aEf,beq_eq->azv,le_refl->ayL,le_trans->ay6,zero_add->aAn
open Bool renaming and_eq_true->ayI,not_true->azV,not_false->aA4,and_true->aBe,and_false->aA5,true_and->aAY,false_and->aA6,false_eq_true->azi,eq_iff_iff->aAH
open Go.IntKind renaming u64->aDH,i64->azc
open List.Pairwise renaming map->aBV
open List.Perm renaming eq_of_pairwise->aEp
open And renaming intro->azA
open Prod renaming fst->azU
open Go.Op renaming equal->aA8,equalIn->azE
open Go.Instr renaming checkKey->aA7,findKey->azR,findAsking->azt,sameBits->aAD
open Go renaming undef->azm
open Std.Legacy.Range renaming forIn_eq_forIn_range'->aDJ,size->aDK
open Option renaming some->aa,none->ah
open Bool renaming true->ab,false->af
set_option linter.all false
namespace Go.Proofs.YtabefplkfkfdfaaGreat
open Go Go.Ev
section
def BU{α:Type}(e:α->IV)(q:α×IV):IV:=.aF [e q.1,q.2]
def iV{α:Type}(e:α->IV)(cs:List (α×IV)):IV:=.aF (cs.map (BU e))
def nP(P:Program)(t:TypeId)(a1 k1 y1:IV):Option IV:=match a1 with
    |.aF ds=>match fK P t ds k1 with
     |some (aa j)=>aa (.aF (ds.set j (.aF [k1,y1])))
     |some ah=>aa (.aF (ds++[.aF [k1,y1]]))
     |none=>ah
    |_=>ah
def nQ(P:Program)(t:TypeId)(a1 k1 d1:IV):Option IV:=match a1 with
    |.aF ds=>match fK P t ds k1 with
     |some (aa j)=>match ds[j]? with
      |some (.aF [_,y1])=>aa y1
      |_=>ah
     |some ah=>aa d1
     |none=>ah
    |_=>ah
def N4(P:Program)(t:TypeId)(a1 k1:IV):Option IV:=match a1 with
    |.aF ds=>(fK P t ds k1).map λr=>.bool r.isSome
    |_=>ah
def prF(j:Nat):IV->Option IV
 |.aF cs=>cs[j]?
 |_=>ah
def akG{j:Nat}{cs:List IV}:prF j (.aF cs)=cs[j]? :=by rw[prF]
section
variable{P:Program}{ν:List IV}
def awJ{q:IntKind}{n:Int}:(SE.k q n).den P ν=aa (.raw (.int q n)):=by rw[SE.den]
def akH{e:SE}{j:Nat}:(SE.proj e j).den P ν=(e.den P ν).bind (prF j):=by rw[SE.den];rfl
def ao1{q:Nat}{e x:SE}{j:Nat}:(SE.lk q e x j).den P ν=(e.den P ν).bind λa1=>(x.den P ν).bind λb1=>(cb q a1 b1).bind λy=>((cellsOf y)[j]?).bind wF:=by rw[SE.den]
def ao2{w:Nat}{a p:SE}:(SE.dec w a p).den P ν=(a.den P ν).bind λa1=>(p.den P ν).bind λb1=>kO w a1 b1:=by rw[SE.den]
def akI{q:Nat}{e x y:SE}:(SE.zD q e x y).den P ν=(e.den P ν).bind λa1=>(x.den P ν).bind λb1=>(y.den P ν).bind λc1=>zi q a1 b1 c1:=by rw[SE.den]
def aez{t:TypeId}{m k x:SE}:(SE.ins t m k x).den P ν=(m.den P ν).bind λa1=>(k.den P ν).bind λk1=>(x.den P ν).bind λy1=>nP P t a1 k1 y1:=by rw[SE.den];rfl
def aeA{t:TypeId}{m k z:SE}:(SE.get t m k z).den P ν=(m.den P ν).bind λa1=>(k.den P ν).bind λk1=>(z.den P ν).bind λd1=>nQ P t a1 k1 d1:=by rw[SE.den];rfl
def ao3{t:TypeId}{m k:SE}:(SE.has t m k).den P ν=(m.den P ν).bind λa1=>(k.den P ν).bind λk1=>N4 P t a1 k1:=by rw[SE.den];rfl
end
def aJ:=azA jY<|azA @awJ<|azA @akH<|azA @akG<|azA @ao1<|azA @ao2<|azA @akI<|azA @aez<|azA @aeA<|azA @ao3<| @WB
def yd{α:Type}(t:TypeId)(e:α->IV):Prop:=∀(cs:List (α×IV)) (k:α),
 ((∃y,(k,y)∈cs)->∃i y,fK ayF t (cs.map (BU e)) (e k)=aa (aa i)/\cs[i]?=aa (k,y))/\
 ((¬∃y,(k,y)∈cs)->fK ayF t (cs.map (BU e)) (e k)=aa ah)
section
variable{α:Type}{t:TypeId}{e:α->IV}
def ai0{cs:List (α×IV)}(hn:(cs.map azU).Nodup){k:α}{x y:IV}(h1:(k,x)∈cs)(h2:(k,y)∈cs):x=y:=by
 induction cs with
 |nil=>cases h1
 |cons q cs ih=>
  rw[azr,azP]at hn;rcases ayW.1 h1 with e1|g1
  .rcases ayW.1 h2 with e2|g2
   .exact congrArg Prod.snd (e1.trans e2.symm)
   .exact(hn.1 (ay8.2 ⟨(k,y),g2,by rw[<-e1]⟩)).elim
  .rcases ayW.1 h2 with e2|g2
   .exact(hn.1 (ay8.2 ⟨(k,x),g1,by rw[<-e2]⟩)).elim
   .exact ih hn.2 g1 g2
theorem yd.get(h:yd t e){cs:List (α×IV)}(hn:(cs.map azU).Nodup)(k:α)(d:IV):
 (∀y,(k,y)∈cs->nQ ayF t (iV e cs) (e k) d=aa y)/\((¬∃y,(k,y)∈cs)->nQ ayF t (iV e cs) (e k) d=aa d):=by
 obtain⟨h1,h2⟩:=h cs k;refine⟨λy hy=>?_,λhy=>?_⟩
 .obtain⟨i,y',g1,g2⟩:=h1 ⟨y,hy⟩;have:=ai0 hn (ayX g2) hy;subst this;unfold nQ iV;simp only[g1,ay1,g2];rfl
 .unfold nQ iV;simp only[h2 hy]
def yd.has(h:yd t e)(cs:List (α×IV))(k:α):∃b:Bool,(b=ab↔∃y,(k,y)∈cs)/\N4 ayF t (iV e cs) (e k)=aa (iB b):=by
 obtain⟨h1,h2⟩:=h cs k;by_cases hy:∃y,(k,y)∈cs
 .obtain⟨i,y',g1,g2⟩:=h1 hy;exact⟨ab,by simp[hy],by unfold N4 iV;simp only[g1];rfl⟩
 .exact⟨af,by simp[hy],by unfold N4 iV;simp only[h2 hy];rfl⟩
def yd.ins(h:yd t e){cs:List (α×IV)}(hn:(cs.map azU).Nodup)(k:α)(y:IV):
 ∃bK:List (α×IV),(bK.map azU).Nodup/\(∀q,q∈bK↔q=(k,y)\/q.1≠k/\q∈cs)/\nP ayF t (iV e cs) (e k) y=aa (iV e bK):=by
 obtain⟨h1,h2⟩:=h cs k;by_cases hy:∃y,(k,y)∈cs
 .obtain⟨i,y',g1,g2⟩:=h1 hy;obtain⟨hi,QO⟩:=ayH.1 g2
  have awK:(cs.set i (k,y)).map azU=cs.map azU:=by
   rw[aBX];refine Ma ?_;rw[ay1,g2];rfl
  have jA:((cs.set i (k,y)).map azU).Nodup:=by rw[awK];exact hn
  refine⟨cs.set i (k,y),jA,λq=>⟨λhq=>?_,λhq=>?_⟩,?_⟩
  .by_cases N5:q.1=k
   .left;obtain⟨a,b⟩:=q;simp only at N5;subst N5;have e:=ai0 jA (x:=b) (y:=y) hq (aAv.2 ⟨i,by simpa using hi,by simp⟩);rw[e]
   .rcases List.mem_or_eq_of_mem_set hq with hq|hq
    .exact .inr ⟨N5,hq⟩
    .exact .inl hq
  .rcases hq with rfl|⟨N5,hq⟩
   .exact aAv.2 ⟨i,by simpa using hi,by simp⟩
   .obtain⟨j,hj,rfl⟩:=aAv.1 hq;refine aAv.2 ⟨j,by simpa using hj,?_⟩;rw[List.getElem_set];split
    .rename_i qN;subst qN;rw[QO]at N5;exact absurd rfl N5
    .rfl
  .unfold nP iV;simp only[g1];rw[aBX];rfl
 .refine⟨cs++[(k,y)],?_,λq=>?_,?_⟩
  .rw[azQ];refine List.nodup_append.2 ⟨hn,by simp,λa ha b hb=>?_⟩;obtain rfl:=ayU.1 hb;obtain⟨q,hq,rfl⟩:=ay8.1 ha;intro he;exact hy ⟨q.2,by rw[<-he];exact hq⟩
  .rw[ayS,ayU];constructor
   .rintro(hq|rfl)
    .by_cases N5:q.1=k
     .exact absurd ⟨q.2,by rw[<-N5];exact hq⟩ hy
     .exact .inr ⟨N5,hq⟩
    .exact .inl rfl
   .rintro(rfl|⟨_,hq⟩)
    .exact .inr rfl
    .exact .inl hq
  .unfold nP iV;simp only[h2 hy];rw[azQ];rfl
end
theorem WG:∀cs:List (Int×IV),mH (cs.map (BU iI))=aa ((cs.map azU).map (aAf .i64))
 |[]=>rfl
 |k::ks=>by simp[mH,BU,Ev.keyOf,WG ks]
def ye:yd 3 iI:=λcs k=>by
 have h:fK ayF 3 (cs.map (BU iI)) (iI k)=nowAt (.int .i64) (.int .i64 k) ((cs.map azU).map (aAf .i64)) 0:=by
  unfold fK;rw[WG];simp[xN,VT,Ev.keyOf]
 rw[h];obtain⟨h1,h2⟩:=G4 k (cs.map azU) 0;refine⟨λ⟨y,hy⟩=>?_,λhy=>h2 λhm=>?_⟩
 .obtain⟨i,g1,g2⟩:=h1 (ay8.2 ⟨_,hy,rfl⟩);rw[ay1]at g2;obtain⟨q,hq,rfl⟩:=ayR.1 g2;exact⟨i,q.2,by rw[g1,aAn],hq⟩
 .obtain⟨q,hq,rfl⟩:=ay8.1 hm;exact hy ⟨q.2,hq⟩
structure BV{α:Type}[DecidableEq α](t:TypeId)(e:α->IV)(v:α->Value):Prop where
 sim:xN ayF t=ah
 key:∀k,Ev.keyOf (e k)=aa (v k)
 eq:∀a b,aK ayF (aA8 t (v a) (v b))=aa (decide (a=b))
 chk:∀(b:Bool) k,aK ayF (aA7 b 10000 t (v k))=aa ()
 fnd:∀k (ks:List α),aK ayF (azR t (v k) (ks.map λe=>⟨v e,azm,0⟩))=aK ayF (azt t (v k) (ks.map λe=>⟨v e,azm,0⟩) 0)
 same:∀k,aAD 10000 (v k) (v k)=ab
section
variable{α:Type}[DecidableEq α]{t:TypeId}{e:α->IV}{v:α->Value}
theorem BV.ask(h:BV t e v)(k:α):∀(ks:List α) (i:Nat),(k∈ks->∃j,aK ayF (azt t (v k) (ks.map λe=>⟨v e,azm,0⟩) i)=aa (aa (i+j,azm))/\ks[j]?=aa k)/\
 (k∉ks->aK ayF (azt t (v k) (ks.map λe=>⟨v e,azm,0⟩) i)=aa ah)
 |[],i=>by simp[azt,wQ]
 |e::ks,i=>by
  obtain⟨h1,h2⟩:=h.ask k ks (i+1)
  have hu:aK ayF (azt t (v k) ((e::ks).map λe=>⟨v e,azm,0⟩) i)=aK ayF (if decide (k=e)=ab then pure (aa (i,azm))else azt t (v k) (ks.map λe=>⟨v e,azm,0⟩) (i+1)):=by
   rw[azr,azt,aO,h.eq,ayK]
  rw[hu];by_cases h:k=e
  .subst h;exact⟨λ_=>⟨0,by rw[if_pos aw];simp[wQ],rfl⟩,λhn=>absurd aw hn⟩
  .rw[if_neg (by simpa using h)];refine⟨λhm=>?_,λhn=>h2 λhm=>hn (by simp[hm])⟩;obtain⟨j,g1,g2⟩:=h1 (by simpa[h]using hm);exact⟨j+1,by rw[g1,show i+1+j=i+(j+1) by omega],by simpa using g2⟩
theorem BV.fG(h:BV t e v)(b:Bool)(k:α)(ks:List α):(k∈ks->∃j,fG ayF b t (v k) ((ks.map v).map λe=>(e,.undef,0))=aa (aa j)/\ks[j]?=aa k)/\(k∉ks->Ev.fG ayF b t (v k) ((ks.map v).map λe=>(e,.undef,0))=aa ah):=by
 have hm:(((ks.map v).map λe=>(e,(.undef:IV),0)).map λe=>({key:=e.1,val:=azm,born:=e.2.2}:MapEntry))=ks.map λe=>⟨v e,azm,0⟩:=by
  rw[aCe,aCe];rfl
 obtain⟨h1,h2⟩:=h.ask k ks 0;refine⟨λhk=>?_,λhk=>?_⟩
 .obtain⟨j,g1,g2⟩:=h1 hk;refine⟨j,?_,g2⟩;unfold Ev.fG;rw[aO,h.chk,ayK,hm,h.fnd,g1];simp
 .unfold Ev.fG;rw[aO,h.chk,ayK,hm,h.fnd,h2 hk]
theorem BV.keys(h:BV t e v):∀cs:List (α×IV),mH (cs.map (BU e))=aa ((cs.map azU).map v)
 |[]=>rfl
 |k::ks=>by simp[mH,BU,h.key,h.keys ks]
theorem BV.law(h:BV t e v):yd t e:=λcs k=>by
 have hd:fK ayF t (cs.map (BU e)) (e k)=EP ayF t ((cs.map azU).map v) (v k):=by
  unfold fK;rw[h.keys,h.sim,h.key]
 rw[hd];obtain⟨a1,a2⟩:=h.fG ab k (cs.map azU)
 have hb:Ev.fG ayF af t (v k) (((cs.map azU).map v).map λe=>(e,.undef,0))=Ev.fG ayF ab t (v k) (((cs.map azU).map v).map λe=>(e,.undef,0)):=by
  unfold Ev.fG;rw[aO,aO,h.chk,h.chk]
 unfold EP;rw[hb];refine⟨λ⟨y,hy⟩=>?_,λhy=>?_⟩
 .obtain⟨j,g1,g2⟩:=a1 (ay8.2 ⟨_,hy,rfl⟩);rw[ay1]at g2;obtain⟨q,hq,rfl⟩:=ayR.1 g2;refine⟨j,q.2,?_,hq⟩;rw[g1];simp only[if_true];rw[ay1,ay1,hq];simp only[Option.map_some,h.same,if_true]
 .rw[a2 λhm=>hy (by
   obtain⟨q,hq,rfl⟩:=ay8.1 hm;exact⟨q.2,hq⟩)]
  simp
end
def eD(d:De):IV:=.agg [iS d.s,iI d.n]
def abI:yd 82 eD:=BV.law (v:=gI) ⟨by kernel_rfl,λk=>rfl,eqK,λb k=>E6 b k,λk ks=>VW k ks,adU⟩
def awL(d:Nat)(a b:Bool):aK ayF (azE (d+1) 4 (.bool a) (.bool b))=aa (a==b):=by
 rw[azE,aO,Go.Ev.run_underlying Vv,ayK];rfl
def vO(o:Oc):Value:=.agg #[.int .i64 o.r,.int .i64 o.h,.bool o.k]
def eqO(a b:Oc):aK ayF (aA8 28 (vO a) (vO b))=aa (decide (a=b)):=by
 obtain⟨x,y,z⟩:=a;obtain⟨x',y',z'⟩:=b
 have h:aK ayF (aA8 28 (vO ⟨x,y,z⟩) (vO ⟨x',y',z'⟩))=aa (x==x'&&(y==y'&&z==z')):=by
  have h1:=KT 9998 x x';have h2:=KT 9998 y y';have h3:=awL 9998 z z';show aK ayF (azE (9998+2) 28 _ _)=_;unfold vO;rw[azE,aO,Go.Ev.run_underlying aDc,ayK];have bL:ayF.stoodInHeld 28=af:=by kernel_rfl
  have p1:∀(a b c:Value),aK ayF (part 3 #[a,b,c] 0)=aa a:=λa b c=>by kernel_rfl
  have p2:∀(a b c:Value),aK ayF (part 3 #[a,b,c] 1)=aa b:=λa b c=>by kernel_rfl
  have p3:∀(a b c:Value),aK ayF (part 4 #[a,b,c] 2)=aa c:=λa b c=>by kernel_rfl
  have hp:aK ayF program=aa ayF:=rfl;rw[aO,hp,ayK,bL];have q:∀{α:Type} (a:α),aK ayF (pure a)=aa a:=λ_=>rfl;simp only[azi,if_false,<-Array.forIn_toList,aDv,aDI,aO,ne_eq,String.reduceEq,not_false_eq_true,if_true,p1,ayK,h1];cases(x==x')
  .rfl
  simp only[azV,azi,if_false,q,ayK,aO,p2,h2];cases(y==y')
  .rfl
  simp only[azV,azi,if_false,q,ayK,aO,p3,h3];cases(z==z')<;>rfl
 rw[h];simp;rw[aAH];simp
def ao4(b:Bool)(k:Oc):aK ayF (aA7 b 10000 28 (vO k))=aa ():=by
 obtain⟨s,n,z⟩:=k;cases b<;>kernel_rfl
def atk(k:Oc)(ks:List Oc):aK ayF (azR 28 (vO k) (ks.map λe=>⟨vO e,azm,0⟩))=aK ayF (azt 28 (vO k) (ks.map λe=>⟨vO e,azm,0⟩) 0):=by
 unfold azR;rw[aO,Go.Ev.run_underlying aDc,ayK];cases ks with
 |nil=>rfl
 |cons e ks=>rfl
def ai1:yd 28 kg:=BV.law (v:=vO) ⟨by kernel_rfl,λk=>rfl,eqO,ao4,atk,λ⟨x,y,z⟩=>by
 show((#[_,_,_]:Array Value).size==3&&_)=ab;simp[aAD]⟩
def N6(p:Int×Int):IV:=.agg [iI p.1,iI p.2]
def I3(p:Int×Int):Value:=.agg #[.int .i64 p.1,.int .i64 p.2]
def awM(a b:Int×Int):aK ayF (aA8 214 (I3 a) (I3 b))=aa (decide (a=b)):=by
 obtain⟨x,y⟩:=a;obtain⟨x',y'⟩:=b
 have h:aK ayF (aA8 214 (I3 ⟨x,y⟩) (I3 ⟨x',y'⟩))=aa (x==x'&&y==y'):=by
  have h1:=KT 9998 x x';have h2:=KT 9998 y y';show aK ayF (azE (9998+2) 214 _ _)=_;unfold I3;rw[azE,aO,Go.Ev.run_underlying aCX,ayK];have hs:aK ayF (sizeOf 3)=aa 1:=by kernel_rfl
  have p1:∀(a b:Value),aK ayF (part 3 #[a,b] 0)=aa a:=λa b=>by kernel_rfl
  have p2:∀(a b:Value),aK ayF (part 3 #[a,b] 1)=aa b:=λa b=>by kernel_rfl
  have q:∀{α:Type} (a:α),aK ayF (pure a)=aa a:=λ_=>rfl;rw[aO,hs,ayK];simp only[aDJ,aDK,Nat.sub_zero,Nat.add_sub_cancel,Nat.div_one,List.range',aDv,aDI,aO,Nat.zero_mul,aAn,Nat.one_mul,p1,ayK,h1];cases(x==x')
  .rfl
  simp only[azV,azi,if_false,q,ayK,aO,Nat.mul_one,p2,h2];cases(y==y')<;>rfl
 rw[h];simp;rw[aAH];simp
def akJ(b:Bool)(k:Int×Int):aK ayF (aA7 b 10000 214 (I3 k))=aa ():=by
 obtain⟨s,n⟩:=k;cases b<;>kernel_rfl
def ao5(k:Int×Int)(ks:List (Int×Int)):aK ayF (azR 214 (I3 k) (ks.map λe=>⟨I3 e,azm,0⟩))=aK ayF (azt 214 (I3 k) (ks.map λe=>⟨I3 e,azm,0⟩) 0):=by
 unfold azR;rw[aO,Go.Ev.run_underlying aCX,ayK];cases ks with
 |nil=>rfl
 |cons e ks=>rfl
def WH:yd 214 N6:=BV.law (v:=I3) ⟨by kernel_rfl,λk=>rfl,awM,akJ,ao5,λ⟨x,y⟩=>by
 show((#[_,_]:Array Value).size==2&&_)=ab;simp[aAD]⟩
end
def lC{x y:IV}(hx:Pure x)(hy:Pure y):∀z∈[x,y],Pure z:=by
 intro z hz;rcases ayW.1 hz with rfl|hz
 .exact hx
 .exact dL hy _ hz
def awN(r:Rl)(hs:List At)(v:Int):CC 216 af [uY r hs,iI v] (iB (decide ((r.ax.length:Int)<=v))):=by
 refine CC.cZ aoz kr (λ_=>kr) (lC (DE r hs) aw) (by rfl) ?_;simp[aiX,uY,SE.den,ao]
def k95(l:List Int)(n:Int)(hl:Sm l):CC 95 af [iL l,iI n] (iB (l.contains n)):=(SX l n hl).abi (EZ rfl)
def awO(ks:List Ac)(hk:ks.length<=1000)(hp:∀k∈ks,k.ps.length<=100)(s:List UInt8)(ps:List Int)(ou:Sm ps):∃b,CC 215 af [eP ks,iS s,iL ps] (iB b):=by
 refine(CC.GO (args:=[eP ks,iS s,iL ps]) (λ_=>True) aoy kr (λ_=>kr) aw (by rfl) ?_).imp λ_ h=>h.2;simp[aiW,SE.den,ao];unfold Y4;refine aB ks.length (λi (_:Unit)=>[iI i]) (λ_ _=>True) () ?_ trivial λi _ hi _=>?_
 .simp[SE.den]
 by_cases ak:i<ks.length
 rotate_left
 .simp[SE.den,ak]
 have hw:=aH ak aj;have Hv:=hp _ (ayJ ak);simp[SE.den,ak,hw,L_ ak,ao];by_cases e1:ks[i].s=s
 rotate_left
 .right;exact⟨e1,.mk () rfl aj trivial⟩
 left;refine⟨e1,?_⟩;unfold Y3;refine aB ks[i].ps.length (λj (_:Unit)=>[iI j]) (λ_ _=>True) () ?_ trivial λj _ hj _=>?_
 .simp[SE.den]
 by_cases vd:j<ks[i].ps.length
 .have TM:=aH vd aj;simp[SE.den,vd,kS vd,ao,TM,hw];refine⟨_,k95 ps ks[i].ps[j] ou,?_⟩;cases ps.contains ks[i].ps[j]with
  |true=>simp;exact .mk () rfl aj trivial
  |false=>simp;exact .mk () rfl aj trivial
 .simp[SE.den,vd]
def awP(a b:Ac)(ha:Sm a.ps):∃q,CC 174 ab [tL a,tL b] (iB q):=by
 refine(CC.GO (args:=[tL a,tL b]) (λ_=>True) akz kr (λ_=>kr) (lC (DB a) (DB b)) (by rfl) ?_).imp λ_ h=>h.2;simp only[tL];simp[aes,SE.den,ao];by_cases e1:a.s=b.s
 rotate_left
 .simp[e1,aL]
 by_cases e2:a.n=b.n
 rotate_left
 .simp[e1,e2,aL]
 simp[e1,e2];exact⟨_,k93 a.ps b.ps ha,by simp[aL]⟩
def awQ(r:Rl)(hs:List At)(hl:hs.length<=3)(ef:∀a∈hs,a.ts.length<=8)(eO:∀a∈hs,qq a)(hf:∀a∈hs,∀t∈a.ts,WF t)(ks:List Ac)(hk:ks.length<=1000)(gY:∀k∈ks,k.ps.length<=100)(done:List Int)(hd:done.length<=100)(n:Nat)(hn:n<hs.length):
 ∃m:Int,0<=m/\CC 175 ab [uY r hs,eP ks,iL done,iI n] (iI m):=by
 refine CC.IG (args:=[uY r hs,eP ks,iL done,iI n]) (λm=>0<=m) akA kr (λ_=>kr) (by
  intro y hy;rcases ayW.1 hy with rfl|hy
  .exact DE r hs
  .simp at hy;rcases hy with rfl|rfl|rfl<;>simp) (by rfl) ?_
 have uV:=agL af r hs hl ef eO hf done hd n _ (ayG hn);have fp:=ay6 (abH hs done hs[n].ts) (ef _ (ayJ hn));generalize qt hs done hs[n].ts=kn at*
 have hA:=pe hn;obtain⟨b,awR⟩:=awO ks hk gY hs[n].s kn (by unfold Sm;omega);have ao6:=awN r hs n;have hw:azc.wrap (10*(kn.length:Int))=10*(kn.length:Int):=eN aj aj;have XC:azc.wrap (10*(kn.length:Int)+1)=10*(kn.length:Int)+1:=eN aj aj;generalize decide ((r.ax.length:Int)<=(n:Int))=q at*
 simp only[uY]at*
 simp[aet,SE.den,ao];refine⟨_,uV,?_⟩;simp[hw,hA,ao];refine⟨_,awR,?_⟩;cases b with
 |true=>
  simp;refine⟨_,ao6,?_⟩;cases q<;>simp[aL]
 |false=>
  simp;refine⟨_,ao6,?_⟩;cases q<;>simp[XC,aL]<;>omega
def Qc:aq:=
 (.loop (iC (.tp (FT 12 12))) (.pick pP (.var 17) (Ao 6 16) (.same pP (.var 19) (.aC (JS 19 0) (iu (.mq 2 (Gd 19 1)) .lss (JS 16 0) (JS 19 0) (tH 82 (eI (.aP (Gd 16 1) 0) (.aP (Gd 16 1) 1)) (eI (.aP (Gd 19 1) 0) (.aP (Gd 19 1) 1)) (wk 214 (.var 13) (eI (JS 16 0) (JS 19 0)) fg (pL (.var 20) (we 18) (Ao 7 19))) (Ao 7 19)) (Ao 7 19))))))
def Qd:aq:=
 (.loop (iC (.tp (FT 12 12))) (.pick pP (.var 14) (uP 4 7) (.same pP (.var 16) (C3 (JS 16 0) (.mq 2 (Gd 16 1)) (.dec 9 pP fF) (.uniq Qc)))))
def Qe:aq:=
 (qX (gR bj wj yp) 11 (JK 8) 7 (Gf 8) 11 (lV 7 14 .eql 14 0 3 (wz eU (ny 14) eU J0 (o7 3 dp (ny 14) (lS 3 15 (Bu 14 6) (iu (lW 15) .neq (Bu 14 6) (lW 15) (we 9) (mV 3 pP (gE 14) (uf 15 15) (oH 5 11 16 13)))))) (jr 14 1 (.bind (.mq 2 (.get 3 pP (gE 14) (eI rY bj))) (SB .geq (ny 14) (gE 15) (we 9) (oH 5 11 12 13))) 14 4 (mV 214 (.var 13) (Ly 14 1 14 2) fF (mV 214 F_ (ahH 14 2 14) fF (oH 5 11 12 16))) (xL 14 0 9 (xL 14 3 0 (.aC (Bu 14 5) (wk 82 oI (eI (rV 14 4) (Bu 14 5)) fg (pL F_ (we 7) (oH 5 11 12 13)))) (oH 5 11 12 13)) (oH 5 11 12 13)))) (.aC (.dec 9 pP fF) (.uniq Qd)))
def Qf:aq:=
 (fX iY 7 (lW 6) 4 CT 7 4 8 (gG 182 8 8 8 8 (uz rh 38 rh 0 (.nt (Uo .neq 38 rh 0) (ud rh) (uP 4 7)) (aav .geq (nz 8) J0 (mV 3 yp (gE 8) (uf 6 6) (.aC (JK 8) Qe))))) (uP 3 5))
def Qg:aq:=
 (qX iY 5 pS 5 fJ 5 (lS 5 6 (lW 6) Qf) (ud bj))
def Qh:aq:=
 (fX Am 3 pS 5 fJ 3 5 5 (qH 181 (uf 5 5) (uz c_ 38 c_ 0 (.nt (Uo .neq 38 c_ 0) (ud c_) (v7 2 3 4)) (wk 82 oI (uf 5 5) fg (.test eo (we 8) (mE .lss 5 4 0 J0 (iu JI .gtr (rV 5 4) JI J0 (mV 82 oI (uf 5 5) fF (v7 2 3 8)))))))) (nY 0 Qg))
def Qi:aq:=
 (fX iY 2 eU 3 dp 2 3 3 (fy 123 (m4 3 3 3) (uz da 38 da 0 (ud da) (oO 2))) (nY 0 Qh))
def Y_:aq:=
 (fX iY 1 pS 5 fJ 1 5 2 (nA wm wm 160 (we 6) oK) (nY 1 Qi))
def ai2:aq:=
 (yo 3 0 (pM .lss 2 0) J0 (mE .gtr 0 2 40 J0 (qI 0 .gtr 3 0 30 (we 6) (qI 1 .gtr 3 1 480 (we 6) (nY 0 Y_)))))
def ao7:aI ayF (kC [⟨0,52,27,[(0,(83,0))],[],[],[]⟩,⟨1,52098,32,[],[(12,0)],[],[]⟩,⟨1,52098,29,[],[(10,0)],[],[]⟩,⟨1,52098,9,[(1,(43,0))],[(9,0),(8,0)],[],[]⟩,⟨0,52,30,[(0,(90,0))],[],[],[]⟩,⟨0,52,20,[(0,(68,0))],[(1,0)],[],[]⟩,⟨0,52,13,[(0,(54,0))],[],[],[]⟩,⟨0,52,6,[(0,(38,0))],[],[],[]⟩]) 400 ab 52=ai2:=by kernel_rfl
def Za:aq:=
 (fX iY 1 l5 7 mY 1 7 2 (aao 222 2 0 2 1 2 2 2 3 (mG 2 4 2 5 (rV 2 6)) (gQ cA cA (.nt (ui 1) ur (gG 223 0 0 0 0 (lU da da 18 qW))) oK)) (gG 223 0 0 0 0 (lU bJ bJ 18 qW)))
def ai3:aq:=
 (jL 4 (qI 3 .gtr 3 3 200 Aq (mE .geq 0 0 0 (lU (pM .lss 0 40) (pM .lss 0 40) 2 (mE .geq 0 1 0 (lU (pM .lss 1 4) (pM .lss 1 4) 2 (nY 3 Za)) ur)) ur)))
def ao8:aI ayF (kC [⟨2,182024008,2,[(2,(8,0))],[],[],[]⟩]) 400 af 182=ai3:=by kernel_rfl
def Zb:aq:=
 (FR iY 3 5 da (oG 3 cT bj Al 3 cT jn (pL yC (FW fg (wv yC sI 2 3)) (CK 5)) (oG 3 cT wD (pL sI (FW fg (wv yC sI 2 3)) (CK 5)) 3 cT wC (pL eS (FW fg (wv yC sI 2 3)) (CK 5)) (C_ 3 cT (pL lq (FW fg (wv yC sI 2 3)) (CK 5))))) (FW fF (wv yC sI 2 3)))
def ai4:aq:=
 (eZ 4 Zb)
def ao9:xS ayF (kC [⟨1,256,2,[(1,(7,0))],[],[],[]⟩]) 400 [4] 256=ai4:=by kernel_rfl
def Zc:aq:=
 (ra (FU qV) 2 Gh jl 2 (iu da .leq da lq ur (SB .geq da dp ur (yq 2 (iC da)))) qW)
def ai5:aq:=
 (jL 3 (qH 181 oN (uz bR 38 bR 0 (.ret bR) (nY 2 Zc))))
def ao_:aI ayF (kC [⟨0,123,6,[(0,(4,0)),(0,(18,0))],[],[],[]⟩]) 400 af 123=ai5:=by kernel_rfl
def ai6:aq:=
 (sJ (fy 154 bp (lU bJ bJ 7 (.nt (C6 bR 0) C5 (.nt (sH .gtr bR 6) C5 qW)))))
def apa:aI ayF (kC []) 400 af 181=ai6:=by kernel_rfl
def fS:aq:=
 (fX iY 1 (zH 6) 4 q8 1 4 2 (jG 859 (gR An (wA 2 2 2 2) (.i 20)) (gQ (nC 3) (nC 3) (.aC (ui 1) (.nr (vY (ui 1)))) oK)) gF)
def sA:aq:=
 (fX iY 2 (zH 6) 4 q8 2 4 3 (jG 859 (gR An (wA 3 3 3 3) (.i 20)) (gQ (nC 4) (nC 4) (.aC (ui 2) (.nr (vY (ui 2)))) uh)) gF)
def akK:aq:=
 fS
def akL:aq:=
 fS
def akM:aq:=
 sA
def akN:aq:=
 sA
def akO:aq:=
 sA
def akP:aq:=
 sA
def akQ:aq:=
 fS
def akR:aq:=
 fS
def akS:aq:=
 fS
def akT:aq:=
 fS
def agW:aq:=
 fS
def agX:aq:=
 fS
def agY:aq:=
 fS
def agZ:aq:=
 fS
def ag0:aq:=
 fS
def ag1:aq:=
 fS
def ag2:aq:=
 fS
def ag3:aq:=
 fS
def ag4:aq:=
 sA
def ag5:aq:=
 sA
def ag6:aq:=
 fS
def ag7:aq:=
 fS
def w6:aq:=
 (yo 7 0 (Ap 0 1) (uj 1 0 .lss 1 4 .lss 1 4 (uj 2 0 .lss 2 6 .lss 2 6 (Da 3 9 5 (wE 6 .lss 6 1 6 6 1 0 0 4 akK akL)))) (jr 0 2 (wa .eql 1 0 .eql 1 0 (wa .eql 2 0 .eql 2 0 (yD 166 (mG 0 3 0 4 (DZ 5)) (xL 0 3 1 (wE 6 .lss 6 0 6 6 0 0 0 4 akM akN) (wa .geq 3 5 .geq 3 5 (wE 6 .lss 6 0 6 6 0 0 0 4 akO akP)))))) 0 3 (uj 1 0 .lss 1 4 .lss 1 4 (wa .geq 2 0 .geq 2 0 (Da 3 9 5 (wE 6 .lss 6 0 6 6 6 0 0 4 akQ akR)))) (jr 0 4 (uj 1 0 .lss 1 4 .lss 1 4 (uj 2 0 .lss 2 4 .lss 2 4 (Da 3 9 5 (wE 6 .lss 6 0 6 6 0 0 0 4 akS akT)))) 0 5 (uj 1 0 .lss 1 40 .lss 1 40 (uj 2 1 .leq 2 4 .leq 2 4 (Da 3 9 5 (wE 6 .lss 6 0 6 6 0 0 0 4 agW agX)))) (jr 0 8 (uj 1 0 .lss 1 40 .lss 1 40 (uj 2 1 .leq 2 4 .leq 2 4 (Da 3 9 5 (wE 6 .lss 6 0 6 6 0 0 0 4 agY agZ)))) 0 6 (uj 1 0 .lss 1 4 .lss 1 4 (wa .eql 2 0 .eql 2 0 (Da 3 9 5 (wE 6 .lss 6 0 6 6 0 0 0 4 ag0 ag1)))) (jr 0 7 (wa .eql 1 0 .eql 1 0 (wa .eql 2 0 .eql 2 0 (Da 3 9 5 (wE 6 .lss 6 0 6 6 0 0 0 4 ag2 ag3)))) 0 9 (wa .eql 1 0 .eql 1 0 (wa .eql 2 0 .eql 2 0 (yD 166 (mG 0 3 0 4 (DZ 5)) (wa .leq 3 4 .leq 3 4 (wE 6 .lss 6 0 6 6 0 0 0 4 ag4 ag5))))) (ahS 0 10 (uj 1 0 .lss 1 40 .lss 1 40 (uj 2 0 .leq 2 1048576 .leq 2 1048576 (Da 3 9 5 (wE 6 .lss 6 0 6 6 0 0 0 4 ag6 ag7))))))))))
def apb:aI ayF (kC [⟨2,222067008,2,[(2,(8,0))],[],[],[]⟩]) 400 af 222=w6:=by kernel_rfl
end Go.Proofs.YtabefplkfkfdfaaGreat
