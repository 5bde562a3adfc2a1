/- A part of the proof, no condition: what functions of the program and of the reference compute. -/
import Derived.Test.YtabefplkfkfdfaaGreatPAg
import Derived.Test.YtabefplkfkfdfaaGreatPAc
import Derived.Test.YtabefplkfkfdfaaGreatPAj
import Derived.Test.YtabefplkfkfdfaaGreatPAb
import Derived.RowKit3
import Derived.Below
open List renaming mem_cons->ayW,mem_singleton->ayU,take_succ_eq_append_getElem->ayN,mem_append->ayS,take_of_length_le->ayV,getElem_mem->ayJ,drop_of_length_le->azf,append_nil->ay2,mem_of_getElem?->ayX,getElem?_eq_some_iff->ayH,getElem?_eq_none->aCA,getElem?_eq_getElem->ayG,getElem?_map->ay1,map_set->aBX,take_append_drop->azW,flatMap_append->aBR,length_map->azq,length_take->azS,drop_eq_getElem_cons->ay5,map_cons->azr,map_append->azQ,set_append_right->aBC,map_nil->aAW,append_assoc->ay3,singleton_append->aCB,isEmpty_iff->aAg,mk_mem_zipIdx_iff_getElem?->aAe,findIdx?_eq_some_iff_getElem->aBW,findIdx?_eq_none_iff->aCl,perm_middle->aDo,pairwise_append->aCJ,pairwise_cons->aCW,cons_append->azO,getElem?_append_right->aze,mem_iff_getElem->aAv,pairwise_iff_getElem->aAd,take_length->aBc,nodup_cons->azP,eq_nil_of_length_eq_zero->azb,mem_cons_of_mem->azg,length_cons->azh,mem_append_left->azw,length_append->ayP,nil_append->azN,getD_eq_getElem?_getD->azu,mem_map->ay8,getElem?_append_left->ayZ,length_flatten->az2,getElem?_cons_zero->az8,replicate->ay_,map_map->aCe,forIn_cons->aDv,forIn_nil->aDI,getElem?_cons_succ->aBz,length_eraseIdx->aCK,mem_of_mem_eraseIdx->aCo
open Go.Proofs.Tryz renaming prog->ayF,underlying28->aDc,underlying214->aCX
open Go.Value renaming int->aAf
open Option renaming bind_some->ayK,map_eq_some_iff->ayR
open Nat renaming min_eq_left->aCn,le_of_lt->aD9,beq->ayQ,ble->azK,blt_eq->aEf,beq_eq->azv,le_refl->ayL,le_trans->ay6,zero_add->aAn
open Bool renaming and_eq_true->ayI,not_true->azV,not_false->aA4,and_true->aBe,and_false->aA5,true_and->aAY,false_and->aA6,false_eq_true->azi,eq_iff_iff->aAH
open Go.IntKind renaming u64->aDH,i64->azc
open List.Pairwise renaming map->aBV
open List.Perm renaming eq_of_pairwise->aEp
open And renaming intro->azA
open Prod renaming fst->azU
open Go.Op renaming equal->aA8,equalIn->azE
open Go.Instr renaming checkKey->aA7,findKey->azR,findAsking->azt,sameBits->aAD
open Go renaming undef->azm
open Std.Legacy.Range renaming forIn_eq_forIn_range'->aDJ,size->aDK
open Option renaming some->aa,none->ah
open Bool renaming true->ab,false->af
set_option linter.all false
namespace Go.Proofs.YtabefplkfkfdfaaGreat
open Go Go.Ev
section
def uY(r:Rl)(hs:List At):IV:=.agg [iS r.name,dm r.ax,dm r.az,gO r.aG,gO r.bn,iI r.vars,dm hs]
def DE(r:Rl)(hs:List At):Pure (uY r hs):=.agg _ aw
def abe(r:Rl)(hs:List At)(v:Int):CC 203 af [uY r hs,iI v] (iB (decide (0<=v/\v<hs.length))):=by
 refine CC.cZ asO kr (λ_=>kr) (by intro x hx;rcases ayW.1 hx with rfl|hx;exact DE r hs;obtain rfl:=ayU.1 hx;simp) (by rfl) ?_;simp[aiQ,uY,SE.den,ao];by_cases h:0<=v
 .simp[h]
 .right;refine⟨by omega,?_⟩;simp[h]
section
variable{Q:IV->Prop}{k0 k1:List IV->Prop}{x0 x1 x2 x3 x5 x6 x7:IV}
def aoh(i:Nat)(hi:i<1000)(ks l:List Int)(hl:Sm l)(hk:∀q,(∀v,v∈q↔v∈ks\/v∈l)->k0 [iI (i+1:Nat),iM q]):Ps.sat ayF CC Q [k0] [x0,x1,x2,iI i,iM ks,x5,x6,x7,iL l]:=by
 have kI:=aH hi aj;unfold Ps;refine aB l.length (λj (q:List Int)=>[iI j,iM q]) (λj q=>∀v,v∈q↔v∈ks\/v∈l.take j) ks ?_ aw λj q hj hI=>?_
 .simp[SE.den]
 by_cases ak:j<l.length
 .have hw:=aH ak hl;have iF:=PQ (ν:=[iM q,iI l[j]]) (m:=.var 0) (key:=.var 1) (ks:=q) (k:=l[j]) rfl rfl;simp[SE.den]at iF;simp only[iI]at iF;simp[SE.den,ak,hw,kS ak,ao];refine⟨_,iF,.mk _ rfl aj λv=>?_⟩;rw[vv,hI,ayN ak,ayS,ayU,or_assoc]
 .simp[SE.den,ak,kI];rw[ayV aj]at hI;exact hk q hI
def aoi(ks vs l:List Int)(dJ:∀v,v∈ks↔v∈vs)(hl:Sm l)(i:Nat)(hi:i<1000)(out:List Int)(ho:out.length<=i)(x8:IV)
 (hy:(∀v∈l,v∈vs)->k1 [iI (i+1:Nat),iL (out++[(i:Int)])])(hn:(¬∀v∈l,v∈vs)->k1 [iI (i+1:Nat),iL out]):
 Pt.sat ayF CC Q [k0,k1] [x0,x1,x2,x3,iM ks,x5,iI i,iL out,x8,iL l]:=by
 have kI:=aH hi aj;unfold Pt;refine aB l.length (λj (_:Unit)=>[iI j]) (λj _=>∀v∈l.take j,v∈vs) () ?_ aw λj _ hj hI=>?_
 .simp[SE.den]
 by_cases ak:j<l.length
 .have hw:=aH ak hl;have pV:=PS (ν:=[iM ks,iI l[j]]) (m:=.var 0) (key:=.var 1) (ks:=ks) (k:=l[j]) rfl rfl;have BO:=PR (ν:=[iM ks,iI l[j]]) (m:=.var 0) (key:=.var 1) (ks:=ks) (k:=l[j]) rfl rfl;simp[SE.den]at pV BO;simp only[iI]at pV BO;obtain⟨hq,th,wM⟩:=BO;simp[SE.den,ak,hw,kI,kS ak,ao];refine⟨⟨_,pV⟩,iB (decide (l[j]∈ks)),⟨hq,th,by rw[wM]⟩,?_⟩;by_cases z:l[j]∈ks
  .simp[z];exact .mk () rfl aj (cy ak hI ((dJ _).1 z))
  .simp[z];exact hn λh=>z ((dJ _).2 (h _ (ayJ ak)))
 .have bX:=dj ak hI;simp[SE.den,ak,kI,aL,cellsOf,wS (show out.length<=100000000 by omega)];exact hy bX
def aoj(x0:IV)(a:At)(ef:a.ts.length<=8)(hn:∀t∈a.ts,kQ t)(hf:∀t∈a.ts,dS t)(vs ks:List Int)(dJ:∀v,v∈ks↔v∈vs)(hQ:Q (iL (su vs a.ts 0))):
 Pu.sat ayF CC Q [k0] [x0,x1,x2,x3,iM ks,.agg [iS a.s,iT a.ts]]:=by
 unfold Pu;refine aB a.ts.length (λi (out:List Int)=>[iI i,iL out]) (λi out=>out++su vs (a.ts.drop i) i=su vs a.ts 0/\out.length<=i) [] ?_ aw λi out hi hI=>?_
 .simp[SE.den]
 obtain⟨hI,Ey⟩:=hI;by_cases ak:i<a.ts.length
 .have h88:=c88 af a.ts[i] (hn _ (ayJ ak)) (hf _ (ayJ ak));have hl:=(nK λt ht=>by rw[ayU.1 ht];exact hf _ (ayJ ak):Vr (varsOf [a.ts[i]])).len;rw[aks ak]at hI;rw[bG]at h88;simp[SE.den,ak,ng ak,bG,ao];refine⟨_,h88,?_⟩;simp;refine aoi ks vs _ dJ (by unfold Sm;omega) i aj out Ey _ (λhm=>?_) λhm=>?_
  .rw[YX,if_pos hm]at hI;exact .mk (out++[(i:Int)]) rfl aj ⟨by rw[<-hI];simp,by simp;omega⟩
  .rw[YX,if_neg hm]at hI;exact .mk out rfl aj ⟨by rw[<-hI];simp,by omega⟩
 .rw[azf aj,su,ay2]at hI;simp[SE.den,ak,hI];exact hQ
end
def aei:aef=SN:=by rfl
def aok(r:Rl)(hs:List At)(hl:hs.length<=3)(ef:∀a∈hs,a.ts.length<=8)(eO:∀a∈hs,qq a)(hf:∀a∈hs,∀t∈a.ts,WF t)(done:List Int)(hd:done.length<=100)(n:Nat)(a:At)(ha:hs[n]?=aa a):
 SN.sat ayF CC (zL (·=qt hs done a.ts)) [] [uY r hs,iL done,iI n]:=by
 have dR:=ayX ha;obtain⟨hn,Wl⟩:=ayH.1 ha;have hAn:=pe hn;rw[Wl]at hAn;have We:=abe r hs;simp only[uY]at*
 simp[SN,SE.den,ao];unfold Yz;refine aB done.length (λi (q:List Int)=>[iI i,iM q]) (λi q=>∀v,v∈q↔v∈eT (m5 hs (done.take i))) [] ?_ (by simp[m5,eT]) λi q hi hI=>?_
 .simp[SE.den]
 by_cases ak:i<done.length
 .have hw:=aH ak aj;have bL:=N1 (hs:=hs) ak;simp[SE.den,ak,hw,kS ak,ao];refine⟨_,We _,?_⟩;by_cases z:0<=done[i]/\done[i]<hs.length
  rotate_left
  .rw[decide_eq_false z];simp;refine .mk q rfl aj λv=>?_;rw[hI,bL]
   have:kU hs done[i]=[]:=by
    unfold kU;split
    .rw[aCA aj]
    .rfl
   rw[this,ay2]
  rw[decide_eq_true z];have x_:done[i]=((done[i].toNat:Nat):Int):=aj;have ek:done[i].toNat<hs.length:=aj;have hA:=pe ek;rw[<-x_]at hA;have hm:=ayJ ek;have KX:=c46 af hs[done[i].toNat] (eO _ hm) (λt ht=>(hf _ hm t ht).2)
  have Es:Sm (varsOf hs[done[i].toNat].ts):=by
   have:=(nK λt ht=>(hf _ hm t ht).2).len;unfold Sm;omega
  have th:kU hs done[i]=hs[done[i].toNat].ts:=by
   simp only[kU,if_pos z.1];rw[ayG ek]
  simp[hA,ao];refine⟨_,KX,?_⟩;simp;refine aoh i aj q _ Es λq' rS=>.mk q' rfl aj λv=>?_;rw[rS,hI,bL,I,ayS,th,kE]
 .rw[ayV aj]at hI;simp[SE.den,ak,hAn,ao];refine aoj _ a (ef a dR) (eO a dR).2.2 (λt ht=>(hf a dR t ht).2) (varsOf (m5 hs done)) q (λv=>by rw[hI,kE]) ?_;rw[AU,qt]
def agL(new:Bool)(r:Rl)(hs:List At)(hl:hs.length<=3)(ef:∀a∈hs,a.ts.length<=8)(eO:∀a∈hs,qq a)(hf:∀a∈hs,∀t∈a.ts,WF t)(done:List Int)(hd:done.length<=100)(n:Nat)(a:At)(ha:hs[n]?=aa a):
 CC 160 new [uY r hs,iL done,iI n] (iL (qt hs done a.ts)):=by
 have hp:∀x∈[uY r hs,iL done,iI n],Pure x:=by
  intro x hx;rcases ayW.1 hx with rfl|hx
  .exact DE r hs
  rcases ayW.1 hx with rfl|hx
  .simp
  obtain rfl:=ayU.1 hx;simp
 cases new with
 |false=>exact CC.Dy arS kr (λ_=>kr) hp (by rfl) (aok r hs hl ef eO hf done hd n a ha)
 |true=>exact CC.Dy aoe kr (λ_=>kr) hp (by rfl) (aei▸aok r hs hl ef eO hf done hd n a ha)
end
def IT(k:Int):IV:=.aF [iI k,iB ab]
abbrev rC(ks:List Int):IV:=.aF (ks.map IT)
theorem RV:∀ks:List Int,mH (ks.map IT)=aa (ks.map (aAf .i64))
 |[]=>rfl
 |k::ks=>by simp[mH,IT,Ev.keyOf,RV ks]
def G6(ks:List Int)(k:Int):(k∈ks->∃i,fK ayF 3 (ks.map IT) (iI k)=aa (aa i)/\ks[i]?=aa k)/\(k∉ks->fK ayF 3 (ks.map IT) (iI k)=aa ah):=by
 have h:fK ayF 3 (ks.map IT) (iI k)=nowAt (.int .i64) (.int .i64 k) (ks.map (aAf .i64)) 0:=by
  unfold fK;rw[RV];simp[xN,VT,Ev.keyOf]
 rw[h];have:=G4 k ks 0;simpa using this
def Wq{ν:List IV}{m key:SE}{ks:List Int}{k:Int}(h1:m.den ayF ν=aa (rC ks))(h2:key.den ayF ν=aa (iI k)):(SE.ins 3 m key (.b ab)).den ayF ν=aa (rC (Ee ks k)):=by
 simp only[SE.den,h1,h2,ayK];by_cases hm:k∈ks
 .obtain⟨i,g1,g2⟩:=(G6 ks k).1 hm;rw[g1];simp only[Ee,if_pos hm];rw[Ma];rw[ay1,g2];rfl
 .rw[(G6 ks k).2 hm];simp[Ee,if_neg hm,IT]
def Wr{ν:List IV}{m key:SE}{ks:List Int}{k:Int}(h1:m.den ayF ν=aa (rC ks))(h2:key.den ayF ν=aa (iI k)):(SE.get 3 m key (.b af)).den ayF ν=aa (iB (decide (k∈ks))):=by
 simp only[SE.den,h1,h2,ayK];by_cases hm:k∈ks
 .obtain⟨i,g1,g2⟩:=(G6 ks k).1 hm;rw[g1];simp[g2,IT,hm]
 .rw[(G6 ks k).2 hm];simp[hm]
abbrev DF(l:List Bool):IV:=.tree 1 (l.map iB)
def aol{l:List Bool}{i:Nat}(h:i<l.length):cb 1 (DF l) (iI (i:Nat))=aa (iB l[i]):=cM (by simp[h]) rfl
def asQ{l:List Bool}{i:Nat}(b:Bool)(h:i<l.length):zi 1 (DF l) (iI (i:Nat)) (iB b)=aa (DF (l.set i b)):=by
 simp[zi,gW,h,cellsOf,aBX]
def wU(hs:List At)(done:List Int)(k:Nat)(g:Gl):Bool:=BP hs (done.take k) g
def uZ(hs:List At)(done:List Int)(k:Nat)(g:Gl):Bool:=if k=0 then af else wU hs done (k- 1) g
def BR(hs:List At)(done:List Int)(k:Nat)(g:Gl):Bool:=wU hs done k g&& !uZ hs done k g
def abq{hs:List At}{done:List Int}{j k:Nat}(h:j<=k):∀v∈varsOf (m5 hs (done.take j)),v∈varsOf (m5 hs (done.take k)):=by
 intro v hv;rw[kE]at*
 have:done.take k=done.take j++(done.take k).drop j:=by
  have:=azW j (done.take k);rw[List.take_take,aCn h]at this;exact this.symm
 rw[this];unfold m5 at*
 rw[aBR,I,ayS];exact .inl hv
def akv{hs:List At}{done:List Int}{k:Nat}{g:Gl}(h:uZ hs done k g=ab):wU hs done k g=ab:=by
 unfold uZ at h;split at h
 .cases h
 .unfold wU BP at*
  rw[decide_eq_true_eq]at*
  exactλv hv=>abq aj v (h v hv)
def aej{hs:List At}{gs:List Gl}{done:List Int}{k:Nat}(h:k<(f_ hs gs done).length):(f_ hs gs done)[k]=mP (BR hs done k) gs 0:=by
 cases k with
 |zero=>
  show mP (BP hs []) gs 0=_
  congr 1
  funext g;simp[BR,uZ,wU]
 |succ k=>simp[f_];rfl
def BS(f g:Gl->Bool)(gs:List Gl)(i:Nat):List Bool:=(gs.take i).map f++(gs.drop i).map g
def YY(f g:Gl->Bool)(gs:List Gl)(i:Nat):(BS f g gs i).length=gs.length:=by
 simp[BS];omega
def aom{f g:Gl->Bool}{gs:List Gl}{i:Nat}(h:i<gs.length):(BS f g gs i)[i]'(by rw[YY];exact h)=g gs[i]:=by
 unfold BS;rw[List.getElem_append_right (by simp;omega)];simp[aCn (aD9 h)]
def akw{f g:Gl->Bool}{gs:List Gl}{i:Nat}(h:i<gs.length):(BS f g gs i).set i (f gs[i])=BS f g gs (i+1):=by
 unfold BS;have hz:i-((gs.take i).map f).length=0:=by rw[azq,azS];omega
 rw[ay5 h,ayN h,azr,azQ,aBC _ _ (by rw[azq,azS];omega),hz,List.set_cons_zero];simp only[azr,aAW,ay3,aCB]
def agM{f g:Gl->Bool}{gs:List Gl}{i:Nat}(h:i<gs.length)(he:f gs[i]=g gs[i]):BS f g gs i=BS f g gs (i+1):=by
 unfold BS;rw[ay5 h,ayN h,azr,azQ];simp only[azr,aAW,ay3,aCB,he]
def abr(ks vs:List Int):Bool:=decide (∀v∈vs,v∈ks)
def aon{ks vs:List Int}(h:∀v∈vs,v∈ks):abr ks vs=ab:=decide_eq_true h
def aoo{ks vs:List Int}(h:¬∀v∈vs,v∈ks):abr ks vs=af:=decide_eq_false h
def akx{hs:List At}{done:List Int}{k:Nat}{g:Gl}{ks:List Int}(dJ:∀v,v∈ks↔v∈varsOf (m5 hs (done.take k))):wU hs done k g=abr ks (varsOf g.ts):=by
 unfold wU BP abr;rw[decide_eq_decide];exact⟨λh v hv=>(dJ v).2 (h v hv),λh v hv=>(dJ v).1 (h v hv)⟩
def asR:List Nat:=[203,160,216,175,240,266,11,31,24,25,7,69,8,13,14,257,72,26,71,137,70,139,210,225,145,183,75,76,111,65,112,136,186,140,184,248,224,211,170,138,249,185,9,28,27,143,77,142,141,74,144,73,146,78,18,39,16,82,44,150,188,189,29,79,80,149,187,147,10,148,30,38,104,83,84,81,168,103,62,108,42,169,107,106,45,64,63,135,110,46,66,21,12,20,23,105,40,43,41,113,171,215,174,161,48,98,97,116,115,268,192,154,227,87,33,51,212,94,47,114,32,85,155,233,199,101,50,49,164,230,194,166,204,202,99,86,95,93,156,162,280]
def awl:List Nat:=[34,35,36,37,89,100,151,190,234]
def awm:List Nat:=[235,236,237,238,239,241,242]
def awn:List Nat:=[185,247,209,173000151,500195,500196,500040,500041,500043,500082,500140]
def aiS(l:List Hint):fe:=⟨asR,awl,awm,l++[⟨999997,0,0,[],[],[],[]⟩,⟨999999,0,0,[],[],[],[]⟩],awn⟩
def aiT:aq:=
 (yw (Gi .neq bp bp))
def asS:aI ayF (aiS []) 400 af 266=aiT:=by kernel_rfl
def YZ:aq:=
 (qX iY 2 cE 3 bp 2 (pQ 3 3 28 (m4 1 1 1) (m4 3 3 3) yu uh) JR)
def aiU:aq:=
 (ue (rW 3 1) (.aC cE YZ))
def asT:aI ayF (aiS [⟨0,156,2,[(0,(8,0))],[],[],[]⟩]) 400 af 156=aiU:=by kernel_rfl
end Go.Proofs.YtabefplkfkfdfaaGreat
namespace Go.Ev
open Go.RowKit
section
variable{P:Program}
def ayC(r:Option (IV×St)):Bool:=
 match r with
 |some (.raw (.bool ab),_)=>ab
 |_=>af
def abt:Value->Value->Bool
 |.int k n,.int k' n'=>decide (k=k')&&decide (n=n')
 |.bool a,.bool b=>a==b
 |.string a,.string b=>decide (a=b)
 |_,_=>af
def agN{a b:Value}(h:abt a b=ab):a=b:=by
 unfold abt at h;split at h
 .simp only[ayI,decide_eq_true_eq]at h;rw[h.1,h.2]
 .rw[beq_iff_eq]at h;rw[h]
 .rw[decide_eq_true_eq]at h;rw[h]
 .cases h
def IU(p:IV->IV->Bool):List IV->List IV->Bool
 |[],[]=>ab
 |a::as_,b::bs=>p a b&&IU p as_ bs
 |_,_=>af
theorem AD{p:IV->IV->Bool}:∀{as_ bs:List IV},IU p as_ bs=ab->as_.length=bs.length/\∀(i:Nat) a b,as_[i]?=aa a->bs[i]?=aa b->p a b=ab
 |[],[],_=>⟨rfl,λi a b h=>by simp at h⟩
 |a::as_,b::bs,h=>by
  simp only[IU,ayI]at h;obtain⟨h1,h2⟩:=AD h.2;refine⟨by simp[h1],λi=>?_⟩;cases i with
  |zero=>intro a' b' e1 e2;simp at e1 e2;subst e1 e2;exact h.1
  |succ i=>intro a' b' e1 e2;simp at e1 e2;exact h2 i a' b' e1 e2
 |[],_::_,h=>by simp[IU]at h
 |_::_,[],h=>by simp[IU]at h
def IW(σ:St):Nat->IV->IV->Bool
 |0,_,_=>af
 |f+1,x,z=>
  match z with
  |.raw u=>match x with
   |.raw v=>abt v u
   |_=>af
  |.agg ds=>match x with
   |.agg cs=>IU (IW σ f) cs ds
   |_=>af
  |.aF ds=>match x with
   |.aF cs=>IU (IW σ f) cs ds
   |_=>af
  |.tree s es=>match x with
   |.raw (.slice ah l c)=>es.isEmpty&&Nat.blt 0 s&&ayQ l 0&&ayQ c 0
   |.emp=>es.isEmpty&&Nat.blt 0 s
   |.tree s' aW=>es.isEmpty&&aW.isEmpty&&ayQ s s'
   |.sl id off len _ ep s'=>match σ.at id with
    |some (.cells cs aE mn)=>azK mn ep&&azK ep aE&&ayQ es.length len&&azK (off+len*s) cs.length&&ayQ s s'&&
      es.zipIdx.all λ(e,i)=>ayQ (cellsOf e).length s&&(cellsOf e).zipIdx.all λ(d,j)=>match cs[off+i*s+j]? with
       |some c=>IW σ f c d
       |none=>ab
    |_=>af
   |_=>af
  |_=>af
theorem wV{fr:Bool}{σ:St}:∀{f:Nat} {x z:IV},IW σ f x z=ab->Can fr σ x z
 |0,_,_,h=>by simp[IW]at h
 |f+1,x,z,h=>by
  unfold IW at h;split at h
  .split at h
   .rw[agN h];exact .raw _
   .cases h
  .split at h
   .obtain⟨h1,h2⟩:=AD h;exact .agg _ _ h1 λi c d e1 e2=>wV (h2 i c d e1 e2)
   .cases h
  .split at h
   .obtain⟨h1,h2⟩:=AD h;exact .aF _ _ h1 λi c d e1 e2=>wV (h2 i c d e1 e2)
   .cases h
  .split at h
   .rename_i es _ l c;simp only[ayI,aAg,aEf,azv]at h;obtain⟨⟨⟨h1,h2⟩,h3⟩,h4⟩:=h;subst h1 h3 h4;exact .nil _ h2
   .simp only[ayI,aAg,aEf]at h;obtain⟨h1,h2⟩:=h;subst h1;exact .emp _ h2
   .simp only[ayI,aAg,azv]at h;obtain⟨⟨h1,h2⟩,h3⟩:=h;subst h1 h2 h3;exact .eJ _
   .split at h
    .rename_i aT;simp only[ayI,azv,Nat.ble_eq,List.all_eq_true]at h;obtain⟨⟨⟨⟨⟨h1,h2⟩,h3⟩,h4⟩,h5⟩,h6⟩:=h;subst h5;refine .sl _ _ _ _ _ _ _ _ _ _ aT h1 h2 h3 h4 (λe he=>?_) λi e j c d e1 e2 e3=>?_
     .obtain⟨i,hi,rfl⟩:=List.getElem_of_mem he;exact(h6 (_,i) (aAe.2 (ayG hi))).1
     .have:=(h6 (e,i) (aAe.2 e1)).2 (d,j) (aAe.2 e2);simp only[e3]at this;exact wV this
    .cases h
   .cases h
  .cases h
abbrev Hk:=FuncId->List (List IV×IV)
def hit(σ:St)(args:List IV):List (List IV×IV)->Option IV
 |[]=>ah
 |(xs,z)::l=>if IU (IW σ 40) args xs then aa z else hit σ args l
theorem RX{σ:St}{args:List IV}{z:IV}:∀{l:List (List IV×IV)},hit σ args l=aa z->∃xs,(xs,z)∈l/\OC ab σ args xs
 |[],h=>by cases h
 |(xs,y)::l,h=>by
  rw[hit]at h;split at h
  .rename_i ha;cases h;obtain⟨h1,h2⟩:=AD ha;exact⟨xs,.head _,h1,λi c d e1 e2=>wV (h2 i c d e1 e2)⟩
  .obtain⟨yZ,h1,h2⟩:=RX h;exact⟨yZ,.tail _ h1,h2⟩
def Ws(H:Hk)(S:Self):Self:=⟨S.code,λro f args σ=>match hit σ args (H f)with
 |some z=>aa (z,σ)
 |none=>S.call ro f args σ,S.cg,S.zP⟩
def Wt(P:Program)(H:Hk)(n:Nat):Self:=Nat.rec Self.none (λ_ S=>Ws H (nj P S)) n
def aek{H:Hk}{S:Self}(hH:∀f xs z,(xs,z)∈H f->eK P af ab f xs z)(hC:eX P S):eX P (Ws H S) where
 call:=by
  intro N ro f args σ v au h hN ι us w hi hr;simp only[Ws]at h;split at h
  .rename_i z hz;cases h;obtain⟨xs,h1,h2⟩:=RX hz;exact((hH f xs _ h1).Sk (ro:=ro) h2).2 N hN ι us w hi hr
  .exact hC.call N ro f args σ v au h hN ι us w hi hr
 cg:=hC.cg
 zP:=hC.zP
 EA:=hC.EA
def ael{H:Hk}{S:Self}(hk:bI S):bI (Ws H S) where
 call:=by
  intro ro f args σ v au h;simp only[Ws]at h;split at h
  .cases h;exact ayL _
  .exact hk.call ro f args σ v au h
 cg:=hk.cg
 zP:=hk.zP
theorem aem(fR:P.follows .mixedOrders=ab){H:Hk}(hH:∀f xs z,(xs,z)∈H f->eK P af ab f xs z):∀n,iJ P (Wt P H n) n/\eX P (Wt P H n)/\bY (Wt P H n)/\bI (Wt P H n)
 |0=>ahv (λ_ _ h1 h2 h3 h4=>XL fR h1 h2 h3 h4) 0
 |n+1=>by
  obtain⟨h1,h2,h3,h4⟩:=aem fR hH n;exact⟨XE h1 h2 h3 h4 (XL fR h1 h2 h3 h4),aek hH (Ow h1 h2 h3 h4),QE h3 h4,ael (HM h3 h4)⟩
def comes(r:Option (IV×St))(z:IV):Bool:=
 match r with
 |some (v,σ)=>IW σ 40 v z
 |none=>af
def eK.run(fR:P.follows .mixedOrders=ab){H:Hk}(hH:∀f xs z,(xs,z)∈H f->eK P af ab f xs z){n:Nat}{new:Bool}{f:FuncId}{xs:List IV}{z:IV}(h:comes ((Wt P H n).call 0 f xs ⟨0,.lf⟩) z=ab):eK P af new f xs z:=by
 unfold comes at h;split at h
 .rename_i v σ hc;obtain⟨_,h2,_,h4⟩:=aem fR hH n;exact eK.of ⟨h4.call _ _ _ _ _ _ hc,λN hN ι us w hi hr=>h2.call N 0 f xs _ _ _ hc hN ι us w hi hr⟩ (wV h)
 .cases h
end
end Go.Ev
namespace Go.Proofs.YtabefplkfkfdfaaGreat
open Go Go.Ev
section
def awo(a:Int):CC 266 af [iI a] (iB af):=by
 refine CC.cZ asS kr (λ_=>kr) aw (by rfl) ?_;simp[aiT,SE.den,ao]
def awp(a b:Int):CC 240 af [iI a,iI b] (iB (decide (a<b))):=by
 refine CC.cZ asP kr (λ_=>kr) aw (by rfl) ?_;simp[aiR,SE.den,ao];exact⟨_,awo a,by simp[ao]⟩
def awq(l:List Oc)(o:Oc)(hl:l.length<=1000):CC 156 af [ju l,kg o] (iI (match l.findIdx? (·==o)with
 |some i=>(i:Int)
 |none=> -1)):=by
 refine CC.zN asT kr (λ_=>kr) (by intro x hx;rcases ayW.1 hx with rfl|hx;exact V7 l;obtain rfl:=ayU.1 hx;exact IK o) (by rfl) ?_;simp[aiU,kg,SE.den,ao];unfold YZ;refine aB l.length (λi (_:Unit)=>[iI i]) (λi _=>∀x∈l.take i,x≠o) () ?_ aw λi _ hi hI=>?_
 .simp[SE.den]
 by_cases ak:i<l.length
 .have hw:=aH ak aj;simp[SE.den,ak,hw,PM ak,ao];by_cases h1:l[i]=o
  .left;refine⟨by rw[h1];simp,?_⟩
   have:l.findIdx? (·==o)=aa i:=by
    rw[aBW];refine⟨ak,by simp[h1],λj hj=>?_⟩;have:=hI l[j] (List.mem_take_iff_getElem.2 ⟨j,by omega,rfl⟩);simpa using this
   rw[this]
  .right;refine⟨?_,.mk () rfl aj (cy ak hI h1)⟩;intro e1 e2;refineλe3=>h1 ?_;cases hli:l[i];cases o
   simp_all
 .have h2:=dj ak hI
  have:l.findIdx? (·==o)=ah:=by
   rw[aCl];intro x hx;simpa using h2 x hx
  simp[SE.den,ak,this]
def k86(l:List Oc)(o:Oc)(hl:l.length<=1000):CC 86 af [ju l,kg o] (iB (decide (o∈l))):=by
 refine CC.cZ awk kr (λ_=>kr) (by intro x hx;rcases ayW.1 hx with rfl|hx;exact V7 l;obtain rfl:=ayU.1 hx;exact IK o) (by rfl) ?_;have h:=awq l o hl;have hO:kg o=.agg [iI o.r,iI o.h,iB o.k]:=rfl;rw[hO]at*
 simp[aog,SE.den,ao];refine⟨_,h,?_⟩;simp;cases hf:l.findIdx? (·==o)with
 |none=>
  rw[aCl]at hf;simp;intro hm;have:=hf o hm;simp at this
 |some i=>
  rw[aBW]at hf;obtain⟨h1,h2,_⟩:=hf;simp at h2;simp;exact h2▸ayJ h1
def cvx(n:Int):M9 ayF 3 33 (iI n)=aa (.raw (.int .u64 (aDH.wrap n))):=by kernel_rfl
def asU{n:Int}(h:0<=n/\n<=9223372036854775807):aDH.wrap n=n:=by
 simp[IntKind.wrap,IntKind.signed,IntKind.bits];omega
def awr{n:Nat}(h:n<=1000):M9 ayF 3 33 (iI (n:Nat))=aa (.raw (.int .u64 (n:Nat))):=by
 rw[cvx,asU aj]
def aws(n:Nat)(h:n<=12):∃m,CC 202 af [.raw (.int .u64 (n:Nat))] (iI m):=by
 have hr:∀(m:Int) (n:Int),comes ((Wt ayF (λ_=>[]) 300).call 0 202 [.raw (.int .u64 n)] ⟨0,.lf⟩) (iI m)=ab->∃m,CC 202 af [.raw (.int .u64 n)] (iI m):=λm n h=>⟨m,CC.plain (EZ rfl) (eK.run mixed (λ_ _ _ h=>by cases h) h) aw kr⟩;rcases n with _|_|_|_|_|_|_|_|_|_|_|_|_|n
 .exact hr 0 0 (by as_aux_lemma=>kernel_rfl)
 .exact hr 1 1 (by as_aux_lemma=>kernel_rfl)
 .exact hr 2 2 (by as_aux_lemma=>kernel_rfl)
 .exact hr 2 3 (by as_aux_lemma=>kernel_rfl)
 .exact hr 3 4 (by as_aux_lemma=>kernel_rfl)
 .exact hr 3 5 (by as_aux_lemma=>kernel_rfl)
 .exact hr 3 6 (by as_aux_lemma=>kernel_rfl)
 .exact hr 3 7 (by as_aux_lemma=>kernel_rfl)
 .exact hr 4 8 (by as_aux_lemma=>kernel_rfl)
 .exact hr 4 9 (by as_aux_lemma=>kernel_rfl)
 .exact hr 4 10 (by as_aux_lemma=>kernel_rfl)
 .exact hr 4 11 (by as_aux_lemma=>kernel_rfl)
 .exact hr 4 12 (by as_aux_lemma=>kernel_rfl)
 .omega
def aiV{l:List Int}{i:Nat}(v:Int)(h:i<l.length):zi 1 (iL l) (iI (i:Nat)) (iI v)=aa (iL (l.set i v)):=by
 simp[zi,gW,h,cellsOf,aBX]
def swp(A B:List Int)(x y:Int):((A++y::x::B).set (A.length+1) y).set A.length x=A++x::y::B:=by
 rw[aBC _ _ aj,aBC _ _ aj];simp[show A.length+1- A.length=1 by omega]
section
variable{Q:IV->Prop}{k0 k1 k2 k3 k4:List IV->Prop}{x0 x1 x2 x3 x4 x5 x6 x7 x8 x9 dY:IV}
def aop(i:Nat)(hi:i<900)(P rest:List Int)(x:Int)(hP:P.length=i)(hs:P.Pairwise (·<=·))(hk:∀P':List Int,P'.Perm (x::P)->P'.Pairwise (·<=·)->k4 [iI (i+1:Nat),iL (P'++rest)]):
 (abk 7).sat ayF CC Q [k0,k1,k2,k3,k4] [x0,x1,x2,x3,x4,x5,x6,x7,x8,x9,dY,iI i,iL (P++x::rest)]:=by
 have kI:=aH (show i<1000 by omega) aj
 have Ba:∀j,j<=i->(∀c∈P.drop j,x<=c)->(∀c∈P.take j,c<=x)->k4 [iI (i+1:Nat),iL (P.take j++x::(P.drop j++rest))]:=λj hj h1 h2=>by
  have:=hk (P.take j++x::P.drop j) (by
   have:=aDo (a:=x) (l₁:=P.take j) (l₂:=P.drop j);rwa[azW]at this) (by
   rw[aCJ];have bu:=hs;rw[<-azW j P,aCJ]at bu;refine⟨bu.1,aCW.2 ⟨h1,bu.2.1⟩,λa ha b hb=>?_⟩;rcases ayW.1 hb with rfl|hb
   .exact h2 a ha
   .exact bu.2.2 a ha b hb)
  rw[ay3,azO]at this;exact this
 unfold abk;refine iv (λ(j:Nat)=>[iI j,iL (P.take j++x::(P.drop j++rest))]) (λj=>j<=i/\∀c∈P.drop j,x<=c) (λj=>j) i ?_ ⟨ayL _,by rw[azf aj];simp⟩ λj hj=>?_
 .have t1:P.take i=P:=ayV aj;have t2:P.drop i=[]:=azf aj;rw[t1,t2];simp[SE.den]
 obtain⟨NZ,hjc⟩:=hj;rcases j with _|q
 .have:=Ba 0 aj hjc aw;simp[SE.den,kI]at this⊢;exact this
 have hqP:q<P.length:=aj
 have hl:P.take (q+1)++x::(P.drop (q+1)++rest)=P.take q++P[q]::x::(P.drop (q+1)++rest):=by
  rw[ayN hqP,ay3];rfl
 have hlen:(P.take q).length=q:=by rw[azS];omega
 have hsw:=swp (P.take q) (P.drop (q+1)++rest) x P[q];rw[hlen]at hsw;have MB:P.take q++x::(P.drop q++rest)=P.take q++x::P[q]::(P.drop (q+1)++rest):=by rw[ay5 hqP];rfl
 rw[<-MB]at hsw;rw[<-hl]at hsw
 have e1:(P.take (q+1)++x::(P.drop (q+1)++rest))[q+1]?=aa x:=by
  rw[hl,aze aj,hlen];simp[show q+1- q=1 by omega]
 have e0:(P.take (q+1)++x::(P.drop (q+1)++rest))[q]?=aa P[q]:=by
  rw[hl,aze aj,hlen];simp
 have hfq:=λh2=>Ba (q+1) NZ hjc h2;generalize hL:P.take (q+1)++x::(P.drop (q+1)++rest)=L at*
 have i1:cb 1 (iL L) (iI ((q:Int)+1))=aa (iI x):=NL e1;have i0:=NL e0;have B_:q+1<L.length:=(ayH.1 e1).1;have s1:zi 1 (iL L) (iI ((q:Int)+1)) (iI P[q])=aa (iL (L.set (q+1) P[q])):=aiV P[q] B_;have Ko:q<(L.set (q+1) P[q]).length:=by rw[List.length_set];omega
 have s2:=aiV x Ko;have i2:=NL (l:=L.set (q+1) P[q]) (i:=q) (x:=(L.set (q+1) P[q])[q]) (ayG Ko);rw[hsw]at s2;have awt:=(awp x P[q]).Ke (EZ rfl);have hws:azc.wrap (q:Int)=q:=eN aj aj;simp[SE.den,ao,cellsOf,hws,i1,i0];refine⟨_,awt,?_⟩;by_cases ak:x<P[q]
 .simp[ak,s1,s2,i2,cellsOf];refine .mk q rfl ⟨by omega,λc hc=>?_⟩ aj;rw[ay5 hqP]at hc;rcases ayW.1 hc with rfl|hc
  .omega
  .exact hjc c hc
 .simp[ak,kI];refine hfq λc hc=>?_;obtain⟨m,hm,rfl⟩:=aAv.1 hc;rw[azS]at hm;rw[List.getElem_take];by_cases hmq:m=q
  .subst hmq;omega
  .have:=aAd.1 hs m q aj hqP aj;omega
def aoq(l:List Int)(mc:l≠[])(hl:l.length<=800)(hk:∀L:List Int,L.Perm l->L.Pairwise (·<=·)->k3 [iL L]):
 (abl 7).sat ayF CC Q [k0,k1,k2,k3] [x0,x1,x2,x3,x4,x5,x6,x7,x8,iL l,dY]:=by
 unfold abl;refine iv (λ(a:Nat×List Int)=>[iI a.1,iL (a.2++l.drop a.1)]) (λa=>a.1<=l.length/\a.2.Perm (l.take a.1)/\a.2.Pairwise (·<=·)) (λa=>l.length- a.1) (1,l.take 1) ?_ ?_ λa ha=>?_
 .simp only[azW];simp[SE.den]
 .cases l with
  |nil=>exact absurd rfl mc
  |cons h t=>simp
 obtain⟨i,P⟩:=a;obtain⟨h1,h2,h3⟩:=ha;simp only at h1 h2 h3;have hPl:P.length=i:=by rw[h2.length_eq,azS];omega
 by_cases ak:i<l.length
 .have hd:=ay5 ak
  have hw:=aop (Q:=Q) (k0:=k0) (k1:=k1) (k2:=k2) (k3:=k3) (k4:=GN (λ(a:Nat×List Int)=>[iI a.1,iL (a.2++l.drop a.1)]) (λa=>a.1<=l.length/\a.2.Perm (l.take a.1)/\a.2.Pairwise (·<=·)) (λa=>l.length- a.1) (i,P))
   (x0:=x0) (x1:=x1) (x2:=x2) (x3:=x3) (x4:=x4) (x5:=x5) (x6:=x6) (x7:=x7) (x8:=x8) (x9:=iL l) (dY:=dY) i aj P (l.drop (i+1)) l[i] hPl h3 λP' p1 p2=>
   .mk (i+1,P') rfl ⟨by simp;omega,by
    simp only;rw[ayN ak];exact p1.trans ((List.perm_append_singleton _ _).symm.trans (h2.append_right _)),p2⟩ (by simp;omega)
  rw[<-hd]at hw;simp[SE.den,ak];exact hw
 .have zT:i=l.length:=aj;rw[zT,aBc]at h2;have:=hk P h2 h3;simp[SE.den,zT];exact this
def aor(l:List Int)(mc:l≠[])(hl:l.length<=12)(hk:∀L:List Int,L.Perm l->L.Pairwise (·<=·)->k0 [iL L]):
 (S0 7).sat ayF CC Q [k0] [x0,x1,x2,x3,x4,x5,x6,iL l]:=by
 unfold S0;refine aB l.length (λi (q:List Int)=>[iI i,iL q]) (λi q=>q=l.take i) [] ?_ aw λi q hi hI=>?_
 .simp[SE.den]
 by_cases ak:i<l.length
 .have hw:=aH ak aj;have hc:=wS (a:=q) (v:=l[i]) (by rw[hI,azS];omega);simp[SE.den,ak,hw,kS ak,cellsOf,hc];exact .mk _ rfl aj (by rw[ayN ak,hI])
 .rw[ayV aj]at hI;subst hI;obtain⟨m,hm⟩:=aws q.length hl;have hcv:=awr (n:=q.length) aj;simp[SE.den,hcv,ao];right;refine⟨by omega,_,hm,?_⟩;simp;unfold aiP;refine aB 1 (λ_ (_:Unit)=>[]) (λ_ _=>True) () rfl trivial λ_ _ _ _=>?_;have hwl:azc.wrap (q.length:Int)=q.length:=eN aj aj;simp[SE.den,hwl,show(q.length:Int)<=12 by omega];unfold aiO;refine lB (λvs=>∃L:List Int,vs=[iL L]/\L.Perm q/\L.Pairwise (·<=·)) ?_ λvs eB=>?_
  .exact aoq q mc aj λL h1 h2=>⟨L,rfl,h1,h2⟩
  .obtain⟨L,rfl,h1,h2⟩:=eB;refine⟨rfl,?_⟩;simp[SE.den];exact hk L h1 h2
end
def abu(n:Nat):(jQ n).Pairwise (·<=·):=by
 unfold jQ;refine aBV _ (λa b cG=>?_) (List.pairwise_lt_range (n:=n));exact Int.ofNat_le.2 (aD9 cG)
def abv{n:Nat}{h:Int}(h0:0<=h/\h<n):(h::parts n h).Perm (jQ n):=by
 rw[List.perm_ext_iff_of_nodup (azP.2 ⟨λhm=>(sx.1 hm).2 rfl,qD n h⟩) (DC n)];intro a;rw[ayW,sx,qC];constructor
 .rintro(rfl|h)
  .exact h0
  .exact h.1
 .intro ha;by_cases e:a=h
  .exact .inl e
  .exact .inr ⟨ha,e⟩
theorem Wu:∀(a b:List Int),a.Nodup->(∀v∈a,v∈b)->b.length=a.length->b.Perm a
 |[],b,_,_,hl=>by rw[azb hl]
 |x::a,b,hn,hs,hl=>by
  obtain⟨b1,b2,rfl⟩:=List.append_of_mem (hs x aw);have oW:=azP.1 hn
  have ih:=Wu a (b1++b2) oW.2 (λu hu=>by
   have:=hs u (azg _ hu);rw[ayS,ayW]at this;rw[ayS];rcases this with h|rfl|h
   .exact .inl h
   .exact absurd hu oW.1
   .exact .inr h) (by simp at hl⊢;omega)
  exact aDo.trans (ih.cons x)
def aky{n:Nat}{h:Int}{order L:List Int}(h0:0<=h/\h<n)(hp:L.Perm (h::order))(hs:L.Pairwise (·<=·)):L=jQ n↔rB n h order=ab:=by
 have hpp:=abv h0;have hlen:=hpp.length_eq;rw[azh,pj]at hlen;unfold rB;rw[ayI,decide_eq_true_eq,decide_eq_true_eq];constructor
 .rintro rfl;have h1:=hp.length_eq;rw[pj,azh]at h1;refine⟨by omega,λv hv=>?_⟩;obtain⟨Rh,hv2⟩:=sx.1 hv;have:=hp.mem_iff.1 (qC.2 Rh);rcases ayW.1 this with e|e
  .exact absurd e hv2
  .exact e
 .rintro⟨h1,h2⟩;have:=Wu (parts n h) order (qD n h) h2 h1.symm;exact aEp (λa b _ _ h1 h2=>by omega) hs (abu n) (hp.trans ((this.cons h).trans hpp))
end
def Wv:aq:=
 (fX (Ak 4) 12 (nc 11) 3 mX 12 3 14 (.bind (.mq 4 (.get 28 cT (m4 14 14 14) (F3 bj (eI fg (v8 7))))) (jI 4 48 13 4 (wA 15 15 15 15) (v7 2 12 16))) (jI 5 64 7 5 (FQ 8 0 8 1 (gR (.var 13) rh sM)) (jo 6 14)))
def Ww:aq:=
 (fX (Ak 5) 6 pS 2 fJ 6 2 8 (qH 49 (As oN 8 0 (gE 8)) (eZ 9 (qH 50 (As oN 8 0 (gE 8)) (eZ 10 (qH 51 (As oN 8 0 (gE 8)) (iU mX 11 Wv)))))) (jG 52 (iC (gR eo cA eU)) (uz iW 38 iW 0 (JL (gR (v8 5) oL bj) 6) (Bv (gR eo cA eU) bj))))
def Wx:aq:=
 (fX Am 4 nB 6 bJ 4 6 6 (qZ 11 oN cA (wy 6 6 6 6 6 4 6 5) (.aC (.mq 4 (H9 7 0)) (uz (rj 7) 38 (rj 7) 0 (Bv (gR (v8 5) oL bj) (rj 7)) (mV 28 cT (m4 6 6 6) (tW (wB 7) (ux 7) (eI (CO 7 2) (CO 7 3))) (F4 8))))) (nY 0 Ww))
def agO:aq:=
 (yI (sQ 31 (gQ bR bR (JL (gR (v8 5) oL bj) 2) (sQ 47 (sO (kA 48 oN bJ (C3 cA eU nB Wx)))))))
def asV:aI ayF (kC [⟨0,15,15,[(0,(56,0))],[(4,3),(4,0),(2,0)],[],[]⟩,⟨0,15,19,[(0,(84,0))],[(7,3),(7,0),(6,2),(5,2)],[],[]⟩,⟨0,15,7,[(0,(32,0))],[(3,0)],[],[]⟩]) 400 af 15=agO:=by kernel_rfl
def aen:aq:=
 (fX (Ak 6) 3 nB 3 bJ 3 3 5 (qZ 114 oN bR (m4 5 5 5) (Lw 6 6 (jI 6 96 4 6 (wy 6 6 6 6 6 4 6 5) (oJ 3 7)))) F2)
def agP:aq:=
 (yI (sQ 113 (eZ 1 (sQ 87 (iU bJ 2 aen)))))
def asW:aI ayF (kC [⟨0,47,4,[(0,(4,0)),(0,(12,0))],[(1,3),(1,0)],[],[]⟩]) 400 af 47=agP:=by kernel_rfl
def Wy:aq:=
 (FR (tW bj lq (mG 4 0 4 1 (Gf 4))) 3 5 (JK 4) (qH 115 (tW oN (uQ eo fi yx ej (Ly 4 4 4 5)) (uO 5)) (.aC (.mq 2 (H9 10 0)) (Bt (rj 10) (Uq 10 2) (jG 116 (gR eg (eI (wB 10) (ux 10)) (rj 10)) (yF mX mX (.aC (.len (ux 10)) (jI 3 48 6 3 (gR (wB 10) (.len (ux 10)) (rj 10)) (zG 1 5 (wv pP eo 8 9)))) (zG 1 5 (wv eg eo 8 9)))) (zG 1 5 (wv eg eo 8 9))))) (oJ 2 6))
def aeo:aq:=
 (qX J5 2 gV 6 bR 2 (lS 6 4 (JK 4) Wy) (.ret lq))
def agQ:aq:=
 (rp 2 (.aC gV aeo))
def asX:aI ayF (kC [⟨0,48,3,[(0,(5,0)),(0,(14,0))],[(1,3),(1,1),(1,0)],[],[]⟩,⟨0,48,6,[(0,(5,0)),(0,(21,0))],[(1,3),(1,1),(1,0),(2,3),(2,1),(2,0)],[],[]⟩]) 400 af 48=agQ:=by kernel_rfl
def Wz:aq:=
 (qX Am 8 (jm 7) 4 (gE 7) 8 (lV 4 10 .neq 10 0 1 (gQ (ui 8) (ui 8) gF (pL Gb sL (fI 101 5 3 5 4 5 5 5 6 5 7 5 8 (iE mX mX sL)))) (.aC (.mq 0 (.get 3 ej (gE 10) .an)) (yv 3 ej (gE 10) (CQ 11 (gQ (ui 8) (ui 8) gF (pL Gb sL (fI 101 5 3 5 4 5 5 5 6 5 7 5 8 (iE uo uo sL)))) (mV 3 ej (gE 10) .an (jo 8 12)))))) gF)
def aep:aq:=
 (fX iY 4 oM 9 cA 4 9 5 (.test Gb (pL Gb sL (fI 101 5 3 5 4 5 5 5 6 5 7 5 8 (iE c_ c_ sL))) (nA (Bu 5 6) (Bu 5 6) 0 (pL Gb sL (fI 101 5 3 5 4 5 5 5 6 5 7 5 8 (iE c_ c_ sL))) (fI 33 5 3 5 4 5 5 5 6 5 7 5 8 (eZ 6 (wb ir .neq ir 1 (pL Gb sL (fI 101 5 3 5 4 5 5 5 6 5 7 5 8 (iE gk gk sL))) (o7 2 c_ bj (lS 2 7 (jm 7) Wz))))))) bC)
def aos:aq:=
 (rp 2 (sO (qZ 117 oN bR bJ (iU cA 3 aep))))
def asY:aI ayF (kC [⟨3,49021028008,2,[(3,(8,0))],[(3,0)],[],[]⟩,⟨0,49,2,[(0,(14,0))],[],[],[]⟩]) 400 af 49=aos:=by kernel_rfl
def aeq:aq:=
 (qX iY 4 oM 9 cA 4 (gQ (rW 9 5) Gb sL (fI 101 5 3 5 4 5 5 5 6 5 7 5 8 (gQ c_ c_ (.nt (mU .lss 4 0) (.nr oM) F2) sL))) (.nr oM))
def aot:aq:=
 (rp 2 (sO (qZ 117 oN bR bJ (iU cA 3 aeq))))
def asZ:aI ayF (kC [⟨1,50015,2,[(1,(8,0))],[],[],[]⟩]) 400 af 50=aot:=by kernel_rfl
def Y0:aq:=
 (fX (Ak 9) 4 oM 3 cA 4 3 6 (lX 6 dp (nz 6) 6 7 (rX 9 144 cT (tI 9 (ahO 6 6 6 7 0 (afj 7 1 7 2 7 3 7 4 (iC (rV 7 5))))) (F4 8))) JQ)
def abw:aq:=
 (rp 2 (sO (qZ 51 oN bR bJ (iU cA 3 Y0))))
def aou:aI ayF (kC [⟨0,117,3,[(0,(7,0)),(0,(15,0))],[(1,3),(1,0)],[],[]⟩]) 400 af 117=abw:=by kernel_rfl
def WA:aq:=
 (OZ (gR (yr ir) oI (nz 5)) (ui 7) (eH qY (vZ 3 7 qY) (nX 2 c_ 7 (pQ 2 10 9 (nz 10) bR (mT (jm 10) 3 (jm 10) bJ (M0 lq eo (lT (vZ 3 7 qY) (jI 3 24 8 3 (gR lq eo (vZ 3 7 qY)) (OY 1 .sub 3 7 1 (FT 11 9))))) (OY 1 .sub 3 7 1 (FT 8 9))) (OY 1 .sub 3 7 1 (FT 8 9))))) (oJ 3 8))
def aer:aq:=
 (fX J5 3 eU 6 dp 3 6 5 (fI 33 5 0 5 1 5 2 5 3 5 4 5 5 (iU c_ 6 (.aC (yr ir) WA))) F2)
def aov:aq:=
 (rp 2 (eH bJ eU aer))
def as0:aI ayF (kC [⟨2,51806000,1,[(2,(10,0))],[(6,0),(3,0)],[],[]⟩,⟨2,51806000,5,[(2,(6,0))],[(6,0),(7,0),(3,0)],[],[]⟩]) 400 af 51=aov:=by kernel_rfl
def Y1:aq:=
 (FR iY 3 5 (.len eS) (.aC (.idx 3 eS cT) (jG 174 (eI (gR (.lk 3 eS cT 0) (.lk 3 eS cT 1) (.lk 3 eS cT 2)) (gR (wB 4) (ux 4) (CO 4 2))) (.nt c_ (gQ J3 J3 (jI 3 48 2 3 (gR (wB 4) (ux 4) (CO 4 2)) (CS 7)) J4) (oO 5)))) (jI 3 48 2 3 (gR (wB 4) (ux 4) (CO 4 2)) (CS 6)))
def Y2:aq:=
 (fX J5 1 eU 6 dp 1 6 3 (fI 171 3 0 3 1 3 2 3 3 3 4 3 5 (Bt (.mq 3 (H9 4 0)) (rj 4) (.aC (.len eS) Y1) J4)) yu)
def abx:aq:=
 (lS 2 0 eU Y2)
def aow:aI ayF (kC [⟨0,113,3,[(0,(3,0)),(0,(11,0))],[(1,3),(1,0)],[],[]⟩,⟨2,113025008,2,[(2,(8,0))],[],[],[]⟩]) 400 af 113=abx:=by kernel_rfl
def PX:aq:=
 (qX (As bj 4 0 yp) 8 CV 4 mZ 8 (lV 4 11 .neq 11 0 1 q7 (wk 3 wj fz (.k .i64 0) (yv 3 wj fz (CQ 13 q7 (mV 3 wj fz fi (rq 8 9 14)))))) q7)
def PY:aq:=
 (qX (As bj 4 0 yp) 10 CV 4 mZ 10 (lV 4 13 .neq 13 0 1 q7 (wk 3 pP (gE 13) (.k .i64 0) (yv 3 pP (gE 13) (CQ 15 q7 (mV 3 pP (gE 13) wj (rq 10 11 16)))))) q7)
def PZ:aq:=
 (fX CU 9 lY 4 (gE 3) 9 4 11 (wk 3 fi fz (.k .i64 0) (yv 3 fi fz (CQ 13 (.nt (Lx .neq 3 12 ej) q7 (CQ 13 (lT ej (tG 1 8 10 (C4 1 9) (v7 2 9 14))) (v7 2 9 10))) (CQ 13 (lT ej (tG 1 8 10 (C4 1 9) (v7 2 9 14))) (v7 2 9 10))))) (Bv (tW Ga lY SD) fF))
def P0:aq:=
 (qX Am 7 CV 4 mZ 7 (lV 4 9 .neq 9 0 1 q7 (wk 3 fi Gj (.k .i64 0) (yv 3 fi Gj (CQ 11 q7 (mV 3 fi Gj eo (jo 7 12)))))) (eH lY lY PZ))
def P1:aq:=
 (qX Am 5 lY 4 (gE 3) 5 (lV 4 7 .neq 7 0 1 (.aC CV PX) (wk 3 eg (gE 7) (.k .i64 0) (yv 3 eg (gE 7) (.test ej (.aC CV PY) (mV 3 eg (gE 7) cT (oJ 5 10)))))) (.aC CV P0))
def aby:aq:=
 (jL 6 (fI 33 0 0 0 1 0 2 0 3 0 4 0 5 (eZ 1 (wb gV .neq gV 2 q7 (fI 212 0 0 0 1 0 2 0 3 0 4 0 5 (.nt bJ q7 (qI 3 .gtr 3 3 0 q7 (lX 2 bR bj 2 3 (o7 2 bR jn (Bw (rW 2 4) .neq 9 Ga wo q7 (.aC lY (iu CV .neq lY CV q7 (.aC lY P1)))))))))))))
def aox:aI ayF (kC [⟨0,171,13,[(0,(79,0))],[(9,0),(8,2)],[],[]⟩,⟨1,171061,3,[(1,(13,0))],[(7,0),(8,0)],[(0,55),(0,53),(0,56),(0,7),(1,2)],[]⟩,⟨1,171056,3,[(1,(13,0))],[(5,0)],[(1,2)],[]⟩]) 400 af 171=aby:=by kernel_rfl
def aes:aq:=
 (jL 3 (pQ 3 1 9 fJ yy (tH 3 dp uw (qH 93 (Ly 0 2 1 2) (sO (ud bJ))) M8) M8))
def akz:aI ayF (kC []) 400 ab 174=aes:=by kernel_rfl
def Y3:aq:=
 (wx iY 5 J2 yx 5 6 (kA 95 bJ c_ (gQ gk gk (gQ J3 J3 gF jK) (oO 5))) gF)
def Y4:aq:=
 (qX iY 3 cE 3 bp 3 (pQ 3 4 9 wo bR (.aC J2 Y3) jK) bC)
def aiW:aq:=
 (sJ (eH bJ cE Y4))
def aoy:aI ayF (kC [⟨2,215026008,2,[(2,(8,0))],[],[],[]⟩,⟨0,215,2,[(0,(12,0))],[],[],[]⟩]) 400 af 215=aiW:=by kernel_rfl
def aet:aq:=
 (rp 7 (eH bJ cA (qZ 160 (wh 0 0 0 0 (mG 0 4 0 5 q8)) bJ cA (iU da 4 (.aC (F1 .mul (.i 10) uu) (lX 2 q8 cA 2 5 (qH 215 (As bR 5 0 da) (.nt c_ (kA 216 (wh 0 0 0 0 (mG 0 4 0 5 q8)) cA (.nt gk (we 101) (we 100))) (kA 216 (wh 0 0 0 0 (mG 0 4 0 5 q8)) cA (.nt gk (.aC (sH .add (F1 .mul (.i 10) uu) 1) (ud (sH .add (F1 .mul (.i 10) uu) 1))) (ud (F1 .mul (.i 10) uu))))))))))))
def akA:aI ayF (kC []) 400 ab 175=aet:=by kernel_rfl
def aiX:aq:=
 (rp 7 (nY 1 (Gi .geq bR eU)))
def aoz:aI ayF (kC []) 400 af 216=aiX:=by kernel_rfl
def Mc:aq:=
 (wx iY 13 (nc 12) uo 13 14 (wk 3 cT (jT 14) fg (pL F_ (rq 8 9 10) (uP 2 13))) (.aC (.idx 1 ej fi) (.bind (.zD 1 ej fi fF) (lT fi (tG 1 8 10 (C4 1 8) (rq 8 14 15))))))
def Md:aq:=
 (wx (q0 5) 15 (nc 14) (jT 14) 15 17 (mV 3 (.var 16) (jT 17) fF (v7 2 15 18)) (yq 4 (tW (.var 16) ej (uO 11))))
def Me:aq:=
 (fX (D0 bj eg 1) 8 l5 3 mY 8 3 11 (gQ (.idx 1 ej fi) (.lk 1 ej fi 0) (fy 230 (m4 11 11 11) (iU uo 12 Mc)) (rq 8 9 10)) (tG 1 24 7 (.tr 1 SD) (Bt gV (Lx .eql 3 4 gV) (.ret (.var 11)) (nX 1 bR 4 (yF uo uo (yq 4 (tW cT ej (uO 11))) (wz nB uo nB (yq 4 (tW cT ej (uO 11))) (lX 2 bJ uo 2 13 (CL 164 13 13 (iU (jT 14) 14 Md)))))))))
def Mf:aq:=
 (.loop (tW bj yp (eI lq F0)) (nY 3 Me))
def aeu:aq:=
 (rp 6 (fI 33 0 0 0 1 0 2 0 3 0 4 0 5 (eH bJ l5 (.bind (.dec 10 l5 fg) (C3 gV (sH .add gV 1) (.dec 7 (sH .add gV 1) fF) Mf)))))
def akB:aI ayF (kC [⟨0,161,6,[(0,(9,0))],[(2,3),(2,0),(1,0),(3,0)],[(0,23)],[]⟩,⟨0,161,8,[(0,(10,0)),(0,(29,0))],[(4,0),(2,3),(2,0)],[],[]⟩,⟨1,161043,2,[(1,(10,0))],[],[(0,36)],[]⟩,⟨1,161068,2,[(1,(22,0))],[(1,0)],[],[]⟩]) 400 ab 161=aeu:=by kernel_rfl
section
section
variable{Q:IV->Prop}{k0 k1:List IV->Prop}{x0 x1 x2 x3 x4 x5 x6 x7 x8 x9 dY fO lH jv:IV}
def aoA(i:Nat)(hi:i<1000)(ks vs:List Int)(eB:Sm vs)(pl:List Bool)(gd:i<pl.length)(now:List Int)(ayD:now.length<=1000)
 (hy:(∀v∈vs,v∈ks)->k1 [iI (i+1:Nat),DF (pl.set i ab),iL (now++[(i:Int)])])
 (hn:(¬∀v∈vs,v∈ks)->k1 [iI (i+1:Nat),DF pl,iL now]):
 Mc.sat ayF CC Q [k0,k1] [x0,x1,x2,x3,x4,rC ks,x6,x7,iI i,DF pl,iL now,fO,iL vs]:=by
 have kI:=aH hi aj;unfold Mc;refine aB vs.length (λj (_:Unit)=>[iI j]) (λj _=>∀v∈vs.take j,v∈ks) () ?_ aw λj _ hj hI=>?_
 .simp[SE.den]
 by_cases ak:j<vs.length
 .have hw:=aH ak eB;have pV:=Wr (ν:=[rC ks,iI vs[j]]) (m:=.var 0) (key:=.var 1) (ks:=ks) (k:=vs[j]) rfl rfl;simp[SE.den]at pV;simp only[iI]at pV;simp[SE.den,ak,hw,kI,kS ak,ao];rw[pV];refine⟨iB (decide (vs[j]∈ks)),rfl,?_⟩;by_cases z:vs[j]∈ks
  .simp[z];exact .mk () rfl aj (cy ak hI z)
  .simp[z];exact hn λh=>z (h _ (ayJ ak))
 .have bX:=dj ak hI;simp[SE.den,ak,kI,aL,cellsOf,wS (show now.length<=100000000 by omega),aol gd,asQ ab gd];exact hy bX
def aoB(k:Nat)(hk:k<1000)(ks vs:List Int)(eB:Sm vs)(hc:∀q,(∀v,v∈q↔v∈ks\/v∈vs)->k0 [iI (k+1:Nat),rC q,x9,fO]):
 Md.sat ayF CC Q [k0,k1] [x0,x1,x2,x3,iI k,rC ks,x6,x7,x8,x9,dY,fO,lH,jv,iL vs]:=by
 have IX:=aH hk aj;unfold Md;refine aB vs.length (λj (q:List Int)=>[iI j,rC q]) (λj q=>∀v,v∈q↔v∈ks\/v∈vs.take j) ks ?_ aw λj q hj hI=>?_
 .simp[SE.den]
 by_cases ak:j<vs.length
 .have hw:=aH ak eB;have iF:=Wq (ν:=[rC q,iI vs[j]]) (m:=.var 0) (key:=.var 1) (ks:=q) (k:=vs[j]) rfl rfl;simp[SE.den]at iF;simp only[iI]at iF;simp[SE.den,ak,hw,kS ak,ao];refine⟨_,iF,.mk _ rfl aj λv=>?_⟩;rw[vv,hI,ayN ak,ayS,ayU,or_assoc]
 .simp[SE.den,ak,IX];rw[ayV aj]at hI;exact hc q hI
def aoC(r:Rl)(h:oB r)(eO:rA r)(hf:mO r)(hs:List At)(V8:hs=r.ax++r.az)(done:List Int)(hd:done.length<=100)(k:Nat)(hk:k<=done.length)(ks:List Int)(dJ:∀v,v∈ks↔v∈varsOf (m5 hs (done.take k)))(out:List (List Int))(Ey:out.length<=1000)
 (as4:k=done.length->Q (dC (out++[mP (BR hs done k) r.aG 0])))
 (abz:k<done.length->∀q,(∀v,v∈q↔v∈varsOf (m5 hs (done.take (k+1))))->k0 [iI (k+1:Nat),rC q,DF (r.aG.map (wU hs done k)),dC (out++[mP (BR hs done k) r.aG 0])]):
 Me.sat ayF CC Q [k0] [cN r,iL done,dm hs,x3,iI k,rC ks,DF (r.aG.map (uZ hs done k)),dC out]:=by
 have hg6:=h.g;have IX:=aH (show k<1000 by omega) aj;have hgG:∀g∈r.aG,pd g/\∀t∈g.ts,WF t:=λg hg=>⟨eO.gs g (azw _ hg),(hf.gs g (azw _ hg)).2⟩;have hhA:∀a∈hs,qq a/\∀t∈a.ts,WF t:=λa ha=>⟨eO.hs a (V8▸ha),hf.hs a (V8▸ha)⟩;rw[cu];unfold Me;refine aB r.aG.length (λi (now:List Int)=>[iI i,DF (BS (wU hs done k) (uZ hs done k) r.aG i),iL now]) (λi now=>now++mP (BR hs done k) (r.aG.drop i) i=mP (BR hs done k) r.aG 0/\now.length<=i) [] ?_ aw λi now hi hI=>?_
 .simp[SE.den,BS]
 obtain⟨hI,Kn⟩:=hI;by_cases ak:i<r.aG.length
 .have hw:=aH ak aj;have gd:i<(BS (wU hs done k) (uZ hs done k) r.aG i).length:=by rw[YY];exact ak
  have cK:=aol gd;rw[aom ak]at cK;have D1:=akw (f:=wU hs done k) (g:=uZ hs done k) ak;have Ai:=agM (f:=wU hs done k) (g:=uZ hs done k) ak;obtain⟨hgn,hgw⟩:=hgG _ (ayJ ak);rw[akt ak]at hI;simp[SE.den,ak,hw,xX ak,ao,cK,cellsOf];cases hb:uZ hs done k r.aG[i]with
  |true=>
   have hr:=akv hb;right;rw[BR,hb,hr]at hI;simp[Mb]at hI;refine⟨by simp,.mk now ?_ aj ⟨hI,by omega⟩⟩;rw[Ai (by rw[hb,hr])];rfl
  |false=>
   left;have Hs:=c87 af r.aG[i] hgn (λt ht=>(hgw t ht).2);have Es:=(nK λt ht=>(hgw t ht).2:Vr (varsOf r.aG[i].ts)).len;have fm:=akx (g:=r.aG[i]) dJ;refine⟨by simp,_,Hs,?_⟩;simp;refine aoA i aj ks _ (by unfold Sm;omega) _ gd now aj (λhm=>?_) λhm=>?_
   .rw[aon hm]at fm;rw[BR,hb,fm]at hI;rw[fm]at D1;rw[D1];simp[Mb]at hI;exact .mk (now++[(i:Int)]) rfl aj ⟨by rw[<-hI];simp,by simp;omega⟩
   .rw[aoo hm]at fm;rw[BR,hb,fm]at hI;simp[Mb]at hI;refine .mk now ?_ aj ⟨hI,by omega⟩;rw[Ai (by rw[hb,fm])]
 .have oq:i=r.aG.length:=aj;rw[azf aj,mP,ay2]at hI
  have hpd:BS (wU hs done k) (uZ hs done k) r.aG i=r.aG.map (wU hs done k):=by
   unfold BS;rw[oq];simp
  rw[hpd];subst hI;have hc:=PT (a:=out) (v:=mP (BR hs done k) r.aG 0) aj;simp[SE.den,ak,hc,ao,cellsOf];by_cases qQ:k=done.length
  .left;exact⟨by omega,as4 qQ⟩
  right;have fp:k<done.length:=aj;have bL:=N1 (hs:=hs) fp;refine⟨by omega,?_⟩;simp[kS fp,cellsOf,IX,ao];by_cases z0:done[k]<0
  .left;refine⟨z0,abz fp ks λv=>?_⟩;rw[dJ,bL];have:kU hs done[k]=[]:=by unfold kU;rw[if_neg aj]
   rw[this,ay2]
  right;refine⟨by omega,?_⟩;by_cases z1:(hs.length:Int)<=done[k]
  .left;refine⟨z1,abz fp ks λv=>?_⟩;rw[dJ,bL]
   have:kU hs done[k]=[]:=by
    unfold kU;rw[if_pos aj,aCA aj]
   rw[this,ay2]
  right;refine⟨by omega,?_⟩;have x_:done[k]=((done[k].toNat:Nat):Int):=aj;have ek:done[k].toNat<hs.length:=aj;have hA:=pe ek;rw[<-x_]at hA;obtain⟨th,wM⟩:=hhA _ (ayJ ek);have KX:=c46 af hs[done[k].toNat] th (λt ht=>(wM t ht).2);have Es:=(nK λt ht=>(wM t ht).2:Vr (varsOf hs[done[k].toNat].ts)).len
  have Ux:kU hs done[k]=hs[done[k].toNat].ts:=by
   simp only[kU,if_pos (show 0<=done[k] by omega)];rw[ayG ek]
  simp[hA,ao];refine⟨_,KX,?_⟩;simp;refine aoB k aj ks _ (by unfold Sm;omega) λq hq=>abz fp q λv=>?_;rw[hq,dJ,bL,kE,kE,kE,Ux,I,ayS]
def aoD(r:Rl)(h:oB r)(eO:rA r)(hf:mO r)(hs:List At)(V8:hs=r.ax++r.az)(done:List Int)(hd:done.length<=100)(hQ:Q (dC (f_ hs r.aG done))):
 Mf.sat ayF CC Q [] [cN r,iL done,dm hs,DF (r.aG.map λ_=>af)]:=by
 unfold Mf;refine iv (λ(a:Nat×List Int)=>[iI a.1,rC a.2,DF (r.aG.map (uZ hs done a.1)),dC ((f_ hs r.aG done).take a.1)]) (λa=>a.1<=done.length/\∀v,v∈a.2↔v∈varsOf (m5 hs (done.take a.1))) (λa=>done.length- a.1) (0,[]) ?_ ⟨by omega,by simp[m5,kE,eT]⟩ λa ha=>?_
 .simp[SE.den,cu,ao,uZ]
 obtain⟨k,ks⟩:=a;obtain⟨th,wM⟩:=ha;simp only at th wM;have hl:k<(f_ hs r.aG done).length:=by rw[wT];omega
 have bL:=aej hl
 have ZP:(f_ hs r.aG done).take k++[mP (BR hs done k) r.aG 0]=(f_ hs r.aG done).take (k+1):=by
  rw[ayN hl,bL]
 have hw:=aoC (Q:=Q) (k0:=GN (λ(a:Nat×List Int)=>[iI a.1,rC a.2,DF (r.aG.map (uZ hs done a.1)),dC ((f_ hs r.aG done).take a.1)]) (λa=>a.1<=done.length/\∀v,v∈a.2↔v∈varsOf (m5 hs (done.take a.1))) (λa=>done.length- a.1) (k,ks))
  (x3:=DF (r.aG.map λ_=>af))
  r h eO hf hs V8 done hd k th ks wM ((f_ hs r.aG done).take k) (by simp[wT];omega) (λqQ=>by
    rw[ZP,ayV (by rw[wT];omega)];exact hQ) (λfp q hq=>.mk (k+1,q) (by
    rw[ZP];simp[uZ]) ⟨by simp;omega,hq⟩ (by simp;omega))
 rw[cu]at*
 simp[SE.den,ao];exact hw
end
def aoE(r:Rl)(h:oB r)(eO:rA r)(hf:mO r)(done:List Int)(hd:done.length<=100):CC 161 ab [cN r,iL done] (dC (f_ (r.ax++r.az) r.aG done)):=by
 refine CC.of akB kr kr (agK r done) (GU _) ?_;have Aa:=KV r (by have:=h.h;omega);have hw:=aoD (Q:=(·=dC (f_ (r.ax++r.az) r.aG done))) r h eO hf _ rfl done hd rfl
 have D8:kO 10 (iI r.aG.length) (iB af)=aa (DF (r.aG.map λ_=>af)):=by
  have h6:=h.g;have h7:(r.aG.length:Int)<=1000000:=aj;simp[kO,cellsOf,h7];exact(List.map_const' ..).symm
 have as5:kO 7 (iI (done.length+1)) (iB ab)=aa (iI (done.length+1)):=by
  simp[kO];omega
 have hwd:=aH (show done.length<1000 by omega) aj;rw[cu]at*
 generalize f_ (r.ax++r.az) r.aG done=P at*
 simp[aeu,SE.den,ao];refine⟨_,Aa,?_⟩;simp[D8,as5,hwd];exact hw
section
variable{Q:IV->Prop}{k0 k1 k2 k3 k4:List IV->Prop}{x0 x1 x2 x3 x4 x5 x6 x7 x8 x9 dY fO lH jv lG xq oC sj BL so:IV}
def aoF(x:Pn)(hx:RM x)(hQ:Q (iB ab)):
 (abm 7).sat ayF CC Q [k0,k1,k2] [x0,cB x,x2,x3,x4,x5,x6,x7,x8,x9,dY,fO,lH,jv,lG,xq,oC,sj,dC x.dW,so]:=by
 have hN:cB x=.agg [iI x.o.r,iI x.o.h,iB x.o.k,iL x.aS,dC x.dU,dC x.dW]:=rfl;have hs:=hx.t;have xo:=hx.ts;rw[hN];generalize x.dW=ts at*
 unfold abm;refine aB ts.length (λi (_:Unit)=>[iI i]) (λ_ _=>True) () ?_ trivial λi _ hi _=>?_
 .simp[SE.den]
 by_cases ak:i<ts.length
 .have hw:=aH ak hs;have Wj:=k93 ts[i] ts[i] (xo _ (ayJ ak));simp[SE.den,ak,hw,GX ak,ao,cellsOf]at Wj⊢;exact⟨_,Wj,by simpa[ao]using .mk () rfl aj trivial⟩
 .simp[SE.den,ak,ao];exact hQ
def aoG(x:Pn)(hx:RM x)(hQ:Q (iB ab)):
 (abn 7).sat ayF CC Q [k0,k1] [x0,cB x,x2,x3,x4,x5,x6,x7,x8,x9,dY,fO,lH,jv,lG,xq,oC,dC x.dU,dC x.dW]:=by
 have hN:cB x=.agg [iI x.o.r,iI x.o.h,iB x.o.k,iL x.aS,dC x.dU,dC x.dW]:=rfl;have hs:=hx.k;have dJ:=hx.ks;unfold abn;refine aB x.dU.length (λi (_:Unit)=>[iI i]) (λ_ _=>True) () ?_ trivial λi _ hi _=>?_
 .simp[SE.den]
 by_cases ak:i<x.dU.length
 .have hw:=aH ak hs;have Wj:=aoa x.dU[i] x.dU[i] (dJ _ (ayJ ak));rw[hN];simp[SE.den,ak,hw,GX ak,ao,cellsOf]at Wj⊢;exact⟨_,Wj,by simpa[ao]using .mk () rfl aj trivial⟩
 .have hw:=aoF (Q:=Q) (k0:=k0) (k1:=k1) (k2:=qp x.dU.length (λi (_:Unit)=>[iI i]) (λ_ _=>True) i) (x0:=x0) (x2:=x2) (x3:=x3) (x4:=x4) (x5:=x5) (x6:=x6) (x7:=x7) (x8:=x8) (x9:=x9) (dY:=dY) (fO:=fO) (lH:=lH) (jv:=jv) (lG:=lG) (xq:=xq) (oC:=oC) (sj:=dC x.dU) (so:=iI i) x hx hQ;rw[hN]at*
  simp[SE.den,ak,ao];exact hw
def aoH(x:Pn)(hx:RM x)(ho:x.aS.length<=50)(r:Rl)(h:oB r)(eO:rA r)(hf:mO r)(hv:pZ (r.ax++r.az).length x.aS)(Dm:x.dU=eQ (r.ax++r.az) [x.o.h] x.aS)(Y5:x.dW=f_ (r.ax++r.az) r.aG (x.o.h::x.aS))(hQ:Q (iB ab)):
 (abo 7 abp (.ok (.var 6))).sat ayF CC Q [k0] [x0,cB x,x2,x3,cN r,x5,dm (r.ax++r.az),x7,x8,x9,dY,fO,lH]:=by
 have hN:cB x=.agg [iI x.o.r,iI x.o.h,iB x.o.k,iL x.aS,dC x.dU,dC x.dW]:=rfl;have A8:=h.h;rw[<-ayP]at A8;have uV:=λdone (hd:done.length<=100) n a ha=>agL ab r (r.ax++r.az) A8 h.hs eO.hs hf.hs done hd n a ha;have zM:=aoE r h eO hf (x.o.h::x.aS) (by simp;omega);rw[<-Y5]at zM;have awu:=λ(k1:List IV->Prop) (jv lG xq oC:IV)=>aoG (Q:=Q) (k0:=k0) (k1:=k1) (x0:=x0) (x2:=x2) (x3:=x3) (x4:=cN r) (x5:=x5) (x6:=dm (r.ax++r.az)) (x7:=x7) (x8:=x8) (x9:=x9) (dY:=dY) (fO:=fO) (lH:=lH) (jv:=jv) (lG:=lG) (xq:=xq) (oC:=oC) x hx hQ;simp only[uY]at uV;rw[hN,cu]at*
 rw[Dm]at*
 clear Dm Y5;generalize hO:x.aS=order at*
 generalize hS:r.ax++r.az=hs at*
 unfold abo abp;refine aB order.length (λi (q:List (List Int))=>[iI i,iI x.o.r,iI x.o.h,iL (x.o.h::order.take i),dC q]) (λi q=>q++eQ hs (x.o.h::order.take i) (order.drop i)=eQ hs [x.o.h] order/\q.length<=i) [] ?_ aw λi q hi hI=>?_
 .simp[SE.den,ao,cellsOf]
 obtain⟨hI,hql⟩:=hI;by_cases ak:i<order.length
 .have pC:=aH ak aj;obtain⟨hv0,Rh⟩:=hv _ (ayJ ak);have x_:order[i]=((order[i].toNat:Nat):Int):=aj;have ek:order[i].toNat<hs.length:=aj;have yR:=uV (x.o.h::order.take i) (by simp;omega) order[i].toNat _ (ayG ek);rw[<-x_]at yR
  have th:kU hs order[i]=hs[order[i].toNat].ts:=by
   simp only[kU,if_pos hv0];rw[ayG ek]
  rw[ay5 ak,eQ,th]at hI;have bL:x.o.h::order.take (i+1)=(x.o.h::order.take i)++[order[i]]:=by rw[ayN ak];rfl
  have cU:=wS (a:=x.o.h::order.take i) (v:=order[i]) (by simp;omega);have qP:=PT (a:=q) (v:=qt hs (x.o.h::order.take i) hs[order[i].toNat].ts) aj;generalize hD:x.o.h::order.take i=D at*
  simp[SE.den,ak,pC,kS ak,ao];refine⟨_,yR,?_⟩;simp[ao,aL,cellsOf,cU,qP];refine .mk (q++[qt hs D hs[order[i].toNat].ts]) ?_ aj ⟨by rw[bL,<-hI];simp,by simp;omega⟩;rw[bL];rfl
 .rw[azf aj,eQ,ay2]at hI;subst hI;have:=awu (qp order.length (λi (q:List (List Int))=>[iI i,iI x.o.r,iI x.o.h,iL (x.o.h::order.take i),dC q]) (λi (q:List (List Int))=>q++eQ hs (x.o.h::order.take i) (order.drop i)=eQ hs [x.o.h] order/\q.length<=i) i) (iI i) (iI x.o.r) (iI x.o.h) (iL (x.o.h::order.take i));rw[ayV aj]at*
  simp[SE.den,ak,ao];exact⟨_,zM,by simpa[ao]using this⟩
def aoI(x:Pn)(hx:RM x)(ho:x.aS.length<=50)(r:Rl)(h:oB r)(eO:rA r)(hf:mO r)(n:Nat)(hn:(r.ax++r.az).length=n)(bf:pZ n x.aS)(Dm:x.dU=eQ (r.ax++r.az) [x.o.h] x.aS)(Y5:x.dW=f_ (r.ax++r.az) r.aG (x.o.h::x.aS))(hQ:Q (iB ab)):
 (S1 7 abp (.ok (.var 6))).sat ayF CC Q [] [x0,cB x,x2,x3,cN r,x5,dm (r.ax++r.az),x7,iL (jQ n)]:=by
 have hN:cB x=.agg [iI x.o.r,iI x.o.h,iB x.o.k,iL x.aS,dC x.dU,dC x.dW]:=rfl;have Kv:=h.h;rw[<-ayP,hn]at Kv;have hL:=pj n;have hrg:=ad8 n;unfold S1;refine aB n (λi (_:Unit)=>[iI i,iI n,iI n,iL (jQ n)]) (λ_ _=>True) () ?_ trivial λi _ hi _=>?_
 .simp[SE.den,hL]
 by_cases ak:i<n
 .have hw:=aH ak aj;have ek:i<(jQ n).length:=aj;have s8:=hrg i ek;rw[hN];simp[SE.den,ak,hw,kS ek,cellsOf,s8];exact .mk () rfl aj trivial
 .have:=aoH (Q:=Q) (k0:=qp n (λi (_:Unit)=>[iI i,iI n,iI n,iL (jQ n)]) (λ_ _=>True) i) (x0:=x0) (x2:=x2) (x3:=x3) (x5:=x5) (x7:=x7) (x8:=iL (jQ n)) (x9:=iI i) (dY:=iI n) (fO:=iI n) (lH:=iL (jQ n)) x hx ho r h eO hf (hn▸bf) Dm Y5 hQ;rw[hN]at*
  simp[SE.den,ak,ao,aL,cellsOf];exact this
end
def k32(p:Pg)(hp:m_ p)(hf:∀r∈p.aQ,mO r)(x:Pn)(hx:RM x)(h6:x.aS.length<=6){i m:Nat}{r:Rl}(h:Ef p x.o i m r)(hpb:rB (r.ax++r.az).length m x.aS=ab)(Ho:x=pn r x.o x.aS):CC 32 af [bg p,cB x] (iB ab):=by
 refine CC.cZ awj kr (λ_=>kr) (aku p x) (by rfl) ?_;have Hs:=k87 p hp;have Ey:=pW p.aQ hp.rs;have h86:=k86 (occs p.aQ) x.o (by have:=hp.r;omega);have hN:cB x=.agg [iI x.o.r,iI x.o.h,iB x.o.k,iL x.aS,dC x.dU,dC x.dW]:=rfl;have hP:bg p=.agg [gj p.bM,mN p.aQ]:=rfl;have hO:kg x.o=.agg [iI x.o.r,iI x.o.h,iB x.o.k]:=rfl;have s8:=h.ru;obtain⟨hi,s8⟩:=ayH.1 s8;have dR:r∈p.aQ:=s8▸ayJ hi;have tn:=hp.rs r dR;have hR:=xY hi;rw[s8]at hR;rw[decide_eq_true (sw.2 ⟨i,m,r,h⟩),hO]at h86;have Aa:=KV r (by have:=tn.h;omega);have je:=E5 (a:=[x.o.h]) (b:=x.aS) (by simp;omega);have EE:cb 6 (mN p.aQ) (iI x.o.r)=aa (.agg [iS r.name,dm r.ax,dm r.az,gO r.aG,gO r.bn,iI r.vars]):=by rw[h.or];exact hR
 have Dh:=h.or
 have awv:PU.sat ayF CC (xV (·=ab)) [] [bg p,cB x,ju (occs p.aQ),iB ab,cN r,cN r,dm (r.ax++r.az),iL (x.o.h::x.aS)]:=by
  unfold PU;refine lB (λvs=>∃L:List Int,vs=[iL L]/\L.Perm (x.o.h::x.aS)/\L.Pairwise (·<=·)) ?_ λvs eB=>?_
  .have:=aor (Q:=xV (·=ab)) (k0:=Iw λvs=>∃L:List Int,vs=[iL L]/\L.Perm (x.o.h::x.aS)/\L.Pairwise (·<=·)) (x0:=bg p) (x1:=cB x) (x2:=ju (occs p.aQ)) (x3:=iB ab) (x4:=cN r) (x5:=cN r) (x6:=dm (r.ax++r.az)) (x.o.h::x.aS) aw (by simp;omega) λL h1 h2=>⟨L,rfl,h1,h2⟩;generalize occs p.aQ=l at*
   simp[SE.den]at this⊢;exact this
  .obtain⟨L,rfl,h1,h2⟩:=eB;refine⟨rfl,?_⟩;obtain rfl:=(aky (n:=(r.ax++r.az).length) (L:=L) (by have:=h.lt;omega) (h.oh▸h1) h2).2 hpb;have Dm:x.dU=eQ (r.ax++r.az) [x.o.h] x.aS:=by rw[Ho];rfl
   have Y5:x.dW=f_ (r.ax++r.az) r.aG (x.o.h::x.aS):=by rw[Ho];rfl
   have:=aoI (Q:=xV (·=ab)) (x0:=bg p) (x2:=ju (occs p.aQ)) (x3:=iB ab) (x5:=cN r) (x7:=iL (x.o.h::x.aS)) x hx aj r tn (hp.rn r dR) (hf r dR) _ rfl (Kf hpb).1 Dm Y5 aw;have e:=pj (r.ax++r.az).length;generalize occs p.aQ=l at*
   generalize r.ax++r.az=hs at*
   simp[SE.den,ao,e];exact this
 rw[cu]at*
 rw[hN,hP]at*
 generalize occs p.aQ=l at*
 generalize r.ax++r.az=hs at*
 simp[aof,SE.den,ao];refine⟨_,Hs,?_⟩;simp;refine⟨_,h86,?_⟩;have z1:¬(x.o.r<0):=aj;have z2:¬((p.aQ.length:Int)<=x.o.r):=aj;simp[z1,z2,EE,ao];refine⟨by omega,by omega,_,Aa,?_⟩;simp[aL,cellsOf];exact⟨_,je,awv⟩
end
structure In where
 op:Int
 a:Int
 b:Int
 g:Gl
 ts:List Tm
def dZ:Gl:=⟨0,[],[]⟩
def dE(i:In):IV:=.agg [iI i.op,iI i.a,iI i.b,iI i.g.op,iS i.g.s,iT i.g.ts,iT i.ts]
abbrev cn(l:List In):IV:=.tree 7 (l.map dE)
def RY(i:In):Pure (dE i):=.agg _ aw
@[simp] theorem aww(l:List In):Pure (cn l):=jD 7 dE (λa=>⟨_,rfl,by simp⟩) l
def akC(x:In):∃cs,dE x=.agg cs/\cs.length=7/\cs.all ao=ab:=⟨_,rfl,rfl,rfl⟩
def as6{a b:List In}(h:a.length+b.length<=1000000):cX 7 96 (cn a) (cn b)=aa (cn (a++b)):=by
 have h2:=AB (s:=7) (enc:=dE) akC b;simp[cX,h2];omega
def nM{a:List In}{i:In}(h:a.length<=100000):cX 7 96 (cn a) (.tree 7 [.agg [iI i.op,iI i.a,iI i.b,iI i.g.op,iS i.g.s,iT i.g.ts,iT i.ts]])=aa (cn (a++[i])):=as6 (a:=a) (b:=[i]) (by simp;omega)
def dT(h:Int)(kn:List Int):List Tm->Nat->List In
 |[],_=>[]
 |t::ts,i=>(if(i:Int)∈kn then[]else[⟨1,h,i,dZ,[t]⟩])++dT h kn ts (i+1)
def aev{h:Int}{kn:List Int}{ts:List Tm}{i:Nat}(hi:i<ts.length):dT h kn (ts.drop i) i=(if(i:Int)∈kn then[]else[⟨1,h,i,dZ,[ts[i]]⟩])++dT h kn (ts.drop (i+1)) (i+1):=by
 rw[ay5 hi,dT]
theorem wW(h:Int)(kn:List Int):∀(ts:List Tm) (i:Nat),(dT h kn ts i).length<=ts.length
 |[],_=>by simp[dT]
 |t::ts,i=>by
  have:=wW h kn ts (i+1);rw[dT,ayP,azh];split<;>simp<;>omega
def dV(gs:List Gl)(l:List Int):List In:=l.map λv=>⟨2,0,0,(gs[v.toNat]?).getD dZ,[]⟩
def wX(n:Nat)(l:List Int):Prop:=∀v∈l,0<=v/\v<n
def abA{gs:List Gl}{l:List Int}{i:Nat}(h:i<l.length):dV gs (l.take (i+1))=dV gs (l.take i)++[⟨2,0,0,(gs[l[i].toNat]?).getD dZ,[]⟩]:=by
 unfold dV;rw[ayN h,azQ];rfl
section
def nN(hs:List At)(h:Int)(a:At)(e:Int):List In:=match hs[e.toNat]? with
 |some b=>if b.s=a.s/\b.ts.length=a.ts.length then[⟨4,h,e,dZ,[]⟩]else[]
 |none=>[]
def ik(hs:List At)(h:Int)(a:At)(es:List Int):List In:=es.flatMap (nN hs h a)
def abB(hs:List At)(h:Int)(a:At)(e:Int):(nN hs h a e).length<=1:=by
 unfold nN;split
 .split<;>simp
 .simp
theorem AE(hs:List At)(h:Int)(a:At):∀es:List Int,(ik hs h a es).length<=es.length
 |[]=>by simp[ik]
 |e::es=>by
  have h1:=AE hs h a es;have h2:=abB hs h a e;unfold ik at*
  rw[List.flatMap_cons,ayP,azh];omega
def Xn{hs:List At}{h:Int}{a:At}{es:List Int}{i:Nat}(hi:i<es.length):ik hs h a (es.take (i+1))=ik hs h a (es.take i)++nN hs h a es[i]:=by
 unfold ik;rw[ayN hi,aBR];simp
def sU(hs:List At)(gs:List Gl)(acc:List Ac)(x:Pn)(k:Nat)(n:Int)(a:At)(ps te:List Int):List In:=
 ⟨3,n,tM acc ⟨a.s,a.ts.length,ps⟩,dZ,oi a.ts ps⟩::(ik hs n a (x.o.h::x.aS.take k)++dT n ps a.ts 0++dV gs te)
structure Kg(p:Pg)(x:Pn)(k i n:Nat)(r:Rl)(a:At)(ps te:List Int):Prop where
 h:Part p x k i n r a ps
 t:x.dW[k+2]?=aa te
 pl:ps.length<=400
 tl:te.length<=1000
 tv:wX r.aG.length te
 ov:pZ (r.ax++r.az).length (x.o.h::x.aS)
 ol:x.aS.length<=50
section
variable{P:Program}{ν:List IV}
def agR(j:Nat):IV->Option IV
 |.agg cs=>(cs[j]?).bind wF
 |_=>ah
def agS(n:Nat):IV->Option IV
 |.agg cs=>if cs.length=n/\cs.all ao then aa (.agg cs)else ah
 |_=>ah
def acF(x:IV):IV->Option IV
 |.agg cs=>aa (.agg (x::cs))
 |_=>ah
def trF(q:Nat):IV->Option IV
 |.agg cs=>if 0<q/\cs.all (λe=>(cellsOf e).length==q)then aa (.tree q cs)else ah
 |_=>ah
def tpF:IV->Option IV
 |.agg cs=>aa (.aF cs)
 |_=>ah
def p5{j:Nat}{cs:List IV}:agR j (.agg cs)=(cs[j]?).bind wF:=by rw[agR]
def Mg{n:Nat}{cs:List IV}:agS n (.agg cs)=if cs.length=n/\cs.all ao then aa (.agg cs)else ah:=by rw[agS]
def Kh{x:IV}{cs:List IV}:acF x (.agg cs)=aa (.agg (x::cs)):=by rw[acF]
def P2{q:Nat}{cs:List IV}:trF q (.agg cs)=if 0<q/\cs.all (λe=>(cellsOf e).length==q)then aa (.tree q cs)else ah:=by rw[trF]
def akD{cs:List IV}:tpF (.agg cs)=aa (.aF cs):=by rw[tpF]
def fN{α β:Type}{a:α}{f:α->Option β}:(aa a).bind f=f a:=by rw[ayK]
def jx{x:Nat}:(SE.var x).den P ν=ν[x]? :=by rw[SE.den]
def G7{n:Int}:(SE.i n).den P ν=aa (iI n):=by rw[SE.den]
def agT{t:Bool}:(SE.b t).den P ν=aa (iB t):=by rw[SE.den]
def awx{l:List UInt8}:(SE.s l).den P ν=aa (iS l):=by rw[SE.den]
def rD{e:SE}:(SE.ok e).den P ν=(e.den P ν).bind wF:=by rw[SE.den]
def aew{n:Nat}{e:SE}:(SE.mq n e).den P ν=(e.den P ν).bind (agS n):=by rw[SE.den];rfl
def zq{e:SE}{j:Nat}:(SE.aP e j).den P ν=(e.den P ν).bind (agR j):=by rw[SE.den];rfl
def Ff{q:Nat}{e x:SE}:(SE.idx q e x).den P ν=(e.den P ν).bind λa1=>(x.den P ν).bind λb1=>cb q a1 b1:=by rw[SE.den]
def sy{e:SE}:(SE.len e).den P ν=(e.den P ν).bind H_:=by rw[SE.den]
def abC:SE.an.den P ν=aa (.agg []):=by rw[SE.den]
def as7{q:Nat}{r:SE}:(SE.tr q r).den P ν=(r.den P ν).bind (trF q):=by rw[SE.den];rfl
def abD{a r:SE}:(SE.ac a r).den P ν=(a.den P ν).bind λx=>(r.den P ν).bind (acF x):=by rw[SE.den];rfl
def as8{r:SE}:(SE.tp r).den P ν=(r.den P ν).bind tpF:=by rw[SE.den];rfl
def aoJ{q b:Nat}{e f:SE}:(SE.cat q b e f).den P ν=(e.den P ν).bind λa1=>(f.den P ν).bind λb1=>cX q b a1 b1:=by rw[SE.den]
def Fg{op:BinOp}{t:TypeId}{a b:SE}:(SE.bin op t a b).den P ν=(a.den P ν).bind λx1=>(b.den P ν).bind λy1=>dg P op t x1 y1:=by rw[SE.den]
def as9{op:UnOp}{a:SE}:(SE.un op a).den P ν=(a.den P ν).bind (SI P op):=by rw[SE.den]
def as_{e:SE}:(SE.rw e).den P ν=(e.den P ν).bind λz=>if aL z then aa z else ah:=by rw[SE.den]
def WB{q:Nat}{e lo hi:SE}:(SE.sub q e lo hi).den P ν=(e.den P ν).bind λa1=>(lo.den P ν).bind λb1=>(hi.den P ν).bind λc1=>nD q a1 b1 c1:=by rw[SE.den]
end
def jY:=azA @fN<|azA @jx<|azA @G7<|azA @agT<|azA @awx<|azA @rD<|azA @aew<|azA @zq<|azA @Ff<|azA @sy<|azA @as7<|azA @abD<|azA @abC<|azA @as8<|azA @p5<|azA @Mg<|azA @Kh<|azA @P2<|azA @akD<|azA @aoJ<|azA @Fg<|azA @as9<| @as_
end
def tF(n k:Nat):aq:=
 (.loop (.ac (.i 0) (.ac (.var n) .an))
 (.aC (.ok (.bin .lss 3 (.var (n+2)) (.len (.ok (.var (n+1))))))
 (.test (.ok (.bin .lss 3 (.var (n+2)) (.len (.ok (.var (n+1))))))
 (.bind (.idx 1 (.ok (.var (n+1))) (.var (n+2)))
 (.aC (.ok (.var (n+4)))
 (.bind (.idx 3 (.aP (.var 5) 3) (.ok (.var (n+4))))
 (.aC (.mq 3 (.var (n+5)))
 (.bind (.cat 7 96 (.var (n+3)) (.tr 7 (.ac (.ac (.i 2) (.ac (.i 0) (.ac (.i 0) (.ac (.aP (.var (n+5)) 0) (.ac (.aP (.var (n+5)) 1) (.ac (.aP (.var (n+5)) 2) (.ac (.tr 4 .an) .an))))))) .an)))
 (.aC (.ok (.bin .add 3 (.var (n+2)) (.i 1)))
 (.next (k+1) (.ac (.ok (.bin .add 3 (.var (n+2)) (.i 1))) (.ac (.var (n+6)) .an)))))))))
 (.next k (.ac (.var (n+3)) .an)))))
def mF(n k:Nat)(C A W H:SE):aq:=
 (.loop (.ac (.i 0) (.ac C .an))
 (.aC (.ok (.bin .lss 3 (.var n) (.len A)))
 (.test (.ok (.bin .lss 3 (.var n) (.len A)))
 (.bind (.idx 4 A (.var n))
 (.aC (.mq 4 (.var (n+2)))
 (.call 95 af (.ac W (.ac (.var n) .an))
 (.aC (.ok (.var (n+3)))
 (.aC (.ok (.un .not (.ok (.var (n+3)))))
 (.test (.ok (.un .not (.ok (.var (n+3)))))
 (.bind (.cat 7 96 (.var (n+1)) (.tr 7 (.ac (.ac (.i 1) (.ac H (.ac (.var n) (.ac (.i 0) (.ac (.s []) (.ac (.tr 4 .an) (.ac (.tr 4 (.ac (.ac (.aP (.var (n+2)) 0) (.ac (.aP (.var (n+2)) 1) (.ac (.aP (.var (n+2)) 2) (.ac (.aP (.var (n+2)) 3) .an)))) .an)) .an))))))) .an)))
 (.aC (.ok (.bin .add 3 (.var n) (.i 1)))
 (.next (k+1) (.ac (.ok (.bin .add 3 (.var n) (.i 1))) (.ac (.var (n+4)) .an)))))
 (.aC (.ok (.bin .add 3 (.var n) (.i 1)))
 (.next (k+1) (.ac (.ok (.bin .add 3 (.var n) (.i 1))) (.ac (.var (n+1)) .an))))))))))
 (.next k (.ac (.var (n+1)) .an)))))
def rE(c n d:Nat)(phi E Y:SE):aq:=
 (.loop (.ac (.ok (.bin .sub 3 (.len (.aP (.var 5) 4)) (.i 1))) (.ac (.var c) phi))
 (.aC (.ok (.bin .geq 3 (.var n) (.i 0)))
 (.test (.ok (.bin .geq 3 (.var n) (.i 0)))
 (.bind (.idx 3 E (.var n))
 (.aC (.mq 3 (.var d))
 (.bind (.cat 7 96 (.var (n+1)) (.tr 7 (.ac (.ac (.i 9) (.ac (.i 0) (.ac (.i 0) (.ac (.aP (.var d) 0) (.ac (.aP (.var d) 1) (.ac (.aP (.var d) 2) (.ac (.tr 4 .an) .an))))))) .an)))
 (.aC (.ok (.bin .sub 3 (.var n) (.i 1)))
 (.next 3 (.ac (.ok (.bin .sub 3 (.var n) (.i 1))) (.ac (.var (d+1)) Y)))))))
 (.aC (.rw (.aP (.var 2) 0))
 (.aC (.rw (.aP (.var 5) 5))
 (.bind (.cat 7 96 (.var (n+1)) (.tr 7 (.ac (.ac (.i 10) (.ac (.aP (.var 2) 0) (.ac (.aP (.var 5) 5) (.ac (.i 0) (.ac (.s []) (.ac (.tr 4 .an) (.ac (.tr 4 .an) .an))))))) .an)))
 (.next 1 (.ac (.var d) .an))))))))
def WC:aq:=
 (.tV (lX 2 c_ (jT 15) 2 24 (o7 2 c_ (jT 23) (pQ 2 25 9 (nz 24) (nz 25) (o7 2 c_ (jT 15) (lS 2 26 (jm 26) (o7 2 c_ (jT 23) (lS 2 27 (jm 27) (.nx 3 (yz (jm 26) (jm 27)) .an))))) (.next 3 (iC fg))))) 1 (CQ 24 (yE (jT 15) (jT 23) 7 96 22 7 (uQ M7 (jT 15) (jT 23) bj JJ) (v7 2 21 25)) (v7 2 21 22)))
def cE6(F:SE):aq:=
 (.tV
 (.aC (.len (.ok (.var 25)))
 (tF 24 3)) 1
 (.next 1 (.ac F (.ac (.var 26) .an))))
def cE7(F:SE):aq:=
 (.tV
 (.bind (.idx 2 (.ok (.var 6)) (.ok (.var 15)))
 (.aC (.mq 2 (.var 24))
 (.aC (.len (.aP (.var 24) 1))
 (mF 25 3 (.var 22) (.aP (.var 24) 1) (.ok (.var 23)) (.ok (.var 15)))))) 1
 (.aC (.ok (.bin .add 3 (.var 12) (.i 2)))
 (.bind (.idx 1 (.aP (.var 2) 5) (.ok (.bin .add 3 (.var 12) (.i 2))))
 (.aC (.ok (.var 25))
 (cE6 F)))))
def cE8(F:SE):aq:=
 (.loop (.ac (.i 0) (.ac (.var 18) .an))
 (.aC (.ok (.bin .lss 3 (.var 21) (.len (.ok (.var 20)))))
 (.test (.ok (.bin .lss 3 (.var 21) (.len (.ok (.var 20)))))
 (.bind (.idx 1 (.ok (.var 20)) (.var 21))
 (.aC (.ok (.var 23))
 WC))
 (.bind (.idx 1 (.aP (.var 2) 4) (.var 12))
 (.aC (.ok (.var 23))
 (cE7 F))))))
def cE9(F:SE):aq:=
 (.call 98 af (.ac (.ac (.aP (.var 0) 0) (.ac (.aP (.var 0) 1) .an)) (.ac (.ac (.aP (.var 2) 0) (.ac (.aP (.var 2) 1) (.ac (.aP (.var 2) 2) (.ac (.aP (.var 2) 3) (.ac (.aP (.var 2) 4) (.ac (.aP (.var 2) 5) .an)))))) (.ac (.var 12) .an)))
 (.aC (.ok (.var 17))
 (.bind (.cat 7 96 (.var 14) (.tr 7 (.ac (.ac (.i 3) (.ac (.ok (.var 15)) (.ac (.ok (.var 16)) (.ac (.i 0) (.ac (.s []) (.ac (.tr 4 .an) (.ac (.ok (.var 17)) .an))))))) .an)))
 (.aC (.rw (.aP (.var 2) 1))
 (.bind (.sub 1 (.aP (.var 2) 3) (.i 0) (.var 12))
 (.call 99 ab (.ac (.tr 1 (.ac (.tr 1 (.ac (.aP (.var 2) 1) .an)) (.ac (.var 19) .an))) .an)
 (.aC (.ok (.var 20))
 (.aC (.len (.ok (.var 20)))
 (cE8 F)))))))))
def P3:aq:=
 (.tV (nX 1 (Gf 2) 12 (eZ 15 (qH 97 (tW oN bR (o8 (wy 2 2 2 2 2 4 2 5) 12)) (yF (jT 16) (jT 16) (cE9 (.i 13)) (cE9 (.var 13)))))) 2 (oH 0 12 15 16))
def P4:aq:=
 (jq (o8 qY 15) ir 16 ir (lT (.var 16) (jI 7 96 17 7 (uQ (.i 6) (.var 16) bj bj JJ) (v7 2 16 18))) (.test wi (fI 101 5 0 5 1 5 2 5 3 5 4 5 5 (gQ (jT 18) (jT 18) (jI 7 96 17 7 (uQ (.i 7) bj bj bj JJ) (JT (yE pO ir 7 96 19 7 (DX (.i 8) 2 0 F9) (FZ (rE 20 21 23 .an (.aP (.var 5) 4) .an))) (rE 19 20 22 .an (.aP (.var 5) 4) .an))) (JT (yE pO ir 7 96 17 7 (DX (.i 8) 2 0 F9) (FZ (rE 19 20 22 .an (.aP (.var 5) 4) .an))) (rE 17 19 21 .an (.aP (.var 5) 4) .an)))) (JT (yE pO ir 7 96 17 7 (DX (.i 8) 2 0 F9) (FZ (rE 18 19 21 .an (.aP (.var 5) 4) .an))) (rE 17 18 20 .an (.aP (.var 5) 4) .an))))
def P5:aq:=
 (jq (o8 qY 14) ir 15 ir (lT F_ (jI 7 96 16 7 (uQ (.i 6) F_ bj bj JJ) (v7 2 15 17))) (.test wi (fI 101 5 0 5 1 5 2 5 3 5 4 5 5 (gQ (jT 17) (jT 17) (jI 7 96 16 7 (uQ (.i 7) bj bj bj JJ) (JT (yE pO ir 7 96 18 7 (DX (.i 8) 2 0 F9) (FZ (rE 19 20 23 (.ac (.tr 7 (.ac (.ac (.i 7) (.ac (.i 0) (.ac (.i 0) (.ac (.i 0) (.ac (.s []) (.ac (.tr 4 .an) (.ac (.tr 4 .an) .an))))))) .an)) .an) (.aP (.var 5) 4) (.ac (.var 22) .an)))) (rE 18 19 22 (.ac (.tr 7 (.ac (.ac (.i 7) (.ac (.i 0) (.ac (.i 0) (.ac (.i 0) (.ac (.s []) (.ac (.tr 4 .an) (.ac (.tr 4 .an) .an))))))) .an)) .an) (.aP (.var 5) 4) (.ac (.var 21) .an)))) (JT (yE pO ir 7 96 16 7 (DX (.i 8) 2 0 F9) (FZ (rE 18 19 22 (.ac (.tr 7 (.ac (.ac (.i 8) (.ac (.aP (.var 2) 0) (.ac (.len (.ok (.var 6))) (.ac (.i 0) (.ac (.s []) (.ac (.tr 4 .an) (.ac (.tr 4 .an) .an))))))) .an)) .an) (.aP (.var 5) 4) (.ac (.var 21) .an)))) (rE 16 18 21 (.ac (.aP (.var 5) 4) .an) (.var 20) (.ac (.var 20) .an))))) (JT (yE pO ir 7 96 16 7 (DX (.i 8) 2 0 F9) (FZ (rE 17 18 21 (.ac (.tr 7 (.ac (.ac (.i 8) (.ac (.aP (.var 2) 0) (.ac (.len (.ok (.var 6))) (.ac (.i 0) (.ac (.s []) (.ac (.tr 4 .an) (.ac (.tr 4 .an) .an))))))) .an)) .an) (.aP (.var 5) 4) (.ac (.var 20) .an)))) (rE 16 17 20 (.ac (.aP (.var 5) 4) .an) (.var 19) (.ac (.var 19) .an)))))
def P6:aq:=
 (.tV (C3 JI ahQ ir (ahV (yE pO ir 7 96 14 7 (DX (.i 5) 2 0 F9) (.aC qY P4)) (.aC qY P5))) 1 (.nt (Q0 .neq 38 13 0) (aan (o8 (F3 bj (eI fg (v8 7))) 13)) (nA (.len F_) (.len F_) 200 (JL (F3 bj (eI fg (v8 7))) 6) (Bv (FQ 2 0 2 1 (o8 wi 15)) bj))))
def P7:aq:=
 (FR (F3 bj (uO 11)) 3 12 J1 P3 P6)
def P8:aq:=
 (.tV (.aC (nc 10) (tF 9 0)) 1 (.aC J1 P7))
def P9:aq:=
 (.tV (.aC (nc 8) (tF 7 0)) 1 (o7 1 (rV 2 5) jn (eZ 10 P8)))
def P_:aq:=
 (.tV (o7 2 c_ mW (lS 2 7 (jm 7) (mF 8 0 (.tr 7 .an) (.aP (.var 7) 1) (.tr 1 .an) (.aP (.var 2) 1)))) 1 (o7 1 (rV 2 5) bj (eZ 8 P9)))
def aoK:aq:=
 (rp 2 (Lw 6 2 (sQ 31 (gQ cA cA (JL (F3 bj (eI fg (v8 7))) 2) (kA 32 oN (wy 2 2 2 2 2 4 2 5) (gQ da da (JL (F3 bj (eI fg (v8 7))) 2) (lX 6 dp pO 6 5 (fI 33 5 0 5 1 5 2 5 3 5 4 5 5 (eZ 6 P_)))))))))
def awy:aI ayF (rz [⟨1,11064,1000082,[],[(5,0)],[],[]⟩,⟨1,11064,1000074,[],[(5,0)],[],[]⟩,⟨0,11,1000051,[],[(5,0)],[],[]⟩,⟨0,11,1000045,[],[(5,0)],[],[]⟩,⟨0,11,1000039,[],[(5,0)],[],[]⟩,⟨0,11,1000066,[],[(5,0),(8,0)],[],[]⟩,⟨3,11067818000,1,[(3,(3,0))],[(5,3),(5,0),(4,10),(8,3),(8,0)],[],[]⟩,⟨1,11067,7,[(1,(4,0))],[(5,0),(4,10),(8,0)],[(1,36),(1,35),(1,34),(1,33),(1,32),(1,31),(1,30),(1,29),(1,28),(1,27),(1,26),(1,25),(1,24),(1,23),(1,22),(1,21),(1,20),(1,19),(1,18),(1,17),(1,16),(1,15),(1,14),(1,13),(1,12),(1,11),(1,10),(1,9),(1,8),(1,7)],[]⟩,⟨0,11,9,[(0,(55,0))],[(5,3),(5,0),(4,11),(4,10)],[(0,53),(0,52),(0,51),(0,50),(0,49),(0,48),(0,47),(0,46),(0,45),(0,44),(0,43),(0,42),(0,41),(0,40),(0,39),(0,38),(0,37),(0,36),(0,35),(0,34),(0,33),(0,32),(0,31),(0,30),(0,29),(0,28),(0,27),(0,26),(0,25),(0,24),(0,23),(0,22),(0,21),(0,19),(0,18),(0,17),(0,16),(0,15),(0,14),(0,13),(0,12),(0,11)],[]⟩,⟨0,11,1000063,[],[(5,0),(4,11),(8,0)],[],[]⟩,⟨2,11064083,1,[(2,(8,0))],[(5,0),(8,0)],[],[]⟩,⟨2,11064075,1,[(2,(17,0))],[(5,0),(8,0)],[(2,14),(2,13),(2,12),(2,11),(2,10),(2,9),(2,8)],[]⟩,⟨1,11064,7,[(1,(52,0))],[(5,0),(8,0)],[(1,49),(1,48),(1,47),(1,46),(1,45),(1,44),(1,43),(1,42),(1,41),(1,40),(1,39),(1,38),(1,37),(1,36),(1,35),(1,34),(1,33),(1,32),(1,31),(1,30),(1,29),(1,28),(1,27),(1,26),(1,25),(1,24),(1,23),(1,22),(1,21),(1,20),(1,19),(1,18),(1,17),(1,16),(1,15),(1,14)],[]⟩,⟨1,11052,1,[(1,(8,0))],[(5,3),(5,0),(4,10)],[],[]⟩,⟨1,11046,1,[(1,(8,0))],[(5,3),(5,0),(4,10)],[],[]⟩,⟨1,11040,1,[(1,(17,0))],[(5,3),(5,0),(4,10)],[(1,14),(1,13),(1,12),(1,11),(1,10),(1,9),(1,8)],[]⟩,⟨1,11064,1000059,[(1,(59,0))],[],[],[]⟩]) 400 af 11=aoK:=by kernel_rfl
section
def N2(g:Gl):In:=⟨9,0,0,g,[]⟩
def Eg(n v:Int):In:=⟨10,n,v,dZ,[]⟩
def uB(n m:Int):In:=⟨8,n,m,dZ,[]⟩
def yN:In:=⟨7,0,0,dZ,[]⟩
def p6(gs:List Gl):List In:=(gs.map N2).reverse
def uC(gs:List Gl)(m:Nat):List In:=p6 (gs.drop m)
def akE(gs:List Gl):uC gs 0=p6 gs:=rfl
def aex(gs:List Gl):uC gs gs.length=[]:=by simp[uC,p6]
def abE{gs:List Gl}{m:Nat}(h:m<gs.length):uC gs m=uC gs (m+1)++[N2 gs[m]]:=by
 unfold uC p6;rw[ay5 h,azr,List.reverse_cons]
def RZ(gs:List Gl)(m:Nat):(uC gs m).length<=gs.length:=by
 unfold uC p6;simp
def iG(o:Oc)(c:List In):IV:=.agg [iI o.r,iI o.h,iB o.k,cn c]
section
variable{Q:IV->Prop}{k0 k1 k2:List IV->Prop}{hs:List At}{x0 x1 x2 x3 x4 x5 x6 x7 x8 x9 dY fO lH jv lG xq oC sj BL so Ab Ht K3 NW:IV}
def yb{c n d:Nat}{phi E Y:SE}{ν w:List IV}{u0 u1 u2 u3:IV}(hw:w=[]/\d=n+2\/(∃y,w=[y])/\d=n+3)(x:Pn)(r:Rl)(hX:kc ayF ν phi=aa w)(hE:∀a b μ,E.den ayF (ν++(a::b::(w++μ)))=aa (gO r.bn))(hY:∀a b μ,kc ayF (ν++(a::b::(w++μ))) Y=aa w)
 (hb:r.bn.length<=6)(code:List In)(hl:code.length<=5000)(h2:ν[2]?=aa (cB x))(h5:ν[5]?=aa (.agg [u0,u1,u2,u3,gO r.bn,iI r.vars]))(hc:ν[c]?=aa (cn code))(hn:ν.length=n)(hQ:k1 [cn (code++p6 r.bn++[Eg x.o.r r.vars])]):
 (rE c n d phi E Y).sat ayF CC Q [k0,k1,k2] ν:=by
 subst hn;rw[show cB x=.agg [iI x.o.r,iI x.o.h,iB x.o.k,iL x.aS,dC x.dU,dC x.dW]from rfl]at h2;have a2:=λμ=>xr (μ:=μ) h2;have a5:=λμ=>xr (μ:=μ) h5;have g2:=λμ (h:2<(ν++μ).length)=>Fb h (a2 μ);have g5:=λμ (h:5<(ν++μ).length)=>Fb h (a5 μ);unfold rE;refine iv (λ(m:Nat)=>iI ((m:Int) - 1)::cn (code++uC r.bn m)::w) (λm=>m<=r.bn.length) (λm=>m) r.bn.length ?_ (ayL _) λm hm=>?_
 .simp[-ayK,jY,h5,hc,hX,GY (show r.bn.length<=1000 by omega),aex,ao]
 rcases m with _|m
 .have hct:=nM (a:=code++uC r.bn 0) (i:=Eg x.o.r r.vars) (by have:=RZ r.bn 0;rw[ayP];omega);rw[akE]at*
  generalize code++p6 r.bn++[Eg x.o.r r.vars]=C1 at*
  generalize code++p6 r.bn=C at*
  rcases hw with⟨rfl,rfl⟩|⟨⟨y,rfl⟩,rfl⟩
  all_goals
   simp[-ayK,jY,a2,a5,g2,g5,nL,tq,ao,aL,cellsOf];exact⟨_,hct,by simpa[nL,jx]using hQ⟩
 .have hmb:m<r.bn.length:=aj;have hG:=xX hmb;have zR:azc.wrap ((m:Int) - 1)=(m:Int) - 1:=eN aj aj;have hct:=nM (a:=code++uC r.bn (m+1)) (i:=N2 r.bn[m]) (by have:=RZ r.bn (m+1);rw[ayP];omega);rw[ay3,<-abE hmb]at hct;have xc:((m+1:Nat):Int) - 1=(m:Int):=aj;simp only[xc];generalize code++uC r.bn (m+1)=C1 at*
  have hE0:=hE (iI m) (cn C1) [];have hY0:=hY (iI m) (cn C1);rcases hw with⟨rfl,rfl⟩|⟨⟨y,rfl⟩,rfl⟩
  all_goals
   simp only[azN,ay2,azO]at hE0 hY0;simp[-ayK,jY,nL,tq,hE0,hY0,hG,zR,ao,cellsOf,Nat.add_assoc];exact⟨_,hct,.mk m rfl aj aj⟩
end
def wY(n:Int):In:=⟨6,n,0,dZ,[]⟩
def po(n m:Int):In:=⟨5,n,m,dZ,[]⟩
def oj(kl m:Nat):List In:=(List.range (m- kl)).map λ(j:Nat)=>wY ((kl+j:Nat):Int)
def WD(kl:Nat):oj kl kl=[]:=by simp[oj]
def Mh(kl m:Nat):(oj kl m).length=m- kl:=by simp[oj]
def IY{kl m:Nat}(h:kl<=m):oj kl (m+1)=oj kl m++[wY m]:=by
 unfold oj;rw[show m+1- kl=(m- kl)+1 by omega,List.range_succ,azQ];simp only[azr,aAW];rw[show kl+(m- kl)=m by omega]
def sV(b:Bool):List In:=if b then[yN]else[]
def sW(b:Bool)(n m:Int):List In:=if b then[uB n m]else[]
def oR(x:Pn)(r:Rl)(code:List In):List In:=
 code++oj r.ax.length (r.ax++r.az).length++sV (x.o.k&& !jw (ss r) r.bn)++sW (decide (r.az=[])) x.o.r (r.ax++r.az).length++p6 r.bn++[Eg x.o.r r.vars]
section
variable{Q:IV->Prop}{k0 k1 k2:List IV->Prop}{hs:List At}{x0 x1 x2 x3 x4 x5 x6 x7 x8 x9 dY fO lH jv lG xq oC sj BL so Ab Ht K3 NW:IV}
def aoL(x:Pn)(r:Rl)(h:oB r)(hn:rA r)(hf:mO r)(hz:IP r)(s7:r.az=[])(code:List In)(hl:code.length<=1000)(hQ:k1 [cn (oR x r code)]):
 P4.sat ayF CC Q [k0,k1] [x0,x1,cB x,x3,x4,cN r,dm (r.ax++r.az),x7,x8,x9,dY,fO,lH,jv,lG,cn code]:=by
 obtain⟨⟨o1,o2,o3⟩,od,kn,te⟩:=x;have hN:cB ⟨⟨o1,o2,o3⟩,od,kn,te⟩=.agg [iI o1,iI o2,iB o3,iL od,dC kn,dC te]:=rfl;have oq:=Wn r h hn hf;have hb:=h.b;have Cj:=h.h;have hlen:(r.ax++r.az).length=r.ax.length+r.az.length:=ayP
 have Kn:(r.az.length:Int)=0:=by
  rw[s7];rfl
 unfold oR at hQ;rw[decide_eq_true s7]at hQ;rw[cu]at oq;rw[hN,cu];generalize jw (ss r) r.bn=ib at*
 generalize r.ax++r.az=hs at*
 unfold P4;refine iv (λ(m:Nat)=>[iI m,cn (code++oj r.ax.length m)]) (λm=>r.ax.length<=m/\m<=hs.length) (λm=>hs.length- m) r.ax.length ?_ ⟨ayL _,by omega⟩ λm hm=>?_
 .simp[-ayK,jY,WD]
 obtain⟨xc,hm2⟩:=hm;have qM:=Mh r.ax.length m;by_cases ak:m<hs.length
 .have hw:=aH ak aj;have hc:=nM (a:=code++oj r.ax.length m) (i:=wY m) (by rw[ayP];omega);rw[ay3,<-IY xc]at hc;generalize code++oj r.ax.length m=C1 at*
  simp[-ayK,jY,ak,hw,aL,cellsOf,ao];exact⟨_,hc,.mk (m+1) rfl ⟨by omega,by omega⟩ aj⟩
 .have yU:m=hs.length:=aj;subst yU;have Y6:(code++oj r.ax.length hs.length).length<=2000:=by rw[ayP];omega
  generalize code++oj r.ax.length hs.length=C at*
  cases o3 with
  |false=>
   simp[-ayK,jY,s7,aL,cellsOf,ao];refine⟨_,nM (a:=C) (i:=uB o1 hs.length) (by first|omega|(simp;omega)),?_⟩;simp only[sV,sW,azV,aA4,aBe,aA5,aAY,aA6,if_true,if_false,ay2,reduceCtorEq,azi]at hQ;exact yb (c:=18) (.inl ⟨rfl,rfl⟩) ⟨⟨o1,o2,af⟩,od,kn,te⟩ r rfl (λ_ _ _=>rfl) (λ_ _ _=>rfl) hb _ (by first|omega|(simp;omega)) rfl rfl rfl rfl hQ
  |true=>
   simp[-ayK,jY,ao];refine⟨_,oq,?_⟩;cases ib with
   |false=>
    simp[-ayK,jY,s7,aL,cellsOf,ao];refine⟨_,nM (a:=C) (i:=yN) (by first|omega|(simp;omega)),?_⟩;have lE:C.length+1<=2001:=aj;generalize K4:C++[yN]=C1 at*
    have ayE:C1.length<=2001:=by rw[<-K4];simp;omega
    refine⟨_,nM (a:=C1) (i:=uB o1 hs.length) (by first|omega|(simp;omega)),?_⟩;simp only[sV,sW,azV,aA4,aBe,aA5,aAY,aA6,if_true,if_false,ay2,reduceCtorEq,azi,K4]at hQ;exact yb (c:=20) (.inl ⟨rfl,rfl⟩) ⟨⟨o1,o2,ab⟩,od,kn,te⟩ r rfl (λ_ _ _=>rfl) (λ_ _ _=>rfl) hb _ (by first|omega|(simp;omega)) rfl rfl rfl rfl hQ
   |true=>
    simp[-ayK,jY,s7,aL,cellsOf,ao];refine⟨_,nM (a:=C) (i:=uB o1 hs.length) (by first|omega|(simp;omega)),?_⟩;simp only[sV,sW,azV,aA4,aBe,aA5,aAY,aA6,if_true,if_false,ay2,reduceCtorEq,azi]at hQ;exact yb (c:=19) (.inl ⟨rfl,rfl⟩) ⟨⟨o1,o2,ab⟩,od,kn,te⟩ r rfl (λ_ _ _=>rfl) (λ_ _ _=>rfl) hb _ (by first|omega|(simp;omega)) rfl rfl rfl rfl hQ
def aoM(x:Pn)(r:Rl)(h:oB r)(hn:rA r)(hf:mO r)(hz:IP r)(s7:r.az≠[])(code:List In)(hl:code.length<=1000)(hQ:k1 [cn (oR x r code)]):
 P5.sat ayF CC Q [k0,k1] [x0,x1,cB x,x3,x4,cN r,dm (r.ax++r.az),x7,x8,x9,dY,fO,lH,jv,cn code]:=by
 obtain⟨⟨o1,o2,o3⟩,od,kn,te⟩:=x;have hN:cB ⟨⟨o1,o2,o3⟩,od,kn,te⟩=.agg [iI o1,iI o2,iB o3,iL od,dC kn,dC te]:=rfl;have oq:=Wn r h hn hf;have hb:=h.b;have Cj:=h.h;have hlen:(r.ax++r.az).length=r.ax.length+r.az.length:=ayP
 have Kn:¬(r.az.length:Int)=0:=by
  intro h0;exact s7 (azb aj)
 unfold oR at hQ;rw[decide_eq_false s7]at hQ;rw[cu]at oq;rw[hN,cu];generalize jw (ss r) r.bn=ib at*
 generalize r.ax++r.az=hs at*
 unfold P5;refine iv (λ(m:Nat)=>[iI m,cn (code++oj r.ax.length m)]) (λm=>r.ax.length<=m/\m<=hs.length) (λm=>hs.length- m) r.ax.length ?_ ⟨ayL _,by omega⟩ λm hm=>?_
 .simp[-ayK,jY,WD]
 obtain⟨xc,hm2⟩:=hm;have qM:=Mh r.ax.length m;by_cases ak:m<hs.length
 .have hw:=aH ak aj;have hc:=nM (a:=code++oj r.ax.length m) (i:=wY m) (by rw[ayP];omega);rw[ay3,<-IY xc]at hc;generalize code++oj r.ax.length m=C1 at*
  simp[-ayK,jY,ak,hw,aL,cellsOf,ao];exact⟨_,hc,.mk (m+1) rfl ⟨by omega,by omega⟩ aj⟩
 .have yU:m=hs.length:=aj;subst yU;have Y6:(code++oj r.ax.length hs.length).length<=2000:=by rw[ayP];omega
  generalize code++oj r.ax.length hs.length=C at*
  cases o3 with
  |false=>
   simp[-ayK,jY,s7,aL,cellsOf,ao];simp only[sV,sW,azV,aA4,aBe,aA5,aAY,aA6,if_true,if_false,ay2,reduceCtorEq,azi]at hQ;exact yb (c:=16) (.inr ⟨⟨_,rfl⟩,rfl⟩) ⟨⟨o1,o2,af⟩,od,kn,te⟩ r rfl (λ_ _ _=>rfl) (λ_ _ _=>rfl) hb _ (by first|omega|(simp;omega)) rfl rfl rfl rfl hQ
  |true=>
   simp[-ayK,jY,ao];refine⟨_,oq,?_⟩;cases ib with
   |false=>
    simp[-ayK,jY,s7,aL,cellsOf,ao];refine⟨_,nM (a:=C) (i:=yN) (by first|omega|(simp;omega)),?_⟩;simp only[sV,sW,azV,aA4,aBe,aA5,aAY,aA6,if_true,if_false,ay2,reduceCtorEq,azi]at hQ;exact yb (c:=18) (.inr ⟨⟨_,rfl⟩,rfl⟩) ⟨⟨o1,o2,ab⟩,od,kn,te⟩ r rfl (λ_ _ _=>rfl) (λ_ _ _=>rfl) hb _ (by first|omega|(simp;omega)) rfl rfl rfl rfl hQ
   |true=>
    simp[-ayK,jY,s7,aL,cellsOf,ao];simp only[sV,sW,azV,aA4,aBe,aA5,aAY,aA6,if_true,if_false,ay2,reduceCtorEq,azi]at hQ;exact yb (c:=16) (.inr ⟨⟨_,rfl⟩,rfl⟩) ⟨⟨o1,o2,ab⟩,od,kn,te⟩ r rfl (λ_ _ _=>rfl) (λ_ _ _=>rfl) hb _ (by first|omega|(simp;omega)) rfl rfl rfl rfl hQ
end
end
def N3(hs:List At)(x:Pn)(k:Nat):At:=((x.aS[k]?).bind λv=>hs[v.toNat]?).getD ⟨[],[]⟩
def DG(hs:List At)(acc:List Ac)(x:Pn)(k:Nat):Int:=tM acc ⟨(N3 hs x k).s,(N3 hs x k).ts.length,x.dU.getD k []⟩
def DH(hs:List At)(gs:List Gl)(acc:List Ac)(x:Pn)(k:Nat):List In:=sU hs gs acc x k (x.aS.getD k 0) (N3 hs x k) (x.dU.getD k []) (x.dW.getD (k+2) [])
def iz(hs:List At)(gs:List Gl)(acc:List Ac)(x:Pn)(base:List In):Nat->List In
 |0=>base
 |k+1=>iz hs gs acc x base k++DH hs gs acc x k
def m6(r:Rl)(x:Pn):List In:=dT x.o.h [] (kU (r.ax++r.az) x.o.h) 0++dV r.aG (x.dW.getD 0 [])++dV r.aG (x.dW.getD 1 [])
def wZ(x:Pn)(r:Rl)(code:List In):List In:=if r.az=[]then code++[po x.o.r (r.ax++r.az).length]else code
def oS(r:Rl)(acc:List Ac)(x:Pn):List In:=oR x r (wZ x r (iz (r.ax++r.az) r.aG acc x (m6 r x) x.aS.length))
structure Good(p:Pg)(x:Pn)(i m:Nat)(r:Rl):Prop where
 oc:Ef p x.o i m r
 part:∀k<x.aS.length,∃n a ps te,Kg p x k i n r a ps te/\a.ts.length<=8/\te.length<=6
 t:∃t0 t1,x.dW[0]?=aa t0/\x.dW[1]?=aa t1/\t0.length<=6/\t1.length<=6/\wX r.aG.length t0/\wX r.aG.length t1
 ol:x.aS.length<=3
def Qa{p:Pg}{x:Pn}{k i n:Nat}{r:Rl}{a:At}{ps te:List Int}(h:Kg p x k i n r a ps te):
 N3 (r.ax++r.az) x k=a/\x.aS.getD k 0=n/\x.dU.getD k []=ps/\x.dW.getD (k+2) []=te:=by
 have h1:=h.h.od;have h2:=h.h.hd;have h3:=h.h.kn;have h4:=h.t;refine⟨?_,?_,?_,?_⟩
 .unfold N3;rw[h1,ayK,show((n:Int)).toNat=n from rfl,h2];rfl
 .rw[azu,h1];rfl
 .rw[azu,h3];rfl
 .rw[azu,h4];rfl
def IZ{p:Pg}{x:Pn}{k i n:Nat}{r:Rl}{a:At}{ps te:List Int}(h:Kg p x k i n r a ps te)(acc:List Ac):
 DG (r.ax++r.az) acc x k=tM acc ⟨a.s,a.ts.length,ps⟩:=by
 obtain⟨h1,h2,h3,h4⟩:=Qa h;unfold DG;rw[h1,h3]
def zr{p:Pg}{x:Pn}{k i n:Nat}{r:Rl}{a:At}{ps te:List Int}(h:Kg p x k i n r a ps te)(acc:List Ac):
 DH (r.ax++r.az) r.aG acc x k=sU (r.ax++r.az) r.aG acc x k n a ps te:=by
 obtain⟨h1,h2,h3,h4⟩:=Qa h;unfold DH;rw[h1,h2,h3,h4]
def Xo{hs:List At}{gs:List Gl}{acc:List Ac}{x:Pn}{k:Nat}{n:Int}{a:At}{ps te:List Int}:(sU hs gs acc x k n a ps te).length<=2+x.aS.length+a.ts.length+te.length:=by
 unfold sU;have h1:=AE hs n a (x.o.h::x.aS.take k);have h2:=wW n ps a.ts 0;rw[azh,ayP,ayP];have h3:(dV gs te).length=te.length:=by simp[dV]
 rw[azh,azS]at h1;omega
theorem I0{p:Pg}{x:Pn}{i m:Nat}{r:Rl}(hg:Good p x i m r)(acc:List Ac)(base:List In):∀k,k<=x.aS.length->(iz (r.ax++r.az) r.aG acc x base k).length<=base.length+30*k
 |0,_=>by simp[iz]
 |k+1,hk=>by
  have ih:=I0 hg acc base k aj;obtain⟨n,a,ps,te,h1,h2,h3⟩:=hg.part k aj;have hl:=hg.ol;rw[iz,ayP,zr h1 acc];have:=Xo (hs:=r.ax++r.az) (gs:=r.aG) (acc:=acc) (x:=x) (k:=k) (n:=n) (a:=a) (ps:=ps) (te:=te);omega
theorem G8(vs:List Int):∀(ts:List Tm) (i:Nat),(su vs ts i).length<=ts.length
 |[],_=>by simp[su]
 |t::ts,i=>by
  have:=G8 vs ts (i+1);rw[su,ayP,azh];unfold YX;split<;>simp<;>omega
theorem I1{hs:List At}(h:∀a∈hs,a.ts.length<=8):∀(vs done:List Int),∀l∈eQ hs done vs,l.length<=8
 |[],_,l,hl=>by simp[eQ]at hl
 |v::vs,done,l,hl=>by
  rw[eQ]at hl;rcases ayW.1 hl with rfl|hl
  .unfold qt;exact ay6 (G8 _ _ _) (agJ h)
  .exact I1 h vs _ l hl
def R0{hs:List At}{gs:List Gl}{done:List Int}:∀l∈f_ hs gs done,l.length<=gs.length/\wX gs.length l:=by
 intro l hl
 have aoN:∀p:Gl->Bool,(mP p gs 0).length<=gs.length/\wX gs.length (mP p gs 0):=λp=>⟨Wo p gs 0,λv hv=>by
  have:=Wp gs 0 hv;omega⟩
 unfold f_ at hl;rcases ayW.1 hl with rfl|hl
 .exact aoN _
 .obtain⟨k,_,rfl⟩:=ay8.1 hl;exact aoN _
def Y7{p:Pg}(hp:m_ p){x:Pn}{i m:Nat}{r:Rl}(h:Ef p x.o i m r)(hr:Fe p x=ab):Good p x i m r:=by
 rw[DD h,ayI,decide_eq_true_eq]at hr;obtain⟨h1,h2⟩:=hr;obtain⟨h3,h4⟩:=Kf h1;obtain⟨hi,s8⟩:=ayH.1 h.ru;have dR:r∈p.aQ:=s8▸ayJ hi;have hs:=hp.rs r dR;have Kv:=hs.h;rw[<-ayP]at Kv;have hg6:=hs.g;have yR:x.dU=eQ (r.ax++r.az) [x.o.h] x.aS:=by rw[h2];rfl
 have XB:x.dW=f_ (r.ax++r.az) r.aG (x.o.h::x.aS):=by rw[h2];rfl
 have fp:x.dU.length=x.aS.length:=by rw[yR,G5]
 have Iu:x.dW.length=x.aS.length+2:=by rw[XB,wT];simp
 have agU:∀l∈x.dW,l.length<=r.aG.length/\wX r.aG.length l:=by rw[XB];exact R0
 have ov:pZ (r.ax++r.az).length (x.o.h::x.aS):=by
  intro v hv;rcases ayW.1 hv with rfl|hv
  .have:=h.lt;rw[h.oh];omega
  .exact h3 v hv
 refine⟨h,λk hk=>?_,?_,by omega⟩
 .obtain⟨v0,v1⟩:=h3 _ (ayJ hk);have ak:x.aS[k].toNat<(r.ax++r.az).length:=aj;have oU:k<x.dU.length:=aj;have vt:k+2<x.dW.length:=aj;have hto:=agU _ (ayJ vt);have hko:x.dU[k].length<=8:=I1 hs.hs _ _ _ (by rw[<-yR];exact ayJ oU);refine⟨x.aS[k].toNat,_,_,_,⟨⟨h.or,h.ru,?_,ayG ak,ayG oU⟩,ayG vt,by omega,by omega,hto.2,ov,by omega⟩,hs.hs _ (ayJ ak),by omega⟩;rw[ayG hk]
  congr 1;omega
 .have h0:0<x.dW.length:=aj;have h1:1<x.dW.length:=aj;have a0:=agU _ (ayJ h0);have a1:=agU _ (ayJ h1);exact⟨_,_,ayG h0,ayG h1,by omega,by omega,a0.2,a1.2⟩
def aoO:List Nat:=[266,24,25,7,69,257,72,26,71,137,70,139,225,145,183,75,76,136,186,140,184,224,138,185,9,28,27,143,77,142,141,74,144,73,146,78,39,44,268,192,154,227,33,212,85,155,233,199,164,230,194,166,204,95,93,162,280]
def aoP:List Nat:=[251,172,178,231,269,214,217,259]
def aoQ:List Nat:=[201]
def aoR:List Nat:=[185,247,209,500195,500196]
def ata(l:List Hint):fe:=⟨aoO,aoP,aoQ,l++[],aoR⟩
def aey:aq:=
 (lS 6 0 Gh (JV 2))
def atb:aI ayF (ata []) 400 af 212=aey:=by kernel_rfl
def awz(r:Rl):CC 212 af [cN r] (iB (decide (r.az=[]))):=by
 refine CC.of atb kr kr (by simpa using iQ r) aw ?_;simp[aey,SE.den,cN,ao];rw[aAH];simp
def Ad.form{ds:List De}{r:Rl}(h:Ad ds r)(hn:rA r):mO r:=
 ⟨λa ha t ht=>⟨kQ.wf t ((hn.hs a ha).2.2 t ht),BN (h.hs a ha) t ht⟩,λg hg=>⟨(xZ (h.gs g hg)).1,λt ht=>⟨kQ.wf t ((hn.gs g hg).2.2 t ht),(xZ (h.gs g hg)).2 t ht⟩⟩⟩
def agV(p:Pg)(acc:List Ac)(x:Pn):∀y∈[bg p,eP acc,cB x],Pure y:=by
 intro y hy;rcases ayW.1 hy with rfl|hy
 .exact du p
 rcases ayW.1 hy with rfl|hy
 .simp
 obtain rfl:=ayU.1 hy;exact zp x
def atc:List Nat:=[203,160,216,175,240,266,11,31,24,25,7,69,8,13,14,257,72,26,71,137,70,139,210,225,145,183,75,76,111,65,112,136,186,140,184,248,224,211,170,138,249,185,9,28,27,143,77,142,141,74,144,73,146,78,18,39,16,82,44,150,188,189,29,79,80,149,187,147,10,148,30,38,104,83,84,81,168,103,62,108,42,169,107,106,45,64,63,135,110,46,66,21,12,20,23,105,40,43,41,113,171,215,174,161,48,98,97,116,115,268,192,154,227,87,33,51,212,94,47,114,32,85,155,233,199,101,50,49,164,230,194,166,204,202,99,86,95,93,156,162,280]
def awA:List Nat:=[34,35,36,37,89,100,109,151,190,234]
def awB:List Nat:=[235,236,237,238,239,241,242]
def awC:List Nat:=[185,247,209,173000151,500195,500196,500040,500041,500043,500082,500140]
def atd(l:List Hint):fe:=⟨atc,awA,awB,l++[⟨999997,0,0,[],[],[],[]⟩,⟨999999,0,0,[],[],[],[]⟩],awC⟩
def Qb:aq:=
 (ra CU 4 cE bp 4 (eH c_ (.rws c_) (rX 1 8 cT c_ (jo 4 7))) JQ)
def akF:aq:=
 (ra CU 3 cE bp 3 (eH cL (.rws cL) (tG 1 8 4 cL (jo 3 6))) F2)
def Y8:aq:=
 (ra F5 1 cE bp 1 (iU cA 3 (yF (uy 2 oM) (uy 2 oM) (.fail 146) (F6 (uy 2 oM)))) (.nt (mU .lss 2 0) (.fail 146) (nA (MY 2 0) (MY 2 0) 0 (.bind (.dec 8 (MY 2 0) (.k .i64 0)) (eH (.idx 1 lq bj) cE Qb)) (.aC cE akF))))
def abF:aq:=
 (ue cE Y8)
def ate:aI ayF (atd [⟨0,99,11,[(0,(6,0)),(0,(27,0))],[(0,0)],[(0,24)],[]⟩,⟨0,99,3,[(0,(3,0)),(0,(11,0))],[],[],[]⟩]) 400 ab 99=abF:=by kernel_rfl
section
section
variable{Q:IV->Prop}{ν:List IV}{ks:List (List IV->Prop)}{k':List IV->Prop}{n k:Nat}
def aiY{C A W H:SE}(h:Int)(a:At)(ef:a.ts.length<=8)(code:List In)(hl:code.length<=1000)(ps:List Int)(ou:Sm ps)(hn:ν.length=n)(fp:ks.length=k+1)(gu:ks[k]?=aa k')(hC:C.den ayF ν=aa (cn code))(hA:∀μ,A.den ayF (ν++μ)=aa (iT a.ts))(hW:∀μ,W.den ayF (ν++μ)=aa (iL ps))(hH:∀μ,H.den ayF (ν++μ)=aa (iI h))
 (hk:k' [cn (code++dT h ps a.ts 0)]):(mF n k C A W H).sat ayF CC Q ks ν:=by
 subst hn;unfold mF;refine aB a.ts.length (λi (q:List In)=>[iI i,cn (code++q)]) (λi q=>q++dT h ps (a.ts.drop i) i=dT h ps a.ts 0/\q.length<=i) [] ?_ aw λi q hi hI=>?_
 .simp[-ayK,jY,hC]
 have lE:∀x,(ks++[x])[k]?=aa k':=λx=>by rw[ayZ aj,gu]
 have oU:∀x,(ks++[x])[k+1]?=aa x:=λx=>by rw[<-fp];simp
 obtain⟨hI,hql⟩:=hI;by_cases ak:i<a.ts.length
 .have hw:=aH ak aj;have h95:=(SX ps (i:Int) ou).abi (EZ rfl);rw[aev ak]at hI;have hc:=nM (a:=code++q) (i:=⟨1,h,i,dZ,[a.ts[i]]⟩) (by rw[ayP];omega);have hT:=ng ak;rw[bG]at hT
  have ow:cX 7 96 (cn (code++q)) (.tree 7 [.agg [iI 1,iI h,iI i,iI 0,iS [],iT [],.tree 4 [.agg [iI a.ts[i].k,iI a.ts[i].n,iS a.ts[i].s,iT a.ts[i].ts]]]])=aa (cn (code++(q++[⟨1,h,i,dZ,[a.ts[i]]⟩]))):=by
   rw[<-ay3,<-hc,<-bG];rfl
  clear hc;generalize K4:code++(q++[(⟨1,h,i,dZ,[a.ts[i]]⟩:In)])=C1 at*
  generalize hC0:code++q=C0 at*
  simp[-ayK,jY,nL,tq,hA,hW,hH,oU,ak,hw,hT,cellsOf,ao];refine⟨_,h95,?_⟩;by_cases e:(i:Int)∈ps
  .rw[if_pos e,azN]at hI;simp[-ayK,jY,nL,e,ao];exact .mk q (by rw[hC0];rfl) aj ⟨hI,by omega⟩
  .rw[if_neg e]at hI;simp[-ayK,jY,nL,hH,e,cellsOf,ao];exact⟨_,ow,by simpa[jY,nL]using .mk (q++[⟨1,h,i,dZ,[a.ts[i]]⟩]) (by rw[K4];rfl) aj ⟨by rw[<-hI];simp,by simp;omega⟩⟩
 .rw[azf aj,dT,ay2]at hI;subst hI;generalize code++dT h ps a.ts 0=C at*
  simp[-ayK,jY,nL,tq,hA,lE,ak,cellsOf,ao];exact hk
def abG(r:Rl)(l:List Int)(NY:l.length<=1000)(hv:wX r.aG.length l)(code:List In)(hl:code.length<=1000)(hn:ν.length=n)(h5:ν[5]?=aa (cN r))(fp:ks.length=k+1)(gu:ks[k]?=aa k')(hk:k' [cn (code++dV r.aG l)]):
 (tF n k).sat ayF CC Q ks (ν++[cn code,iL l]):=by
 subst hn;rw[cu]at h5;have a5:=λμ=>xr (μ:=μ) h5;have g5:=λμ (h:5<(ν++μ).length)=>Fb h (a5 μ);have lE:∀x,(ks++[x])[k]?=aa k':=λx=>by rw[ayZ aj,gu]
 have oU:∀x,(ks++[x])[k+1]?=aa x:=λx=>by rw[<-fp];simp
 unfold tF;refine aB l.length (λi (_:Unit)=>[iI i,cn (code++dV r.aG (l.take i))]) (λ_ _=>True) () ?_ trivial λi _ hi _=>?_
 .simp[-ayK,jY,nL,tq,dV]
 have hql:(dV r.aG (l.take i)).length<=1000:=by simp[dV];omega
 by_cases ak:i<l.length
 .have hw:=aH ak aj;obtain⟨v0,v1⟩:=hv _ (ayJ ak);have x_:l[i]=((l[i].toNat:Nat):Int):=aj;have ek:l[i].toNat<r.aG.length:=aj;have hG:=xX ek;rw[<-x_]at hG;have bL:=abA (gs:=r.aG) ak;rw[ayG ek,Option.getD_some]at bL;have hc:=nM (a:=code++dV r.aG (l.take i)) (i:=⟨2,0,0,r.aG[l[i].toNat],[]⟩) (by rw[ayP];omega);rw[ay3,<-bL]at hc;generalize K4:code++dV r.aG (l.take (i+1))=C1 at*
  generalize code++dV r.aG (l.take i)=C0 at*
  have hL:=kS ak;generalize l[i]=v at*
  simp[-ayK,jY,nL,tq,a5,g5,oU,ak,hw,hL,hG,cellsOf,ao];exact⟨_,hc,by simpa[jY,nL]using .mk () (by rw[K4];rfl) aj trivial⟩
 .have zT:i=l.length:=aj;rw[zT,aBc];generalize code++dV r.aG l=C at*
  simp[-ayK,jY,nL,tq,lE,cellsOf,ao];exact hk
end
def atf{k0:List IV->Prop}(ls:List (List Int))(hl:ls.length<=1000)(hf:ls.flatten.length<=100000){x1 x2 x3:IV}:
 Qb.sat ayF CC (zL (·=ls.flatten)) [k0] [dC ls,x1,x2,x3]:=by
 unfold Qb;refine aB ls.length (λi (a:List Int)=>[iI i,iL a]) (λi a=>a=(ls.take i).flatten) [] ?_ aw λi a hi hI=>?_
 .simp[SE.den]
 by_cases ak:i<ls.length
 .have hw:=aH ak aj;have ON:=PE ls (i+1);have ht:=Ru ak;rw[ht,<-hI,ayP]at ON;rw[<-hI]at ht;have hc:=E5 (a:=a) (b:=ls[i]) aj;simp[SE.den,ak,hw,adW ak,hc, -az2];exact⟨λ_ _ x hx=>by simp[cellsOf]at hx;subst hx;rfl,.mk _ rfl aj ht.symm⟩
 .have he:i=ls.length:=aj;subst he;rw[aBc]at hI;subst hI;generalize ls.flatten=q at*
  simp[SE.den]
def aoS(ls:List (List Int))(hl:ls.length<=1000)(hf:ls.flatten.length<=100000)(hp:ls.flatten≠[]):abF.sat ayF CC (zL (·=ls.flatten)) [] [dC ls]:=by
 simp only[abF,uU,SE.den,az8,ayK,BH];refine⟨⟨_,rfl⟩,⟨_,rfl⟩,?_⟩;unfold Y8;refine aB ls.length (λi (a:Int)=>[iI i,iI a]) (λi a=>a=((ls.take i).flatten.length:Int)) 0 ?_ aw λi a hi hI=>?_
 .simp[SE.den]
 have hle:=PE ls i;by_cases ak:i<ls.length
 .have hw:=aH ak aj;have ON:=PE ls (i+1)
  have ht:((ls.take (i+1)).flatten.length:Int)=a+(ls[i].length:Int):=by
   rw[Ru ak,ayP,hI];omega
  have XC:azc.wrap (a+(ls[i].length:Int))=a+(ls[i].length:Int):=eN aj aj;have Yc:¬a+(ls[i].length:Int)<0:=aj;simp[SE.den,ak,hw,adW ak,XC,Yc, -az2];exact .mk _ rfl aj ht.symm
 .have he:i=ls.length:=aj;subst he;rw[aBc]at hI;have xy:0<ls.flatten.length:=List.length_pos_iff.2 hp;have Yc:¬a<0:=aj;have hw:azc.wrap a=a:=eN aj aj;have Te:0<a:=aj
  have awD:(ay_ a.toNat (IV.raw (aAf azc 0)))[0]?=aa (iI 0):=by
   rw[List.getElem?_replicate,if_pos aj]
  have cK:cb 1 (.tree 1 (ay_ a.toNat (iI 0))) (iI 0)=aa (iI 0):=cM (i:=0) awD rfl;simp[SE.den,ak,hw,Yc,Te,kO, -az2];exact⟨_,⟨⟨by omega,by omega,rfl⟩,rfl⟩,⟨_,cK⟩,atf ls hl hf⟩
def k99(ls:List (List Int))(hl:ls.length<=1000)(hf:ls.flatten.length<=100000)(hp:ls.flatten≠[]):CC 99 ab [dC ls] (iL ls.flatten):=
 CC.Dy ate kr (λ_=>kr) (by simpa using GU ls) (by rfl) (aoS ls hl hf hp)
section
variable{Q:IV->Prop}{k0 k1 k2 k3:List IV->Prop}{hs:List At}{x0 x1 x2 x3 x4 x5 x6 x7 x8 x9 dY fO lH jv lG xq oC sj BL so Ab Ht K3 NW:IV}
def atg(n j:Nat)(hj:j<1000)(a:At)(ha:hs[n]?=aa a)(e:Int)(he:0<=e/\e<hs.length)(C:List In)(Y6:C.length<=1000)(hk:k2 [iI (j+1:Nat),cn (C++nN hs n a e)]):
 WC.sat ayF CC Q [k0,k1,k2] [x0,x1,x2,x3,x4,x5,dm hs,x7,x8,x9,dY,fO,lH,jv,lG,iI n,oC,sj,BL,so,Ab,iI j,cn C,iI e]:=by
 obtain⟨hn,Wl⟩:=ayH.1 ha;have hA:=pe hn;rw[Wl]at hA;have x_:e=((e.toNat:Nat):Int):=aj;have ek:e.toNat<hs.length:=aj;have hB:=pe ek;rw[<-x_]at hB;have hw:=aH hj aj
 have hap:nN hs n a e=if hs[e.toNat].s=a.s/\hs[e.toNat].ts.length=a.ts.length then[⟨4,n,e,dZ,[]⟩]else[]:=by
  unfold nN;rw[ayG ek]
 have hc:=nM (a:=C) (i:=⟨4,n,e,dZ,[]⟩) aj;rw[hap]at hk;generalize hs[e.toNat]=b at*
 unfold WC;refine lB (λvs=>vs=[iB (decide (a.s=b.s)&&decide (a.ts.length=b.ts.length))]) ?_ λvs eB=>?_
 .simp[-ayK,jY,hA,hB,ao];by_cases e1:a.s=b.s
  .left;refine⟨e1,?_⟩;show _=_;simp[e1];rw[aAH];simp;omega
  .right;refine⟨e1,?_⟩;show _=_;simp[e1]
 .subst eB;refine⟨rfl,?_⟩;by_cases e1:a.s=b.s/\a.ts.length=b.ts.length
  .rw[if_pos ⟨e1.1.symm,e1.2.symm⟩]at hk;rw[decide_eq_true e1.1,decide_eq_true e1.2];simp[-ayK,jY,hw,aL,cellsOf,ao];exact⟨_,hc,hk⟩
  .rw[if_neg (λh=>e1 ⟨h.1.symm,h.2.symm⟩),ay2]at hk
   have:(decide (a.s=b.s)&&decide (a.ts.length=b.ts.length))=af:=by
    rw[Bool.and_eq_false_iff,decide_eq_false_iff_not,decide_eq_false_iff_not];by_cases q:a.s=b.s
    .exact .inr λw=>e1 ⟨q,w⟩
    .exact .inl q
   rw[this];simp[-ayK,jY,hw,ao];exact hk
def aoT(x:Pn)(r:Rl)(k n:Nat)(oU:k<=1000)(a:At)(ha:hs[n]?=aa a)(ef:a.ts.length<=8)(ps te:List Int)(ou:Sm ps)(ht:x.dW[k+2]?=aa te)(Iu:te.length<=100)(hv:wX r.aG.length te)(C:List In)(Y6:C.length<=500)
 (hk:k1 [jv,cn (C++dT n ps a.ts 0++dV r.aG te)]):
 (cE7 (.var 13)).sat ayF CC Q [k0,k1,k2] [x0,x1,cB x,x3,x4,cN r,dm hs,x7,x8,x9,dY,fO,iI k,jv,lG,iI n,oC,sj,BL,so,Ab,Ht,cn C,iL ps]:=by
 obtain⟨hn,Wl⟩:=ayH.1 ha;have hA:=pe hn;rw[Wl]at hA;obtain⟨lu,hpt⟩:=ayH.1 ht;have hT:cb 1 (dC x.dW) (iI ((k:Int)+2))=aa (iL x.dW[k+2]):=GX lu;rw[hpt]at hT;have awE:azc.wrap ((k:Int)+2)=(k:Int)+2:=eN aj aj;have Cc:=wW n ps a.ts 0;have hN:cB x=.agg [iI x.o.r,iI x.o.h,iB x.o.k,iL x.aS,dC x.dU,dC x.dW]:=rfl;have hy4:=λk3'=>aiY (Q:=Q) (ks:=[k0,k1,k2,k3']) (n:=25) (k:=3) (ν:=[x0,x1,cB x,x3,x4,cN r,dm hs,x7,x8,x9,dY,fO,iI k,jv,lG,iI n,oC,sj,BL,so,Ab,Ht,cn C,iL ps,.agg [iS a.s,iT a.ts]]) (C:=.var 22) (A:=.aP (.var 24) 1) (W:=.ok (.var 23)) (H:=.ok (.var 15)) n a ef C aj ps ou rfl rfl rfl rfl (λ_=>rfl) (λ_=>rfl) λ_=>rfl;unfold cE7;refine lB (λvs=>vs=[cn (C++dT n ps a.ts 0)]) ?_ λvs eB=>?_
 .simp[-ayK,jY,hA,ao];exact hy4 _ rfl
 .subst eB;refine⟨rfl,?_⟩;have aoU:(C++dT n ps a.ts 0).length<=600:=by rw[ayP];omega
  generalize C++dT n ps a.ts 0=C1 at*
  have hy5:=λk3'=>abG (Q:=Q) (n:=24) (k:=3) (ks:=[k0,k1,k2,k3']) (ν:=[x0,x1,cB x,x3,x4,cN r,dm hs,x7,x8,x9,dY,fO,iI k,jv,lG,iI n,oC,sj,BL,so,Ab,Ht,cn C,iL ps]) r te aj hv C1 aj rfl rfl rfl rfl;rw[hN]at*
  simp[-ayK,jY,awE,hT,ao];unfold cE6;refine lB (λvs=>vs=[cn (C1++dV r.aG te)]) ?_ λvs eB=>?_
  .simp[-ayK,fN,jx,rD,sy];exact hy5 _ rfl
  .subst eB;refine⟨rfl,?_⟩;generalize C1++dV r.aG te=C2 at*
   simp[-ayK,fN,jx,G7,rD,sy];exact hk
def aoV(x:Pn)(r:Rl)(k n:Nat)(oU:k<=1000)(a:At)(ha:hs[n]?=aa a)(ef:a.ts.length<=8)(ps te:List Int)(ou:Sm ps)(yR:x.dU[k]?=aa ps)(ht:x.dW[k+2]?=aa te)(Iu:te.length<=100)(hv:wX r.aG.length te)(es:List Int)(m8:es.length<=50)(ic:pZ hs.length es)(C:List In)(Y6:C.length<=300)
 (hk:k1 [jv,cn (C++ik hs n a es++dT n ps a.ts 0++dV r.aG te)]):
 (cE8 (.var 13)).sat ayF CC Q [k0,k1] [x0,x1,cB x,x3,x4,cN r,dm hs,x7,x8,x9,dY,fO,iI k,jv,lG,iI n,oC,sj,cn C,so,iL es]:=by
 obtain⟨yV,Hr⟩:=ayH.1 yR;have hK:=GX yV;rw[Hr]at hK;have hN:cB x=.agg [iI x.o.r,iI x.o.h,iB x.o.k,iL x.aS,dC x.dU,dC x.dW]:=rfl;unfold cE8;refine aB es.length (λj (_:Unit)=>[iI j,cn (C++ik hs n a (es.take j))]) (λ_ _=>True) () ?_ trivial λj _ hj _=>?_
 .simp[G7,abD,abC,jx,ik]
 have hql:=AE hs n a (es.take j);rw[azS]at hql;by_cases ak:j<es.length
 .have bL:=Xn (hs:=hs) (h:=n) (a:=a) ak;have hy:=λkk=>atg (Q:=Q) (k0:=k0) (k1:=k1) (k2:=kk) (x0:=x0) (x1:=x1) (x2:=cB x) (x3:=x3) (x4:=x4) (x5:=cN r) (x7:=x7) (x8:=x8) (x9:=x9) (dY:=dY) (fO:=fO) (lH:=iI k) (jv:=jv) (lG:=lG) (oC:=oC) (sj:=sj) (BL:=cn C) (so:=so) (Ab:=iL es) n j aj a ha es[j] (ic _ (ayJ ak)) (C++ik hs n a (es.take j)) (by rw[ayP];omega);rw[ay3,<-bL]at hy;generalize K4:C++ik hs n a (es.take (j+1))=C1 at*
  generalize C++ik hs n a (es.take j)=C0 at*
  simp[-ayK,fN,jx,rD,sy,Ff,Fg,ak,kS ak];exact hy _ (.mk () (by rw[K4]) aj trivial)
 .have hjn:j=es.length:=aj;rw[hjn,aBc]
  have hCA:(C++ik hs n a es).length<=400:=by
   have:=AE hs n a es;rw[ayP];omega
  generalize C++ik hs n a es=C1 at*
  have hy:=λkk=>aoT (Q:=Q) (k0:=k0) (k1:=k1) (k2:=kk) (x0:=x0) (x1:=x1) (x3:=x3) (x4:=x4) (x7:=x7) (x8:=x8) (x9:=x9) (dY:=dY) (fO:=fO) (jv:=jv) (lG:=lG) (oC:=oC) (sj:=sj) (BL:=cn C) (so:=so) (Ab:=iL es) (Ht:=iI es.length) x r k n oU a ha ef ps te ou ht Iu hv C1 aj hk;rw[hN]at*
  simp[-ayK,fN,jx,rD,sy,Ff,Fg,zq,p5,hK];exact hy _
end
def k31(p:Pg)(hp:m_ p)(o:DA p):CC 31 af [bg p] (iB ab):=by
 obtain⟨a,h2⟩:=v32 p hp o;refine CC.cZ avw kr (λ_=>kr) (by simpa using du p) (by rfl) ?_;have hP:bg p=.agg [gj p.bM,mN p.aQ]:=rfl;rw[hP]at*
 simp[amT,SE.den,ao];exact⟨_,h2,by simp[ao]⟩
section
variable{Q:IV->Prop}{k0 k1 k2 k3:List IV->Prop}{hs:List At}{x0 x1 x2 x3 x4 x5 x6 x7 x8 x9 dY fO lH jv lG xq oC sj BL so Ab Ht K3 NW:IV}
def aoW{p:Pg}(hp:m_ p){x:Pn}{i:Nat}{r:Rl}{k n:Nat}{a:At}{ps te:List Int}(o9:Kg p x k i n r a ps te)(ef:a.ts.length<=8)(Iu:te.length<=6)(acc:List Ac)(hc:YW acc)(EI:0<=DG (r.ax++r.az) acc x k)(C:List In)(Y6:C.length<=250)
 (hk:k0 [iI (k+1:Nat),jv,cn (C++DH (r.ax++r.az) r.aG acc x k)]):
 P3.sat ayF CC Q [k0] [bg p,eP acc,cB x,x3,x4,cN r,dm (r.ax++r.az),x7,x8,x9,dY,fO,iI k,jv,cn C]:=by
 obtain⟨fp,bf⟩:=ayH.1 o9.h.od;have Ey:=o9.ol;have hO:=kS fp;rw[bf]at hO;have h97:=k97 hp o9.h acc hc;have h98:=k98 hp o9.h o9.pl;rw[zr o9 acc]at hk;rw[IZ o9 acc]at EI;have ic:=asN (L:=x.aS) (l:=k) aj;have h99:=k99 [[x.o.h],x.aS.take k] aw (by simp;omega) aw;have hfl:([[x.o.h],x.aS.take k]:List (List Int)).flatten=x.o.h::x.aS.take k:=aw;rw[hfl]at h99
 have ath:pZ (r.ax++r.az).length (x.o.h::x.aS.take k):=λv hv=>o9.ov v (by
  rcases ayW.1 hv with rfl|hv
  .simp
  .exact azg _ (List.mem_of_mem_take hv))
 have py:(x.o.h::x.aS.take k).length<=51:=by simp;omega
 have awF:(x.o.h::x.aS.take k).length<=50:=by simp;omega
 have ou:Sm ps:=by have:=o9.pl;unfold Sm;omega
 have IX:=aH (show k<1000 by omega) aj;generalize Hr:tM acc ⟨a.s,a.ts.length,ps⟩=pk at*
 have ati:cX 7 96 (cn C) (.tree 7 [.agg [iI 3,iI n,iI pk,iI 0,iS [],iT [],iT (oi a.ts ps)]])=aa (cn (C++[⟨3,n,pk,dZ,oi a.ts ps⟩])):=nM (a:=C) (i:=⟨3,n,pk,dZ,oi a.ts ps⟩) aj
 have hsE:C++sU (r.ax++r.az) r.aG acc x k n a ps te=(C++[⟨3,n,pk,dZ,oi a.ts ps⟩])++ik (r.ax++r.az) n a (x.o.h::x.aS.take k)++dT n ps a.ts 0++dV r.aG te:=by
  unfold sU;rw[Hr];simp
 rw[hsE]at hk;have hN:cB x=.agg [iI x.o.r,iI x.o.h,iB x.o.k,iL x.aS,dC x.dU,dC x.dW]:=rfl;have hP:bg p=.agg [gj p.bM,mN p.aQ]:=rfl;have aoU:(C++[(⟨3,n,pk,dZ,oi a.ts ps⟩:In)]).length<=300:=by simp;omega
 generalize oi a.ts ps=kt at*
 generalize K4:C++[(⟨3,n,pk,dZ,kt⟩:In)]=C1 at*
 have hLL:dC [[x.o.h],x.aS.take k]=.tree 1 [.tree 1 [iI x.o.h],iL (x.aS.take k)]:=rfl;rw[hLL]at h99;unfold P3;refine lB (λvs=>vs=[jv,cn (C1++ik (r.ax++r.az) n a (x.o.h::x.aS.take k)++dT n ps a.ts 0++dV r.aG te)]) ?_ λvs eB=>?_
 .have hy:=λDk so sj oC=>aoV (Q:=Q) (k0:=k0) (k1:=Dk) (x0:=bg p) (x1:=eP acc) (x3:=x3) (x4:=x4) (x7:=x7) (x8:=x8) (x9:=x9) (dY:=dY) (fO:=fO) (jv:=jv) (lG:=cn C) (oC:=oC) (sj:=sj) (so:=so) x r k n aj a o9.h.hd ef ps te ou o9.h.kn o9.t aj o9.tv (x.o.h::x.aS.take k) awF ath C1 aoU;generalize C1++ik (r.ax++r.az) n a (x.o.h::x.aS.take k)++dT n ps a.ts 0++dV r.aG te=CF at*
  generalize x.o.h::x.aS.take k=es at*
  generalize x.aS.take k=tk at*
  rw[hN,hP]at*
  simp[-ayK,jY,WB,hO,ao];refine⟨_,h97,?_⟩;simp[-ayK,fN,show¬pk<0 by omega];unfold cE9;simp[-ayK,jY,WB,ao];refine⟨_,h98,?_⟩;simp[-ayK,fN,Kh,P2,cellsOf,ao];refine⟨_,ati,?_⟩;simp[-ayK,fN,Kh,P2,cellsOf,aL,ic];refine⟨_,h99,?_⟩;simp[-ayK,fN];exact hy _ _ _ _ rfl
 .subst eB;refine⟨rfl,?_⟩;generalize C1++ik (r.ax++r.az) n a (x.o.h::x.aS.take k)++dT n ps a.ts 0++dV r.aG te=CF at*
  simp[-ayK,fN,jx,G7,rD,Fg,IX];exact hk
def aoX(x:Pn)(r:Rl)(h:oB r)(hn:rA r)(hf:mO r)(hz:IP r)(C:List In)(Y6:C.length<=300)(hT:(oR x r (wZ x r C)).length<=200)(hQ:Q (.aF [iG x.o (oR x r (wZ x r C)),iI 0])):
 P6.sat ayF CC Q [k0] [x0,x1,cB x,x3,x4,cN r,dm (r.ax++r.az),x7,x8,x9,dY,fO,lH,iI 0,cn C]:=by
 have hN:cB x=.agg [iI x.o.r,iI x.o.h,iB x.o.k,iL x.aS,dC x.dU,dC x.dW]:=rfl;unfold P6;refine lB (λvs=>vs=[cn (oR x r (wZ x r C))]) ?_ λvs eB=>?_
 .by_cases e:r.az=[]
  .have qc:wZ x r C=C++[po x.o.r (r.ax++r.az).length]:=by unfold wZ;rw[if_pos e]
   have hy:=λDk=>aoL (Q:=Q) (k0:=k0) (k1:=Dk) (x0:=x0) (x1:=x1) (x3:=x3) (x4:=x4) (x7:=x7) (x8:=x8) (x9:=x9) (dY:=dY) (fO:=fO) (lH:=lH) (jv:=iI 0) (lG:=cn C) x r h hn hf hz e (wZ x r C) (by rw[qc];simp;omega);generalize oR x r (wZ x r C)=T at*
   rw[qc]at hy;have hc:=nM (a:=C) (i:=po x.o.r (r.ax++r.az).length) aj;generalize K4:C++[po x.o.r (r.ax++r.az).length]=C1 at*
   rw[cu]at*
   rw[hN]at*
   generalize r.ax++r.az=hs at*
   simp[-ayK,jY,e,aL,cellsOf,ao]at hy⊢;exact⟨_,hc,hy _ rfl⟩
  .have qc:wZ x r C=C:=by unfold wZ;rw[if_neg e]
   rw[qc];have hy:=λDk=>aoM (Q:=Q) (k0:=k0) (k1:=Dk) (x0:=x0) (x1:=x1) (x3:=x3) (x4:=x4) (x7:=x7) (x8:=x8) (x9:=x9) (dY:=dY) (fO:=fO) (lH:=lH) (jv:=iI 0) x r h hn hf hz e C aj;generalize oR x r C=T at*
   rw[cu]at*
   rw[hN]at*
   generalize r.ax++r.az=hs at*
   simp[-ayK,jY,e,aL,cellsOf,ao];exact hy _ rfl
 .subst eB;refine⟨rfl,?_⟩;generalize oR x r (wZ x r C)=T at*
  rw[hN];simp[-ayK,jY,show¬(200:Int)<T.length by omega,cellsOf,ao];exact hQ
def aoY{p:Pg}(hp:m_ p){x:Pn}{i m:Nat}{r:Rl}(hg:Good p x i m r)(h:oB r)(hn:rA r)(hf:mO r)(hz:IP r)(acc:List Ac)(hc:YW acc)(EI:∀k<x.aS.length,0<=DG (r.ax++r.az) acc x k)(base:List In)(Hu:base.length<=100)
 (hT:(oR x r (wZ x r (iz (r.ax++r.az) r.aG acc x base x.aS.length))).length<=200)(hQ:Q (.aF [iG x.o (oR x r (wZ x r (iz (r.ax++r.az) r.aG acc x base x.aS.length))),iI 0])):
 P7.sat ayF CC Q [] [bg p,eP acc,cB x,x3,x4,cN r,dm (r.ax++r.az),x7,x8,x9,dY,cn base]:=by
 have Ey:=hg.ol;have hN:cB x=.agg [iI x.o.r,iI x.o.h,iB x.o.k,iL x.aS,dC x.dU,dC x.dW]:=rfl;unfold P7;refine aB x.aS.length (λk (_:Unit)=>[iI k,iI 0,cn (iz (r.ax++r.az) r.aG acc x base k)]) (λk _=>True) () ?_ trivial λk _ hk _=>?_
 .simp[G7,abD,abC,jx,iz]
 have Km:=I0 hg acc base k aj;by_cases ak:k<x.aS.length
 .obtain⟨n,a,ps,te,o9,ef,Iu⟩:=hg.part k ak;have xk:iz (r.ax++r.az) r.aG acc x base (k+1)=iz (r.ax++r.az) r.aG acc x base k++DH (r.ax++r.az) r.aG acc x k:=rfl;have hy:=λkk=>aoW (Q:=Q) (k0:=kk) (x3:=x3) (x4:=x4) (x7:=x7) (x8:=x8) (x9:=x9) (dY:=dY) (fO:=cn base) (jv:=iI 0) hp o9 ef Iu acc hc (EI k ak) (iz (r.ax++r.az) r.aG acc x base k) aj;rw[<-xk]at hy;have vS:=hy (qp x.aS.length (λk (_:Unit)=>[iI k,iI 0,cn (iz (r.ax++r.az) r.aG acc x base k)]) (λk _=>True) k) (.mk () rfl aj trivial);generalize hC0:iz (r.ax++r.az) r.aG acc x base k=C0 at vS⊢;rw[hN]at vS⊢;simp[-ayK,fN,jx,G7,rD,zq,sy,Fg,p5,ak];exact vS
 .have yR:k=x.aS.length:=aj;subst yR;have hy:=λkk=>aoX (Q:=Q) (k0:=kk) (x0:=bg p) (x1:=eP acc) (x3:=x3) (x4:=x4) (x7:=x7) (x8:=x8) (x9:=x9) (dY:=dY) (fO:=cn base) (lH:=iI x.aS.length) x r h hn hf hz (iz (r.ax++r.az) r.aG acc x base x.aS.length) aj hT hQ;have vS:=hy (qp x.aS.length (λk (_:Unit)=>[iI k,iI 0,cn (iz (r.ax++r.az) r.aG acc x base k)]) (λk _=>True) x.aS.length);generalize hC0:iz (r.ax++r.az) r.aG acc x base x.aS.length=C0 at vS⊢;rw[hN]at vS⊢;simp[-ayK,fN,jx,G7,rD,zq,sy,Fg,p5];exact vS
end
def NS(p:Pg)(hp:m_ p)(hz:∀r∈p.aQ,IP r)(bf:DA p)(acc:List Ac)(hc:YW acc)(x:Pn)(hx:RM x)(h6:x.aS.length<=6){i m:Nat}{r:Rl}(h:Ef p x.o i m r)(hr:Fe p x=ab)(EI:∀k<x.aS.length,0<=DG (r.ax++r.az) acc x k)(hT:(oS r acc x).length<=200):CC 11 af [bg p,eP acc,cB x] (.aF [iG x.o (oS r acc x),iI 0]):=by
 refine CC.of awy kr kr (agV p acc x) (.aF _ (by simp[iG];exact .agg _ aw)) ?_;have h2:=k31 p hp bf;have hfo:∀r∈p.aQ,mO r:=λr hr=>(bf.r r hr).form (hp.rn r hr);have qL:=hr;rw[DD h,ayI,decide_eq_true_eq]at qL;have h32:=k32 p hp hfo x hx h6 h qL.1 qL.2;have hN:cB x=.agg [iI x.o.r,iI x.o.h,iB x.o.k,iL x.aS,dC x.dU,dC x.dW]:=rfl;have hP:bg p=.agg [gj p.bM,mN p.aQ]:=rfl;have hg:=Y7 hp h hr;have s8:=h.ru;obtain⟨hi,s8⟩:=ayH.1 s8;have dR:r∈p.aQ:=s8▸ayJ hi;have tn:=hp.rs r dR;have hR:=xY hi;rw[s8]at hR;have EE:cb 6 (mN p.aQ) (iI x.o.r)=aa (.agg [iS r.name,dm r.ax,dm r.az,gO r.aG,gO r.bn,iI r.vars]):=by rw[h.or];exact hR
 have Aa:=KV r (by have:=tn.h;omega);have s6:m<(r.ax++r.az).length:=h.lt;have hA:=pe s6;rw[<-h.oh]at hA;obtain⟨t0,t1,g0,g1,g2,g3,g4,g5⟩:=hg.t;obtain⟨l0,e0⟩:=ayH.1 g0;obtain⟨l1,e1⟩:=ayH.1 g1
 have hT0:cb 1 (dC x.dW) (iI 0)=aa (iL t0):=by
  have:=GX l0;rw[e0]at this;exact this
 have hT1:cb 1 (dC x.dW) (iI 1)=aa (iL t1):=by
  have:=GX l1;rw[e1]at this;exact this
 have ef:=tn.hs _ (ayJ s6);have Cc:=wW x.o.h [] (r.ax++r.az)[m].ts 0;have Iu:∀l,(dV r.aG l).length=l.length:=λl=>by simp[dV]
 have QB:=Iu t0;have htb:=Iu t1
 have Jr:m6 r x=dT x.o.h [] (r.ax++r.az)[m].ts 0++dV r.aG t0++dV r.aG t1:=by
  unfold m6;rw[azu,azu,g0,g1]
  have:kU (r.ax++r.az) x.o.h=(r.ax++r.az)[m].ts:=by
   unfold kU;rw[if_pos (by rw[h.oh];omega),h.oh,show((m:Int)).toNat=m from rfl,ayG s6]
  rw[this];rfl
 have Hu:(m6 r x).length<=100:=by rw[Jr,ayP,ayP];omega
 have hyE:=λx7 x8 x9 dY=>aoY (Q:=(·=.aF [iG x.o (oS r acc x),iI 0])) (x3:=iB ab) (x4:=iB ab) (x7:=x7) (x8:=x8) (x9:=x9) (dY:=dY) hp hg tn (hp.rn r dR) (hfo r dR) (hz r dR) acc hc EI (m6 r x) Hu hT rfl;rw[Jr]at hyE;generalize IV.aF [iG x.o (oS r acc x),iI 0]=res at*
 have vS:=λk0' x8 x7=>abG (Q:=(·=res)) (n:=9) (k:=0) (ks:=[k0']) (ν:=[bg p,eP acc,cB x,iB ab,iB ab,cN r,dm (r.ax++r.az),x7,x8]) r t1 aj g5 (dT x.o.h [] (r.ax++r.az)[m].ts 0++dV r.aG t0) (by rw[ayP];omega) rfl rfl rfl rfl;have y9:=λk0'=>abG (Q:=(·=res)) (n:=7) (k:=0) (ks:=[k0']) (ν:=[bg p,eP acc,cB x,iB ab,iB ab,cN r,dm (r.ax++r.az)]) r t0 aj g4 (dT x.o.h [] (r.ax++r.az)[m].ts 0) aj rfl rfl rfl rfl;have U5:=λk0'=>aiY (Q:=(·=res)) (n:=8) (k:=0) (ks:=[k0']) (C:=.tr 7 .an) (A:=.aP (.var 7) 1) (W:=.tr 1 .an) (H:=.aP (.var 2) 1) (ν:=[bg p,eP acc,cB x,iB ab,iB ab,cN r,dm (r.ax++r.az),.agg [iS (r.ax++r.az)[m].s,iT (r.ax++r.az)[m].ts]]) x.o.h (r.ax++r.az)[m] aj [] aw [] aw rfl rfl rfl rfl (λ_=>rfl) (λ_=>rfl) λ_=>rfl;generalize dT x.o.h [] (r.ax++r.az)[m].ts 0++dV r.aG t0++dV r.aG t1=B2 at*
 generalize dT x.o.h [] (r.ax++r.az)[m].ts 0++dV r.aG t0=B1 at*
 generalize dT x.o.h [] (r.ax++r.az)[m].ts 0=B0 at*
 generalize(r.ax++r.az)[m]=am at*
 have h34:P_.sat ayF CC (·=res) [] [bg p,eP acc,cB x,iB ab,iB ab,cN r,dm (r.ax++r.az)]:=by
  generalize r.ax++r.az=hs at*
  unfold P_;refine lB (λvs=>vs=[cn B0]) ?_ λvs eB=>?_
  .have hy:=U5 (Iw λvs=>vs=[cn B0]) rfl;rw[hN]at*
   simp[-ayK,fN,jx,rD,zq,Ff,sy,aew,p5,Mg,hA,ao];exact hy
  .subst eB;refine⟨rfl,?_⟩
   have WE:P9.sat ayF CC (·=res) [] [bg p,eP acc,cB x,iB ab,iB ab,cN r,dm hs,cn B0,iL t0]:=by
    unfold P9;refine lB (λvs=>vs=[cn B1]) ?_ λvs eB=>?_
    .have hy:=y9 (Iw λvs=>vs=[cn B1]) rfl;simp[-ayK,fN,jx,rD,sy];exact hy
    .subst eB;refine⟨rfl,?_⟩
     have awG:P8.sat ayF CC (·=res) [] [bg p,eP acc,cB x,iB ab,iB ab,cN r,dm hs,cn B0,iL t0,cn B1,iL t1]:=by
      unfold P8;refine lB (λvs=>vs=[cn B2]) ?_ λvs eB=>?_
      .have hy:=vS (Iw λvs=>vs=[cn B2]) (iL t0) (cn B0) rfl;simp[-ayK,fN,jx,rD,sy];exact hy
      .subst eB;refine⟨rfl,?_⟩;have hy:=hyE (cn B0) (iL t0) (cn B1) (iL t1);rw[hN]at*
       simp[-ayK,fN,jx,rD,sy,zq,p5];exact hy
     rw[hN]at*
     simp[-ayK,fN,jx,rD,Ff,zq,G7,p5,hT1];exact awG
   rw[hN]at*
   simp[-ayK,fN,jx,rD,Ff,zq,G7,p5,hT0];exact WE
 generalize r.ax++r.az=hs at*
 rw[cu]at*
 rw[hN,hP]at*
 simp[aoK, -ayK,jY,ao];refine⟨_,h2,?_⟩;simp[-ayK,fN,ao];refine⟨_,h32,?_⟩;simp[-ayK,fN,EE,p5,Mg,Kh,ao];exact⟨_,Aa,by simpa[-ayK,fN]using h34⟩
def dL{x:IV}(h:Pure x):∀y∈[x],Pure y:=by
 intro y hy;obtain rfl:=ayU.1 hy;exact h
def aiZ{a:List Ac}{k:Ac}(h:a.length<=1000):cX 3 48 (eP a) (.tree 3 [.agg [iS k.s,iI k.n,iL k.ps]])=aa (eP (a++[k])):=by
 have h2:fM 3 [.agg [iS k.s,iI k.n,iL k.ps]]=ab:=rfl;simp[cX,h2,tL];omega
def I2(z:IV):Prop:=∃(k:Ac) (b:Bool),z=.aF [tL k,iB b]/\k.ps.length<=100
def Y9(s:List UInt8)(n:Int)(ps:List Int)(b:Bool)(h:ps.length<=100):I2 (.aF [.agg [iS s,iI n,iL ps],iB b]):=⟨⟨s,n,ps⟩,b,rfl,h⟩
def nO:I2 (.aF [.agg [iS [],iI 0,.tree 1 []],iB af]):=Y9 [] 0 [] af aw
def awH(z:IV):Prop:=∃ks:List Ac,z=eP ks/\ks.length<=8/\∀k∈ks,k.ps.length<=100
end
def abH(hs:List At)(done:List Int)(ts:List Tm):(qt hs done ts).length<=ts.length:=G8 _ _ _
section
def aoZ{L:List Int}{a:Nat}(h1:a<=L.length):nD 1 (iL L) (iI (a:Nat)) (iI (L.length:Nat))=aa (iL (L.drop a)):=by
 simp[nD,gW,h1,List.map_drop];rw[ayV aw]
abbrev DI(l:List Pn):IV:=.tree 6 (l.map cB)
@[simp] theorem awI(l:List Pn):Pure (DI l):=jD 6 cB (λa=>⟨_,rfl,by simp[GU]⟩) l
def ao0{l:List Pn}{i:Nat}(h:i<l.length):cb 6 (DI l) (iI (i:Nat))=aa (cB l[i]):=cM (by simp[h]) rfl
def atj{a:List Pn}{x:Pn}(h:a.length<=1000):cX 6 96 (DI a) (.tree 6 [cB x])=aa (DI (a++[x])):=by
 have h2:fM 6 [cB x]=ab:=rfl;simp[cX,h2];omega
end
end Go.Proofs.YtabefplkfkfdfaaGreat
