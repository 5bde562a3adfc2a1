/- Lemmas, a part of the proof; no conditions. -/
import Derived.Test.YtabefplkfkfdfaaGreatPAh
import Derived.Test.YtabefplkfkfdfaaGreatPAk
import Derived.Test.YtabefplkfkfdfaaGreatPAl
open Go.Ev.SE renaming den->UU
open List renaming any_cons->aKV,take_zero->aJu,filter_append->O3,nodup_append->aKn,filter_cons_of_neg->aIG,filter_eq_self->aJ0,length_filter_le->Zy,exists_cons_of_ne_nil->aJv,length_flatMap->aJ1,mem_reverse->aJi
open Bool renaming beq_eq_decide_eq->aJQ
open Go.Proofs.Tryz renaming prog->Z2
open Option renaming map_some->ZO
open Nat renaming add_sub_cancel->aKo
open Int renaming toNat_natCast->PT
open Go.IntKind renaming i64->QY
open Option renaming some->aa,none->ah
open Bool renaming true->ab,false->af
set_option linter.all false
def TF:=@List.mem_take_iff_getElem
namespace Go.Proofs.YtabefplkfkfdfaaGreat
open Go Go.Ev
def azC(ks:aj Ac)(hk:ks.length<=1000)(hp:∀k∈ks,k.ps.length<=100)(s:aj UInt8)(ps:aj Int)(nf:Sm ps):CC 215 af [dC ks,iS s,iL ps] (iB (ma ks s ps)):=by
 refine CC.dB (av:=[dC ks,iS s,iL ps]) atK kr (λ_=>kr) az cE ?_;simp[amR,UU];refine aJ ks.length (λi (_:Unit)=>[iI i]) (λi _=>ma ks s ps=ma (ks.drop i) s ps) () ?_ az λi _ hi hI=>?_
 .simp[UU]
 by_cases aq:i<ks.length
 rotate_left
 .rw[ZX ak,show ma ([]:aj Ac) s ps=af from rfl]at hI;simp[UU,aq,hI]
 have hw:=aS aq ak;have J7:=hp _ (Z4 aq);simp only[UQ aq,ma,aKV]at hI
 have dw:(ks[i].s==s&&ks[i].ps.all λv=>ps.contains v)=af->qJ ks.length (λi (_:Unit)=>[iI i]) (λi _=>ma ks s ps=ma (ks.drop i) s ps) i [iI (i+1:Nat)]:=λh=>by
  rw[h,Bool.false_or]at hI;exact .mk () rfl ak hI
 simp[UU,aq,hw,Ak aq,aw];by_cases e1:ks[i].s=s
 rotate_left
 .right;exact⟨e1,dw (by simp[e1])⟩
 left;exists e1;refine aJ ks[i].ps.length (λj (_:Unit)=>[iI j]) (λj _=>∀v∈ks[i].ps.take j,v∈ps) () ?_ az λj _ hj hJ=>?_
 .simp[UU]
 by_cases fQ:j<ks[i].ps.length
 .have tB:=aS fQ ak;have bI:=λh=>bN (p:=λv=>v∈ps) fQ hJ h;simp[UU,fQ,tB,hw];exists _,k95 ps ks[i].ps[j] nf;by_cases hc:ks[i].ps[j]∈ps
  .simp[hc];exact .mk () rfl ak (bI hc)
  .simp[hc];refine dw ?_
   have:(ks[i].ps.all λv=>ps.contains v)=af:=by
    rw[X1];intro h;have:=US.1 h _ (Z4 fQ);exact hc (by simpa using this)
   rw[this,Bool.and_false]
 .have cQ:=cb fQ hJ
  have h1:ma ks s ps=ab:=by
   unfold ma;rw[hI,e1,US.2 λv hv=>by simpa using cQ v hv];simp
  simp[UU,fQ,h1]
def azD(a b:Ac)(ha:Sm a.ps):CC 174 ab [lK a,lK b] (iB (decide (a=b))):=by
 refine CC.dB (av:=[lK a,lK b]) aoT kr (λ_=>kr) (qC (qe a) (qe b)) cE ?_;have⟨a1,an,ap⟩:=a;have⟨b1,bn,bp⟩:=b;simp only[lK];simp[ahD,UU,aw];by_cases e1:a1=b1
 rotate_left
 .simp[e1,aZ]
 by_cases e2:an=bn
 rotate_left
 .simp[e1,e2,aZ]
 simp[e1,e2];exact⟨_,k93 ap bp ha,by simp[aZ,aJQ]⟩
def rH:aF Ac->IV
 |some k=>.aU [lK k,iB ab]
 |none=>.aU [.agg [iS [],iI 0,.tree 1 []],iB af]
variable{cs:aj (Int×IV)}{i:Nat}{ts:aj Tm}
def ab3(hc:jv cs (HK (ts.take i)))(n:Int):EI Z2 3 (iV iI cs) (iI n)=aa (iB (rG (ts.take i) n)):=by
 rw[hc.has vX,aps]
def ab4(hc:jv cs (HK ts))(n:Int):∃g:Int,o_ Z2 3 (iV iI cs) (iI n) (iI 0)=aa (iI g):=by
 have:=hc.get vX n (iI 0);unfold HK at this;cases h:LQ ts n with
 |none=>grind
 |some j=>grind
variable{Q:IV->Prop}{k0 k1:aj IV->Prop}{x0 x1 x2 x4 x5 x6 x7 x3 x8 x9:IV}{n:Nat}
def apt(a b:At)(eG:a.ts.length<=8)(hv:l_ b.ts=ab)(hl:a.ts.length=b.ts.length)(hn:a.s=b.s)(cs:aj (Int×IV))(hc:jv cs (HK b.ts))(hva:l_ a.ts=ab)(hQ:Q (rH (qj a b))):
 StQ abA Q [k0,k1] [x0,x1,x2,c_ a,x4,x5,x6,x7,iV iI cs]:=by
 have hA:=c_.eq_1 a;rw[hA];unfold qj at hQ;rw[aW ⟨hn,hl,hva,hv⟩]at hQ;refine aJ a.ts.length (λi (q:aj Int)=>[iI i,iL q]) (λi q=>q.length<=i/\Cy b.ts a.ts 0=(Cy b.ts (a.ts.drop i) i).map (q++·)) [] ?_ ⟨az,az⟩ λi q hi hI=>?_
 .rfl
 have⟨iE,hI⟩:=hI;by_cases aq:i<a.ts.length
 rotate_left
 .rw[ZX ak]at hI;simp only[Cy,ZO,Z_]at hI;rw[hI]at hQ;simp[cq,aq];exact hQ
 have hw:=aS aq ak;rw[UQ aq,Cy]at hI;have hg:=hc.get vX a.ts[i].n (iI 0);have hb:=hc.has vX a.ts[i].n;have hq:=lL (a:=q) (v:=(i:Int)) ak;unfold HK at hg hb;cases hp:LQ b.ts a.ts[i].n with
 |none=>
  rw[hp]at hI hg hb;simp[cq,aq,hw,iJ aq,bL,aw,hg,hb,aZ];exact .mk q rfl ak ⟨ak,hI⟩
 |some j=>
  rw[hp]at hI hg hb;simp[cq,aq,hw,iJ aq,bL,aw,hg,hb,aZ,aD];by_cases e:j=i
  .right;simp only[aW e]at hI;refine⟨ak,_,hq,.mk (q++[(i:Int)]) rfl ak ⟨aI,?_⟩⟩;rw[hI];generalize Cy b.ts (a.ts.drop (i+1)) (i+1)=z;cases z<;>simp
  .left;simp only[aY e]at hI;rw[hI]at hQ;exact⟨ak,hQ⟩
def apu(a:At)(eG:a.ts.length<=8)(hQ:Q (rH ah)):aby.sat Z2 CC Q [k0] [x0,x1,x2,x3,c_ a,x5,x6,x7]:=by
 have hA:=c_.eq_1 a;rw[hA];refine aJ a.ts.length (λi (cs:aj (Int×IV))=>[iI i,iS a.s,iV iI cs]) (λ_ cs=>JE cs) [] ?_ .nil λi cs hi hc=>?_
 .rfl
 by_cases aq:i<a.ts.length
 rotate_left
 .simp[cq,aq];exact hQ
 have hw:=aS aq ak;have⟨g,hg⟩:=hc.get a.ts[i].n;have⟨b,_,hb⟩:=vX.has cs a.ts[i].n;have⟨cL,sF,cX⟩:=hc.ins a.ts[i].n i;simp[cq,aq,hw,iJ aq,bL,aw,hg,hb,cX,aZ];by_cases e:a.ts[i].k=1
 rotate_left
 .left;exact⟨e,hQ⟩
 right;refine⟨e,?_⟩;cases b with
 |true=>simp;exact hQ
 |false=>simp;exact .mk cL rfl ak sF
def apv(a:At)(eG:a.ts.length<=8)(hQ:Q (rH ah)):abz.sat Z2 CC Q [k0] [x0,x1,x2,x3,c_ a,x5,x6,x7,x8,x9]:=by
 have hA:=c_.eq_1 a;rw[hA];refine aJ a.ts.length (λi (cs:aj (Int×IV))=>[iI i,iS a.s,iV iI cs]) (λ_ cs=>JE cs) [] ?_ .nil λi cs hi hc=>?_
 .rfl
 by_cases aq:i<a.ts.length
 rotate_left
 .simp[cq,aq];exact hQ
 have hw:=aS aq ak;have⟨g,hg⟩:=hc.get a.ts[i].n;have⟨b,_,hb⟩:=vX.has cs a.ts[i].n;have⟨cL,sF,cX⟩:=hc.ins a.ts[i].n i;simp[cq,aq,hw,iJ aq,bL,aw,hg,hb,cX,aZ];by_cases e:a.ts[i].k=1
 rotate_left
 .left;exact⟨e,hQ⟩
 right;refine⟨e,?_⟩;cases b with
 |true=>simp;exact hQ
 |false=>simp;exact .mk cL rfl ak sF
def ab5:HK []=λ_=>ah:=by rfl
def apw(a b:At)(EG:b.ts.length<=8)(eG:a.ts.length<=8)(hl:a.ts.length=b.ts.length)(hn:a.s=b.s)(hva:l_ a.ts=ab)(hQ:Q (rH (qj a b))):abB.sat Z2 CC Q [k0] [x0,x1,x2,c_ a,c_ b,x5,x6]:=by
 have hy:=λk1 x7 cs hc hv=>apt (Q:=Q) (k0:=k0) (k1:=k1) (x0:=x0) (x1:=x1) (x2:=x2) (x4:=c_ b) (x5:=x5) (x6:=x6) (x7:=x7) a b eG hv hl hn cs hc hva hQ
 have dw:l_ b.ts=af->Q (rH ah):=λh=>by
  unfold qj at hQ;rwa[aY (λhh=>by rw[h]at hh;exact bH hh.2.2.2 az)]at hQ
 have hA:=c_.eq_1;rw[hA,hA]at*
 refine aJ b.ts.length (λi (cs:aj (Int×IV))=>[iI i,iV iI cs]) (λi cs=>jv cs (HK (b.ts.take i))/\EN b.ts i) [] ?_ ⟨by rw[aJu,ab5];exact .nil,by simp[EN]⟩ λi cs hi hc=>?_
 .simp[cq,iV]
 have⟨hc,ho⟩:=hc;by_cases aq:i<b.ts.length
 rotate_left
 .rw[Wg ak]at hc;simp[cq,aq];exact hy _ _ _ hc (HL ho ak)
 have hw:=aS aq ak;have hb:=ab3 hc b.ts[i].n;have⟨g,hg⟩:=ab4 hc b.ts[i].n;have⟨cL,sF,cX⟩:=hc.ins vX b.ts[i].n (iI i);simp[cq,aq,hw,iJ aq,bL,aw,hg,hb,cX,aZ];by_cases e:b.ts[i].k=1
 rotate_left
 .left;exact⟨e,dw (HM aq e)⟩
 right;refine⟨e,?_⟩;cases hd:rG (b.ts.take i) b.ts[i].n with
 |true=>simp;exact dw (HN aq hd)
 |false=>
  simp;rw[ab2 aq hd]at sF;exact .mk cL rfl ak ⟨sF,EO ho aq e hd⟩
def apx(a b:At)(EG:b.ts.length<=8)(eG:a.ts.length<=8)(hl:a.ts.length=b.ts.length)(hn:a.s=b.s)(hQ:Q (rH (qj a b))):abC.sat Z2 CC Q [] [x0,x1,x2,c_ a,c_ b]:=by
 have Nh:=λk0 x5 x6 h=>apw (Q:=Q) (k0:=k0) (x0:=x0) (x1:=x1) (x2:=x2) (x5:=x5) (x6:=x6) a b EG eG hl hn h hQ
 have dw:l_ a.ts=af->Q (rH ah):=λh=>by
  unfold qj at hQ;rwa[aY (λhh=>by rw[h]at hh;exact bH hh.2.2.1 az)]at hQ
 have PZ:=λk0 x5 x6 x7 h=>apu (Q:=Q) (k0:=k0) (x0:=x0) (x1:=x1) (x2:=x2) (x3:=c_ a) (x5:=x5) (x6:=x6) (x7:=x7) b EG (dw h);have Bi:=λk0 x5 x6 x7 x8 x9 h=>apv (Q:=Q) (k0:=k0) (x0:=x0) (x1:=x1) (x2:=x2) (x3:=c_ a) (x5:=x5) (x6:=x6) (x7:=x7) (x8:=x8) (x9:=x9) b EG (dw h);have hA:=c_.eq_1;rw[hA,hA]at*
 refine aJ a.ts.length (λi (cs:aj (Int×IV))=>[iI i,iV iI cs]) (λi cs=>jv cs (HK (a.ts.take i))/\EN a.ts i) [] ?_ ⟨by rw[aJu,ab5];exact .nil,by simp[EN]⟩ λi cs hi hc=>?_
 .simp[cq,iV]
 have⟨hc,ho⟩:=hc;by_cases aq:i<a.ts.length
 rotate_left
 .simp[cq,aq];exact Nh _ _ _ (HL ho ak)
 have hw:=aS aq ak;have hb:=ab3 hc a.ts[i].n;have⟨g,hg⟩:=ab4 hc a.ts[i].n;have⟨cL,sF,cX⟩:=hc.ins vX a.ts[i].n (iI i);simp[cq,aq,hw,iJ aq,bL,aw,hg,hb,cX,aZ];by_cases e:a.ts[i].k=1
 rotate_left
 .left;exact⟨e,PZ _ _ _ _ (HM aq e)⟩
 right;refine⟨e,?_⟩;cases hd:rG (a.ts.take i) a.ts[i].n with
 |true=>simp;exact Bi _ _ _ _ _ _ (HN aq hd)
 |false=>
  simp;rw[ab2 aq hd]at sF;exact .mk cL rfl ak ⟨sF,EO ho aq e hd⟩
def LR(k:aF Ac):Pure (rH k)/\pU Z2 171 (rH k)=ab:=by
 cases k with
 |none=>exact⟨.aU _ (by simp;exact .agg _ (by simp;exact .tree _ _ az)),kr⟩
 |some k=>exact⟨.aU _ (by simp[qe]),kr⟩
def azE(r:Rl)(h:iF r):CC 171 af [cy r] (rH (th r)):=by
 refine CC.of atJ kr (LR _).2 (jh (fO r)) (LR _).1 ?_;have hh:=h.h;have h33:=Ny r ak;have GN:=aDn r;have eG:=h.hs;have hy:=λx0 x1 x2 a b h1 h2=>apx (Q:=(·=rH (th r))) (x0:=x0) (x1:=x1) (x2:=x2) a b h1 h2
 have hN:th r=match r.aA++r.aC with
  |[a,b]=>if r.aC=[]\/r.aL≠[]then ah else qj a b
  |_=>ah:=rfl
 generalize th r=kk at*
 rw[bQ]at*
 generalize r.aA++r.aC=hs at*
 have dw:kk=ah->(.aU [.agg [iS [],iI 0,.tree 1 []],iB af]:IV)=rH kk:=λh=>by rw[h];rfl
 simp[amQ,UU,aw];exists _,h33;simp;by_cases e1:hs.length=2
 rotate_left
 .left;refine⟨ak,dw ?_⟩;rw[hN];split
  .simp at e1
  .rfl
 right;exists ak,_,GN
 match hs,e1 with
 |[a0,a1],_=>
 simp only at hN;by_cases e2:r.aC=[]
 .simp[e2];exact dw (by rw[hN,aW (.inl e2)])
 simp[e2];by_cases e3:0<r.aL.length
 .left;exact⟨e3,dw (by rw[hN,aW (.inr (by intro h;rw[h]at e3;simp at e3))])⟩
 right;refine⟨by simpa using e3,?_⟩;have e3':r.aL=[]:=by simpa using e3
 rw[aY (by simp[e2,e3'])]at hN;have i0:cu 2 (db [a0,a1]) (iI 0)=aa (.agg [iS a0.s,iT a0.ts]):=cM (i:=0) (x:=c_ a0) rfl rfl;have i1:cu 2 (db [a0,a1]) (iI 1)=aa (.agg [iS a1.s,iT a1.ts]):=cM (i:=1) (x:=c_ a1) rfl rfl;have hA:=c_.eq_1;have hy:=λx0 x1 x2=>hy x0 x1 x2 a0 a1 (eG _ az) (eG _ az);rw[hA,hA]at hy;simp only[db,ZM,Wk]at i0 i1;simp[i0,i1];by_cases e4:a0.s=a1.s
 rotate_left
 .left;exact⟨e4,dw (by rw[hN];unfold qj;rw[aY λh=>e4 h.1])⟩
 right;exists e4;by_cases e5:a0.ts.length=a1.ts.length
 rotate_left
 .left;exact⟨ak,dw (by rw[hN];unfold qj;rw[aY λh=>e5 h.2.1])⟩
 right;exists ak;exact hy _ _ _ e5 e4 (by rw[hN])
def azF(p:Pg)(hp:f_ p):CC 113 af [bc p] (dC (mQ p.aX)):=by
 refine CC.of atI kr kr (jh (cz p)) az ?_;have hP:=bc.eq_1 p;have hr:=hp.r;rw[hP];simp[amP,UU,aw];unfold abx;refine aJ p.aX.length (λi (ks:aj Ac)=>[iI i,dC ks]) (λi ks=>ks=mQ (p.aX.take i)) [] ?_ cE λi ks hi hI=>?_
 .rfl
 have bM:=EM p.aX hp.rs i hi;rw[<-hI]at bM;have⟨gR,jC⟩:=bM;by_cases aq:i<p.aX.length
 rotate_left
 .rw[Wg ak]at hI;simp[UU,aq,hI]
 have hw:=aS aq ak;have F3:=hp.rs _ (Z4 aq);have auJ:=azE p.aX[i] F3;have bI:=JF aq;rw[<-hI]at bI;have j_:qJ p.aX.length (λi (ks:aj Ac)=>[iI i,dC ks]) (λi ks=>ks=mQ (p.aX.take i)) i [iI (i+1:Nat),dC (oW ks (th p.aX[i]))]:=.mk _ rfl ak bI.symm;have ub:∀k,th p.aX[i]=aa k->k.ps.length<=8:=λk h=>aGy h F3.hs;have hC:=lK.eq_1;rw[bQ]at auJ;have hR:=nQ aq;generalize th p.aX[i]=kk at*
 simp[UU,aq,hR,aw];exists _,auJ;cases kk with
 |none=>
  simp[rH,aw,hw];exact j_
 |some k=>
 have ub:=ub k rfl;have aDI:=λj (hj:j<ks.length)=>azD ks[j] k aI;simp[rH,hC,aw];refine aJ ks.length (λj (_:Unit)=>[iI j]) (λj _=>∀x∈ks.take j,x≠k) () ?_ az λj _ hj hJ=>?_
 .rfl
 by_cases fQ:j<ks.length
 .have tB:=aS fQ ak;have hq:=aDI j fQ;simp[UU,fQ,Ak fQ,tB,aw,aD];exists _,hq;by_cases e:ks[j]=k
  .have:oW ks (aa k)=ks:=by show EL ks k=ks;grind [EL]
   simp_all
  .simp[e];exact .mk () rfl ak (bN fQ hJ e)
 .have hm:=λh=>cb fQ hJ k h rfl;have:oW ks (aa k)=ks++[k]:=by show EL ks k=_;simp_all[EL]
  rw[this]at j_;simp[UU,fQ,hw,aD,VC (show ks.length<=1000 by omega)]
  grind
def ahM{j:Nat}(hi:i<ts.length)(hj:j<i)(h:ts[j].n=ts[i].n):rG (ts.take i) ts[i].n=ab:=
 qD.2 ⟨ts[j],TF.2 ⟨j,ak,rfl⟩,h⟩
def apy{n:Int}(h:∀t∈ts.take i,t.n≠n):rG (ts.take i) n=af:=by
 rw[X1];exactλhh=>by have⟨t,ht,he⟩:=qD.1 hh;grind
def am7(a:At)(h:a.ts.length<=1000):CC 147 af [c_ a] (iB (l_ a.ts)):=by
 refine CC.dB (av:=[c_ a]) axG kr (λ_=>kr) (jh (xR a)) cE ?_;have hA:=c_.eq_1 a;rw[hA];simp[alO,UU,aw];refine aJ a.ts.length (λi (_:Unit)=>[iI i]) (λi _=>EN a.ts i) () ?_ (by simp[EN]) λi _ hi hI=>?_
 .rfl
 by_cases aq:i<a.ts.length
 .have hw:=aS aq ak;simp[UU,aq,iJ aq,bL,aw];by_cases e:a.ts[i].k=1
  .right;exists e;refine aJ i (λj (_:Unit)=>[iI j]) (λj _=>∀t∈a.ts.take j,t.n≠a.ts[i].n) () ?_ az λj _ hj hJ=>?_
   .rfl
   by_cases fQ:j<i
   .have DP:j<a.ts.length:=ak;have tB:=aS fQ ak;simp[UU,fQ,iJ aq,iJ DP,bL,aw,tB];by_cases e2:a.ts[j].n=a.ts[i].n
    .left;exact⟨e2,HN aq (ahM aq fQ e2)⟩
    .right;exact⟨e2,.mk () rfl ak (bN DP hJ e2)⟩
   .obtain rfl:j=i:=ak;simp[UU,hw];exact .mk () rfl ak (EO hI aq e (apy hJ))
  .left;exact⟨e,HM aq e⟩
 .simp[UU,aq,HL hI ak]
def aDJ(a b:Ac)(ha:Sm a.ps):CC 80 af [lK a,lK b] (iB (decide (a=b))):=by
 refine CC.dB (av:=[lK a,lK b]) aBW kr (λ_=>kr) (qC (qe a) (qe b)) cE ?_;have⟨a1,an,ap⟩:=a;have⟨b1,bn,bp⟩:=b;simp only[lK];simp[ary,UU,aw];by_cases e1:a1=b1
 rotate_left
 .left;exact⟨e1,λh=>bH h e1⟩
 right;exists e1;by_cases e2:an=bn
 rotate_left
 .left;exact⟨e2,λ_ h=>bH h e2⟩
 right;exists e2;by_cases e3:ap.length=bp.length
 rotate_left
 .left;exact⟨ak,λ_ _ h=>bH (congrArg List.length h) e3⟩
 right;exists ak;refine aJ ap.length (λi (_:Unit)=>[iI i]) (λi _=>ap.take i=bp.take i) () ?_ az λi _ hi hI=>?_
 .simp[UU]
 by_cases aq:i<ap.length
 .have cR:i<bp.length:=ak;have hw:=aS aq ha;simp[UU,aq,jf cR,hw];by_cases e4:ap[i]=bp[i]
  .right;exact⟨e4,.mk () rfl ak (by rw[ZN aq,ZN cR,hI,e4])⟩
  .left;exact⟨e4,λ_ _ h=>e4 (by subst h;rfl)⟩
 .rw[Wg ak,Wg ak]at hI;subst hI;simp[UU,aq,e1,e2]
def auK(hs:aj At)(h2:hs.length=2)(eG:∀a∈hs,a.ts.length<=8)(a0 a1:At)(e0:hs[0]?=aa a0)(e1:hs[1]?=aa a1)(hl:a0.ts.length=a1.ts.length)(hv:l_ a1.ts=ab)
 (hQ:Q (rH ((Cy a1.ts a0.ts 0).map λps=>⟨a0.s,a0.ts.length,ps⟩))):
 StQ agm Q [] [x0,db hs,x2,x3,x4,x5,x6,x7,x8,x9,c_ a0,c_ a0]:=by
 have i0:cu 2 (db hs) (iI 0)=aa (.agg [iS a0.s,iT a0.ts]):=cM (i:=0) (x:=c_ a0) aI rfl;have i1:cu 2 (db hs) (iI 1)=aa (.agg [iS a1.s,iT a1.ts]):=cM (i:=1) (x:=c_ a1) aI rfl;have px:=eG _ (ZU e0);have nj:=((BJ a1.ts).1 hv).2;have hA:=c_.eq_1 a0;rw[hA];refine aJ a0.ts.length (λi (q:aj Int)=>[iI i,iL q]) (λi q=>q.length<=i/\Cy a1.ts a0.ts 0=(Cy a1.ts (a0.ts.drop i) i).map (q++·)) [] ?_ ⟨az,az⟩ λi q hi hI=>?_
 .rfl
 have⟨iE,hI⟩:=hI;by_cases aq:i<a0.ts.length
 rotate_left
 .rw[ZX ak]at hI;simp only[Cy,ZO,Z_]at hI;rw[hI]at hQ;simp[UU,i0,aq,aw];exact hQ
 have hw:=aS aq ak;rw[UQ aq,Cy]at hI;simp[UU,i0,aq,aw];refine aJ a1.ts.length (λj (q:aj Int)=>[iI j,iL q]) (λj q'=>(q'=q/\∀t∈a1.ts.take j,t.n≠a0.ts[i].n)\/(q'=q++[(i:Int)]/\LQ a1.ts a0.ts[i].n=aa i/\i<j)) q ?_ (.inl ⟨rfl,az⟩) λj q' hj hJ=>?_
 .rfl
 by_cases fQ:j<a1.ts.length
 rotate_left
 .simp[UU,i1,fQ,hw,aw];rcases hJ with⟨rfl,hJ⟩|⟨rfl,hp,_⟩
  .have hp:=akR.2 (cb fQ hJ);rw[hp]at hI;exact .mk _ rfl ak ⟨ak,hI⟩
  .rw[hp]at hI;refine .mk _ rfl ak ⟨aI,?_⟩;rw[hI];generalize Cy a1.ts (a0.ts.drop (i+1)) (i+1)=z;cases z<;>simp
 have tB:=aS fQ ak
 have ED:q'.length<=i+1:=by
  grind
 simp[UU,i0,i1,fQ,tB,aw,iJ aq,iJ fQ,bL];by_cases ea:a0.ts[i].n=a1.ts[j].n
 rotate_left
 .left;refine⟨ea,.mk _ rfl ak ?_⟩;rcases hJ with⟨rfl,hJ⟩|⟨rfl,hp,sG⟩
  .exact .inl ⟨rfl,bN fQ hJ λh=>ea h.symm⟩
  grind
 right;exists ea;have hp:=akQ nj fQ ea.symm;by_cases eb:i=j
 rotate_left
 .left;exists ak;simp only[hp,aY (show¬j=i by omega)]at hI;rw[hI]at hQ;exact hQ
 right;exists ak;subst eb;rcases hJ with⟨rfl,hJ⟩|⟨_,_,sG⟩
 .simp[aZ,aD];exact⟨_,lL ak,.mk _ rfl ak (.inr ⟨rfl,hp,ak⟩)⟩
 .omega
def aDK(r:Rl)(h:iF r):CC 79 af [cy r] (rH (th r)):=by
 refine CC.of aBV kr (by
  cases th r with
  |none=>exact kr
  |some k=>exact kr) (jh (fO r)) (LR _).1 ?_
 have hh:=h.h;have UB:=Nv r ak;have eG:=h.hs;have hy:=λx0 x2 x3 x4 x5 x6 x7 x8 x9=>auK (Q:=(·=rH (th r))) (x0:=x0) (x2:=x2) (x3:=x3) (x4:=x4) (x5:=x5) (x6:=x6) (x7:=x7) (x8:=x8) (x9:=x9) (r.aA++r.aC)
 have hN:th r=match r.aA++r.aC with
  |[a,b]=>if r.aC=[]\/r.aL≠[]then ah else qj a b
  |_=>ah:=rfl
 generalize th r=kk at*
 rw[bQ]at*
 generalize r.aA++r.aC=hs at*
 have dw:kk=ah->(.aU [.agg [iS [],iI 0,.tree 1 []],iB af]:IV)=rH kk:=λh=>by rw[h];rfl
 simp[arw,UU,aw];exists _,UB;simp;by_cases e1:hs.length=2
 rotate_left
 .left;refine⟨ak,dw ?_⟩;rw[hN];split
  .simp at e1
  .rfl
 right;exists ak
 obtain⟨a0,a1,uc⟩:∃a0 a1,hs=[a0,a1]:=by
  match hs,e1 with
  |[a,b],_=>exact⟨a,b,rfl⟩
 simp only[uc]at hN;have e0:hs[0]?=aa a0:=by rw[uc];rfl
 have dt:hs[1]?=aa a1:=by rw[uc];rfl
 by_cases e2:r.aC=[]
 .left;exact⟨e2,dw (by rw[hN,aW (.inl e2)])⟩
 right;exists e2;by_cases e3:0<r.aL.length
 .left;exact⟨e3,dw (by rw[hN,aW (.inr (by intro h;rw[h]at e3;simp at e3))])⟩
 right;refine⟨by simpa using e3,?_⟩;have e3':r.aL=[]:=by simpa using e3
 rw[aY (by simp[e2,e3'])]at hN;have i0:cu 2 (db hs) (iI 0)=aa (.agg [iS a0.s,iT a0.ts]):=cM (i:=0) (x:=c_ a0) (by simp[e0]) rfl;have i1:cu 2 (db hs) (iI 1)=aa (.agg [iS a1.s,iT a1.ts]):=cM (i:=1) (x:=c_ a1) (by simp[dt]) rfl;have h0:=am7 a0 (by have:=eG a0 (ZU e0);omega);have h1:=am7 a1 (by have:=eG a1 (ZU dt);omega);have hA:=c_.eq_1;rw[hA]at h0 h1;have hy:=λx0 x2 x3 x4 x5 x6 x7 x8 x9=>hy x0 x2 x3 x4 x5 x6 x7 x8 x9 e1 eG a0 a1 e0 dt;simp[i0,i1];by_cases e4:a0.s=a1.s
 rotate_left
 .left;exact⟨e4,dw (by rw[hN];unfold qj;rw[aY λh=>e4 h.1])⟩
 right;exists e4;by_cases e5:a0.ts.length=a1.ts.length
 rotate_left
 .left;exact⟨ak,dw (by rw[hN];unfold qj;rw[aY λh=>e5 h.2.1])⟩
 right;exists ak,_,h0;cases hb0:l_ a0.ts with
 |false=>simp;exact dw (by rw[hN];unfold qj;rw[aY λh=>by rw[hb0]at h;exact bH h.2.2.1 az])
 |true=>
 simp;exists _,h1;cases dL:l_ a1.ts with
 |false=>simp;exact dw (by rw[hN];unfold qj;rw[aY λh=>by rw[dL]at h;exact bH h.2.2.2 az])
 |true=>
 simp;refine hy _ _ _ _ _ _ _ _ _ e5 dL ?_;rw[hN];unfold qj;rw[aW ⟨e4,e5,hb0,dL⟩]
def aDL(p:Pg)(hp:f_ p):CC 29 af [bc p] (dC (mQ p.aX)):=by
 refine CC.of aBU kr kr (jh (cz p)) az ?_;have hP:=bc.eq_1 p;have hr:=hp.r;rw[hP];simp[aru,UU,aw];unfold agl;refine aJ p.aX.length (λi (ks:aj Ac)=>[iI i,dC ks]) (λi ks=>ks=mQ (p.aX.take i)) [] ?_ cE λi ks hi hI=>?_
 .rfl
 have bM:=EM p.aX hp.rs i hi;rw[<-hI]at bM;have⟨gR,jC⟩:=bM;by_cases aq:i<p.aX.length
 rotate_left
 .rw[Wg ak]at hI;simp[UU,aq,hI]
 have hw:=aS aq ak;have F3:=hp.rs _ (Z4 aq);have h79:=aDK p.aX[i] F3;have bI:=JF aq;rw[<-hI]at bI;have j_:qJ p.aX.length (λi (ks:aj Ac)=>[iI i,dC ks]) (λi ks=>ks=mQ (p.aX.take i)) i [iI (i+1:Nat),dC (oW ks (th p.aX[i]))]:=.mk _ rfl ak bI.symm;have hC:=lK.eq_1;rw[bQ]at h79;have hR:=nQ aq;generalize th p.aX[i]=kk at*
 have h80:=λ(k:Ac) j (hj:j<ks.length)=>(aDJ ks[j] k aI).zm (tQ rfl);simp only[hC]at h80;simp[UU,aq,hR,aw];exists _,h79;cases kk with
 |none=>
  simp[rH,aw];unfold agk;refine aJ ks.length (λj (b:Bool)=>[iI j,iB b]) (λ_ b=>b=af) af ?_ rfl λj b hj hb=>?_
  .rfl
  subst hb;by_cases fQ:j<ks.length
  .have tB:=aS fQ ak;simp[UU,fQ,tB];exact .mk af rfl ak rfl
  .simp[UU,fQ,hw];exact j_
 |some k=>
 have h80:=h80 k;simp[rH,hC,aw];refine aJ ks.length (λj (b:Bool)=>[iI j,iB b]) (λj b=>b= !decide (k∈ks.take j)) ab ?_ az λj b hj hb=>?_
 .rfl
 by_cases fQ:j<ks.length
 .have tB:=aS fQ ak;have hq:=h80 j fQ
  have bI:(!decide (k∈ks.take (j+1)))=(b&& !decide (ks[j]=k)):=by
   have hm:k∈ks.take (j+1)↔k∈ks.take j\/k=ks[j]:=by rw[ZN fQ,ZV,Z3]
   grind
  cases b with
  |true=>
   simp[UU,fQ,Ak fQ,tB,aw,aD];exists _,hq;simp;exact .mk (!decide (ks[j]=k)) rfl ak aI
  |false=>
   simp[UU,fQ,tB];exact .mk af rfl ak aI
 .rw[Wg ak]at hb;cases b with
  |true=>
   have hm:k∉ks:=aI;have:oW ks (aa k)=ks++[k]:=by show EL ks k=_;simp_all[EL]
   rw[this]at j_;simp[UU,fQ,hw,aD,aw,VC (show ks.length<=1000 by omega)]
   grind
  |false=>
   have hm:k∈ks:=aI;have:oW ks (aa k)=ks:=by show EL ks k=ks;simp_all[EL]
   rw[this]at j_;simp[UU]
   grind
def azG(ks:aj Ac)(hk:ks.length<=1000)(hp:∀k∈ks,Sm k.ps)(s:aj UInt8)(ps:aj Int)(nf:Sm ps):CC 149 af [dC ks,iS s,iL ps] (iB (ma ks s ps)):=by
 refine CC.dB (av:=[dC ks,iS s,iL ps]) axH kr (λ_=>kr) az cE ?_;simp[alP,UU];refine aJ ks.length (λi (_:Unit)=>[iI i]) (λi _=>ma ks s ps=ma (ks.drop i) s ps) () ?_ az λi _ hi hI=>?_
 .simp[UU]
 by_cases aq:i<ks.length
 rotate_left
 .rw[ZX ak,show ma ([]:aj Ac) s ps=af from rfl]at hI;simp[UU,aq,hI]
 have hw:=aS aq ak;have J7:=hp _ (Z4 aq);simp only[UQ aq,ma,aKV]at hI;simp[UU,aq,Ak aq,aw];refine aJ ks[i].ps.length (λj (b:Bool)=>[iI j,iB b]) (λj b=>b=(ks[i].s==s&&(ks[i].ps.take j).all λv=>decide (v∈ps))) (ks[i].s==s) ?_ az λj b hj hJ=>?_
 .simp[UU]
 by_cases fQ:j<ks[i].ps.length
 .have tB:=aS fQ J7;have aDM:=aCK ps ks[i].ps[j] nf
  have bI:(ks[i].s==s&&(ks[i].ps.take (j+1)).all λv=>decide (v∈ps))=(b&&decide (ks[i].ps[j]∈ps)):=by
   rw[hJ,ZN fQ,List.all_append,Bool.and_assoc];simp
  cases b with
  |true=>
   simp[UU,fQ,Ak aq,aw,tB];exact⟨_,aDM,by simp;exact .mk _ rfl ak (by rw[bI];simp)⟩
  |false=>
   simp[UU,fQ,Ak aq,aw,tB];exact .mk af rfl ak (by rw[bI];simp)
 .rw[Wg ak]at hJ;have hcd:(λv=>ps.contains v)=λv=>decide (v∈ps):=by funext v;simp
  rw[hcd,<-hJ]at hI;cases b with
  |true=>
   have:ma ks s ps=ab:=by unfold ma;rw[hcd,hI];rfl
   simp[UU,fQ,Ak aq,aw,this]
  |false=>
   simp[UU,fQ,Ak aq,aw,hw];exact .mk () rfl ak (by unfold ma;rw[hcd,hI];rfl)
def apz:au:=
 (xx (jZ bB qQ qQ) 3 6 bB (nP 95 (tc 5 6) (.nt iD (tO 6 7 8) (nP 175 (I6 (lE vS sf sf pj (Es pj bB 2)) (tc 5 6)) (mY po .gtr po iC (Eo 1 6 (ow po 6)) (tO 6 7 8))))) (r_ ga 1 8 5 1 8 (wH 0 9)))
def apA:au:=
 (y7 (Es bB C6 1) 7 Ji g_ 7 10 (vj 160 (lE vS sf sf pj (Es pj bB 2)) ga po (ik 11 (jH 1 24 9 1 l7 (jH 1 8 8 1 po (tO 7 13 12))))) (nP 161 (ow (lE vS sf sf pj (kT pj bB)) 8) (ik 10 (.ret (J3 2 0 2 1 (r8 AH 6 (kT lG po)))))))
def apB:au:=
 (Zi (kI C6) tM .lss tM bB apz (yR 1 ej gM tM (fE (.rw vl) Ji apA)))
def apC:au:=
 (xx (jZ bB qQ qQ) 3 6 bB (nP 95 (tc 5 6) (.nt iD (tO 6 7 8) (nP 175 (I6 (lE vS sf sf pj (Es pj bB 2)) (tc 5 6)) (mY po .gtr po iC (Eo 1 6 (ow po 6)) (tO 6 7 8))))) (r_ ga 1 8 5 1 8 (wH 0 9)))
def apD:au:=
 (y7 (Es bB C6 1) 7 Ji g_ 7 10 (vj 160 (lE vS sf sf pj (Es pj bB 2)) ga po (ik 11 (jH 1 24 9 1 l7 (jH 1 8 8 1 po (tO 7 13 12))))) (nP 161 (ow (lE vS sf sf pj (kT pj bB)) 8) (ik 10 (.ret (J3 2 0 2 1 (r8 AH 6 (kT lG po)))))))
def apE:au:=
 (Zi (kI C6) tM .lss tM bB apC (yR 1 ej gM tM (fE (.rw vl) Ji apD)))
def ab6:au:=
 (xx (jZ bB qQ qQ) 3 9 AU (nP 95 (tc 8 9) (.nt vm (tO 9 10 11) (nP 175 (I6 (yH 5 0 5 1 5 2 5 3 (uJ 5 4 5 5 eu)) (tc 8 9)) (mY AV .gtr AV lF (Eo 1 9 (ow AV 9)) (tO 9 10 11))))) (r_ AN 1 8 8 1 11 (wH 0 12)))
def SL:au:=
 (y7 (Es bB C6 1) 10 (o8 9) lG 10 13 (vj 160 (yH 5 0 5 1 5 2 5 3 (uJ 5 4 5 5 eu)) AN AV (ik 14 (jH 1 24 12 1 Jh (jH 1 8 11 1 AV (tO 10 16 15))))) (nP 161 (ow (eB 5 5 5 5 5 5) 11) (ik 13 (.ret (J3 2 0 2 1 (r8 AH 9 (kT p8 AV)))))))
def ab7:au:=
 (.loop (kI C6) (fE FP AU (vp FP AU (.aQ AU ab6) (yR 1 ga gM FP (fE (.rw vl) (o8 9) SL)))))
def am8:au:=
 (zb (Em 3 2 (Db 87 3 (p6 86 cw (ft 2 2 2) 4 (fC cT (.ret (BW bB (ry eY AF (Ld AF 1)))) (oz .lss 2 0 (tH vl apB) (sh du ny du (tH vl apE) (qb ny 5 (qb ny 6 (y8 33 6 6 6 6 6 6 eu (.rw vl) ab7))))))))))
def auL:bG Z2 (amC [aP 1 114065 4 [19] [(12,3),(12,0),(11,1),(11,0),(10,4)] [16],aP 0 114 5 [] [(6,1),(6,0)] [29],aP 0 114 8 [10,11,39] [(6,1)]]) 114=am8:=kr
def zy:∀(a b:aj Int),a.Nodup->(∀v∈a,v∈b)->a.length<=b.length
 |[],_,_,_=>by simp
 |x::a,b,hn,hs=>by
  obtain⟨b1,b2,rfl⟩:=VI (hs x az);have mD:=UA.1 hn
  have ih:=zy a (b1++b2) mD.2 λu hu=>by
   have:=hs u (Ys _ hu);rw[ZV,ZP]at this;rw[ZV];rcases this with h|rfl|h
   .exact .inl h
   .exact bH hu mD.1
   .exact .inr h
  simp at ih⊢;omega
variable{aE doneZQ:aj Int}{m b:Nat}{v c h:Int}{x y z:IV}
def apF{m:Int}(hn:(m::aE).Nodup)(hv:pq n (m::aE))(hl:aE.length+1=n):qY n m aE=ab:=by
 have cQ:=HF (m::aE) (lN n) hn (λv h=>nG.2 (hv v h)) (by rw[nD];simp;omega)
 have hs:∀v∈parts n m,v∈aE:=λv O6=>by
  obtain⟨h1,h2⟩:=rT.1 O6;rcases ZP.1 (cQ v (nG.2 h1))with h|h
  .exact bH h h2
  .exact h
 have ki:∀v∈aE,v∈parts n m:=λv O6=>rT.2 ⟨hv v (Ys _ O6),λh=>by
  subst h;exact(UA.1 hn).1 O6⟩
 have h1:=zy _ _ (s6 n m) hs;have h2:=zy _ _ (UA.1 hn).2 ki;unfold qY;rw[VM,decide_eq_true_eq,decide_eq_true_eq];exact⟨ak,hs⟩
def auM(r:Rl)(h:iF r)(gq:pB r)(hf:gy r)(o:Oc)(aO:aj Int)(ho:aO.length<=50)(hv:pq (r.aA++r.aC).length aO)(hQ:Q (bT (fp r o aO))):
 SL.sat Z2 CC Q [k0] [x0,x1,eS o,x3,x4,cy r,x6,db (r.aA++r.aC),x8,iL aO]:=by
 have yg:=h.h;rw[<-UR]at yg;have zk:=λdoneZQ (hd:doneZQ.length<=100) n a ha=>ako ab r (r.aA++r.aC) yg h.hs gq.hs hf.hs doneZQ hd n a ha;have BZ:=atQ r h gq hf (o.h::aO) eE;have hO:=eS.eq_1 o;simp only[Aq]at zk;rw[hO,bQ]at*
 unfold fp bT at hQ;simp only at hQ;generalize hS:r.aA++r.aC=hs at*
 unfold SL;refine aJ aO.length (λi (q:aj (aj Int))=>[iI i,iL (o.h::aO.take i),eQ q]) (λi q=>q++eA hs (o.h::aO.take i) (aO.drop i)=eA hs [o.h] aO/\q.length<=i) [] ?_ az λi q hi hI=>?_
 .simp[UU,aw,aD]
 obtain⟨hI,ED⟩:=hI;by_cases aq:i<aO.length
 .have nC:=aS aq ak;obtain⟨hv0,Np⟩:=hv _ (Z4 aq);have mB:aO[i]=((aO[i].toNat:Nat):Int):=ak;have cR:aO[i].toNat<hs.length:=ak;have sD:=zk (o.h::aO.take i) eE aO[i].toNat _ (UN cR);rw[<-mB]at sD
  have rP:gB hs aO[i]=hs[aO[i].toNat].ts:=by
   simp only[gB,aW hv0];rw[UN cR]
  rw[UQ aq,eA,rP]at hI;have bI:o.h::aO.take (i+1)=(o.h::aO.take i)++[aO[i]]:=by rw[ZN aq];rfl
  have dz:=lL (a:=o.h::aO.take i) (v:=aO[i]) eE;have oT:=Ao (a:=q) (v:=gm hs (o.h::aO.take i) hs[aO[i].toNat].ts) ak;generalize hD:o.h::aO.take i=D at*
  simp[UU,aq,nC,jf aq,aw];refine⟨_,sD,?_⟩;simp[aw,aZ,aD,dz,oT];refine .mk (q++[gm hs D hs[aO[i].toNat].ts]) ?_ ak ⟨by rw[bI,<-hI];simp,eE⟩;rw[bI];rfl
 .rw[ZX ak,eA,Z_]at hI;subst hI;rw[Wg ak]at*
  generalize eA hs [o.h] aO=K at*
  generalize dV hs r.aL (o.h::aO)=T at*
  generalize o.h::aO=D at*
  simp[UU,aq,aw];refine⟨_,BZ,?_⟩;simpa[aw]using hQ
def PlR(p:Pg)(o:Oc)(x:Pn):Prop:=x.o=o/\wu p x=ab/\Lw x/\x.bj.length<=3
def aeW(r:Rl)(h:iF r)(o:Oc)(aO:aj Int)(ho:aO.length<=3):Lw (fp r o aO):=by
 have hk:=Jz (r.aA++r.aC) aO [o.h];have ht:=qf (r.aA++r.aC) r.aL (o.h::aO);have hg:=h.g;refine⟨?_,?_,?_,λl hl=>?_,λl hl=>?_⟩
 .show aO.length<=_;omega
 .show(eA _ _ _).length<=_;omega
 .show(dV _ _ _).length<=_;rw[ht];simp;omega
 .have:=LI h.hs _ _ l hl;unfold Sm;omega
 .have:=(aIA l hl).1;unfold Sm;omega
def iH(r:Rl)(ks:aj Ac)(doneZQ:aj Int)(v:Int):Int:=match(r.aA++r.aC)[v.toNat]? with
 |some a=>(if ma ks a.s (gm (r.aA++r.aC) doneZQ a.ts)=ab then 100 else 10*((gm (r.aA++r.aC) doneZQ a.ts).length:Int))+if(r.aA.length:Int)<=v then 1 else 0
 |none=>0
def aeX(r:Rl)(ks:aj Ac)(doneZQ:aj Int)(v:Int):0<=iH r ks doneZQ v:=by
 unfold iH;split
 .split<;>split<;>omega
 .omega
def fj(n:Nat)(doneZQ:aj Int):aj Int:=(lN n).filter λv=> !decide (v∈doneZQ)
def kh(sc:Int->Int)(c:Int)(cs:aj Int):Int:=cs.foldl (λb x=>if sc b<sc x then x else b) c
def aHE(sc:Int->Int):∀(cs:aj Int) (c:Int),kh sc c cs∈c::cs
 |[],c=>by simp[kh]
 |x::cs,c=>by
  have:=aHE sc cs (if sc c<sc x then x else c);unfold kh at this⊢;rw[Zv];rcases ZP.1 this with h|h
  .rw[h];split<;>simp
  .simp[h]
def aJw(sc:Int->Int)(c:Int)(cs:aj Int)(x:Int):kh sc c (cs++[x])=if sc (kh sc c cs)<sc x then x else kh sc c cs:=by
 unfold kh;rw[List.foldl_append];rfl
def Gi:v∈fj n doneZQ↔(0<=v/\v<n)/\v∉doneZQ:=by
 unfold fj;rw[Qz,nG];simp
def BK(r:Rl)(ks:aj Ac)(n:Nat):Nat->aj Int->aj Int
 |0,_=>[]
 |f+1,doneZQ=>match fj n doneZQ with
  |[]=>[]
  |c::cs=>kh (iH r ks doneZQ) c cs::BK r ks n f (doneZQ++[kh (iH r ks doneZQ) c cs])
def xD(r:Rl)(ks:aj Ac)(h:Int):aj Int:=BK r ks (r.aA++r.aC).length 4 [h]
def azH(r:Rl)(h:iF r)(gq:pB r)(hf:gy r)(ks:aj Ac)(hk:ks.length<=1000)(jC:∀k∈ks,k.ps.length<=100)(doneZQ:aj Int)(hd:doneZQ.length<=100)(n:Nat)(hn:n<(r.aA++r.aC).length):
 CC 175 ab [Aq r (r.aA++r.aC),dC ks,iL doneZQ,iI n] (iI (iH r ks doneZQ n)):=by
 refine CC.B9 (av:=[Aq r (r.aA++r.aC),dC ks,iL doneZQ,iI n]) aoW kr (λ_=>kr) (by
  intro y hy;rcases ZP.1 hy with rfl|hy
  .exact F_ r _
  .simp at hy;rcases hy with rfl|rfl|rfl<;>simp) cE ?_
 have yg:=h.h;rw[<-UR]at yg;have zk:=ako af r (r.aA++r.aC) yg h.hs gq.hs hf.hs doneZQ hd n _ (UN hn);have gR:=YE (ady (r.aA++r.aC) doneZQ (r.aA++r.aC)[n].ts) (h.hs _ (Z4 hn))
 have rN:iH r ks doneZQ n=(if ma ks (r.aA++r.aC)[n].s (gm (r.aA++r.aC) doneZQ (r.aA++r.aC)[n].ts)=ab then 100 else 10*((gm (r.aA++r.aC) doneZQ (r.aA++r.aC)[n].ts).length:Int))+if(r.aA.length:Int)<=n then 1 else 0:=by
  unfold iH;rw[PT,UN hn]
 rw[rN];generalize gm (r.aA++r.aC) doneZQ (r.aA++r.aC)[n].ts=kn at*
 have hA:=lI hn;have aDN:=azC ks hk jC (r.aA++r.aC)[n].s kn (by unfold Sm;omega);have SM:=aDA r (r.aA++r.aC) n;have hw:QY.wrap (10*(kn.length:Int))=10*(kn.length:Int):=eU ak ak;have JQ:QY.wrap (10*(kn.length:Int)+1)=10*(kn.length:Int)+1:=eU ak ak;generalize ma ks (r.aA++r.aC)[n].s kn=b at*
 generalize r.aA++r.aC=hs at*
 simp only[Aq]at*
 simp[ahE,UU,aw];exists _,zk;simp[hw,hA,aw];exists _,aDN;by_cases q:(r.aA.length:Int)<=(n:Int)
 .rw[decide_eq_true q]at SM;have q':r.aA.length<=n:=ak;cases b with
  |true=>
   simp;exists _,SM;simp[aZ,q']
  |false=>
   simp;exists _,SM;simp[JQ,aZ,q']
 .rw[decide_eq_false q]at SM;have q':¬r.aA.length<=n:=ak;cases b with
  |true=>
   simp;exists _,SM;simp[aZ,q']
  |false=>
   simp;exists _,SM;simp[aZ,q']
def aDO(p:Pg)(hp:f_ p)(hf:∀r∈p.aX,gy r)(ks:aj Ac)(hk:ks.length<=1000)(jC:∀k∈ks,Sm k.ps)(i:Nat)(r:Rl)(hi:p.aX[i]?=aa r)(doneZQ:aj Int)(hd:doneZQ.length<=100)(n:Nat)(hn:n<(r.aA++r.aC).length):
 CC 83 af [bc p,dC ks,iI i,iL doneZQ,iI n] (iI (iH r ks doneZQ n)):=by
 refine CC.B9 (av:=[bc p,dC ks,iI i,iL doneZQ,iI n]) aBX kr (λ_=>kr) (by
  intro y hy;rcases ZP.1 hy with rfl|hy
  .exact cz p
  .simp at hy;rcases hy with rfl|rfl|rfl|rfl<;>simp) cE ?_
 obtain⟨aq,gQ⟩:=Z5.1 hi;have dE:r∈p.aX:=gQ▸Z4 aq;have j8:=hp.rs r dE;have hh:=j8.h;have UB:=Nv r ak;have hR:=nQ aq;rw[gQ]at hR;have Y6:=TD af r j8 (hf r dE) doneZQ hd n _ (UN hn);have eG:=j8.hs _ (Z4 hn);have gR:(gm (r.aA++r.aC) doneZQ (r.aA++r.aC)[n].ts).length<=8:=YE (ady _ _ _) eG
 have rN:iH r ks doneZQ n=(if ma ks (r.aA++r.aC)[n].s (gm (r.aA++r.aC) doneZQ (r.aA++r.aC)[n].ts)=ab then 100 else 10*((gm (r.aA++r.aC) doneZQ (r.aA++r.aC)[n].ts).length:Int))+if(r.aA.length:Int)<=n then 1 else 0:=by
  unfold iH;rw[PT,UN hn]
 rw[rN];generalize gm (r.aA++r.aC) doneZQ (r.aA++r.aC)[n].ts=kn at*
 have hA:=lI hn;have aDP:=azG ks hk jC (r.aA++r.aC)[n].s kn (by unfold Sm;omega);have hP:=bc.eq_1 p;rw[bQ]at*
 rw[hP];have hw:QY.wrap (10*(kn.length:Int))=10*(kn.length:Int):=eU ak ak;generalize ma ks (r.aA++r.aC)[n].s kn=b at*
 generalize r.aA++r.aC=hs at*
 simp[arz,UU,aw,aq,hR];right;right;exists _,UB;simp[hn,show¬hs.length<=n by omega,show¬(n:Int)<0 by omega];exists _,Y6;simp[hw,hA,aw];exists _,aDP;have JQ:QY.wrap (10*(kn.length:Int)+1)=10*(kn.length:Int)+1:=eU ak ak;by_cases hc:r.aA.length<=n
 .cases b with
  |true=>simp[hc]
  |false=>simp[JQ,hc]
 .have sF:n<r.aA.length:=ak;cases b with
  |true=>simp[hc,sF]
  |false=>simp[JQ,hc,sF]
def s7(hx:Pure x)(hy:Pure y)(hz:Pure z):∀u∈[x,y,z],Pure u:=aI
def aeY(h:Nat)(doneZQ:aj Int):fj (h+1) doneZQ=fj h doneZQ++if(h:Int)∈doneZQ then[]else[(h:Int)]:=by
 unfold fj;rw[OD,O3]
 grind
def aF_(n:Nat)(doneZQ:aj Int):(fj n doneZQ).Nodup:=(BE n).filter _
def ahN{L:aj Int}(hn:L.Nodup)(hb:b<L.length):L.take b++L.drop (b+1)=L.filter λv=>v !=L[b]:=by
 have h:=List.take_append_drop b L;rw[UQ hb]at h;generalize L[b]=x at h⊢;have mD:(L.take b++x::L.drop (b+1)).Nodup:=aI;rw[aKn]at mD;have⟨_,h2,h3⟩:=mD;have h4:=(UA.1 h2).1
 conv=>rhs;rw[<-h]
 rw[O3,aIG az,aJ0.2 λv hv=>aI,aJ0.2 λv hv=>by
  grind]
def aeZ(hb:b<(fj n doneZQ).length):(fj n doneZQ).take b++(fj n doneZQ).drop (b+1)=fj n (doneZQ++[(fj n doneZQ)[b]]):=by
 rw[ahN (aF_ n doneZQ) hb];generalize(fj n doneZQ)[b]=x;unfold fj;rw[List.filter_filter]
 grind
def ahO(h:fj n doneZQ=[])(hn:doneZQ.Nodup)(hv:pq n doneZQ):doneZQ.length=n:=by
 have h1:=zy (lN n) doneZQ (BE n) λv hv=>by
  apply XF;intro hd;have:=Gi.2 ⟨nG.1 hv,hd⟩
  grind
 have h2:=zy doneZQ (lN n) hn λv h=>nG.2 (hv v h)
 grind [nD]
def ae0(hn:doneZQ.Nodup)(hv:pq n doneZQ)(hl:n<=doneZQ.length):fj n doneZQ=[]:=by
 rw[List.eq_nil_iff_forall_not_mem];intro v hm;have⟨h1,h2⟩:=Gi.1 hm
 have:=zy (v::doneZQ) (lN n) (UA.2 ⟨h2,hn⟩) λu hu=>by
  rcases ZP.1 hu with rfl|hu
  .exact nG.2 h1
  .exact nG.2 (hv u hu)
 grind [nD]
def apH(r:Rl)(h:iF r)(gq:pB r)(hf:gy r)(ks:aj Ac)(hk:ks.length<=1000)(jC:∀k∈ks,k.ps.length<=100)(doneZQ:aj Int)(hd:doneZQ.length<=50)
 (hex:fj (r.aA++r.aC).length doneZQ≠[])(iR:∀c cs,fj (r.aA++r.aC).length doneZQ=c::cs->k0 [iL (doneZQ++[kh (iH r ks doneZQ) c cs])]):
 StQ ab6 Q [k0] [x0,dC ks,x2,x3,x4,cy r,x6,db (r.aA++r.aC),iL doneZQ]:=by
 have aDQ:=λj hj=>azH r h gq hf ks hk jC doneZQ ak j hj;have yg:=h.h;rw[<-UR]at yg;have s_:=λv=>aeX r ks doneZQ v;rw[bQ];generalize iH r ks doneZQ=sc at*
 generalize r.aA++r.aC=hs at*
 refine aJ hs.length (λh (q:Int×Int)=>[iI h,iI q.1,iI q.2]) (λh q=>(q=(-1, -1)/\fj h doneZQ=[])\/∃c cs,fj h doneZQ=c::cs/\q=(sc (kh sc c cs),kh sc c cs)) (-1, -1) ?_ (.inl ⟨rfl,rfl⟩) λh q hh hI=>?_
 .simp[cq]
 by_cases aq:h<hs.length
 .have hw:=aS aq ak;have h95:=Vz doneZQ h ak;have hm:=aDQ h aq;have bI:=aeY h doneZQ;have⟨aDR,aDS⟩:=q;simp[cq,aq,hw];exists _,h95;by_cases e:(h:Int)∈doneZQ
  .rw[aW e,Z_]at bI;simp[e];exact .mk (aDR,aDS) rfl ak (by rw[bI];exact hI)
  .rw[aY e]at bI;simp[e];exists _,hm;simp;rcases hI with⟨h1,h2⟩|⟨c,cs,h1,h2⟩
   .cases h1;rw[h2,Qy]at bI;left;have:=s_ h;exact⟨ak,.mk (sc h,h) rfl ak (.inr ⟨h,[],bI,rfl⟩)⟩
   .cases h2;rw[h1,T7]at bI;have q_:=aJw sc c cs h;by_cases e2:sc (kh sc c cs)<sc h
    .rw[aW e2]at q_;left;exact⟨e2,.mk (sc h,h) rfl ak (.inr ⟨c,_,bI,by rw[q_]⟩)⟩
    .rw[aY e2]at q_;right;exact⟨ak,.mk _ rfl ak (.inr ⟨c,_,bI,by rw[q_]⟩)⟩
 .obtain rfl:h=hs.length:=ak;rcases hI with⟨_,h2⟩|⟨c,cs,h1,rfl⟩
  .exact bH h2 hex
  .have hc:=lL (a:=doneZQ) (v:=kh sc c cs) ak;simp[cq,aZ,aD,hc];exact iR c cs h1
def apI(r:Rl)(ks:aj Ac)(n f:Nat)(doneZQ:aj Int){cs:aj Int}(h:fj n doneZQ=c::cs):BK r ks n (f+1) doneZQ=kh (iH r ks doneZQ) c cs::BK r ks n f (doneZQ++[kh (iH r ks doneZQ) c cs]):=by
 rw[BK,h]
def akS(r:Rl)(ks:aj Ac)(n f:Nat)(doneZQ:aj Int)(h:fj n doneZQ=[]):BK r ks n f doneZQ=[]:=by
 cases f with
 |zero=>rfl
 |succ f=>rw[BK,h]
structure pE(r:Rl)(ks:aj Ac)(h:Int)(aE:aj Int):Prop where
 nd:(h::aE).Nodup
 ok:pq (r.aA++r.aC).length (h::aE)
 go:∃f,f+aE.length=4/\xD r ks h=aE++BK r ks (r.aA++r.aC).length f (h::aE)
variable{ks:aj Ac}{r:Rl}
theorem pE.len(hI:pE r ks h aE):aE.length+1<=(r.aA++r.aC).length:=by
 have:=zy _ (lN (r.aA++r.aC).length) hI.nd λv hv=>nG.2 (hI.ok v hv)
 simp_all[nD]
def pE.step(hI:pE r ks h aE)(h3:(r.aA++r.aC).length<=3){cs:aj Int}(hc:fj (r.aA++r.aC).length (h::aE)=c::cs):
 pE r ks h (aE++[kh (iH r ks (h::aE)) c cs]):=by
 have hm:=aHE (iH r ks (h::aE)) cs c;rw[<-hc]at hm;have⟨m1,m2⟩:=Gi.1 hm;have bf:=hI.len;have⟨h1,h2,f,hf,hg⟩:=hI;refine⟨?_,?_,?_⟩
 .grind
 .intro v hv;rw[<-T7]at hv;rcases ZV.1 hv with hv|hv
  .exact h2 v hv
  grind
 .obtain⟨g,rfl⟩:∃g,f=g+1:=⟨f- 1,ak⟩;exists g,aI;rw[hg,apI r ks _ g _ hc];simp
def pE.end_(hI:pE r ks h aE)(hc:fj (r.aA++r.aC).length (h::aE)=[]):aE=xD r ks h/\aE.length+1=(r.aA++r.aC).length:=by
 have⟨f,_,hg⟩:=hI.go;rw[akS r ks _ f _ hc,Z_]at hg;have:=ahO hc hI.nd hI.ok
 grind
def pE.init(r:Rl)(ks:aj Ac)(hm:h=m)(hl:m<(r.aA++r.aC).length):pE r ks h []:=
 ⟨az,by intro v hv;grind,4,rfl,rfl⟩
def apJ(r:Rl)(h:iF r)(gq:pB r)(hf:gy r)(ks:aj Ac)(hk:ks.length<=1000)(jC:∀k∈ks,k.ps.length<=100)(o:Oc)(m:Nat)(hm:o.h=m)(DQ:m<(r.aA++r.aC).length)
 (hQ:Q (bT (fp r o (xD r ks o.h)))):
 StQ ab7 Q [] [x0,dC ks,eS o,x3,x4,cy r,x6,db (r.aA++r.aC)]:=by
 have yg:=h.h;rw[<-UR]at yg;have hy6:=λk0 doneZQ=>apH (Q:=Q) (k0:=k0) (x0:=x0) (x2:=eS o) (x3:=x3) (x4:=x4) (x6:=x6) r h gq hf ks hk jC doneZQ;have hy7:=λk0 x8 aO=>auM (Q:=Q) (k0:=k0) (x0:=x0) (x1:=dC ks) (x3:=x3) (x4:=x4) (x6:=x6) (x8:=x8) r h gq hf o aO;have hO:=eS.eq_1 o;have bI:=λaE hI c cs hc=>pE.step (r:=r) (ks:=ks) (h:=o.h) (aE:=aE) hI yg (c:=c) (cs:=cs) hc;have tz:=λaE hI hc=>pE.end_ (r:=r) (ks:=ks) (h:=o.h) (aE:=aE) hI hc;have Cc:=λaE hI=>pE.len (r:=r) (ks:=ks) (h:=o.h) (aE:=aE) hI;have pR:=pE.init r ks hm DQ;have azI:=λaE (hI:pE r ks o.h aE) hl=>ae0 hI.nd hI.ok hl;have bM:=λaE (hI:pE r ks o.h aE)=>hI.ok;simp only[hO]at hy6 hy7;rw[hO];generalize hS:r.aA++r.aC=hs at*
 refine fg (λ(aE:aj Int)=>[iL (o.h::aE)]) (λaE=>pE r ks o.h aE) (λaE=>hs.length- aE.length) [] ?_ pR λaE hI=>?_
 .rfl
 have h3:=Cc aE hI;by_cases aq:aE.length+1<hs.length
 .have cg:fj hs.length (o.h::aE)≠[]:=λh=>by
   grind
  have hy:=hy6 (GK (λ(aE:aj Int)=>[iL (o.h::aE)]) (λaE=>pE r ks o.h aE) (λaE=>hs.length- aE.length) aE) (o.h::aE) aI cg λc cs hc=>.mk (aE++[kh (iH r ks (o.h::aE)) c cs]) rfl (bI aE hI c cs hc) aI;have hz:((aE.length:Int)+1<(hs.length:Int)):=ak;simp[UU,hz];omega
 .have hz:¬((aE.length:Int)+1<(hs.length:Int)):=ak;have s2:=Zp (L:=o.h::aE) (a:=1) az;have⟨he,_⟩:=tz aE hI (azI aE hI aI);have hy:=hy7 (GK (λ(aE:aj Int)=>[iL (o.h::aE)]) (λaE=>pE r ks o.h aE) (λaE=>hs.length- aE.length) aE) (iL (o.h::aE)) aE ak (λv hv=>bM aE hI v (Ys _ hv)) aI;simp at s2;simp[UU,hz,aZ];exact⟨_,s2,⟨_,rfl⟩,hy⟩
variable{o:Oc}{eZ:IV}{k2 k3 k4:aj IV->Prop}
def azJ(p:Pg)(hp:f_ p)(hf:∀r∈p.aX,gy r)(ks:aj Ac)(hk:ks.length<=1000)(jC:∀k∈ks,k.ps.length<=100)(h:pJ p o i m r):
 CC 114 af [bc p,dC ks,eS o] (bT (fp r o (xD r ks o.h))):=by
 refine CC.of auL kr kr (s7 (cz p) az (uO o)) (qc _) ?_;have hm:=nS.2 ⟨i,m,r,h⟩;have J5:=k87 p hp;have qE:=qz p.aX hp.rs;have h86:=k86 (occs p.aX) o (by have:=hp.r;omega);rw[decide_eq_true hm]at h86;have⟨aq,gQ⟩:=Z5.1 h.ru;have dE:=gQ▸Z4 aq;have j8:=hp.rs r dE;have hR:=nQ aq;rw[gQ]at hR;have W7:=h.or;have hR0:cu 6 (FW p.aX) (iI o.r)=aa (.agg [iS r.name,db r.aA,db r.aC,gw r.aL,gw r.bC,iI r.vars]):=aI;have h33:=Ny r (by have:=j8.h;omega);have hy:=λx0 x3 x4 x6=>apJ (Q:=(·=bT (fp r o (xD r ks o.h)))) (x0:=x0) (x3:=x3) (x4:=x4) (x6:=x6) r j8 (hp.rn r dE) (hf r dE) ks hk jC o m h.oh h.lt rfl;generalize bT (fp r o (xD r ks o.h))=ι at*
 have hP:=bc.eq_1 p;have hO:=eS.eq_1 o;simp only[hP,hO]at*
 generalize occs p.aX=l at*
 generalize r.aA++r.aC=hs at*
 have z1:¬(o.r<0):=ak;have z2:¬((p.aX.length:Int)<=o.r):=ak;simp[am8,UU,aw];exists _,J5;simp;exists _,h86;simp[z1,z2,hR0];exists ak,ak,_,h33;simp[aZ];exact hy _ _ _ _
def auN{iW:IV}(r:Rl)(h:iF r)(hf:gy r)(doneZQ:aj Int)(hd:doneZQ.length<=100)(k:Nat)(lO:1<=k)(hk:k<=doneZQ.length)(out:aj (aj Int))(qE:out.length<=1000)
 (hk4:k4 [iI (k+1:Nat),iS r.name,eQ (out++[iK (Y5 (r.aA++r.aC) doneZQ k) r.aL 0])]):
 StQ abN Q [k0,k1,k2,k3,k4] [x0,x1,x2,x3,x4,x5,x6,cy r,x8,x9,iL doneZQ,eZ,iW,iI k,iS r.name,eQ out]:=by
 have hg6:=h.g;have OH:∀(d:aj Int) (hd:d.length<=100) (i:Nat) (hi:i<r.aL.length),CC 189 ab [cy r,iL d,il r.aL[i]] (iB (gE (r.aA++r.aC) d r.aL[i])):=λd hd i hi=>(akm r h hf d hd _ (h.gs _ (YR _ (Z4 hi))) (hf.gs _ (YR _ (Z4 hi))).2).zm (tQ rfl);have hwk:=aS (show k<1000 by omega) ak;have hkm:QY.wrap ((k:Int) - 1)=((k- 1:Nat):Int):=by rw[eU ak ak];omega
 rw[bQ]at*
 generalize hp:Y5 (r.aA++r.aC) doneZQ k=p at*
 refine aJ r.aL.length (λi (o:aj Int)=>[iI i,iL o]) (λi o=>o++iK p (r.aL.drop i) i=iK p r.aL 0/\o.length<=i) [] ?_ az λi o hi hI=>?_
 .rfl
 have⟨hI,hoo⟩:=hI;by_cases aq:i<r.aL.length
 .have hw:=aS aq ak;have dL:=OH (doneZQ.take k) aI i aq;have fD:=OH (doneZQ.take (k- 1)) aI i aq;rw[MT aq]at hI;have hG:=il.eq_1 r.aL[i];rw[hG]at dL fD;have qF:p r.aL[i]=(gE (r.aA++r.aC) (doneZQ.take k) r.aL[i]&& !gE (r.aA++r.aC) (doneZQ.take (k- 1)) r.aL[i]):=by rw[<-hp];rfl
  simp[UU,aq,hw,sj aq,aw,MU hk];exists _,dL;cases e1:gE (r.aA++r.aC) (doneZQ.take k) r.aL[i]with
  |false=>
   rw[qF,e1,Bool.false_and,xA,aY az]at hI;simp[aw];exact .mk o rfl ak ⟨aI,ak⟩
  |true=>
   simp[aw,hkm,MU (show k- 1<=doneZQ.length by omega)];exists _,fD;cases e2:gE (r.aA++r.aC) (doneZQ.take (k- 1)) r.aL[i]with
   |true=>
    rw[qF,e1,e2]at hI;simp[xA]at hI;simp;exact .mk o rfl ak ⟨hI,ak⟩
   |false=>
    rw[qF,e1,e2]at hI;simp[xA]at hI;simp[aZ,aD];exact⟨_,lL ak,.mk (o++[(i:Int)]) rfl ak ⟨aI,aI⟩⟩
 .rw[ZX ak,iK,Z_]at hI;simp[UU,aD,Ao (show out.length<=100000 by omega)]
  grind
def auO(r:Rl)(h:iF r)(hf:gy r)(doneZQ:aj Int)(hd:doneZQ.length<=100)(wm:k3 [eQ (dV (r.aA++r.aC) r.aL doneZQ)]):
 StQ abO Q [k0,k1,k2,k3] [x0,x1,x2,x3,x4,x5,x6,cy r,x8,x9,iL doneZQ,eZ,iL (iK (gE (r.aA++r.aC) []) r.aL 0)]:=by
 refine fg (λ(k:Nat)=>[iI (k+1:Nat),iS r.name,eQ ((dV (r.aA++r.aC) r.aL doneZQ).take (k+1))]) (λk=>k<=doneZQ.length) (λk=>doneZQ.length- k) 0 ?_ ak λk hk=>?_
 .rfl
 by_cases aq:k<doneZQ.length
 .have hz:((k:Int)+1<=(doneZQ.length:Int)):=ak;simp[UU,hz];refine auN r h hf doneZQ hd (k+1) ak ak _ aI ?_;refine .mk (k+1) ?_ ak ak;have hl:k+1<(dV (r.aA++r.aC) r.aL doneZQ).length:=by grind [qf]
  rw[ZN hl];simp[dV]
 .have hz:¬((k:Int)+1<=(doneZQ.length:Int)):=ak;have jM:k=doneZQ.length:=ak;simp[UU]
  grind [qf]
def auP(r:Rl)(h:iF r)(hf:gy r)(doneZQ:aj Int)(hd:doneZQ.length<=100)(kn:aj (aj Int))(lO:k1 [eQ kn,eQ (dV (r.aA++r.aC) r.aL doneZQ)]):
 StQ abP Q [k0,k1,k2] [x0,x1,x2,x3,x4,x5,x6,cy r,x8,x9,iL doneZQ,eQ kn]:=by
 have akn:=ath r h hf [] az;refine jI (λvs=>vs=[eQ (dV (r.aA++r.aC) r.aL doneZQ)]) ?_ λvs fk=>?_
 .have hw:=auO (Q:=Q) (k0:=k0) (k1:=k1) (k2:=k2) (k3:=GL λvs=>vs=[eQ (dV (r.aA++r.aC) r.aL doneZQ)]) (x0:=x0) (x1:=x1) (x2:=x2) (x3:=x3) (x4:=x4) (x5:=x5) (x6:=x6) (x8:=x8) (x9:=x9) (eZ:=eQ kn) r h hf doneZQ hd rfl;rw[bQ]at*
  simp[UU]at*
  exact⟨_,akn,⟨_,rfl⟩,hw⟩
 simp_all[UU]
def auQ(r:Rl)(h:iF r)(hf:gy r)(o:Oc)(aO:aj Int)(ho:aO.length<=50)(hv:pq (r.aA++r.aC).length aO)
 (hQ:Q (bT (fp r o aO))):
 abQ.sat Z2 CC Q [k0] [x0,x1,eS o,x3,x4,x5,x6,cy r,iL aO]:=by
 have JQ:=λ(k1 k2:aj IV->Prop) (x9:IV) (doneZQ:aj Int) (hd:doneZQ.length<=100) (kn:aj (aj Int))=>auP (Q:=Q) (k0:=k0) (k1:=k1) (k2:=k2) (x0:=x0) (x1:=x1) (x2:=eS o) (x3:=x3) (x4:=x4) (x5:=x5) (x6:=x6) (x8:=iL aO) (x9:=x9) r h hf doneZQ hd kn;have Y6:=λdoneZQ (hd:doneZQ.length<=100) n a ha=>TD ab r h hf doneZQ hd n a ha;have Ue:=h.hs;unfold fp at hQ;rw[bQ]at*
 have hO:=eS.eq_1 o;rw[hO]at*
 refine jI (λvs=>vs=[eQ (eA (r.aA++r.aC) [o.h] aO),eQ (dV (r.aA++r.aC) r.aL (o.h::aO))]) ?_ λvs fk=>?_
 .simp[UU,aw,aZ,aD];refine aJ aO.length (λi (q:aj (aj Int))=>[iI i,iL (o.h::aO.take i),eQ q]) (λi q=>q++eA (r.aA++r.aC) (o.h::aO.take i) (aO.drop i)=eA (r.aA++r.aC) [o.h] aO/\q.length<=i) [] ?_ az λi q hi hI=>?_
  .rfl
  have⟨hI,ED⟩:=hI;by_cases aq:i<aO.length
  .have nC:=aS aq ak;have⟨hv0,Np⟩:=hv _ (Z4 aq);have mB:aO[i]=((aO[i].toNat:Nat):Int):=ak;have cR:aO[i].toNat<(r.aA++r.aC).length:=ak;have sD:=Y6 (o.h::aO.take i) aI aO[i].toNat _ (UN cR);rw[<-mB]at sD
   have rP:gB (r.aA++r.aC) aO[i]=(r.aA++r.aC)[aO[i].toNat].ts:=by
    grind [gB]
   rw[UQ aq,eA,rP]at hI;have bI:o.h::aO.take (i+1)=(o.h::aO.take i)++[aO[i]]:=az;have dz:=lL (a:=o.h::aO.take i) (v:=aO[i]) aI;have oT:=Ao (a:=q) (v:=gm (r.aA++r.aC) (o.h::aO.take i) (r.aA++r.aC)[aO[i].toNat].ts) ak;generalize hD:o.h::aO.take i=D at*
   simp[UU,aq,nC,jf aq,aw];refine⟨_,sD,?_⟩;simp[aw,aZ,aD,dz,oT];refine .mk (q++[gm (r.aA++r.aC) D (r.aA++r.aC)[aO[i].toNat].ts]) ?_ ak ⟨aI,aI⟩
   grind
  .rw[ZX ak,eA,Z_]at hI;subst hI;simp[UU,aq];rw[Wg ak];exact JQ _ _ _ _ aI _ rfl
 .subst fk;refine⟨rfl,?_⟩;simp[UU];exact hQ
def auR(p:Pg)(hp:f_ p)(hf:∀r∈p.aX,gy r)(ks:aj Ac)(hk:ks.length<=1000)(jC:∀k∈ks,Sm k.ps)(i:Nat)(r:Rl)(hi:p.aX[i]?=aa r)(o:Oc)(ho:o.r=i)
 (left doneZQ:aj Int)(hd:doneZQ.length<=50)(hl:left=fj (r.aA++r.aC).length doneZQ)(QC:left.length<=50)(c:Int)(cs:aj Int)(h0:left=c::cs)
 (iR:k0 [iL (fj (r.aA++r.aC).length (doneZQ++[kh (iH r ks doneZQ) c cs])),iL (doneZQ++[kh (iH r ks doneZQ) c cs])]):
 abM.sat Z2 CC Q [k0] [bc p,dC ks,eS o,x3,x4,iL left,iL doneZQ]:=by
 have T6:pq (r.aA++r.aC).length left:=λv hv=>(Gi.1 (hl▸hv)).1
 have h83:∀(j:Nat) (hj:j<left.length),CC 83 ab [bc p,dC ks,iI o.r,iL doneZQ,iI left[j]] (iI (iH r ks doneZQ left[j])):=λj hj=>by
  have⟨hv0,Np⟩:=T6 _ (Z4 hj);have hm:=aDO p hp hf ks hk jC i r hi doneZQ ak left[j].toNat ak;rw[show((left[j].toNat:Nat):Int)=left[j] by omega]at hm;exact ho▸hm.zm (tQ rfl)
 have G6:=λ(b:Nat) (hb:b<left.length)=>aeZ (n:=(r.aA++r.aC).length) (doneZQ:=doneZQ) (b:=b) (by rw[<-hl];exact hb);have hP:=bc.eq_1 p;have hO:=eS.eq_1 o
 have G6:∀(b:Nat) (hb:b<left.length),left.take b++left.drop (b+1)=fj (r.aA++r.aC).length (doneZQ++[left[b]]):=by
  subst hl;exact G6
 rw[hP]at*
 rw[hO];generalize iH r ks doneZQ=sc at*
 generalize(r.aA++r.aC).length=n at*
 have aFQ:left.length=cs.length+1:=by rw[h0];rfl
 refine fg (λ(s:Nat×Nat)=>[iI s.1,iI s.2]) (λs=>1<=s.1/\s.1<=left.length/\∃hb:s.2<left.length,left[s.2]=kh sc c (cs.take (s.1- 1))) (λs=>left.length- s.1) (1,0) ?_ ⟨az,ak,ak,by simp[h0,kh]⟩ λs hs=>?_
 .simp[UU]
 have⟨j,b⟩:=s;have⟨hj1,hj,hb,hbe⟩:=hs;by_cases aq:j<left.length
 .have hw:=aS aq ak;have tq:=h83 j aq;have O8:=h83 b hb
  have bI:cs.take j=cs.take (j- 1)++[left[j]]:=by
   have hlj:j- 1<cs.length:=ak;have:=ZN hlj;rw[show j- 1+1=j by omega]at this;rw[this]
   congr 2
   have:left[j]=(c::cs)[j]'eE:=by simp only[h0]
   rw[this,List.getElem_cons,dif_neg ak]
  have q_:=aJw sc c (cs.take (j- 1)) left[j];rw[<-bI,<-hbe]at q_;simp[UU,aq,hw,jf aq,jf hb,aD,aw];refine⟨_,tq,?_⟩;simp;refine⟨_,O8,?_⟩;simp;by_cases e:sc left[b]<sc left[j]
  .rw[aW e]at q_;left;exact⟨e,.mk (j+1,j) rfl ⟨az,ak,aq,by rw[aKo,q_]⟩ ak⟩
  .rw[aY e]at q_;right;exact⟨ak,.mk (j+1,b) rfl ⟨az,ak,hb,by rw[aKo,q_]⟩ ak⟩
 .have hw:=aS hb ak;rw[Wg ak]at hbe;have c1:=lL (a:=doneZQ) (v:=left[b]) ak
  have c2:dG 1 8 (.tree 1 []) (iL (left.take b))=aa (iL (left.take b)):=by
   have:=By (a:=[]) (b:=left.take b) eE;rw[Qy]at this;exact this
  have c3:dG 1 8 (iL (left.take b)) (iL (left.drop (b+1)))=aa (iL (left.take b++left.drop (b+1))):=By eE;have s1:=MU (L:=left) (l:=b) ak;have s2:=Zp (L:=left) (a:=b+1) ak;rw[<-hbe,<-G6 b hb]at iR;generalize left.take b++left.drop (b+1)=L3 at*
  generalize left.drop (b+1)=L2 at*
  generalize left.take b=L1 at*
  generalize doneZQ++[left[b]]=D1 at*
  simp[UU,aq,hw,jf hb,aD,c1,s1,c2];refine⟨_,s2,?_⟩;simp[c3];exact iR
def ae2(n:Nat)(m:Nat):parts n m=fj n [(m:Int)]:=by
 unfold parts fj
 grind
def aDT(p:Pg)(hp:f_ p)(hf:∀r∈p.aX,gy r)(ks:aj Ac)(hk:ks.length<=1000)(jC:∀k∈ks,Sm k.ps)(h:pJ p o i m r):
 CC 30 af [bc p,dC ks,eS o] (bT (fp r o (xD r ks o.h))):=by
 refine CC.of azw kr kr (s7 (cz p) az (uO o)) (qc _) ?_;have Us:=k81 p hp o;rw[decide_eq_true (nS.2 ⟨i,m,r,h⟩)]at Us;have hi:=h.ru;have⟨aq,gQ⟩:=Z5.1 hi;have dE:=gQ▸Z4 aq;have j8:=hp.rs r dE;have Ba:=j8.h;have hR:=nQ aq;rw[gQ]at hR;have hR0:cu 6 (FW p.aX) (iI o.r)=aa (.agg [iS r.name,db r.aA,db r.aC,gw r.aL,gw r.bC,iI r.vars]):=by simp_all[h.or]
 have MW:=amB ab hp h;rw[ae2]at MW;have PZ:=λ(Q:IV->Prop) (k0:aj IV->Prop) (x3 x4:IV)=>auR (Q:=Q) (k0:=k0) (x3:=x3) (x4:=x4) p hp hf ks hk jC i r hi o h.or;have hy5:=λ(Q:IV->Prop) (k0:aj IV->Prop) (x0 x1 x3 x4 x5 x6:IV)=>auQ (Q:=Q) (k0:=k0) (x0:=x0) (x1:=x1) (x3:=x3) (x4:=x4) (x5:=x5) (x6:=x6) r j8 (hf r dE) o;rw[<-UR]at Ba;have bI:=λaE hI c cs hc=>pE.step (r:=r) (ks:=ks) (h:=o.h) (aE:=aE) hI Ba (c:=c) (cs:=cs) hc;have tz:=λaE hI hc=>pE.end_ (r:=r) (ks:=ks) (h:=o.h) (aE:=aE) hI hc;have Cc:=λaE hI=>pE.len (r:=r) (ks:=ks) (h:=o.h) (aE:=aE) hI;have pR:=pE.init r ks h.oh h.lt;have bM:=λaE (hI:pE r ks o.h aE)=>hI.ok;have hoh:=h.oh;rw[<-hoh]at MW;have hP:=bc.eq_1 p;have hO:=eS.eq_1 o;generalize hZ:bT (fp r o (xD r ks o.h))=ι at*
 have kW:∀d,(fj (r.aA++r.aC).length d).length<=50:=λd=>YE (Zy ..) (by grind [nD]);rw[hP,hO]at*
 generalize hNN:(r.aA++r.aC).length=n at*
 simp[amY,UU,aw];exists _,Us;simp;exists _,MW;simp[aZ];refine fg (λ(aE:aj Int)=>[iL (fj n (o.h::aE)),iL (o.h::aE)]) (λaE=>pE r ks o.h aE) (λaE=>n- aE.length) [] ?_ pR λaE hI=>?_
 .rfl
 have h3:=Cc aE hI;by_cases h0:fj n (o.h::aE)=[]
 .have⟨he,_⟩:=tz aE hI h0;have s2:=Zp (L:=o.h::aE) (a:=1) az;simp at s2;have hz:=kW (o.h::aE);rw[h0];simp[UU,aw,hR0];exists _,s2;refine hy5 _ _ _ _ _ _ _ _ aE ak (λv hv=>bM aE hI v (Ys _ hv)) ?_
  grind
 .have⟨c,cs,hc⟩:=aJv h0;have s_:0<(fj n (o.h::aE)).length:=aI;have QC:=kW (o.h::aE);have j_:GK (λ(aE:aj Int)=>[iL (fj n (o.h::aE)),iL (o.h::aE)]) (λaE=>pE r ks o.h aE) (λaE=>n- aE.length) aE [iL (fj n (o.h::aE++[kh (iH r ks (o.h::aE)) c cs])),iL (o.h::aE++[kh (iH r ks (o.h::aE)) c cs])]:=.mk (aE++[kh (iH r ks (o.h::aE)) c cs]) rfl (bI aE hI c cs hc) aI;have hy:=λx3 x4=>PZ (·=ι) _ x3 x4 (fj n (o.h::aE)) (o.h::aE) aI rfl QC c cs hc j_;generalize fj n (o.h::aE)=left at*
  simp[UU,s_];exact hy _ _
def pE.fin(h3:(r.aA++r.aC).length<=3):∀(k:Nat) (aE:aj Int),(r.aA++r.aC).length- aE.length=k->pE r ks h aE->qY (r.aA++r.aC).length h (xD r ks h)=ab/\(xD r ks h).length+1=(r.aA++r.aC).length
 |k,aE,hk,hI=>by
  by_cases hc:fj (r.aA++r.aC).length (h::aE)=[]
  .obtain⟨he,hl⟩:=hI.end_ hc;rw[<-he];exact⟨apF hI.nd hI.ok hl,hl⟩
  .obtain⟨c,cs,hc⟩:=aJv hc;have hs:=hI.step h3 hc;have hl:=hs.len;simp at hl;cases k with
   |zero=>simp at hk;omega
   |succ k=>exact pE.fin h3 k _ (by simp at hk⊢;omega) hs
def w9(p:Pg)(ks:aj Ac)(o:Oc):Pn:=match p.aX[o.r.toNat]? with
 |some r=>fp r o (xD r ks o.h)
 |none=>⟨o,[],[],[]⟩
def cn(p:Pg):aj Pn:=(occs p.aX).map (w9 p (mQ p.aX))
variable{p:Pg}{l:aj Ac}{n:Int}
def OP(h:pJ p o i m r):w9 p ks o=fp r o (xD r ks o.h):=by
 simp only[w9,h.or,PT,h.ru]
def SN(p:Pg)(ks:aj Ac)(o:Oc):(w9 p ks o).o=o:=by
 unfold w9;split<;>rfl
def OQ(p:Pg):(cn p).map Pn.o=occs p.aX:=by
 unfold cn;rw[List.map_map]
 conv=>rhs;rw[<-List.map_id (occs p.aX)]
 exact List.map_congr_left λo _=>SN p _ o
def akT(hp:f_ p)(ks:aj Ac)(hm:o∈occs p.aX):PlR p o (w9 p ks o):=by
 obtain⟨i,m,r,h⟩:=nS.1 hm;have j8:=hp.rs r (ZU h.ru);have h3:(r.aA++r.aC).length<=3:=by have:=j8.h;rw[UR];exact this
 obtain⟨h1,h2⟩:=pE.fin h3 _ _ rfl (pE.init r ks h.oh h.lt);rw[OP h];refine⟨rfl,?_,aeW r j8 o _ ak,by show(xD r ks o.h).length<=3;omega⟩;rw[BF (x:=fp r o (xD r ks o.h)) h];show(qY _ _ (xD r ks o.h)&&decide (fp r o _=fp r o _))=ab;rw[<-h.oh,h1,Bool.true_and];exact decide_eq_true rfl
def LS(hp:f_ p):∀x∈cn p,PlR p x.o x:=λx hx=>by
 obtain⟨o,ho,rfl⟩:=Z6.1 hx;rw[SN];exact akT hp _ ho
def aDU(p:Pg)(hp:f_ p)(hf:∀r∈p.aX,gy r):CC 47 af [bc p] (uU (cn p)):=by
 refine CC.of azc kr kr (jh (cz p)) az ?_;have aDV:=azF p hp;have dZ:=EM p.aX hp.rs p.aX.length (XS _);rw[Wg (XS _)]at dZ;have J5:=k87 p hp;have hr:=hp.r
 have auS:∀o∈occs p.aX,CC 114 af [bc p,dC (mQ p.aX),eS o] (bT (w9 p (mQ p.aX) o)):=λo ho=>by
  obtain⟨i,m,r,h⟩:=nS.1 ho;rw[OP h];exact azJ p hp hf _ (by have:=dZ.l;omega) (λk hk=>by have:=dZ.p k hk;omega) h
 have qE:=qz p.aX hp.rs;unfold cn;generalize w9 p (mQ p.aX)=P at*
 generalize occs p.aX=os at*
 have hP:=bc.eq_1 p;have hO:=eS.eq_1;rw[hP]at*
 simp only[hO]at auS;simp[aty,UU,aw];refine⟨_,aDV,?_⟩;simp;refine⟨_,J5,?_⟩;simp;unfold ahz;refine aJ os.length (λi (l:aj Pn)=>[iI i,uU l]) (λi l=>l=(os.map P).take i) [] ?_ az λi l hi hI=>?_
 .simp[UU]
 by_cases aq:i<os.length
 .have hw:=aS aq ak;have hc:=auS os[i] (Z4 aq);have jm:=amZ (a:=l) (x:=P os[i]) (by rw[hI];simp;omega);have bI:l++[P os[i]]=(os.map P).take (i+1):=by rw[ZN (by simpa using aq),hI];simp
  have hN:=bT.eq_1 (P os[i]);rw[hN]at hc jm;have j_:qJ os.length (λi (l:aj Pn)=>[iI i,uU l]) (λi l=>l=(os.map P).take i) i [iI (i+1:Nat),uU (l++[P os[i]])]:=.mk _ rfl ak bI;generalize hz:uU (l++[P os[i]])=z at jm j_;generalize P os[i]=x at*
  simp[UU,aq,hw,GR aq,aw];refine⟨_,hc,?_⟩;simp[aw,aD,jm];exact j_
 .rw[Wg eE]at hI;simp[UU,aq,hI]
def aDW(p:Pg)(hp:f_ p)(hf:∀r∈p.aX,gy r):CC 10 af [bc p] (uU (cn p)):=by
 refine CC.of aBS kr kr (jh (cz p)) az ?_;have h29:=aDL p hp;have dZ:=EM p.aX hp.rs p.aX.length (XS _);rw[Wg (XS _)]at dZ;have YK:=k18 p hp;have hr:=hp.r
 have h30:∀o∈occs p.aX,CC 30 af [bc p,dC (mQ p.aX),eS o] (bT (w9 p (mQ p.aX) o)):=λo ho=>by
  obtain⟨i,m,r,h⟩:=nS.1 ho;rw[OP h];exact aDT p hp hf _ (by have:=dZ.l;omega) (λk hk=>by have:=dZ.p k hk;unfold Sm;omega) h
 have qE:=qz p.aX hp.rs;unfold cn;generalize w9 p (mQ p.aX)=P at*
 generalize occs p.aX=os at*
 have hP:=bc.eq_1 p;have hO:=eS.eq_1;rw[hP]at*
 simp only[hO]at h30;simp[arq,UU,aw];refine⟨_,h29,?_⟩;simp;refine⟨_,YK,?_⟩;simp;unfold agi;refine aJ os.length (λi (l:aj Pn)=>[iI i,uU l]) (λi l=>l=(os.map P).take i) [] ?_ az λi l hi hI=>?_
 .simp[UU]
 by_cases aq:i<os.length
 .have hw:=aS aq ak;have hc:=h30 os[i] (Z4 aq);have jm:=amZ (a:=l) (x:=P os[i]) (by rw[hI];simp;omega);have bI:l++[P os[i]]=(os.map P).take (i+1):=by rw[ZN (by simpa using aq),hI];simp
  have hN:=bT.eq_1 (P os[i]);rw[hN]at hc jm;have j_:qJ os.length (λi (l:aj Pn)=>[iI i,uU l]) (λi l=>l=(os.map P).take i) i [iI (i+1:Nat),uU (l++[P os[i]])]:=.mk _ rfl ak bI;generalize hz:uU (l++[P os[i]])=z at jm j_;generalize P os[i]=x at*
  simp[UU,aq,hw,GR aq,aw];refine⟨_,hc,?_⟩;simp[aw,aD,jm];exact j_
 .rw[Wg eE]at hI;simp[UU,aq,hI]
def JG(l:aj Hint):fz:=⟨QI.filter (λn=> !([40,43,41]).any (Nat.beq n))++[17,19,53,54,55,56,57,58,59,60,61,126,127,128,129,130,131,132,133,134],QJ++[40,41,43],QK,l++[⟨999997,0,0,[],[],[],[]⟩,⟨999999,0,0,[],[],[],[]⟩],VB⟩
def azK:au:=
 (qP ko 7 (.len (tI 5 0)) 5 (tI 5 0) 7 (zf 5 8 9 8 bR (xy .eql 8 1 bW (fE (FB (.mx ab iC bB)) (AQ 7) (AG 23 (C4 5 0 5 5 2) bR bW (fE (qS 9) (kQ 9) (wK (FB (.mx ab iC bB)) (qS 9) (Fw 4 (AQ 7) (kQ 9) (o6 14 .an (.nr po)) bJ) bJ)))) (AD 7)) (AD 7)) (.aQ (FB (.mx ab qQ bB)) (AG 23 (C4 5 0 5 5 2) bR bW (fE (qS 8) (kQ 8) (wK (FB (.mx ab qQ bB)) (qS 8) (Fw 4 eY (kQ 8) (o6 14 .an (.nr iD)) bJ) bJ)))))
def ct6:au:=
 (wV 2 (kc 7 gZ 3 cw eM (jO 15 gZ (wW 3 4) C5 (jO 20 gZ (wW 3 5) (kQ 5) (ad3 C5 (kQ 5) (p6 21 (C4 4 0 4 4 2) (C4 5 0 5 5 2) 6 (jr cK (.aQ (.len (tI 5 0)) azK))))))))
def auT:bG Z2 (JG [aP 2 6042013 2 [8] [] [6]]) 6=ct6:=kr
def ahP:au:=
 (.loop (p_ 3) (vq 6 bR 2 6 6 (AJ 6) (rz .lss 3 4 (AJ 6) (jG 6 bR 2 6 7 (o6 106 (ry gZ (eB 7 7 7 7 7 7) (o7 4)) (fE (wW 2 8) (kQ 8) (fE (Er 8 2) (yP 8) (.test (Er 8 2) (yV 107 ej (Qf 8 0 (yP 8) (kQ 8)) (pY iD iD (jH 3 48 5 3 (Qf 8 0 (yP 8) (kQ 8)) (fx 4 10)) (fx 4 5))) (fx 4 5)))))) (wS 5))))
def auU:au:=
 (mL 3 dU 2 dU ahP MA)
def auV:au:=
 (zb auU)
def azL:bG Z2 (JG [aP 0 62 3 [5,6] [(1,3),(1,1),(1,0)],aP 0 62 6 [5,7] [(1,3),(1,1),(1,0)] [15,14,13,12]]) 62=auV:=kr
def ahQ:au:=
 (qT js 4 js 3 cw 4 3 5 (.test C_ (jG 3 cw 4 3 6 (qb (lV 6) 7 (kc 45 (eB 7 7 7 7 7 7) 8 h_ FF oB))) oB) (.nr js))
def auW:au:=
 (wV 2 (tJ 16 bR bW (ik 3 ahQ)))
def azM:bG Z2 (JG [aP 0 64 3 [8] [] [12,11,10,9]]) 64=auW:=kr
def ahR:au:=
 (qT js 4 js 3 cw 4 3 5 (kq 135 gZ (ft 5 5 5) (.nt cK eM (jG 3 cw 4 3 7 (.test (vT 7) (jG 3 cw 4 3 8 (qb (lV 8) 9 (oA 45 9 9 9 9 9 9 10 (jr po oB)))) oB)))) bJ)
def auX:au:=
 (wV 2 (tJ 16 bR bW (ik 3 ahR)))
def azN:bG Z2 (JG [aP 0 63 3 [8] [] [12,11,10,9]]) 63=auX:=kr
def SO:au:=
 (.loop wL (p5 2 cw bB 2 6 6 (rz .lss 3 4 (iX 6) (jP cw bB 7 (my 4 (je 7) 4 (wP 4 8 .neq 8 1 bJ (qW 110 ej 8 1 .an (.nt iD bJ (tH (je 8) (jH 1 8 5 1 (je 8) (vf 10)))))))) eM)))
def am9:au:=
 (nB 2 3 (qb kf 2 (y8 39 2 2 2 2 2 2 cw js (ad3 js gM (.test Jg bJ (alH FJ FJ SO))))))
def auY:bG Z2 (JG [aP 0 135 7 [7,8] [(3,1),(3,0)] [30,29,28,27,26,25,24,23,22,21,20,19,18,17,16,15,14,13,12,11,10]]) 135=am9:=kr
def auZ:au:=
 (lZ fw 2 fw (mY lH .lss gV lH (CO 7 0 3 2 7 3 (CO 7 1 3 2 7 4 (p6 46 (yH 3 0 3 1 3 2 3 3 (uJ 3 4 3 5 (o5 3 6))) (yH 4 0 4 1 4 2 4 3 (uJ 4 4 4 5 (o5 4 6))) 5 (jr cS mM)))) eM) eM)
def au0:au:=
 (nB 4 4 (Hw .neq 28 (ft 0 0 0) (ft 1 1 1) bJ (Dg fw lH fw lH auZ)))
def azO:bG Z2 (JG [aP 0 66 4 [5] [] [19,18,17,16,15,14,13,12,11,10,9,8,7,6]]) 66=au0:=kr
def ahS:au:=
 (qT Ja 6 Ja 4 AT 6 4 7 (jG 4 C_ 6 4 8 (p6 66 (ff 7 7 7 7) (ff 8 8 8 8) 9 (jr iD (Ad 2 6)))) (tP 3))
def au1:au:=
 (qT iA 3 iA 5 jt 3 5 4 (my 5 kf 3 (Vl 5 5 .neq 9 4 (lV 5) bJ (CU 4 1 Jf bJ (X5 .neq 4 4 3 (CY 5) bJ (CU 4 4 (o5 5 4) bJ (Dg Ja I_ Ja I_ ahS)))))) eM)
def au2:au:=
 (qT du 2 du 3 eh 2 3 3 (my 3 pn 2 (Vl 3 4 .neq 9 3 (lV 4) bJ (CU 3 1 yX bJ (tK 65 3 2 4 2 (ik 5 (jr cS mM)))))) au1)
def au3:au:=
 (nB 3 3 (CU 0 2 Jg bJ (Dg iA (tG 1 0) iA (tG 1 0) (Dg du (iX 1) du (iX 1) au2))))
def azP:bG Z2 (JG [aP 0 21 10 [8] [] [39,38,37,36,35,34,33,32,31,30,29,28,27,26,25,24,23,22,21,20,19,18,17,16,15,14,13,12],aP 0 21 16 [11] [] [123,122,121,120,119,118,117,116,115,114,113,112,111,110,109,108,107,106,105,104,103,102,101,100,99,98,97,96,95,94,93,92,91,90,89,88,87,86,85,84,83,82,81,80,79,76,75,74,73,72,39,38,37,36,35,34,33,32,31,30,29,28,27,26,25,24,23,22,21,20,19,18,17,16,15,14,13,12],aP 0 21 4 [5] [] [34,33,32,31,30,29,28,27,26,25,24,23,22,21,20,19,18,17,16,15,14,13,12]]) 21=au3:=kr
def ahT:au:=
 (uI (p_ 11) gv 12 gv (jG 6 bW 12 6 14 (my 3 iD 10 (qX (tb 3 15) (lV 14) (lV 15) (jG 6 bW 12 6 16 (my 3 iD 10 (qX (tb 3 17) (je 16) (je 17) (jG 6 bW 12 6 18 (tJ 12 cw (eB 18 18 18 18 18 18) (fE (wW 4 19) (kQ 19) (Dj (kQ 19) bB (BV (jZ (yI 5) pj bB) (kQ 19)) (jH 4 48 13 4 (ry (tI 19 0) (FD 19) (kT (tI 19 2) (tI 19 3))) (si 12 20)))))) (si 12 13)))) (si 12 13)))) (fx 10 13))
def ahU:au:=
 (mL 4 (kj 9) 10 (kj 9) ahT (jH 5 64 5 5 (J3 6 0 6 1 (jZ AN eu h_)) (vf 12)))
def ahV:au:=
 (mL 5 iA 4 iA (jG 2 jt 4 2 6 (AS 63 (uG gZ 6 0 (Fy 6)) 7 (AS 64 (uG gZ 6 0 (Fy 6)) 8 (AS 16 (uG gZ 6 0 (Fy 6)) 9 ahU)))) (Qd (jZ ej cw du)))
def akU:au:=
 (za (jO 9 gZ (qS 1) (kQ 1) (Dj (kQ 1) bB (Qb (jZ (yI 5) pj bB) 2) (Db 10 2 (kq 62 gZ bW (fE cw du ahV))))))
def am_:bG Z2 (JG [aP 0 20 7 [8] [(3,3),(3,0),(2,0)] [32,31,30,29,28,27,26,25,24,22,21,4,20,19,16,18,17],aP 0 20 13 [12] [(6,3),(6,0),(5,2)] [67,66,65,64,63,62,61,60,59,58,57,56,55,54,53,52,51,50,49,48,47,46,45,44,43,42,41,40,37,36,35,34,33,32,31,30,29,28,27,26,25,24,22,21,4,20,19,16,18,17],aP 0 20 16 [13] [(6,3),(6,0),(5,2),(4,2)] [71,70,69,68,67,66,65,64,63,62,61,60,59,58,57,56,55,54,53,52,51,50,49,48,47,46,45,44,43,42,41,40,37,36,35,34,33,32,31,30,29,28,27,26,25,24,22,21,4,20,19,16,18,17]]) 20=akU:=kr
def au4:au:=
 (lZ iA 3 iA (my 5 jt 3 (zf 5 4 9 4 bR (my 5 jt 3 (qX (tb 5 5) Jf bW (BV kO fX) nz)) nz)) (BV bB eY))
def au5:au:=
 (wV 3 au4)
def azQ:bG Z2 (JG [aP 0 23 2 [8]]) 23=au5:=kr
def tY(hs:aj At)(s:aj UInt8)(n:Int)(o:Oc):Bool:=match hs[o.h.toNat]? with
 |some a=>a.s==s&&(a.ts.length:Int)==n
 |none=>af
def QS(s:aj UInt8)(n:Int)(i:Nat)(r:Rl):aj Oc:=(zl i r).filter (tY (r.aA++r.aC) s n)
def fB(s:aj UInt8)(n:Int)(l:aj Rl):aj Oc:=l.zipIdx.flatMap λq=>QS s n q.2 q.1
def akV(s:aj UInt8)(n:Int)(l:aj Rl)(r:Rl):fB s n (l++[r])=fB s n l++QS s n l.length r:=by simp[fB,List.zipIdx_append]
variable{s:aj UInt8}
def akW{l:aj Rl}(h:i<l.length):fB s n (l.take (i+1))=fB s n (l.take i)++QS s n i l[i]:=by
 rw[ZN h,akV,PY,Nat.min_eq_left ak]
def vz(s:aj UInt8)(n:Int)(l:aj Rl)(h:∀r∈l,iF r):(fB s n l).length<=3*l.length:=by
 refine YE ?_ (qz l h);unfold fB occs;rw[aJ1,aJ1];generalize l.zipIdx=z;induction z with
 |nil=>simp
 |cons q z ih=>
  have:=Zy (tY (q.1.aA++q.1.aC) s n) (zl q.2 q.1);simp only[ZM,List.sum_cons];unfold QS;unfold QS at ih;omega
def As:o∈fB s n p.aX↔∃i m r a,pJ p o i m r/\(r.aA++r.aC)[m]?=aa a/\a.s=s/\(a.ts.length:Int)=n:=by
 unfold fB QS;rw[XC];constructor
 .rintro⟨⟨r,i⟩,h1,h2⟩;rw[Qz]at h2;rw[XJ]at h1;obtain⟨m,hm,rfl⟩:=Ap.1 h2.1;have hk:=h2.2;simp only[tY]at hk;split at hk
  .rename_i a ha;simp at hk;exact⟨i,m,r,a,⟨h1,rfl,rfl,by simpa using hm,rfl⟩,by simpa using ha,hk⟩
  .cases hk
 .rintro⟨i,m,r,a,h,ha,h1,h2⟩;refine⟨(r,i),by rw[XJ];exact h.ru,Qz.2 ⟨Ap.2 ⟨m,by simpa using h.lt,?_⟩,?_⟩⟩
  .obtain⟨a,b,c⟩:=o;have:=h.or;have:=h.oh;have:=h.ok
   simp_all
  .simp only[tY,h.oh,PT,ha];simp[h1,h2]
def OS(h:o∈fB s n p.aX):o∈occs p.aX:=by
 obtain⟨i,m,r,a,h,_⟩:=As.1 h;exact nS.2 ⟨i,m,r,h⟩
def azR(s:aj UInt8)(n:Int)(i:Nat)(r:Rl)(ax:aj Oc)(hi:i<1000)(asE:ax.length<=500)(hr:r.aA.length+r.aC.length<=3)(eG:∀a∈r.aA++r.aC,a.ts.length<=8)(hk:k0 [iI (i+1:Nat),kY (ax++QS s n i r)]):
 Ze.sat Z2 CC Q [k0] [x0,iS s,iI n,iI i,kY ax,cy r,db (r.aA++r.aC)]:=by
 obtain⟨rn,rk,rr,rg,rb,rv⟩:=r;unfold QS zl at hk;simp only[cy]at*
 rw[<-UR]at hr hk;generalize Ue:rk++rr=hs at hr hk eG⊢;generalize hn:hs.length=q at hr hk;unfold Ze;refine fg (λ(m:Nat)=>[iI ((m:Int) - 1),kY (ax++((pI i rk.length q).take (q- m)).filter (tY hs s n)),iS rn]) (λm=>m<=q) (λm=>m) q ?_ (XS _) λm hm=>?_
 .simp[UU,hn,F4 (show q<=1000 by omega),aw]
 cases m with
 |zero=>
  have hw:=aS hi ak;simp[UU,hw,aw];rw[Wg az];exact hk
 |succ m=>
  have hw:QY.wrap ((m:Int) - 1)=(m:Int) - 1:=F4 ak;have aq:m<hs.length:=ak;have hfl:(((pI i rk.length q).take (q-(m+1))).filter (tY hs s n)).length<=3:=YE (Zy ..) eE;have hc:dG 3 24 (kY (ax++((pI i rk.length q).take (q-(m+1))).filter (tY hs s n))) (.tree 3 [.agg [iI i,iI m,iB (decide (m<rk.length))]])=aa (kY (ax++((pI i rk.length q).take (q-(m+1))).filter (tY hs s n)++[⟨i,(m:Int),decide (m<rk.length)⟩])):=VA (b:=[⟨i,(m:Int),decide (m<rk.length)⟩]) eE;have bI:=Lv (i:=i) (kl:=rk.length) (n:=q) (m:=m) ak;rw[show q-(m+1)+1=q- m by omega]at bI
  have JJ:tY hs s n ⟨i,(m:Int),decide (m<rk.length)⟩=(hs[m].s==s&&(hs[m].ts.length:Int)==n):=by
   simp only[tY,PT,UN aq]
  have tq:((m+1:Nat):Int) - 1=(m:Int):=ak;simp only[tq];generalize hF:((pI i rk.length q).take (q-(m+1))).filter (tY hs s n)=F at*
  simp[UU,aw,aZ,aD,hc,hw,lI aq];by_cases e1:hs[m].s=s
  rotate_left
  .right;refine⟨e1,.mk m ?_ ak ak⟩;rw[bI,O3,hF,aIG (by rw[JJ];simp[e1])];simp
  left;refine⟨e1,?_⟩;by_cases e2:(hs[m].ts.length:Int)=n
  rotate_left
  .right;refine⟨e2,.mk m ?_ ak ak⟩;rw[bI,O3,hF,aIG (by rw[JJ];simp[e2])];simp
  left;refine⟨e2,.mk m ?_ ak ak⟩;rw[bI,O3,hF,List.filter_cons_of_pos (by rw[JJ];simp[e1,e2])];simp
def k51(p:Pg)(h:f_ p)(s:aj UInt8)(n:Int):CC 51 af [bc p,iS s,iI n] (kY (fB s n p.aX)):=by
 refine CC.of azg kr kr (by
  intro y hy;rcases ZP.1 hy with rfl|hy
  .exact cz p
  .exact qC az az _ hy) az ?_
 obtain⟨ds,rs⟩:=p;have hr:=h.r;have hs:=h.rs;simp only at hr hs⊢;simp[atH,bc,UU,aw];unfold ahC;refine aJ rs.length (λi (ax:aj Oc)=>[iI i,kY ax]) (λi ax=>ax=fB s n (rs.take i)) [] ?_ (by simp[fB]) λi ax hi hI=>?_
 .simp[UU]
 by_cases aq:i<rs.length
 .have Ud:=hs _ (Z4 aq);have hl:=vz s n (rs.take i) λr hr=>hs r (TC hr);rw[<-hI]at hl;simp only[PY]at hl;have Cu:=Ny rs[i] (by have:=Ud.h;omega);rw[bQ]at Cu;have hh:=Ud.h;have hwd:QY.wrap ((rs[i].aA.length:Int)+rs[i].aC.length- 1)=(rs[i].aA.length:Int)+rs[i].aC.length- 1:=eU ak ak;simp[UU,aq,nQ aq,aw];exists _,Cu;simp[hwd];refine azR s n i rs[i] ax ak ak Ud.h Ud.hs ?_;exact .mk _ rfl ak (by rw[akW aq,<-hI])
 .simp[UU,aq];rw[hI,Wg ak]
def OT(q:Oc×Rl):IV:=.agg [iI q.1.r,iI q.1.h,iB q.1.k,iS q.2.name,db q.2.aA,db q.2.aC,gw q.2.aL,gw q.2.bC,iI q.2.vars]
abbrev QT(l:aj (Oc×Rl)):IV:=.tree 9 (l.map OT)
@[simp] theorem aDX(l:aj (Oc×Rl)):Pure (QT l):=lS 9 OT (λa=>⟨_,rfl,az⟩) l
def au6{l:aj (Oc×Rl)}(h:i<l.length):cu 9 (QT l) (iI (i:Nat))=aa (.agg [iI l[i].1.r,iI l[i].1.h,iB l[i].1.k,iS l[i].2.name,db l[i].2.aA,db l[i].2.aC,gw l[i].2.aL,gw l[i].2.bC,iI l[i].2.vars]):=cM (by simp[h,OT]) rfl
variable{a:Ac}
def azS{a:aj (Oc×Rl)}{q:Oc×Rl}(h:a.length<=1000):dG 9 144 (QT a) (.tree 9 [.agg [iI q.1.r,iI q.1.h,iB q.1.k,iS q.2.name,db q.2.aA,db q.2.aC,gw q.2.aL,gw q.2.bC,iI q.2.vars]])=aa (QT (a++[q])):=by
 have h2:jo 9 [.agg [iI q.1.r,iI q.1.h,iB q.1.k,iS q.2.name,db q.2.aA,db q.2.aC,gw q.2.aL,gw q.2.bC,iI q.2.vars]]=ab:=rfl;simp[dG,h2,OT];omega
def zJ(p:Pg)(o:Oc):Rl:=match p.aX[o.r.toNat]? with
 |some r=>r
 |none=>⟨[],[],[],[],[],0⟩
def TA:aj At->Bool
 |[a]=>l_ a.ts
 |_=>af
def ab8:∀{hs:aj At},hs.length≠1->TA hs=af
 |[],_=>rfl
 |[_],h=>bH rfl h
 |_::_::_,_=>rfl
def MZ(o:Oc)(r:Rl):Bool:= !o.k&&(r.aL.isEmpty&&TA (r.aA++r.aC))
def SP(o:Oc)(r:Rl):Bool:= !o.k||gl (j9 r) r.bC
def gG(p:Pg):aj Oc->Bool
 |[]=>af
 |o::l=>MZ o (zJ p o)||(SP o (zJ p o)&&gG p l)
def gb(p:Pg):aj Oc->Nat
 |[]=>0
 |o::l=>if SP o (zJ p o)=ab then gb p l+1 else 0
def aIk(p:Pg):∀l:aj Oc,gb p l<=l.length
 |[]=>by simp[gb]
 |o::l=>by
  have:=aIk p l
  grind [gb]
def HO(h:pJ p o i m r):zJ p o=r:=by
 grind [zJ,h.or,h.ru]
def ofQ(p:Pg)(s:aj UInt8)(n:Int):aj (Oc×Rl):=(fB s n p.aX).map λo=>(o,zJ p o)
def ana(p:Pg)(h:f_ p)(s:aj UInt8)(n:Int):CC 117 af [bc p,iS s,iI n] (QT (ofQ p s n)):=by
 refine CC.of atG kr kr (s7 (cz p) az az) az ?_;have h51:=k51 p h s n;have hl:=vz s n p.aX h.rs;have hr:=h.r
 have hm:∀o∈fB s n p.aX,∃(i:Nat) (hi:i<p.aX.length),o.r=(i:Int)/\zJ p o=p.aX[i]:=λo ho=>by
  have⟨i,m,r,a,h,_⟩:=As.1 ho;have⟨h1,h2⟩:=Z5.1 h.ru;exact⟨i,h1,h.or,by rw[HO h,h2]⟩
 unfold ofQ;generalize zJ p=R at*
 have hP:=bc.eq_1 p;rw[hP]at*
 generalize fB s n p.aX=os at*
 simp[amO,UU,aw];exists _,h51;simp;refine aJ os.length (λi (L:aj (Oc×Rl))=>[iI i,QT L]) (λi L=>L=(os.map λo=>(o,R o)).take i) [] ?_ az λi L hi hI=>?_
 .rfl
 by_cases aq:i<os.length
 .have hw:=aS aq ak;have⟨j,hj,W7,hR0⟩:=hm _ (Z4 aq);have hR:=nQ hj;rw[<-W7,<-hR0]at hR;have hc:=azS (a:=L) (q:=(os[i],R os[i])) aI;have bI:L++[(os[i],R os[i])]=(os.map λo=>(o,R o)).take (i+1):=by rw[ZN aI,hI];simp
  have j_:qJ os.length (λi (L:aj (Oc×Rl))=>[iI i,QT L]) (λi L=>L=(os.map λo=>(o,R o)).take i) i [iI (i+1:Nat),QT (L++[(os[i],R os[i])])]:=.mk _ rfl ak bI;have eW:=GR aq;generalize R os[i]=r at*
  generalize os[i]=o at*
  generalize QT (L++[(o,r)])=z at*
  simp[UU,aq,hw,eW,hR,aw,aD]
  grind
 .rw[Wg aI]at hI;simp[UU,aq,hI]
def Ds(ts:aj Tm)(n:Int):aF IV:=if rG ts n=ab then aa (.agg [])else ah
def ahW(h:i<ts.length):(λq=>if q=ts[i].n then aa (.agg [])else Ds (ts.take i) q)=Ds (ts.take (i+1)):=by
 funext q;unfold Ds
 have:rG (ts.take (i+1)) q=ab↔rG (ts.take i) q=ab\/q=ts[i].n:=by
  rw[qD,qD,ZN h]
  grind
 grind
def ahX(hc:jv cs (Ds ts))(n:Int):EI Z2 3 (iV iI cs) (iI n)=aa (iB (rG ts n)):=by
 rw[hc.has vX]
 grind [Ds]
def ahY(hc:jv cs (Ds ts))(n:Int):o_ Z2 3 (iV iI cs) (iI n) (.agg [])=aa (.agg []):=by
 rw[hc.get vX]
 grind [Ds]
def ahZ:Ds []=λ_=>ah:=by rfl
def au7(i:Nat)(hi:i<1000)(o:Oc)(ho:o.k=af)(r:Rl)(a:At)(ha:a.ts.length<=8)(hQ:l_ a.ts=ab->Q (iB ab))(hk:l_ a.ts=af->k0 [iI (i+1:Nat)]):
 ahB.sat Z2 CC Q [k0] [x0,x1,x2,x3,iI i,OT (o,r),x6,c_ a]:=by
 have mU:=aS hi ak;have hA:=c_.eq_1 a;have hE:OT (o,r)=.agg [iI o.r,iI o.h,iB o.k,iS r.name,db r.aA,db r.aC,gw r.aL,gw r.bC,iI r.vars]:=rfl;rw[hA,hE,ho];refine aJ a.ts.length (λj (cs:aj (Int×IV))=>[iI j,iV iI cs]) (λj cs=>jv cs (Ds (a.ts.take j))/\EN a.ts j) [] ?_ ⟨by rw[aJu,ahZ];exact .nil,by simp[EN]⟩ λj cs hj hI=>?_
 .simp[cq,iV]
 have⟨hc,hv⟩:=hI;by_cases aq:j<a.ts.length
 rotate_left
 .simp[cq,aq];exact hQ (HL hv ak)
 have hw:=aS aq ak;have hg:=ahY hc a.ts[j].n;have hb:=ahX hc a.ts[j].n;have⟨cL,sF,cX⟩:=hc.ins vX a.ts[j].n (.agg []);rw[ahW aq]at sF;simp[cq,aq,hw,mU,iJ aq,bL,aw,hg,hb,cX];by_cases e:a.ts[j].k=1
 .right;refine⟨e,?_⟩;cases hd:rG (a.ts.take j) a.ts[j].n with
  |false=>simp;exact .mk cL rfl ak ⟨sF,EO hv aq e hd⟩
  |true=>simp;exact hk (HN aq hd)
 .left;exact⟨e,hk (HM aq e)⟩
def aDY(p:Pg)(hp:f_ p)(hf:∀r∈p.aX,gy r)(s:aj UInt8)(n:Int):CC 49 af [bc p,iS s,iI n] (iB (gG p (fB s n p.aX))):=by
 refine CC.dB aze kr (λ_=>kr) (s7 (cz p) az az) cE ?_;have OU:=ana p hp s n;have hl:=vz s n p.aX hp.rs;have hr:=hp.r
 have Ci:∀o∈fB s n p.aX,zJ p o∈p.aX:=λo ho=>by
  have⟨i,m,r,a,h,_⟩:=As.1 ho;rw[HO h];exact ZU h.ru
 unfold ofQ at OU;have hN:=gG.eq_2 p;generalize t_:fB s n p.aX=os at*
 obtain⟨L,hL⟩:∃L,L=os.map λo=>(o,zJ p o):=⟨_,rfl⟩;rw[<-hL]at OU;have hLl:L.length=os.length:=aI;have hLi:∀i (h:i<L.length),L[i]=(os[i]'ak,zJ p (os[i]'ak)):=aI
 have hP:=bc.eq_1 p;rw[hP]at*
 simp[atC,UU,aw];exists _,OU;simp;refine aJ L.length (λi (_:Unit)=>[iI i]) (λi _=>gG p os=gG p (os.drop i)) () ?_ az λi _ hi hI=>?_
 .rfl
 by_cases aq:i<L.length
 rotate_left
 .rw[ZX ak]at hI;simp[UU,aq,hI,gG]
 have hw:=aS aq ak;have yd:i<os.length:=ak;rw[UQ yd,hN]at hI;have hm:=Ci _ (Z4 yd);have eW:=au6 aq;rw[hLi i aq]at eW;have j_:gG p os=gG p (os.drop (i+1))->qJ L.length (λi (_:Unit)=>[iI i]) (λi _=>gG p os=gG p (os.drop i)) i [iI (i+1:Nat)]:=λh=>.mk () rfl ak h;generalize zJ p os[i]=r at*
 generalize os[i]=o at*
 have j8:=hp.rs _ hm;have hh:=j8.h;have akX:=WV _ j8 (hp.rn _ hm) (hf _ hm);have h33:=Ny r ak;have eG:=j8.hs;have hy:=λQ k0 x0 x1 x2 x3 x6 ho a ha hQ hk=>au7 (Q:=Q) (k0:=k0) (x0:=x0) (x1:=x1) (x2:=x2) (x3:=x3) (x6:=x6) i ak o ho r a ha hQ hk;have hE:OT (o,r)=.agg [iI o.r,iI o.h,iB o.k,iS r.name,db r.aA,db r.aC,gw r.aL,gw r.bC,iI r.vars]:=rfl;unfold MZ SP at hI;rw[bQ]at*
 generalize gl (j9 r) r.bC=b at*
 generalize r.aA++r.aC=hs at*
 have⟨o1,o2,o3⟩:=o;cases o3 with
 |true=>
  simp at hI;simp[UU,aq,hw,eW,aw];exists _,akX;cases b with
  |false=>simp_all
  |true=>simp_all
 |false=>
  simp[UU,aq,hw,eW,aw];by_cases e1:0<r.aL.length
  .grind
  have dt:r.aL=[]:=aI;rw[dt]at hI;right;exists dt,_,h33;simp;by_cases e2:hs.length=1
  rotate_left
  .left;refine⟨ak,j_ ?_⟩;rw[ab8 e2]at hI
   grind
  right;exists ak
  obtain⟨a0,rfl⟩:∃a,hs=[a]:=by
   match hs,e2 with
   |[a],_=>simp
  have i0:cu 2 (db [a0]) (iI 0)=aa (.agg [iS a0.s,iT a0.ts]):=cM (i:=0) (x:=c_ a0) rfl rfl;have hA:=c_.eq_1 a0;have hy:=λQ k0 x0 x1 x2 x3 x6=>hy Q k0 x0 x1 x2 x3 x6 rfl a0 (eG _ az);simp only[hA,db,ZM,Wk]at hy i0;simp only[TA,ZM,hA]at hI⊢;simp[i0];exact hy _ _ _ _ _ _ _ (λh=>by rw[h]at hI;simp at hI;simp[hI]) λh=>by rw[h]at hI;exact j_ (by simpa using hI)
def aDZ(p:Pg)(hp:f_ p)(hf:∀r∈p.aX,gy r)(s:aj UInt8)(n:Int):CC 50 af [bc p,iS s,iI n] (iI (gb p (fB s n p.aX))):=by
 refine CC.B9 azf kr (λ_=>kr) (s7 (cz p) az az) cE ?_;have OU:=ana p hp s n;have hl:=vz s n p.aX hp.rs;have hr:=hp.r
 have Ci:∀o∈fB s n p.aX,zJ p o∈p.aX:=λo ho=>by
  have⟨i,m,r,a,h,_⟩:=As.1 ho;rw[HO h];exact ZU h.ru
 unfold ofQ at OU;have hN:=gb.eq_2 p;generalize t_:fB s n p.aX=os at*
 obtain⟨L,hL⟩:∃L,L=os.map λo=>(o,zJ p o):=⟨_,rfl⟩;rw[<-hL]at OU;have hLl:L.length=os.length:=aI;have hLi:∀i (h:i<L.length),L[i]=(os[i]'ak,zJ p (os[i]'ak)):=aI
 have hP:=bc.eq_1 p;rw[hP]at*
 simp[atE,UU,aw];exists _,OU;simp;refine aJ L.length (λi (_:Unit)=>[iI i]) (λi _=>gb p os=i+gb p (os.drop i)) () ?_ az λi _ hi hI=>?_
 .rfl
 by_cases aq:i<L.length
 rotate_left
 .rw[ZX ak,gb]at hI;have:gb p os=L.length:=ak;simp[UU,aq,this]
 have hw:=aS aq ak;have yd:i<os.length:=ak;rw[UQ yd,hN]at hI;have hm:=Ci _ (Z4 yd);have eW:=au6 aq;rw[hLi i aq]at eW;have j_:gb p os=(i+1)+gb p (os.drop (i+1))->qJ L.length (λi (_:Unit)=>[iI i]) (λi _=>gb p os=i+gb p (os.drop i)) i [iI (i+1:Nat)]:=λh=>.mk () rfl ak h;generalize zJ p os[i]=r at*
 generalize os[i]=o at*
 have akX:=WV _ (hp.rs _ hm) (hp.rn _ hm) (hf _ hm);unfold SP at hI;rw[bQ]at*
 generalize gl (j9 r) r.bC=b at*
 have⟨o1,o2,o3⟩:=o;cases o3 with
 |false=>
  simp at hI;simp[UU,eW,aw]
  grind
 |true=>
  simp[UU,aq,eW,aw];exists _,akX;cases b with
  |false=>simp at hI;simp[hI]
  |true=>simp at hI;simp;grind
def aD0(l:aj Hint):fz:=⟨QI++[17,19,53,54,55,56,57,58,59,60,61,126,127,128,129,130,131,132,133,134],QJ,QK,l++[⟨999997,0,0,[],[],[],[]⟩,⟨999999,0,0,[],[],[],[]⟩],VB⟩
def ah0:au:=
 (mL 3 js 4 js (jG 3 cw 4 3 6 (qb (lV 6) 7 (oA 39 7 7 7 7 7 7 8 (jG 3 cw 4 3 9 (qx 2 h_ tL (zf 2 10 9 10 bR (qX (iX 10) (iX 10) bW (vq 3 cw 4 3 11 (.rw (lV 11)) (Ms qO FI (jH 3 24 5 3 (ft 11 11 11) (vf 12)))) vh) vh)))))) I4)
def au8:au:=
 (wV 2 (Db 18 3 ah0))
def azT:bG Z2 (aD0 [aP 0 16 4 [7,9] [(1,0)]]) 16=au8:=kr
def HP(u:Un):De:=⟨u.s,u.n⟩
structure aD1(ax:aj Ac)(U:aj De)(u:Un)(rl:Int)(b:Bk):Prop where
 k:akO b.o b.c
 r:b.o.r<rl
 f:∃t,pD ax U ⟨λv=>if v=b.o.h then aa ⟨u.s,u.n⟩else ah,λ_=>af⟩ b.c t/\Zw t
structure au9(ax:aj Ac)(U:aj De)(rl:Int)(u:Un):Prop where
 l:u.bs.length<=160
 s:ic u.s=ab
 n:0<=u.n/\u.n<=6
 la:0<=u.la/\u.la<=u.bs.length
 b:∀b∈u.bs,aD1 ax U u rl b
structure SQ(us:aj Un)(ax:aj Ac)(rl:Int):Prop where
 rr:0<=rl/\rl<=40
 ul:us.length<=30
 al:ax.length<=480
 a:∀a∈ax,EK a/\a.ps.length<=8
 u:∀u∈us,au9 ax (us.map HP) rl u
 nd:(us.map HP).Nodup
def ae4(LU:aj (Int×IV))(BI:aj ((Int×Int)×IV))(j:Nat):aj IV:=[iI j,iV iI LU,iV QP BI]
structure aD2(ax:aj Ac)(U:aj De)(c:aj In)(t:Sb)(j:Nat)(a:Sb×aj (Int×IV)×aj ((Int×Int)×IV)):Prop where
 r:pD ax U a.1 (c.drop j) t
 h:jv a.2.1 (fH a.1.H)
 p:jv a.2.2 (fA a.1.A)
def ah1(H:Int->aF De)(k:Int)(d:De):(λq=>if q=k then aa (eD d)else fH H q)=fH (λv=>if v=k then aa d else H v):=by
 funext q;by_cases h:q=k
 all_goals simp_all[fH]
def Zz{B:Type}[DecidableEq B](A:B->Bool)(k:B):(λq=>if q=k then aa (iB ab)else fA A q)=fA (λp=>decide (p=k)||A p):=by
 funext q;unfold fA
 grind
set_option maxHeartbeats 4000000 in
def azU(us:aj Un)(ax:aj Ac)(eG:ax.length<=480)(rl:Int)(U:aj De)(Gj:aj (De×IV))(hU:jv Gj (fA λd=>decide (d∈U)))(b:Bk)(hc:b.c.length<=200)(s0 t:Sb)(Ux:aj (Int×IV))(hH0:jv Ux (fH s0.H))(hA0:s0.A=λ_=>af)(hr:pD ax U s0 b.c t)(hf:Zw t)(j:Nat)(hj:j<1000)(hk:k4 [iI (j+1:Nat)]):
 StQ SH Q [k0,k1,k2,k3,k4] [lM us ax rl,x1,x2,x3,iV eD Gj,x5,x6,iI j,Dr b,x9,iV iI Ux]:=by
 have hM:=lM.eq_1 us ax rl;have hB:=Dr.eq_1 b;rw[hM,hB];unfold SH
 refine aJ b.c.length (λj (a:Sb×aj (Int×IV)×aj ((Int×Int)×IV))=>ae4 a.2.1 a.2.2 j) (λj a=>aD2 ax U b.c t j a) (s0,Ux,[]) ?_ ⟨hr,hH0,by
  simp only[hA0];exact jv.nil⟩ λq a hq hI=>?_
 .simp[cq,ae4,iV]
 obtain⟨s,LU,BI⟩:=a;obtain⟨iE,gx,sU⟩:=hI;simp only at iE gx sU;unfold ae4;by_cases aq:q<b.c.length
 rotate_left
 .rw[ZX ak]at iE;obtain rfl:s=t:=iE;have hy:=λk5 eZ=>azB (Q:=Q) (k0:=k0) (k1:=k1) (k2:=k2) (k3:=k3) (k4:=k4) (k5:=k5) (x0:=.agg [zI us,dC ax,iI rl]) (x1:=x1) (x2:=x2) (x3:=x3) (x4:=iV eD Gj) (x5:=x5) (x6:=x6) (x8:=.agg [iI b.o.r,iI b.o.h,iB b.o.k,cP b.c]) (x9:=x9) (ey:=iV iI Ux) (eZ:=eZ) s hf _ (akP gx) BI sU j hj hk;have Jo:kS 9 (iV iI LU) (iB ab)=aa (.int (LU.map (EH iI)).length):=rfl;simp[cq,aq,Jo,aGB];exact hy _ _
 have hw:=aS aq ak;have hd:=UQ aq;rw[hd]at iE;obtain⟨u,bI,iE⟩:=iE;have eW:=ixI aq;generalize b.c[q]=i at*
 cases bI with
 |fd n a e eb ea el=>
  obtain⟨hn,hna⟩:=Z5.1 ea;have hC:=Ak hn;rw[hna]at hC;obtain⟨cL,cD,ku⟩:=gx.ins vX i.a (eD ⟨a.s,a.n⟩);rw[ah1]at cD;have ku:rE Z2 3 (iV iI LU) (iI i.a) (.agg [iS a.s,iI a.n])=aa (iV iI cL):=ku;have z1:¬ax.length<=n:=ak;simp[cq,aq,eW,hw,aw,e,eb,hC,el,z1,ku];exact .mk (_,cL,BI) rfl ak ⟨iE,cD,sU⟩
 |mt d e E8 jV=>
  have hg:=gx.get vX i.a (.agg [iS [],iI 0]);have hf':fH s.H i.a=aa (eD d):=by unfold fH;rw[E8];rfl
  rw[hf']at hg;have hg:o_ Z2 3 (iV iI LU) (iI i.a) (.agg [iS [],iI 0])=aa (.agg [iS d.s,iI d.n]):=hg;have z1:¬d.n<=i.b:=ak;simp[cq,aq,eW,hw,aw,e,hg,z1];exact .mk (_,LU,BI) rfl ak ⟨iE,gx,sU⟩
 |ap e=>
  obtain⟨Br,dz,Wn⟩:=sU.ins Zr (i.a,i.b) (iB ab);rw[Zz]at dz;obtain⟨cs2,oT,Wo⟩:=dz.ins Zr (i.b,i.a) (iB ab);rw[Zz]at oT;have Wn:rE Z2 214 (iV QP BI) (.agg [iI i.a,iI i.b]) (iB ab)=aa (iV QP Br):=Wn;have Wo:rE Z2 214 (iV QP Br) (.agg [iI i.b,iI i.a]) (iB ab)=aa (iV QP cs2):=Wo;simp[cq,aq,eW,hw,aw,e,Wn,Wo];exact .mk (_,LU,cs2) rfl ak ⟨iE,gx,oT⟩
 |pu e hu=>
  by_cases e2:i.g.op=0
  .have hg:=hU.get aeU ⟨i.g.s,i.g.ts.length⟩ (iB af);unfold fA at hg;rw[aW (decide_eq_true (hu e2))]at hg;have hg:o_ Z2 82 (iV eD Gj) (.agg [iS i.g.s,iI i.g.ts.length]) (iB af)=aa (iB ab):=hg;simp[cq,aq,eW,hw,aw,e,e2,hg,aZ];exact .mk (_,LU,BI) rfl ak ⟨iE,gx,sU⟩
  .simp[cq,aq,eW,hw,aw,e,e2];exact .mk (_,LU,BI) rfl ak ⟨iE,gx,sU⟩
 |no e3 e1 e4 e9=>
  simp[cq,aq,eW,hw,aw,e3,e1,e4,e9];exact .mk (_,LU,BI) rfl ak ⟨iE,gx,sU⟩
def azV(us:aj Un)(ax:aj Ac)(eG:ax.length<=480)(rl:Int)(U:aj De)(Gj:aj (De×IV))(hU:jv Gj (fA λd=>decide (d∈U)))(u:Un)(hu:au9 ax U rl u)(j:Nat)(hj:j<1000)(hk:k3 [iI (j+1:Nat)]):
 abR.sat Z2 CC Q [k0,k1,k2,k3] [lM us ax rl,x1,x2,x3,iV eD Gj,iI j,w8 u]:=by
 have tB:=aS hj ak;have hM:=lM.eq_1 us ax rl;have hE:=w8.eq_1 u;have Kg:=hu.l;refine aJ u.bs.length (λk (_:Unit)=>[iI k]) (λ_ _=>True) () ?_ trivial λk _ gR _=>?_
 .rfl
 by_cases aq:k<u.bs.length
 rotate_left
 .rw[hM,hE];simp[cq]
  grind
 have hb:=hu.b _ (Z4 aq);have eW:=auI aq;have au_:=aDE _ _ hb.k;have hc:=hb.k.len;have⟨t,TK,ht2⟩:=hb.f;have z1:¬rl<=u.bs[k].o.r:=by have:=hb.r;omega
 have⟨cs,cD,ku⟩:=(jv.nil:jv ([]:aj (Int×IV)) _).ins vX u.bs[k].o.h (eD ⟨u.s,u.n⟩);have ku:rE Z2 3 (.aU []) (iI u.bs[k].o.h) (.agg [iS u.s,iI u.n])=aa (iV iI cs):=ku
 have cD:jv cs (fH λv=>if v=u.bs[k].o.h then aa ⟨u.s,u.n⟩else ah):=by
  have:=ah1 (λ_=>ah) u.bs[k].o.h ⟨u.s,u.n⟩;rw[<-this];exact cD
 have hy:=λk4 hk4=>azU (Q:=Q) (k0:=k0) (k1:=k1) (k2:=k2) (k3:=k3) (k4:=k4) (x1:=x1) (x2:=x2) (x3:=x3) (x5:=iI j) (x6:=w8 u) (x9:=iI 0) us ax eG rl U Gj hU u.bs[k] hc _ t cs cD rfl TK ht2 k ak hk4;have hB:=Dr.eq_1;have hBB:∀o c,kz o c=.agg [iI o.r,iI o.h,iB o.k,cP c]:=λ_ _=>rfl;rw[hBB]at au_;rw[hM,hE]at*
 generalize u.bs[k]=b at*
 simp[cq,aq,eW,aw];refine⟨_,au_,?_⟩;simp[z1,ku];refine⟨ak,hy _ ?_⟩;exact .mk () rfl ak trivial
def azW(us:aj Un)(ax:aj Ac)(rl:Int)(h:SQ us ax rl)(Gj:aj (De×IV))(hU:jv Gj (fA λd=>decide (d∈us.map HP)))(hQ:Q (iI 0)):
 StQ abS Q [k0,k1,k2] [lM us ax rl,x1,x2,x3,iV eD Gj]:=by
 have Kg:=h.ul;have hM:=lM.eq_1 us ax rl;refine aJ us.length (λk (_:Unit)=>[iI k]) (λ_ _=>True) () ?_ trivial λk _ gR _=>?_
 .rfl
 by_cases aq:k<us.length
 .have hy:=λk3 wm=>azV (Q:=Q) (k0:=k0) (k1:=k1) (k2:=k2) (k3:=k3) (x1:=x1) (x2:=x2) (x3:=x3) us ax h.al rl _ Gj hU us[k] (h.u _ (Z4 aq)) k ak wm;have hE:=w8.eq_1;rw[hM]at*
  simp[cq,aq,SJ aq,aw];refine hy _ ?_;exact .mk () rfl ak trivial
 simp_all[cq,aZ]
variable{us:aj Un}
def aaa(nj:(us.map HP).Nodup)(h:i<us.length):HP us[i]∉(us.take i).map HP:=by
 intro hm;have⟨u,hu,he⟩:=Z6.1 hm;obtain⟨j,hj,rfl⟩:=List.mem_iff_getElem.1 hu;simp at hj;have:=Zj.1 nj j i aI aI ak
 grind
def UD(us:aj Un)(k:Nat)(d:De):Bool:=decide (d∈(us.take k).map HP)
def azX(us:aj Un)(ax:aj Ac)(rl:Int)(h:SQ us ax rl)(hQ:Q (iI 0)):
 abT.sat Z2 CC Q [k0,k1] [lM us ax rl,x1,x2]:=by
 have Kg:=h.ul;have hM:=lM.eq_1 us ax rl;have hy:=λk2 x3 Gj hU=>azW (Q:=Q) (k0:=k0) (k1:=k1) (k2:=k2) (x1:=x1) (x2:=x2) (x3:=x3) us ax rl h Gj hU hQ;rw[hM]at*
 refine aJ us.length (λk (cs:aj (De×IV))=>[iI k,iV eD cs]) (λk cs=>jv cs (fA (UD us k))) [] ?_ (by
  have:fA (UD us 0)=λ_=>ah:=by rfl
  rw[this];exact jv.nil) λk cs gR hI=>?_
 .rfl
 by_cases aq:k<us.length
 .have hw:=aS aq ak;have hu:=h.u _ (Z4 aq);have gq:=aaa h.nd aq;have akL:=auE us[k].s us[k].n hu.s hu.n.1 hu.n.2;have hg:=hI.get aeU (HP us[k]) (iB af);unfold fA at hg;rw[aY (by simp_all[UD])]at hg;have hg:o_ Z2 82 (iV eD cs) (.agg [iS us[k].s,iI us[k].n]) (iB af)=aa (iB af):=hg;have⟨cL,cD,ku⟩:=hI.ins aeU (HP us[k]) (iB ab);have ku:rE Z2 82 (iV eD cs) (.agg [iS us[k].s,iI us[k].n]) (iB ab)=aa (iV eD cL):=ku;rw[Zz]at cD;have z1:¬us[k].la<0:=by have:=hu.la.1;omega
  have z2:¬(us[k].bs.length:Int)<us[k].la:=by have:=hu.la.2;omega
  have bI:(λd=>decide (d=HP us[k])||UD us k d)=UD us (k+1):=by
   funext d;unfold UD;rw[ZN aq,Ts]
   grind
  rw[bI]at cD;simp[cq,aq,hw,SJ aq,aw];refine⟨_,akL,?_⟩;simp[hg,aZ,z1,z2,ku];exact⟨ak,ak,.mk cL rfl ak cD⟩
 .have hun:UD us k=λd=>decide (d∈us.map HP):=by
   grind [UD]
  rw[hun]at hI;simp[cq]
  grind
def azY(us:aj Un)(ax:aj Ac)(rl:Int)(h:SQ us ax rl)(hQ:Q (iI 0)):
 StQ abU Q [k0] [lM us ax rl,x1]:=by
 have eG:=h.al;have hM:=lM.eq_1 us ax rl;have hy:=λk1 x2=>azX (Q:=Q) (k0:=k0) (k1:=k1) (x1:=x1) (x2:=x2) us ax rl h hQ;rw[hM]at*
 refine aJ ax.length (λk (_:Unit)=>[iI k]) (λ_ _=>True) () ?_ trivial λk _ gR _=>?_
 .rfl
 by_cases aq:k<ax.length
 .have hw:=aS aq ak;have ha:=h.a _ (Z4 aq);have ava:=aDB _ ha.1 ha.2;have hC:=lK.eq_1;rw[hC]at ava;simp[cq,aq,hw,Ak aq,aw];exists _,ava;simp;exact .mk () rfl ak trivial
 simp_all[cq]
def k52(us:aj Un)(ax:aj Ac)(rl:Int)(h:SQ us ax rl):CC 52 ab [lM us ax rl] (iI 0):=by
 refine CC.of auw kr kr (jh (.agg _ az)) az ?_;have Kg:=h.ul;have eG:=h.al;have hM:=lM.eq_1 us ax rl;have hy:=λk0 x1=>azY (Q:=(·=iI 0)) (k0:=k0) (x1:=x1) us ax rl h rfl;have z1:¬rl<0:=by have:=h.rr.1;omega
 have z2:¬40<rl:=by have:=h.rr.2;omega
 have z3:¬(30:Int)<us.length:=ak;have z4:¬(480:Int)<ax.length:=ak;rw[hM]at*
 simp[am2,cq,aw,z1,z2,z3,z4];refine aJ us.length (λk (_:Unit)=>[iI k]) (λ_ _=>True) () ?_ trivial λk _ gR _=>?_
 .rfl
 by_cases aq:k<us.length
 .have hw:=aS aq ak;have hu:=(h.u _ (Z4 aq)).l;have z5:¬(160:Int)<us[k].bs.length:=ak;simp[cq,aq,hw,SJ aq,aw,z5];exact .mk () rfl ak trivial
 simp_all[cq]
def ae6(hx:Pure x)(hy:Pure y)(hz:Pure z):∀u∈[x,y,z],Pure u:=by
 intro u hu;rcases ZP.1 hu with rfl|hu
 .exact hx
 .exact qC hy hz _ hu
def SR(a:Ac):∀(l:aj Ac) (i:Nat),B8 a l i= -1/\a∉l\/∃j:Nat,B8 a l i=((i+j:Nat):Int)/\l[j]?=aa a
 |[],i=>.inl ⟨rfl,az⟩
 |x::l,i=>by
  rw[B8];by_cases h:x=a
  .subst h;rw[aW rfl];exact .inr ⟨0,rfl,rfl⟩
  .rw[aY h];rcases SR a l (i+1)with⟨h1,h2⟩|⟨j,h1,h2⟩
   .exact .inl ⟨h1,by simp[h2,Ne.symm h]⟩
   .exact .inr ⟨j+1,by rw[h1];congr 1;omega,by simpa using h2⟩
def apO(h:a∈l):∃j:Nat,nR l a=(j:Int)/\l[j]?=aa a:=by
 rcases SR a l 0 with⟨_,h2⟩|⟨j,h1,h2⟩
 .exact bH h h2
 .exact⟨j,by unfold nR;rw[h1,Nat.zero_add],h2⟩
def apP(h:¬nR l a<0):a∈l:=by
 rcases SR a l 0 with⟨h1,_⟩|⟨j,_,h2⟩
 .unfold nR at h;omega
 .exact ZU h2
def NF(hs:aj At)(x:Pn)(k:Nat):Ac:=⟨(QN hs x k).s,(QN hs x k).ts.length,x.jJ.getD k []⟩
def akY(hs:aj At)(ax:aj Ac)(x:Pn)(k:Nat):zr hs ax x k=nR ax (NF hs x k):=rfl
def LV(p:Pg)(x:Pn)(n:Nat)(ax:aj Ac):Prop:=∀(i:Nat) (r:Rl),p.aX[i]?=aa r->x.o.r=i->∀k<n,NF (r.aA++r.aC) x k∈ax
def NG(p:Pg)(P:Ac->Prop)(x:Pn):Prop:=x.bj.length<=3/\∀k<x.bj.length,∃i n r a ps,Part p x k i n r a ps/\ps.length<=8/\P ⟨a.s,a.ts.length,ps⟩
structure pK(P:Ac->Prop)(n:Nat)(ax:aj Ac):Prop where
 l:ax.length<=n
 p:∀a∈ax,a.ps.length<=8/\P a
def ah2:∀(a b:aj Int),a.Nodup->(∀v∈a,v∈b)->b.length=a.length->b.Nodup
 |[],b,_,_,hl=>by rw[List.eq_nil_of_length_eq_zero hl];simp
 |x::a,b,hn,hs,hl=>by
  obtain⟨b1,b2,rfl⟩:=VI (hs x az);have mD:=UA.1 hn
  have cB:∀u∈a,u∈b1++b2:=λu hu=>by
   have:=hs u (Ys _ hu);rw[ZV,ZP]at this;rw[ZV];rcases this with h|rfl|h
   .exact .inl h
   .exact bH hu mD.1
   .exact .inr h
  have dq:(b1++b2).length=a.length:=by simp at hl⊢;omega
  have ih:=ah2 a (b1++b2) mD.2 cB dq;have hx:x∉b1++b2:=λhx=>mD.1 (HF a (b1++b2) mD.2 cB dq x hx);rw[aKn]at ih⊢;rw[ZV]at hx;refine⟨ih.1,UA.2 ⟨λh=>hx (.inr h),ih.2.1⟩,λu hu v hv he=>?_⟩;rcases ZP.1 hv with rfl|hv
  .exact hx (.inl (he▸hu))
  .exact ih.2.2 u hu v hv he
def akZ{n:Nat}{aO:aj Int}(hm:m<n)(h:qY n m aO=ab):((m:Int)::aO).Nodup/\aO.length+1=n/\pq n ((m:Int)::aO)/\∀v:Int,0<=v->v<n->v=m\/v∈aO:=by
 have bM:=(MV h).1;unfold qY at h;rw[VM,decide_eq_true_eq,decide_eq_true_eq]at h;obtain⟨h1,h2⟩:=h;have nj:=ah2 _ _ (s6 n m) h2 h1.symm
 have dE:∀v,v∈aO↔(0<=v/\v<n)/\v≠m:=λv=>by
  rw[<-rT];exact⟨λhv=>HF _ _ (s6 n m) h2 h1.symm v hv,h2 v⟩
 have avb:((m:Int)::aO).Nodup:=UA.2 ⟨λhx=>((dE _).1 hx).2 rfl,nj⟩
 have cQ:∀v:Int,0<=v->v<n->v=m\/v∈aO:=λv h0 hl=>by
  by_cases e:v=m
  .exact .inl e
  .exact .inr ((dE v).2 ⟨⟨h0,hl⟩,e⟩)
 have avc:pq n ((m:Int)::aO):=λv hv=>by
  rcases ZP.1 hv with rfl|hv
  .omega
  .exact bM v hv
 have l1:=zy _ (lN n) avb λv hv=>by
  rw[nG];exact avc v hv
 have l2:=zy (lN n) ((m:Int)::aO) (BE n) λv hv=>by
  rw[nG]at hv;rcases cQ v hv.1 hv.2 with h|h
  .simp[h]
  .simp[h]
 rw[nD]at l1 l2;simp at l1 l2;exact⟨avb,ak,avc,cQ⟩
def ab9(vs:aj Int):∀(ts:aj Tm) (i:Nat),(qB vs ts i).Pairwise (·<·)/\∀v∈qB vs ts i,(i:Int)<=v/\v<i+ts.length
 |[],_=>by simp[qB]
 |t::ts,i=>by
  obtain⟨h1,h2⟩:=ab9 vs ts (i+1)
  have we:∀v∈qB vs ts (i+1),(i:Int)<v/\v<i+(t::ts).length:=λv hv=>by
   have:=h2 v hv;simp;omega
  rw[qB];unfold Ur;split
  .refine⟨List.pairwise_append.2 ⟨az,h1,λa ha b hb=>?_⟩,λv hv=>?_⟩
   .obtain rfl:=Z3.1 ha;exact(we b hb).1
   .rcases ZV.1 hv with hv|hv
    .obtain rfl:=Z3.1 hv;simp;omega
    .have:=we v hv;omega
  .exact⟨by simpa using h1,λv hv=>by have:=we v (by simpa using hv);omega⟩
def aHr(hs:aj At):∀(vs doneZQ:aj Int) (k:Nat) (ps:aj Int),(eA hs doneZQ vs)[k]?=aa ps->∃v d,vs[k]?=aa v/\ps=gm hs d (gB hs v)
 |[],_,k,_,h=>by simp[eA]at h
 |v::vs,doneZQ,0,ps,h=>by
  rw[eA]at h;simp at h;exact⟨v,doneZQ,rfl,h.symm⟩
 |v::vs,doneZQ,k+1,ps,h=>by
  rw[eA]at h;exact aHr hs vs _ k ps (by simpa using h)
def LW:∀{ps:aj Int},(∀v∈ps,0<=v/\v<ts.length)->(mA ts ps).length=ps.length
 |[],_=>rfl
 |v::ps,h=>by
  have ih:=LW (ps:=ps) λu hu=>h u (Ys _ hu);obtain⟨h0,h1⟩:=h v az
  have e:Al ts v=[ts[v.toNat]]:=by
   unfold Al;rw[aW h0,UN ak]
  unfold mA at*
  rw[XG,e,UR,ih];simp;omega
variable{a:At}{hs:aj At}
def ab_{n:Nat}(h:hs[n]?=aa a):gB hs n=a.ts:=by
 unfold gB;rw[aW ak,show((n:Int)).toNat=n from rfl,h]
def sA{kn:aj Int}:∀{ts:aj Tm} {i:Nat} {x:In},x∈cZ h kn ts i->∃(j:Nat) (t:Tm),t∈ts/\i<=j/\j<i+ts.length/\x=⟨1,h,(j:Int),eR,[t]⟩
 |[],_,_,hx=>by simp[cZ]at hx
 |t::ts,i,x,hx=>by
  rw[cZ]at hx;rcases ZV.1 hx with hx|hx
  .split at hx
   .cases hx
   .obtain rfl:=Z3.1 hx;exact⟨i,t,az,ak,az,rfl⟩
  .obtain⟨j,u,h1,h2,h3,rfl⟩:=sA hx;exact⟨j,u,by simp[h1],ak,eE,rfl⟩
variable{gs:aj Gl}{l:aj Int}{x:In}
def ah3(hl:vw gs.length l)(hx:x∈cW gs l):∃g∈gs,x=⟨2,0,0,g,[]⟩:=by
 obtain⟨v,hv,rfl⟩:=Z6.1 hx;obtain⟨h0,h1⟩:=hl v hv;have aq:v.toNat<gs.length:=ak;exact⟨gs[v.toNat],Z4 aq,by rw[UN aq];rfl⟩
def aeh{es:aj Int}(hx:x∈jD hs n a es):∃e∈es,x=⟨4,n,e,eR,[]⟩:=by
 obtain⟨e,he,hx⟩:=XC.1 hx;unfold nY at hx;split at hx
 .split at hx
  .obtain rfl:=Z3.1 hx;exact⟨e,he,rfl⟩
  .cases hx
 .cases hx
def apQ(l:aj Int):(Ew l).length<=l.length:=by
 unfold Ew
 have key:∀(l ax:aj Int),(l.foldl (λax x=>if x∈ax then ax else ax++[x]) ax).length<=ax.length+l.length:=by
  intro l;induction l with
  |nil=>intro ax;simp
  |cons x l ih=>
   intro ax;rw[Zv];refine YE (ih _) ?_;split<;>simp<;>omega
 have:=key l [];simpa using this
def aca(l:aj Tm)(h:∀t∈l,(gN t).length<=mj t):(fm l).length<=eC l:=by
 induction l with
 |nil=>simp[fm]
 |cons t l ih=>
  have h1:=h t az;have h2:=ih λu hu=>h u (by simp[hu]);unfold fm at*
  simp[eC]at*;omega
def acb:∀t:Tm,(gN t).length<=mj t
 |.mk k n s ts=>by
  have h:=aca (cN (.mk k n s ts)) λu hu=>acb u;by_cases e:k=1
  .subst e;have:=aa_ (.mk 1 n s ts);simp[gN];omega
  .rw[Ls (by simpa[Tm.k]using e),wk];omega
 decreasing_by have:=rR hu;simp[Tm.ts]at this;have:=List.sizeOf_lt_of_mem this;simp;omega
def LX{B:Type}(f:B->aj Tm)(b:Nat):∀(l:aj B),(∀a∈l,eC (f a)<=b)->eC (l.map f).flatten<=b*l.length
 |[],_=>by simp[eC]
 |a::l,h=>by
  have h1:=h a az;have h2:=LX f b l λu hu=>h u (by simp[hu]);rw[ZM,List.flatten_cons,A4,List.length_cons,Nat.mul_add];omega
structure Pl(p:Pg)(x:Pn)(i m:Nat)(r:Rl):Prop where
 sp:f_ p
 ok:vK p
 oc:pJ p x.o i m r
 rt:wu p x=ab
variable{x:Pn}{k:Nat}{ax:aj Ac}
def Pl.mem(h:Pl p x i m r):r∈p.aX:=ZU h.oc.ru
def Pl.J8(h:Pl p x i m r):xU p.bU r:=h.ok.r r h.mem
def Pl.sm(h:Pl p x i m r):iF r:=h.sp.rs r h.mem
def Pl.nm(h:Pl p x i m r):pB r:=h.sp.rn r h.mem
theorem Pl.len(h:Pl p x i m r):(r.aA++r.aC).length<=3:=by rw[UR];exact h.sm.h
def Pl.right(h:Pl p x i m r):qY (r.aA++r.aC).length m x.bj=ab/\x=fp r x.o x.bj:=by
 have:=h.rt;rw[BF h.oc,VM,decide_eq_true_eq]at this;omega
def Pl.all(h:Pl p x i m r):(x.o.h::x.bj).Nodup/\x.bj.length+1=(r.aA++r.aC).length/\pq (r.aA++r.aC).length (x.o.h::x.bj)/\∀v:Int,0<=v->v<(r.aA++r.aC).length->v=x.o.h\/v∈x.bj:=by
 rw[h.oc.oh];exact akZ h.oc.lt h.right.1
def Pl.jJ(h:Pl p x i m r):x.jJ=eA (r.aA++r.aC) [x.o.h] x.bj:=congrArg Pn.jJ h.right.2
def Pl.TQ(h:Pl p x i m r):Good p x i m r:=SB h.sp h.oc h.rt
def Pl.head(h:Pl p x i m r):∃a,(r.aA++r.aC)[m]?=aa a/\gB (r.aA++r.aC) x.o.h=a.ts:=by
 have he:=UN h.oc.lt;exact⟨_,he,by rw[h.oc.oh];exact ab_ he⟩
def Pl.at_(h:Pl p x i m r)(hk:k<x.bj.length):∃n a ps te,Dq p x k i n r a ps te/\n<(r.aA++r.aC).length/\ps.Pairwise (·<·)/\(∀v∈ps,0<=v/\v<a.ts.length)/\ps.length<=a.ts.length/\a.ts.length<=8/\te.length<=6:=by
 have⟨n,a,ps,te,hp,ha,ht⟩:=h.TQ.part k hk;have sD:=hp.h.kn;rw[h.jJ]at sD;obtain⟨v,d,hv,rfl⟩:=aHr _ _ _ _ _ sD;obtain rfl:v=(n:Int):=Nr (hv.symm.trans hp.h.od);rw[ab_ hp.h.hd]at hp;have⟨h1,h2⟩:=ab9 (bg (l8 (r.aA++r.aC) d)) a.ts 0;refine⟨n,a,_,te,hp,(Z5.1 hp.h.hd).1,h1,λv hv=>?_,JC _ _ _,ha,ht⟩;have:=h2 v hv;omega
def Pl.aD3(h:Pl p x i m r)(ha:a∈r.aA++r.aC){ps:aj Int}(h1:ps.Pairwise (·<·))(h2:∀v∈ps,0<=v/\v<a.ts.length):EK ⟨a.s,a.ts.length,ps⟩:=by
 have hr:=h.J8.hs a ha;simp only[kJ,VM]at hr;exact⟨hr.1.1,⟨az,aI⟩,h1,h2⟩
def Pl.plA(h:Pl p x i m r):NG p EK x:=by
 refine⟨by have:=h.all.2.1;have:=h.len;omega,λk hk=>?_⟩;have⟨n,a,ps,te,hp,_,h1,h2,h3,h4,_⟩:=h.at_ hk;exact⟨i,n,r,a,ps,hp.h,ak,h.aD3 (ZU hp.h.hd) h1 h2⟩
def Pl.pick(h:Pl p x i m r)(hc:LV p x x.bj.length ax)(hk:k<x.bj.length):∃j:Nat,zr (r.aA++r.aC) ax x k=j/\ax[j]?=aa (NF (r.aA++r.aC) x k):=by
 rw[akY];exact apO (hc i r h.oc.ru h.oc.or k hk)
def Pl.avd(h:Pl p x i m r)(hc:LV p x x.bj.length ax):∀k<x.bj.length,0<=zr (r.aA++r.aC) ax x k:=λk hk=>by
 have⟨j,hj,_⟩:=h.pick hc hk;omega
def aH7{base:aj In}{a:In}:∀{k:Nat},a∈iG hs gs ax x base k->a∈base\/∃j,j<k/\a∈w7 hs gs ax x j
 |0,h=>.inl h
 |k+1,h=>by
  rw[iG]at h;rcases ZV.1 h with h|h
  .rcases aH7 h with h|⟨j,h1,h2⟩
   all_goals grind
  grind
def Pl.code(h:Pl p x i m r)(hc:LV p x x.bj.length ax){P:In->Prop}
 (hmt:∀(n:Nat) (a:At) (j:Nat) (t:Tm),(r.aA++r.aC)[n]?=aa a->t∈a.ts->j<a.ts.length->P ⟨1,n,j,eR,[t]⟩)
 (lD:∀g∈r.aL,P ⟨2,0,0,g,[]⟩)
 (hfd:∀(n:Nat) (a:At) (j:Nat) (ts:aj Tm),(r.aA++r.aC)[n]?=aa a->(∀t∈ts,t∈a.ts)->ts.length<=a.ts.length->P ⟨3,n,j,eR,ts⟩)
 (hap:∀(n e:Int),0<=n->n<(r.aA++r.aC).length->0<=e->e<(r.aA++r.aC).length->n≠e->P ⟨4,n,e,eR,[]⟩)
 (sE:P (qg x.o.r (r.aA++r.aC).length))(J0:∀n:Nat,n<(r.aA++r.aC).length->P (B_ n))(jC:P zq)(c7:P (vy x.o.r (r.aA++r.aC).length))(hpu:∀g∈r.bC,P (Gd g))(hcm:P (GU x.o.r r.vars)):
 ∀a∈l9 r ax x,P a:=by
 intro y hy;have⟨nj,hl,T6,cQ⟩:=h.all;have⟨a0,ha0,TJ⟩:=h.head;have⟨t0,t1,e0,e1,_,_,to0,to1⟩:=h.TQ.t
 have aD4:∀l,vw r.aL.length l->∀y∈cW r.aL l,P y:=λl hl y hy=>by
  obtain⟨g,hg,rfl⟩:=ah3 hl hy;exact lD g hg
 unfold l9 nI at hy;rcases ZV.1 hy with hy|hy
 rotate_left
 .grind
 rcases ZV.1 hy with hy|hy
 rotate_left
 .unfold qZ at hy;rw[aJi,Z6]at hy;obtain⟨g,hg,rfl⟩:=hy;exact hpu g hg
 rcases ZV.1 hy with hy|hy
 rotate_left
 .unfold qi at hy
  grind
 rcases ZV.1 hy with hy|hy
 rotate_left
 .simp_all[pw]
 rcases ZV.1 hy with hy|hy
 rotate_left
 .obtain⟨j,hj,rfl⟩:=Z6.1 hy;rw[List.mem_range]at hj;exact J0 _ ak
 have hy:y∈iG (r.aA++r.aC) r.aL ax x (oD r x) x.bj.length\/y=qg x.o.r (r.aA++r.aC).length:=by
  unfold wv at hy
  grind
 rcases hy with hy|rfl
 rotate_left
 .omega
 rcases aH7 hy with hy|⟨k,hk,hy⟩
 .rcases ZV.1 hy with hy|hy
  .rcases ZV.1 hy with hy|hy
   .obtain⟨j,t,h1,_,h3,rfl⟩:=sA hy
    simp_all[h.oc.oh]
   grind
  grind
 .have⟨n,a,ps,te,hp,hn,h1,h2,h3,h4,h5⟩:=h.at_ hk;rw[uT hp ax]at hy;have hod:=hp.h.od;have⟨gR,bM⟩:=Z5.1 hod;rcases ZP.1 hy with rfl|hy
  .have⟨j,hj,_⟩:=h.pick hc hk;rw[Gg hp ax]at hj;rw[hj];exact hfd n a j _ hp.h.hd (λt ht=>akK ht) (by rw[LW h2];omega)
  rcases ZV.1 hy with hy|hy
  .rcases ZV.1 hy with hy|hy
   .obtain⟨e,he,rfl⟩:=aeh hy
    have hem:e∈x.o.h::x.bj:=by
     grind
    have⟨e1,e2⟩:=T6 e hem;refine hap n e ak ak e1 e2 λcg=>?_;rw[UA]at nj;rcases ZP.1 he with he|he
    .grind
    .have⟨q,hq,hqe⟩:=TF.1 he;have hpw:=Zj.1 nj.2 q k ak gR ak;omega
   .obtain⟨j,t,g1,_,g3,rfl⟩:=sA hy;exact hmt n a j t hp.h.hd g1 ak
  .exact aD4 _ hp.tv y hy
def ah4{l:aj Tm}(h:nW l=ab):∀t∈l,o9 t=ab:=λt ht=>by
 simp only[nW,o9]at*
 have h1:=Jp ht;have h2:=Ox ht
 grind
def Gk(h:kJ a=ab):a.ts.length<=6/\eC a.ts<=200/\∀t∈a.ts,o9 t=ab:=by
 have h':=h;simp only[kJ,VM,decide_eq_true_eq]at h';have h2:=h'.2;simp only[nW,VM,decide_eq_true_eq]at h2;exact⟨h'.1.2,h2.1.2,ah4 h'.2⟩
variable{g:Gl}
def aJB(h:fF g=ab):eC g.ts<=200/\(g.op≠0->mh g.op=g.ts.length):=by
 unfold fF at h;split at h
 .rename_i h0;exact⟨(Gk h).2.1,λh1=>bH h0 h1⟩
 simp_all[nW]
def apR(h:fF g=ab)(hb:mz g.op=af):g.op<=4:=by
 by_cases h0:g.op=0
 .omega
 have h1:=(aJB h).2 h0
 grind [mh,mz]
def Pl.vars(h:Pl p x i m r):0<=r.vars/\r.vars<=1048576:=by
 have hv:=h.J8.v.2;have h1:(bg (sq r)).length<=(fm (sq r)).length:=apQ _;have h2:=aca (sq r) λt _=>acb t
 have h3:eC (sq r)<=200*(r.aA++r.aC).length+200*(r.aL++r.bC).length:=by
  unfold sq gz qd;rw[A4];have a1:=LX At.ts 200 (r.aA++r.aC) λa ha=>(Gk (h.J8.hs a ha)).2.1;have a2:=LX Gl.ts 200 (r.aL++r.bC) λg hg=>(aJB (h.J8.gs g hg)).1;omega
 have h4:=h.len;have h5:=h.sm.g;have h6:=h.sm.b
 grind
def Pl.rule(h:Pl p x i m r):0<=x.o.r/\x.o.r<40/\x.o.r<p.aX.length:=by
 have h1:=(Z5.1 h.oc.ru).1;have h2:=h.sp.r
 grind [h.oc.or]
def Pl.ins(h:Pl p x i m r)(hc:LV p x x.bj.length ax):∀a∈l9 r ax x,rF a:=by
 have hl:=h.len;have⟨v0,v1⟩:=h.vars;have⟨r0,r1,_⟩:=h.rule;have hN:1<=(r.aA++r.aC).length:=by have:=h.all.2.1;omega
 have gq:=h.nm.hs;refine h.code hc (λn a j t hn ht hj=>?_) (λg hg=>?_) (λn a j ts hn ht dq=>?_) (λn e n0 n1 e0 e1 cg=>?_) ?_ (λn hn=>?_) .kp ?_ (λg hg=>?_) ?_
 .have hm:=ZU hn;have aq:=(Z5.1 hn).1;have hra:=Gk (h.J8.hs a hm);exact .mt n j t ak ak ak ak ((gq a hm).2.2 t ht) (hra.2.2 t ht)
 .have zG:=YR r.bC hg;refine .ts g (h.nm.gs g zG) (h.J8.gs g zG) ?_;rcases h.J8.m.g g hg with h1|h1
  all_goals simp_all[mz]
 .have hm:=ZU hn;have aq:=(Z5.1 hn).1;have hra:=Gk (h.J8.hs a hm);exact .fd n j ts ak ak ak ak λt lD=>⟨(gq a hm).2.2 t (ht t lD),hra.2.2 t (ht t lD)⟩
 .exact .ap n e n0 ak e0 ak cg
 .exact .fr _ _ r0 r1 ak ak
 .exact .rm n ak ak
 .exact .nt _ _ r0 r1 ak ak
 .have zG:=JU r.aL hg;exact .pu g (h.nm.gs g zG) (h.J8.gs g zG) (apR (h.J8.gs g zG) (h.J8.m.b g hg))
 .exact .cm _ _ r0 r1 v0 v1
variable{s:Sf}
def pC.stay:∀{c:aj In},(∀i∈c,Cw o s i s)->pC o s c s
 |[],_=>rfl
 |i::_,h=>⟨s,h i az,pC.stay λj hj=>h j (Ys _ hj)⟩
def iO(x:Pn)(k:Nat)(v:Int):Bool:=decide (v=x.o.h\/v∈x.bj.take k)
def EP(x:Pn)(k:Nat):Sf:=⟨-1,0,af,af,iO x k,[]⟩
def M0(h:v=x.o.h\/v∈x.bj.take k):iO x k v=ab:=decide_eq_true h
def ave(x:Pn):Zt x.o.h=EP x 0:=by
 unfold Zt EP
 congr 1
 funext v
 simp_all[iO,aJQ]
def avf(x:Pn)(hk:k<x.bj.length):({EP x k with b:=λv=>v==x.bj[k]||(EP x k).b v}:Sf)=EP x (k+1):=by
 unfold EP;simp only
 congr 1
 funext v;unfold iO;rw[ZN hk,Ts]
 grind
def Pl.HD(h:Pl p x i m r)(hv:v∈x.o.h::x.bj):0<=v/\v<4:=by
 have h1:=h.all.2.2.1 v hv;have h2:=h.len;omega
def OV(hs:s.fi=0):∀y∈cW gs l,Cw o s y s:=λy hy=>by
 obtain⟨v,_,rfl⟩:=Z6.1 hy;exact .ts s _ rfl hs
def Pl.avg(h:Pl p x i m r):pC x.o (EP x 0) (oD r x) (EP x 0):=by
 refine pC.stay λy hy=>?_;rcases ZV.1 hy with hy|hy
 .rcases ZV.1 hy with hy|hy
  .obtain⟨j,t,_,_,_,rfl⟩:=sA hy;have:=h.HD (v:=x.o.h) az;exact .mt _ _ rfl this.1 this.2 (M0 (.inl rfl)) rfl
  .exact OV rfl y hy
 .exact OV rfl y hy
def Pl.avh(h:Pl p x i m r)(hk:k<x.bj.length):pC x.o (EP x k) (w7 (r.aA++r.aC) r.aL ax x k) (EP x (k+1)):=by
 have⟨nj,hl,T6,cQ⟩:=h.all;have⟨n,a,ps,te,hp,hn,_⟩:=h.at_ hk;rw[uT hp ax];have⟨gR,bM⟩:=Z5.1 hp.h.od;have dE:=bM▸Z4 gR;have SU:=h.HD (Ys _ dE)
 have og:iO x k n=af:=by
  unfold iO;rw[decide_eq_false_iff_not];rw[UA]at nj;rintro(he|he)
  .grind
  .have⟨q,hq,hqe⟩:=TF.1 he;have hpw:=Zj.1 nj.2 q k ak gR ak;omega
 have J4:iO x (k+1) n=ab:=M0 (.inr (by rw[ZN gR,bM];simp));refine⟨EP x (k+1),?_,pC.stay λy hy=>?_⟩
 .have:=Cw.fd (o:=x.o) (EP x k) ⟨3,n,nR ax ⟨a.s,a.ts.length,ps⟩,eR,mA a.ts ps⟩ rfl SU.1 SU.2 og rfl;have he:=avf x gR
  grind
 .rcases ZV.1 hy with hy|hy
  .rcases ZV.1 hy with hy|hy
   .obtain⟨e,he,rfl⟩:=aeh hy
    have hem:e∈x.o.h::x.bj/\iO x (k+1) e=ab:=by
     rcases ZP.1 he with rfl|he
     .exact⟨az,M0 (.inl rfl)⟩
     .exact⟨Ys _ (TC he),M0 (.inr aI)⟩
    have hre:=h.HD hem.1;exact .ap _ _ rfl SU.1 SU.2 J4 hre.1 hre.2 hem.2 rfl
   .obtain⟨j,t,_,_,_,rfl⟩:=sA hy;exact .mt _ _ rfl SU.1 SU.2 J4 rfl
  .exact OV rfl y hy
def Pl.anb(h:Pl p x i m r):∀k,k<=x.bj.length->pC x.o (EP x 0) (iG (r.aA++r.aC) r.aL ax x (oD r x) k) (EP x k)
 |0,_=>h.avg
 |k+1,hk=>by
  rw[iG];exact(h.anb k ak).app (h.avh hk)
def Pl.bound(h:Pl p x i m r)(h0:0<=v)(h1:v<(r.aA++r.aC).length):iO x x.bj.length v=ab:=by
 rcases h.all.2.2.2 v h0 h1 with e|e
 .exact M0 (.inl e)
 .exact M0 (.inr aI)
structure Tl(x:Pn)(r:Rl)(rm:Bool)(s:Sf):Prop where
 b:s.b=iO x x.bj.length
 fr:r.aC=[]->((r.aA++r.aC).length:Int)∈s.fr
 rm:s.rem=rm
def Pl.apS(h:Pl p x i m r):∃s,pC x.o (EP x 0) (wv x r (iG (r.aA++r.aC) r.aL ax x (oD r x) x.bj.length)) s/\Tl x r af s/\s.last= -1/\s.fi=0/\s.kept=af:=by
 have h1:=h.anb (ax:=ax) _ (XS _);have hN:=h.all.2.1;have hl:=h.len;unfold wv;split
 .refine⟨_,h1.app (pC.one (.fr _ _ rfl (by grind [qg]) (by grind [qg]) (λv h0 hv=>h.bound h0 hv) rfl rfl)),⟨rfl,λ_=>?_,rfl⟩,rfl,rfl,rfl⟩;simp only;exact BD.2 (.inr rfl)
 .rename_i he;exact⟨_,h1,⟨rfl,λh=>bH h he,rfl⟩,rfl,rfl,rfl⟩
def Pl.anc(h:Pl p x i m r)(hs:Tl x r af s)(hl:s.last= -1)(hg:s.fi=0)(hk:s.kept=af):∀d,r.aA.length+d<=(r.aA++r.aC).length->
 ∃t,pC x.o s (lW r.aA.length (r.aA.length+d)) t/\Tl x r (decide (r.aA.length<=m/\m<r.aA.length+d)) t/\t.last<(r.aA.length+d:Nat)/\t.fi<=1/\t.kept=af
 |0,_=>⟨s,by rw[Nat.add_zero,LH];rfl,⟨hs.b,hs.fr,by simp_all[hs.rm]⟩,ak,ak,hk⟩
 |d+1,hd=>by
  have⟨t,h1,h2,h3,h4,h5⟩:=h.anc hs hl hg hk d ak;have bf:=h.len;have hb:t.b ((r.aA.length+d:Nat):Int)=ab:=by rw[h2.b];exact h.bound ak ak
  rw[<-Nat.add_assoc,Gf ak];refine⟨_,h1.app (pC.one (.rm t (B_ (r.aA.length+d:Nat)) rfl (by grind [B_]) (by grind [B_]) hb h3 h4)),⟨h2.b,h2.fr,?_⟩,by grind [B_],az,h5⟩;simp only[B_];rw[h2.rm,h.oc.oh,Ts]
  grind
theorem ah5{o:Oc}:∀(gs:aj In) (s:Sf),(∀y∈gs,y.op=9)->s.fi<=4->∃t,pC o s gs t/\t.fi<=4/\t.rem=s.rem/\t.kept=s.kept
 |[],s,_,hs=>⟨s,rfl,hs,rfl,rfl⟩
 |y::gs,s,hy,hs=>by
  have⟨t,h1,h2,h3,h4⟩:=ah5 (o:=o) gs {s with fi:=4} (λz hz=>hy z (Ys _ hz)) az;exact⟨t,⟨_,.pu s y (hy y az) hs,h1⟩,h2,h3,h4⟩
def Pl.formed(h:Pl p x i m r):∃t,pC x.o (Zt x.o.h) (l9 r ax x) t/\t.fi=5/\t.rem=(!x.o.k)/\(t.kept=ab->x.o.k=ab):=by
 rw[ave];have⟨s,h1,h2,h3,h4,h5⟩:=h.apS (ax:=ax);have hle:r.aA.length+r.aC.length=(r.aA++r.aC).length:=UR.symm;have⟨t,g1,g2,g3,g4,g5⟩:=h.anc h2 h3 h4 h5 r.aC.length ak;rw[hle]at g1 g2 g3
 have avi:t.rem= !x.o.k:=by
  rw[g2.rm,h.oc.ok,Ts];have:=h.oc.lt
  grind
 have hN:=h.all.2.1;have bf:=h.len
 obtain⟨u,k1,k2,k3,k4⟩:∃u,pC x.o t (pw (x.o.k&& !gl (j9 r) r.bC)) u/\Tl x r (!x.o.k) u/\u.fi<=2/\(u.kept=ab->x.o.k=ab):=by
  unfold pw;split
  .rename_i hk;rw[VM]at hk;exact⟨_,pC.one (.kp t zq rfl ak),⟨g2.b,g2.fr,avi⟩,az,λ_=>hk.1⟩
  .exact⟨t,rfl,⟨g2.b,g2.fr,avi⟩,ak,λhk=>aI⟩
 obtain⟨w,n1,n2,n3,n4⟩:∃w,pC x.o u (qi (decide (r.aC=[])) x.o.r (r.aA++r.aC).length) w/\w.fi<=3/\w.rem=(!x.o.k)/\(w.kept=ab->x.o.k=ab):=by
  unfold qi;split
  .rename_i hk;rw[decide_eq_true_eq]at hk;exact⟨_,pC.one (.nt u (vy x.o.r (r.aA++r.aC).length) rfl (by grind [vy]) (by grind [vy]) (λv h0 hv=>by rw[k2.b];exact h.bound h0 hv) (k2.fr hk) rfl ak),az,k2.rm,k4⟩
  .exact⟨u,rfl,ak,k2.rm,k4⟩
 obtain⟨z,p1,p2,p3,p4⟩:=ah5 (o:=x.o) (qZ r.bC) w (λy hy=>by
  simp only[qZ,aJi,Z6]at hy;obtain⟨g,_,rfl⟩:=hy;rfl) ak
 refine⟨_,((((h1.app g1).app k1).app n1).app p1).app (pC.one (.cm z (GU x.o.r r.vars) rfl rfl ak)),rfl,?_,?_⟩
 all_goals grind
def Pl.aD5(h:Pl p x i m r)(hc:LV p x x.bj.length ax)(hl:(l9 r ax x).length<=200):akO x.o (l9 r ax x):=by
 have⟨r0,r1,_⟩:=h.rule;exact⟨hl,⟨r0,r1⟩,h.HD az,h.ins hc,h.formed⟩
variable{U:aj De}{s:Sb}
def pD.stay:∀{c:aj In},(∀i∈c,LP ax U s i s)->pD ax U s c s
 |[],_=>rfl
 |i::_,h=>⟨s,h i az,pD.stay λj hj=>h j (Ys _ hj)⟩
def dA(a:At):De:=⟨a.s,a.ts.length⟩
structure PB(hs:aj At)(x:Pn)(k:Nat)(s:Sb):Prop where
 H:∀v d,s.H v=aa d↔(v=x.o.h\/v∈x.bj.take k)/\∃a,hs[v.toNat]?=aa a/\d=dA a
 A:∀v w d,s.H v=aa d->s.H w=aa d->v≠w->s.A (v,w)=ab
def LY:∀y∈cW gs l,LP ax U s y s:=λy hy=>by
 obtain⟨v,_,rfl⟩:=Z6.1 hy;exact .no s _ az az az az
def SV:∀(es:aj Int) (s:Sb),∃t,pD ax U s (jD hs n a es) t/\t.H=s.H/\(∀p,s.A p=ab->t.A p=ab)/\
 ∀e∈es,∀b,hs[e.toNat]?=aa b->dA b=dA a->t.A (n,e)=ab/\t.A (e,n)=ab
 |[],s=>⟨s,rfl,rfl,λ_ h=>h,az⟩
 |e::es,s=>by
  by_cases eG:∃b,hs[e.toNat]?=aa b/\dA b=dA a
  .have⟨b,hb,hd⟩:=eG
   have h1:nY hs n a e=[⟨4,n,e,eR,[]⟩]:=by
    unfold nY;rw[hb]
    grind [dA]
   obtain⟨t,g1,g2,g3,g4⟩:=SV es ⟨s.H,λp=>decide (p=(e,n))||(decide (p=(n,e))||s.A p)⟩;refine⟨t,?_,g2,λp hp=>g3 p aI,λe' q7 b' ua E8=>?_⟩
   .show pD ax U s ((e::es).flatMap (nY hs n a)) t;rw[XG,h1];exact⟨_,.ap s ⟨4,n,e,eR,[]⟩ rfl,g1⟩
   grind
  .have h1:nY hs n a e=[]:=by
    unfold nY;split<;>try rfl
    rw[aY];rintro⟨e1,e2⟩
    simp_all[dA]
   obtain⟨t,g1,g2,g3,g4⟩:=SV es s;refine⟨t,?_,g2,g3,λe' q7 b' ua E8=>?_⟩
   .show pD ax U s ((e::es).flatMap (nY hs n a)) t;rw[XG,h1];exact g1
   grind
def Pl.avj(h:Pl p x i m r)(hs:PB (r.aA++r.aC) x 0 s):pD ax U s (oD r x) s:=by
 have⟨a0,ha0,TJ⟩:=h.head;refine pD.stay λy hy=>?_;rcases ZV.1 hy with hy|hy
 .rcases ZV.1 hy with hy|hy
  .obtain⟨j,t,_,_,h3,rfl⟩:=sA hy;rw[TJ]at h3;refine .mt s _ (dA a0) rfl ((hs.H _ _).2 ⟨.inl rfl,a0,by simp_all[h.oc.oh],rfl⟩) ?_
   simp_all[dA]
  .exact LY y hy
 .exact LY y hy
def Pl.avk(h:Pl p x i m r)(hc:LV p x x.bj.length ax)(hk:k<x.bj.length)(hs:PB (r.aA++r.aC) x k s):
 ∃t,pD ax U s (w7 (r.aA++r.aC) r.aL ax x k) t/\PB (r.aA++r.aC) x (k+1) t:=by
 have⟨n,a,ps,te,hp,hn,pP,hp2,_⟩:=h.at_ hk;have⟨gR,bM⟩:=Z5.1 hp.h.od;have⟨j,hj,hja⟩:=h.pick hc hk;have Bv:=Gg hp ax
 have aD6:NF (r.aA++r.aC) x k=⟨a.s,a.ts.length,ps⟩:=by
  have⟨e1,_,e3,_⟩:=SA hp
  simp_all[NF]
 rw[Bv]at hj;rw[aD6]at hja
 have dE:∀v,v∈x.bj.take (k+1)↔v∈x.bj.take k\/v=n:=λv=>by
  rw[ZN gR,bM,ZV,Z3]
 have aFR:∀v d,(if v=(n:Int)then aa (dA a)else s.H v)=aa d↔(v=x.o.h\/v∈x.bj.take (k+1))/\∃a,(r.aA++r.aC)[v.toNat]?=aa a/\d=dA a:=λv d=>by
  by_cases e:v=(n:Int)
  .grind [hp.h.hd]
  simp_all[hs.H]
 have⟨t,g1,g2,g3,g4⟩:=SV (ax:=ax) (U:=U) (hs:=r.aA++r.aC) (n:=n) (a:=a) (x.o.h::x.bj.take k) ⟨λv=>if v=(n:Int)then aa (dA a)else s.H v,s.A⟩;have htH:∀v,t.H v=if v=(n:Int)then aa (dA a)else s.H v:=λv=>by rw[g2]
 refine⟨t,?_,λv d=>jw,λv w d hv hw cg=>?_⟩
 .rw[uT hp ax];refine⟨_,LP.fd s ⟨3,n,nR ax ⟨a.s,a.ts.length,ps⟩,eR,mA a.ts ps⟩ j ⟨a.s,a.ts.length,ps⟩ rfl hj hja (LW hp2),(g1.app (pD.stay λy hy=>?_)).app (pD.stay LY)⟩;obtain⟨q,u,_,_,h3,rfl⟩:=sA hy;refine .mt t _ (dA a) rfl ?_ ?_
  .grind
  simp_all[dA]
 .rw[htH]at hv hw;by_cases e1:v=(n:Int)
  .grind
  .rw[aY e1]at hv;by_cases e2:w=(n:Int)
   .grind
   .rw[aY e2]at hw;exact g3 _ (hs.A v w d hv hw cg)
def Pl.ane(h:Pl p x i m r)(hc:LV p x x.bj.length ax)(hs:PB (r.aA++r.aC) x 0 s):∀k,k<=x.bj.length->∃t,pD ax U s (iG (r.aA++r.aC) r.aL ax x (oD r x) k) t/\PB (r.aA++r.aC) x k t
 |0,_=>⟨s,h.avj hs,hs⟩
 |k+1,hk=>by
  have⟨t,h1,h2⟩:=h.ane hc hs k ak;have⟨u,h3,h4⟩:=h.avk (U:=U) hc ak h2;exact⟨u,h1.app h3,h4⟩
def Pl.aD7(h:Pl p x i m r)(hc:LV p x x.bj.length ax){a0:At}(ha:(r.aA++r.aC)[m]?=aa a0):
 ∃t,pD ax p.bU ⟨λv=>if v=x.o.h then aa (dA a0)else ah,λ_=>af⟩ (l9 r ax x) t/\Zw t:=by
 have h0:PB (r.aA++r.aC) x 0 ⟨λv=>if v=x.o.h then aa (dA a0)else ah,λ_=>af⟩:=by
  refine⟨λv d=>?_,λv w d hv hw cg=>?_⟩
  .simp only;by_cases e:v=x.o.h
   .subst e;rw[aW rfl,h.oc.oh,PT,ha]
    grind
   grind
  grind
 have⟨t,h1,h2⟩:=h.ane (U:=p.bU) hc h0 _ (XS _);refine⟨t,?_,λv w d hvw hv hw=>h2.A v w d hv hw ak⟩;have Xz:∀y:In,y.op≠3->y.op≠1->y.op≠4->y.op≠9->LP ax p.bU t y t:=λy a b c d=>.no t y a b c d;refine(((((?_:pD ax p.bU _ _ t).app (pD.stay λy hy=>?_)).app (pD.stay λy hy=>?_)).app (pD.stay λy hy=>?_)).app (pD.stay λy hy=>?_)).app (pD.stay λy hy=>?_)
 .unfold wv;split
  .exact h1.app (pD.one (Xz _ (by simp[qg]) (by simp[qg]) (by simp[qg]) (by simp[qg])))
  omega
 .grind [lW,B_]
 .simp_all[pw,zq]
 .simp_all[qi,vy]
 .simp only[qZ,aJi,Z6]at hy;obtain⟨g,hg,rfl⟩:=hy;refine .pu t _ rfl λfU=>?_;have:=h.J8.m.c g (JU _ hg) fU;rw[BA]at this;have⟨d,hd,e1,e2⟩:=this;simp only[Gd];have⟨ds,dn⟩:=d
  grind
 simp_all[GU]
def Pl.Yh(h:Pl p x i m r):(l9 r ax x).length<=200:=by
 have⟨a0,ha0,TJ⟩:=h.head;have⟨t0,t1,e0,e1,l0,l1,_⟩:=h.TQ.t;have eG:=h.sm.hs a0 (ZU ha0)
 have hb:(oD r x).length<=20:=by
  unfold oD;rw[Xg,Xg,e0,e1,TJ];have:=su x.o.h [] a0.ts 0
  grind [cW]
 have h1:=Gh h.TQ ax (oD r x) x.bj.length (XS _);have h2:=h.all.2.1;have h3:=h.len;have h4:=h.sm.b
 have h5:(wv x r (iG (r.aA++r.aC) r.aL ax x (oD r x) x.bj.length)).length<=111:=by
  grind [wv]
 have hk:∀b,(pw b).length<=1:=λb=>by grind [pw]
 have hn:∀b q w,(qi b q w).length<=1:=λb q w=>by grind [qi]
 have er:=hk (x.o.k&& !gl (j9 r) r.bC);have mD:=hn (decide (r.aC=[])) x.o.r (r.aA++r.aC).length;have hr:=EF r.aA.length (r.aA++r.aC).length
 grind [qZ,l9,nI]
def BkP(p:Pg)(ax:aj Ac)(b:Bk):Prop:=∃x i m r,Pl p x i m r/\LV p x x.bj.length ax/\b=⟨x.o,l9 r ax x⟩
structure UnP(p:Pg)(ax:aj Ac)(u:Un):Prop where
 o:u.bs.map Bk.o=fB u.s u.n p.aX
 b:∀b∈u.bs,BkP p ax b
 la:0<=u.la/\u.la<=(fB u.s u.n p.aX).length
def azZ(h:vK p):p.bU.Nodup:=by
 rw[List.nodup_iff_pairwise_ne,Zj];intro i j hi hj sG he;have:=h.u j hj;have hb:ie (p.bU.take j) p.bU[j].s p.bU[j].n=ab:=(BA _ _ _).2 ⟨p.bU[i],TF.2 ⟨i,ak,rfl⟩,by rw[he],by rw[he]⟩;rw[this]at hb;cases hb
def az0(hp:f_ p)(bM:vK p)(ha:pK EK 100 ax)(hd:us.map HP=p.bU)(hu:∀u∈us,UnP p ax u):SQ us ax p.aX.length:=by
 have hr:=hp.r;have Yy:=hp.d;have Kg:us.length=p.bU.length:=by rw[<-hd,Ki]
 refine⟨ak,ak,by have:=ha.l;omega,λa h=>⟨(ha.p a h).2,(ha.p a h).1⟩,λu hm=>?_,by rw[hd];exact azZ bM⟩;obtain⟨ho,hb,hla⟩:=hu u hm;have SX:=vz u.s u.n p.aX hp.rs;have EG:u.bs.length=(fB u.s u.n p.aX).length:=by rw[<-ho,Ki]
 have hdm:HP u∈p.bU:=hd▸Z6.2 ⟨u,hm,rfl⟩;have hdo:=bM.d _ hdm;refine⟨ak,hdo.1,hdo.2,ak,λb EZ=>?_⟩;obtain⟨x,i,m,r,iv,hc,rfl⟩:=hb b EZ;have dE:x.o∈fB u.s u.n p.aX:=by rw[<-ho];exact Z6.2 ⟨_,EZ,rfl⟩
 obtain⟨i',m',r',a,K_,bx,hs,hn⟩:=As.1 dE;have hi:i'=i:=by have:=K_.or;have:=iv.oc.or;omega
 have hmm:m'=m:=by have:=K_.oh;have:=iv.oc.oh;omega
 subst hi;subst hmm;obtain rfl:r'=r:=Nr (K_.ru.symm.trans iv.oc.ru);have hrr:=iv.rule;have hda:dA a=⟨u.s,u.n⟩:=by unfold dA;rw[hs,hn]
 exists iv.aD5 hc iv.Yh,hrr.2.2;rw[hd,<-hda];exact iv.aD7 hc bx
def anf{a:aj Bk}{b:Bk}(h:a.length<=1000):dG 4 48 (zx a) (.tree 4 [.agg [iI b.o.r,iI b.o.h,iB b.o.k,cP b.c]])=aa (zx (a++[b])):=by
 have h2:jo 4 [.agg [iI b.o.r,iI b.o.h,iB b.o.k,cP b.c]]=ab:=rfl;simp[dG,h2,Dr];omega
def ang{a:aj Un}{u:Un}(h:a.length<=1000):dG 5 64 (zI a) (.tree 5 [.agg [iS u.s,iI u.n,zx u.bs,iB u.nv,iI u.la]])=aa (zI (a++[u])):=by
 have h2:jo 5 [.agg [iS u.s,iI u.n,zx u.bs,iB u.nv,iI u.la]]=ab:=rfl;simp[dG,h2,w8];omega
def aey{B β:Type}(f:B->aj β)(P:B->β->Bool)(R:β->Bool):∀l:aj B,(∀q∈l,∀o∈f q,P q o=R o)->(l.flatMap λq=>(f q).filter (P q))=(l.flatMap f).filter R
 |[],_=>rfl
 |q::l,h=>by
  rw[XG,XG,O3,aey f P R l λx hx=>h x (Ys _ hx),List.filter_congr λo ho=>h q az o ho]
def LZ(p:Pg)(s:aj UInt8)(n:Int)(o:Oc):Bool:=match p.aX[o.r.toNat]? with
 |some r=>tY (r.aA++r.aC) s n o
 |none=>af
def ae9(p:Pg)(s:aj UInt8)(n:Int):fB s n p.aX=(occs p.aX).filter (LZ p s n):=by
 unfold fB occs QS;refine aey (λq:Rl×Nat=>zl q.2 q.1) (λq=>tY (q.1.aA++q.1.aC) s n) (LZ p s n) _ λ⟨r,i⟩ hq o ho=>?_;rw[XJ]at hq;obtain⟨m,hm,rfl⟩:=Ap.1 ho;simp only[LZ,PT,hq]
def avl(h:pJ p o i m r)(s:aj UInt8)(n:Int):LZ p s n o=(((r.aA++r.aC)[m]'h.lt).s==s&&(((r.aA++r.aC)[m]'h.lt).ts.length:Int)==n):=by
 simp only[LZ,tY,h.or,h.oh,PT,h.ru,UN h.lt]
def k16(p:Pg)(h:f_ p)(s:aj UInt8)(n:Int):CC 16 af [bc p,iS s,iI n] (kY (fB s n p.aX)):=by
 refine CC.of azT kr kr (ae6 (cz p) az az) az ?_;have YK:=k18 p h;have hl:=qz p.aX h.rs;have hr:=h.r;have hm:∀o∈occs p.aX,∃i m r,pJ p o i m r:=λo ho=>nS.1 ho;have wm:∀r∈p.aX,r.aA.length+r.aC.length<=3:=λr hr=>(h.rs r hr).h;rw[ae9];have hP:=bc.eq_1 p;rw[hP]at*
 generalize hO:occs p.aX=os at*
 simp[au8,cq,aw];refine⟨_,YK,?_⟩;simp[cq];unfold ah0;refine aJ os.length (λi (l:aj Oc)=>[iI i,kY l]) (λi l=>l=(os.take i).filter (LZ p s n)) [] ?_ az λi l hi hI=>?_
 .simp[cq]
 by_cases aq:i<os.length
 rotate_left
 .simp[cq,aq];rw[hI,Wg ak]
 have hw:=aS aq ak;obtain⟨j,m,r,ho⟩:=hm _ (Z4 aq);obtain⟨hj,ZB⟩:=Z5.1 ho.ru;have hR:=nQ hj;rw[ZB,<-ho.or]at hR;have UB:=Nv r (by have:=wm r (ZU ho.ru);omega);rw[bQ]at UB;have hA:=lI ho.lt;rw[<-ho.oh]at hA;have JJ:=avl ho s n;have QC:l.length<=i:=by rw[hI];exact YE (Zy ..) eE
 have bI:(os.take (i+1)).filter (LZ p s n)=l++if LZ p s n os[i]=ab then[os[i]]else[]:=by
  rw[ZN aq,O3,<-hI]
  congr 1
  cases h:LZ p s n os[i]<;>simp[h]
 have jm:=VA (a:=l) (b:=[os[i]]) eE;have j_:qJ os.length (λi (l:aj Oc)=>[iI i,kY l]) (λi l=>l=(os.take i).filter (LZ p s n)) i [iI (i+1:Nat),kY (l++if LZ p s n os[i]=ab then[os[i]]else[])]:=.mk _ rfl ak bI.symm;have eW:=GR aq;have jm:dG 3 24 (kY l) (.tree 3 [.agg [iI os[i].r,iI os[i].h,iB os[i].k]])=aa (kY (l++[os[i]])):=jm;rw[JJ]at j_;generalize os[i]=o at*
 generalize(r.aA++r.aC)[m]'ho.lt=a at*
 generalize r.aA++r.aC=hs at*
 simp[cq,aq,eW,hw,hR,aw];refine⟨_,UB,?_⟩;simp[cq,hA,aw,aZ,aD,jm,hw];by_cases e1:a.s=s
 .by_cases e2:(a.ts.length:Int)=n
  .simp[e1,e2]at j_⊢;exact j_
  .simp[e1,e2]at j_⊢;exact j_
 .simp[e1]at j_⊢;exact j_
def aD8(a:At)(l:aj IV)(ha:a.ts.length<=8)(hQ:Q (iB (l_ a.ts))):SO.sat Z2 CC Q [] [x0,x1,x2,.tree 2 (c_ a::l)]:=by
 unfold SO;have i0:cu 2 (.tree 2 (c_ a::l)) (iI 0)=aa (.agg [iS a.s,iT a.ts]):=cM (i:=0) (x:=c_ a) rfl rfl;refine aJ a.ts.length (λi (q:aj Int)=>[iI i,iL q]) (λi q=>q=(a.ts.take i).map Tm.n/\EN a.ts i) [] ?_ (by simp[EN]) λi q hi hI=>?_
 .simp[cq]
 obtain⟨hq,hv⟩:=hI;by_cases aq:i<a.ts.length
 rotate_left
 .simp[cq,aq,i0,aw];rw[HL hv ak]at hQ;exact hQ
 have hw:=aS aq ak;have ED:q.length=i:=by rw[hq];simp;omega
 have hc:=lL (a:=q) (v:=a.ts[i].n) ak;have akc:=(asC q a.ts[i].n (by unfold Sm;omega)).zm (tQ rfl);simp[cq,aq,hw,i0,iJ aq,bL,aw];by_cases e:a.ts[i].k=1
 rotate_left
 .left;rw[HM aq e]at hQ;exact⟨e,hQ⟩
 right;refine⟨e,_,akc,?_⟩
 have hm:a.ts[i].n∈q↔rG (a.ts.take i) a.ts[i].n=ab:=by
  rw[hq,qD,Z6]
 cases hd:rG (a.ts.take i) a.ts[i].n with
 |true=>
  rw[hd]at hm;rw[HN aq hd]at hQ;simp[hm.2 rfl,hQ]
 |false=>
  rw[hd]at hm;have:a.ts[i].n∉q:=λh=>by simpa using hm.1 h
  simp[this,hc,aZ,aD];exact .mk _ rfl ak ⟨by rw[hq,<-List.map_take,ZN aq,List.map_append];rfl,EO hv aq e hd⟩
def az1(p:Pg)(hp:f_ p)(ho:pJ p o i m r):CC 135 af [bc p,.agg [iI o.r,iI o.h,iB o.k]] (iB (MZ o r)):=by
 refine CC.dB auY kr (λ_=>kr) (qC (cz p) (.agg _ az)) cE ?_;obtain⟨hj,ZB⟩:=Z5.1 ho.ru;have hR:=nQ hj;have Ci:=ZU ho.ru;rw[ZB,<-ho.or]at hR;have j8:=hp.rs r Ci;have hh:=j8.h;have UB:=Nv r ak;have eG:=j8.hs;have hP:=bc.eq_1 p;rw[hP];have hy:=λ(x0 x1 x2:IV) a l ha hQ=>aD8 (Q:=Ah (·=MZ o r)) (x0:=x0) (x1:=x1) (x2:=x2) a l ha hQ;unfold MZ at*
 rw[bQ]at*
 generalize r.aA++r.aC=hs at*
 obtain⟨o1,o2,o3⟩:=o;simp only at*
 simp[am9,UU,hR,aw];exists _,UB;simp;by_cases e2:hs.length=1
 rotate_left
 .left;exact⟨ak,by simp[ab8 e2]⟩
 right;exists ak
 obtain⟨a0,rfl⟩:∃a,hs=[a]:=by
  match hs,e2 with
  |[a],_=>exact⟨a,rfl⟩
 cases o3 with
 |true=>simp[UU]
 |false=>
  simp[UU];by_cases e1:0<r.aL.length
  .left
   have:r.aL.isEmpty=af:=by cases hg:r.aL with
    |nil=>rw[hg]at e1;simp at e1
    |cons=>rfl
   exact⟨e1,λh=>by rw[h]at e1;simp at e1⟩
  have dt:r.aL=[]:=by simpa using e1
  right;exists dt;refine hy _ _ _ a0 _ (eG _ az) ?_;simp[TA,dt]
def aD9(p:Pg)(hp:f_ p)(hf:∀r∈p.aX,gy r)(hz:∀r∈p.aX,zH r)(s:aj UInt8)(n:Int):CC 63 af [bc p,iS s,iI n] (iB (gG p (fB s n p.aX))):=by
 refine CC.dB azN kr (λ_=>kr) (s7 (cz p) az az) cE ?_;have UI:=k16 p hp s n;have hl:=vz s n p.aX hp.rs;have hr:=hp.r
 have hm:∀o∈fB s n p.aX,∃i m r,pJ p o i m r:=λo ho=>by
  obtain⟨i,m,r,a,h,_⟩:=As.1 ho;exact⟨i,m,r,h⟩
 have hN:=gG.eq_2 p;have ak0:=λo i m r (ho:pJ p o i m r)=>az1 p hp ho;generalize fB s n p.aX=os at*
 have hP:=bc.eq_1 p;rw[hP]at*
 simp[auX,UU,aw];exists _,UI;simp;unfold ahR;refine aJ os.length (λi (_:Unit)=>[iI i]) (λi _=>gG p os=gG p (os.drop i)) () ?_ az λi _ hi hI=>?_
 .simp[UU]
 by_cases aq:i<os.length
 rotate_left
 .rw[ZX ak]at hI;simp[UU,aq,hI,gG]
 have hw:=aS aq ak;rw[UQ aq,hN]at hI;obtain⟨j,m,r,ho⟩:=hm _ (Z4 aq);have eW:=GR aq;have j_:gG p os=gG p (os.drop (i+1))->qJ os.length (λi (_:Unit)=>[iI i]) (λi _=>gG p os=gG p (os.drop i)) i [iI (i+1:Nat)]:=λh=>.mk () rfl ak h;rw[HO ho]at hI;generalize os[i]=o at*
 obtain⟨hj,ZB⟩:=Z5.1 ho.ru;have hR:=nQ hj;have Ci:=ZU ho.ru;rw[ZB,<-ho.or]at hR;have YZ:=k45 r (hp.rs _ Ci) (hp.rn _ Ci) (hf _ Ci) (hz _ Ci);have ak0:=ak0 _ _ _ _ ho;unfold SP at hI;rw[bQ]at*
 generalize gl (j9 r) r.bC=b at*
 generalize MZ o r=c at*
 obtain⟨o1,o2,o3⟩:=o;simp only at*
 simp[UU,aq,hw,eW,aw];exists _,ak0;cases c with
 |true=>simp at hI;simp[hI]
 |false=>
  simp at hI;cases o3 with
  |false=>simp at hI;simp;exact j_ hI
  |true=>
   simp[hR];exists _,YZ;cases b with
   |false=>simp at hI;simp[hI]
   |true=>simp at hI;simp;exact j_ hI
def aD_(p:Pg)(hp:f_ p)(hf:∀r∈p.aX,gy r)(hz:∀r∈p.aX,zH r)(s:aj UInt8)(n:Int):CC 64 af [bc p,iS s,iI n] (iI (gb p (fB s n p.aX))):=by
 refine CC.B9 azM kr (λ_=>kr) (s7 (cz p) az az) cE ?_;have UI:=k16 p hp s n;have hl:=vz s n p.aX hp.rs;have hr:=hp.r
 have hm:∀o∈fB s n p.aX,∃i m r,pJ p o i m r:=λo ho=>by
  obtain⟨i,m,r,a,h,_⟩:=As.1 ho;exact⟨i,m,r,h⟩
 have hN:=gb.eq_2 p;generalize fB s n p.aX=os at*
 have hP:=bc.eq_1 p;rw[hP]at*
 simp[auW,UU,aw];exists _,UI;simp;unfold ahQ;refine aJ os.length (λi (_:Unit)=>[iI i]) (λi _=>gb p os=i+gb p (os.drop i)) () ?_ az λi _ hi hI=>?_
 .simp[UU]
 by_cases aq:i<os.length
 rotate_left
 .rw[ZX ak,gb]at hI;have:gb p os=os.length:=ak;simp[UU,aq,this]
 have hw:=aS aq ak;rw[UQ aq,hN]at hI;obtain⟨j,m,r,ho⟩:=hm _ (Z4 aq);have eW:=GR aq;have j_:gb p os=(i+1)+gb p (os.drop (i+1))->qJ os.length (λi (_:Unit)=>[iI i]) (λi _=>gb p os=i+gb p (os.drop i)) i [iI (i+1:Nat)]:=λh=>.mk () rfl ak h;rw[HO ho]at hI;generalize os[i]=o at*
 obtain⟨hj,ZB⟩:=Z5.1 ho.ru;have hR:=nQ hj;have Ci:=ZU ho.ru;rw[ZB,<-ho.or]at hR;have YZ:=k45 r (hp.rs _ Ci) (hp.rn _ Ci) (hf _ Ci) (hz _ Ci);unfold SP at hI;rw[bQ]at*
 generalize gl (j9 r) r.bC=b at*
 obtain⟨o1,o2,o3⟩:=o;simp only at*
 cases o3 with
 |false=>
  simp at hI;simp[UU,aq,hw,eW,aw];exact j_ ak
 |true=>
  simp[UU,aq,hw,eW,hR,aw];exists _,YZ;cases b with
  |false=>simp at hI;simp[hI]
  |true=>simp at hI;simp;exact j_ ak
end Go.Proofs.YtabefplkfkfdfaaGreat

