/- A part of the proof, no condition. -/
import Derived.Test.YtabefplkfkfdfaaGreatPAi
import Derived.Test.YtabefplkfkfdfaaGreatPAg
import Derived.Test.YtabefplkfkfdfaaGreatPAf
import Derived.ProofKit
import Derived.OpenShut
import Derived.Test.YtabefplkfkfdfaaGreatPAh
import Derived.Test.YtabefplkfkfdfaaGreatRows
import Derived.LaidMore
import Derived.Stop.Joined
import Derived.SevenTiedAt
import Derived.Lib.SmallJoins
import Derived.WideKeyArgs
import Derived.Below
import Derived.JoinedCond
open List renaming length_map->aw0,mem_map->awB,length->awN,getElem_mem->awd,map_append->axw,take_succ_eq_append_getElem->awh,mem_append->awm,mem_singleton->awo,take_of_length_le->awr,getElem?_eq_some_iff->awa,getElem?_eq_getElem->av_,ofFn->ay3,mem_ofFn->aBp,getElem?_map->awu,getElem?_ofFn->aAA,mem_cons->aws
open Option.some renaming inj->ayh,injEq->awf
open Go.IntKind renaming i64->awK
open Nat renaming zero_le->aw5,add_assoc->ax2,div_lt_of_lt_mul->aAu,mul_comm->azH,mod_lt->aBJ,div_add_mod->aBg,le_trans->awy
open Go.Addr renaming add->aBf
open Go.DataW renaming trod->axA,trod_slice->aAP,trod_struct->aAB,TrodAll->az3
open List.cons renaming inj->ayv
open Option renaming bind_eq_some_iff->awx,map_some->awQ,getD_some->aw8,map_eq_some_iff->awj
open Classical renaming axiomOfChoice->azS
open Go.World renaming cell?_spot->aAQ
open Prod.mk renaming injEq->awM
open Array renaming getElem?_eq_some_iff->aw4,length_toList->azj
open Go.WideElems renaming Trod_stays->aBY
open Go.OpenClaim renaming holds_of_cond->aBZ
open Option renaming some->aa,none->ah
open Bool renaming true->ab,false->af
set_option linter.all false
namespace Go.Proofs.YtabefplkfkfdfaaGreat
open Go Go.Ev
section
def BkP(p:Pg)(acc:List Ac)(b:Bk):Prop:=∃x i m r,Pl p x i m r/\wy p x x.aJ.length acc/\b=⟨x.o,ga r acc x⟩
structure UnP(p:Pg)(acc:List Ac)(u:Un):Prop where
 o:u.bs.map Bk.o=oT u.s u.n p.aV
 b:∀b∈u.bs,BkP p acc b
 la:0<=u.la/\u.la<=(oT u.s u.n p.aV).length
def ard{p:Pg}(h:Em p):p.bN.Nodup:=by
 rw[List.nodup_iff_pairwise_ne,List.pairwise_iff_getElem];intro i j hi hj oW he;have:=h.u j hj;have hb:ju (p.bN.take j) p.bN[j].s p.bN[j].n=ab:=(yH _ _ _).2 ⟨p.bN[i],List.mem_take_iff_getElem.2 ⟨i,by omega,rfl⟩,by rw[he],by rw[he]⟩;rw[this]at hb;cases hb
def are{p:Pg}(hp:oe p)(a_:Em p){us:List Un}{acc:List Ac}(ha:Bv DA 100 acc)(hd:us.map vh=p.bN)(hu:∀u∈us,UnP p acc u):V4 us acc p.aV.length:=by
 have hr:=hp.r;have hdl:=hp.d;have GQ:us.length=p.bN.length:=by rw[<-hd,aw0]
 refine⟨by omega,by omega,by have:=ha.l;omega,λa h=>⟨(ha.p a h).2,(ha.p a h).1⟩,λu hm=>?_,by rw[hd];exact ard a_⟩;have⟨ho,hb,hla⟩:=hu u hm;have agi:=xB u.s u.n p.aV hp.rs;have Eu:u.bs.length=(oT u.s u.n p.aV).length:=by rw[<-ho,aw0]
 have hdm:vh u∈p.bN:=hd▸awB.2 ⟨u,hm,rfl⟩;have hdo:=a_.d _ hdm;refine⟨by omega,hdo.1,hdo.2,by omega,λb AB=>?_⟩;obtain⟨x,i,m,r,dZ,hc,rfl⟩:=hb b AB;have dD:x.o∈oT u.s u.n p.aV:=by rw[<-ho];exact awB.2 ⟨_,AB,rfl⟩
 have⟨i',m',r',a,hoc,aM,hs,hn⟩:=Px.1 dD;have hi:i'=i:=by have:=hoc.or;have:=dZ.oc.or;omega
 have hmm:m'=m:=by have:=hoc.oh;have:=dZ.oc.oh;omega
 subst hi;subst hmm;obtain rfl:r'=r:=ayh (hoc.ru.symm.trans dZ.oc.ru);have WT:=dZ.rule;have hda:dA a=⟨u.s,u.n⟩:=by unfold dA;rw[hs,hn]
 refine⟨dZ.auU hc dZ.agf,WT.2.2,?_⟩;rw[hd,<-hda];exact dZ.auX hc aM
def arf{a:List Bk}{b:Bk}(h:a.length<=1000):dg 4 48 (Bu a) (.tree 4 [.agg [iI b.o.r,iI b.o.h,iB b.o.k,cJ b.c]])=aa (Bu (a++[b])):=by
 have h2:fV 4 [.agg [iI b.o.r,iI b.o.h,iB b.o.k,cJ b.c]]=ab:=rfl;simp[dg,h2,ui];omega
def arh{a:List Un}{u:Un}(h:a.length<=1000):dg 5 64 (vg a) (.tree 5 [.agg [iS u.s,iI u.n,Bu u.bs,iB u.nv,iI u.la]])=aa (vg (a++[u])):=by
 have h2:fV 5 [.agg [iS u.s,iI u.n,Bu u.bs,iB u.nv,iI u.la]]=ab:=rfl;simp[dg,h2,CV];omega
def MpB(p:Pg)(acc:List Ac)(l:List Pn)(cs:List (Oc×IV)):Prop:=∃F,lN cs F/\∀x∈l,∃b,BkP p acc b/\b.o=x.o/\F x.o=aa (ui b)
theorem MpB.get{p:Pg}{acc:List Ac}{l:List Pn}{cs:List (Oc×IV)}(h:MpB p acc l cs){o:Oc}(ho:o∈l.map Pn.o):∃b,BkP p acc b/\b.o=o/\nB Tryz.prog 28 (iV jP cs) (.agg [iI o.r,iI o.h,iB o.k]) (.agg [iI 0,iI 0,iB af,.tree 7 []])=aa (.agg [iI b.o.r,iI b.o.h,iB b.o.k,cJ b.c]):=by
 have⟨F,hm,hx⟩:=h;obtain⟨x,wB,rfl⟩:=awB.1 ho;have⟨b,h1,h2,h3⟩:=hx x wB;refine⟨b,h1,h2,?_⟩;have:=hm.get ahI x.o (.agg [iI 0,iI 0,iB af,.tree 7 []]);rw[h3]at this;exact this
def Rc(p:Pg)(acc:List Ac)(us:List Un):Prop:=∀u∈us,UnP p acc u
def BsP(p:Pg)(acc:List Ac)(bs:List Bk):Prop:=∀b∈bs,BkP p acc b
section
variable{Q:IV->Prop}{k0 k1:List IV->Prop}{x0 x1 x2 x3 x4:IV}
def ari(p:Pg)(acc:List Ac)(l:List Pn)(cs:List (Oc×IV))(bD:MpB p acc l cs)(i:Nat)(hi:i<1000)(us:List Un)(yg:us.length<=1000)(d:De)(nv:Bool)(la:Int)(os:List Oc)(DK:os.length<=100)(yb:∀o∈os,o∈l.map Pn.o)
 (hk:∀bs:List Bk,bs.map Bk.o=os->BsP p acc bs->k1 [iI (i+1:Nat),vg (us++[⟨d.s,d.n,bs,nv,la⟩])]):
 VJ.sat Tryz.prog CC Q [k0,k1] [x0,x1,x2,x3,x4,iV jP cs,iI i,vg us,xp d,iB nv,iI la,p5 os]:=by
 have kh:=aI hi aj;have hD:xp d=.agg [iS d.s,iI d.n]:=rfl;rw[hD];unfold VJ;refine aC os.length (λj (bs:List Bk)=>[iI j,Bu bs]) (λj bs=>bs.map Bk.o=os.take j/\BsP p acc bs) [] ?_ ⟨by simp,by intro b hb;cases hb⟩ λj bs hj hI=>?_
 .simp[br]
 have⟨fQ,jd⟩:=hI
 have Eu:bs.length=j:=by
  have:=congrArg awN fQ;simp at this;omega
 by_cases ak:j<os.length
 .have hw:=aI ak aj;have⟨b,cB,dv,hg⟩:=bD.get (yb _ (awd ak));have pc:=arf (a:=bs) (b:=b) aj
  have sW:Be os.length (λj (bs:List Bk)=>[iI j,Bu bs]) (λj bs=>bs.map Bk.o=os.take j/\BsP p acc bs) j [iI (j+1:Nat),Bu (bs++[b])]:=.mk (bs++[b]) rfl aj ⟨by rw[axw,fQ,awh ak];simp[dv],λy hy=>by
   rcases awm.1 hy with hy|hy
   .exact jd y hy
   .obtain rfl:=awo.1 hy;exact cB⟩
  simp[br,ak,hw,aam ak,ao,hg,cellsOf];exact⟨_,pc,sW⟩
 .rw[awr aj]at fQ;have pc:=arh (a:=us) (u:=⟨d.s,d.n,bs,nv,la⟩) aj;have hk:=hk bs fQ jd;simp only at pc;generalize vg (us++[⟨d.s,d.n,bs,nv,la⟩])=z at*
  simp[br,ak,kh,ao,cellsOf];exact⟨_,pc,hk⟩
def arj(p:Pg)(hp:oe p)(a_:Em p)(hf:∀r∈p.aV,lY r)(acc:List Ac)(K9:Bv DA 100 acc)(l:List Pn)(hl:l.map Pn.o=occs p.aV)(cs:List (Oc×IV))(bD:MpB p acc l cs)
 (hQ:∀us:List Un,us.map vh=p.bN->Rc p acc us->Q (.aF [mV us acc p.aV.length,iI 0])):
 VK.sat Tryz.prog CC Q [k0] [bn p,x1,x2,eU acc,x4,iV jP cs]:=by
 have hdl:=hp.d;have qu:=hp.r;have h49:=λs n=>k49 p hp hf s n;have h50:=λs n=>k50 p hp hf s n;have h51:=λs n=>k51 p hp s n;have agi:=λs n=>xB s n p.aV hp.rs;have agj:∀s n,∀o∈oT s n p.aV,o∈l.map Pn.o:=λs n o ho=>by rw[hl];exact agb ho
 have hy:=λk1 i hi us yg d nv la os DK yb hk=>ari (Q:=Q) (k0:=k0) (k1:=k1) (x0:=bn p) (x1:=x1) (x2:=x2) (x3:=eU acc) (x4:=x4) p acc l cs bD i hi us yg d nv la os DK yb hk;have h52:=λus h1 h2=>k52 us acc p.aV.length (are hp a_ K9 h1 h2);have hP:bn p=.agg [fY p.bN,mw p.aV]:=rfl;rw[hP]at*
 unfold VK;refine aC p.bN.length (λi (us:List Un)=>[iI i,vg us]) (λi us=>us.map vh=p.bN.take i/\Rc p acc us) [] ?_ ⟨by simp,by intro b hb;cases hb⟩ λi us hi hI=>?_
 .simp[br]
 have⟨fQ,jd⟩:=hI
 have Eu:us.length=i:=by
  have:=congrArg awN fQ;simp at this;omega
 by_cases ak:i<p.bN.length
 .have⟨nv,hnv⟩:=h49 p.bN[i].s p.bN[i].n;have⟨la,hla,auY⟩:=h50 p.bN[i].s p.bN[i].n;have h51:=h51 p.bN[i].s p.bN[i].n;have agi:=agi p.bN[i].s p.bN[i].n;have agj:=agj p.bN[i].s p.bN[i].n
  have hy:=hy (Be p.bN.length (λi (us:List Un)=>[iI i,vg us]) (λi us=>us.map vh=p.bN.take i/\Rc p acc us) i) i aj us aj p.bN[i] nv la (oT p.bN[i].s p.bN[i].n p.aV) aj agj λbs cB dv=>.mk (us++[⟨p.bN[i].s,p.bN[i].n,bs,nv,la⟩]) rfl aj ⟨by rw[axw,fQ,awh ak];rfl,λu hu=>by
   rcases awm.1 hu with hu|hu
   .exact jd u hu
   .obtain rfl:=awo.1 hu;exact⟨cB,dv,hla⟩⟩
  have eM:cq 2 (fY p.bN) (iI i)=aa (.agg [iS p.bN[i].s,iI p.bN[i].n]):=cP (by simp[ak,xp]) rfl;have hD:xp p.bN[i]=.agg [iS p.bN[i].s,iI p.bN[i].n]:=rfl;rw[hD]at hy;generalize oT p.bN[i].s p.bN[i].n p.aV=os at*
  simp[br,ak,eM,ao];refine⟨_,hnv,?_⟩;simp[br];refine⟨_,auY,?_⟩;simp[br];refine⟨_,h51,?_⟩;simp[br];exact hy
 .rw[awr aj]at fQ;have h52:=h52 us fQ jd;have hQ:=hQ us fQ jd;have hM:mV us acc p.aV.length=.agg [vg us,eU acc,iI p.aV.length]:=rfl;rw[hM]at h52 hQ;simp[br,ak,ao];refine⟨_,h52,?_⟩;simp[br];exact hQ
def ark(p:Pg)(hp:oe p)(a_:Em p)(hz:∀r∈p.aV,H3 r)(hf:∀r∈p.aV,lY r)(acc:List Ac)(K9:Bv DA 100 acc)(l:List Pn)(hl:l.map Pn.o=occs p.aV)(dZ:∀x∈l,Yy p x.o x)(an1:∀x∈l,wy p x x.aJ.length acc)
 (hQ:∀us:List Un,us.map vh=p.bN->Rc p acc us->Q (.aF [mV us acc p.aV.length,iI 0])):
 VL.sat Tryz.prog CC Q [] [bn p,x1,CU l,eU acc]:=by
 have QX:l.length<=24:=by
  have h1:=congrArg awN hl;have h2:=uN p.aV hp.rs;have h3:=hp.r;rw[aw0]at h1;omega
 have hac:Yb acc:=⟨by have:=K9.l;omega,λa ha=>(K9.p a ha).1⟩
 have A6:∀x∈l,∃i m r,Pl p x i m r:=λx hx=>by
  have⟨_,h2,_⟩:=dZ x hx;have hm:x.o∈occs p.aV:=by rw[<-hl];exact awB.2 ⟨x,hx,rfl⟩
  have⟨i,m,r,h⟩:=xx.1 hm;exact⟨i,m,r,hp,a_,h,h2⟩
 have S1:∀x∈l,∃b,BkP p acc b/\b.o=x.o/\CC 11 af [bn p,eU acc,cD x] (.aF [.agg [iI b.o.r,iI b.o.h,iB b.o.k,cJ b.c],iI 0]):=λx hx=>by
  have⟨i,m,r,h⟩:=A6 x hx;have⟨_,_,h3,h4⟩:=dZ x hx;have hb:=M3 p hp hz a_ acc hac x h3 aj h.oc h.rt (h.auT (an1 x hx)) h.agf;exact⟨⟨x.o,ga r acc x⟩,⟨x,i,m,r,h,an1 x hx,rfl⟩,rfl,hb⟩
 have hy:=λk0 x4 cs bD=>arj (Q:=Q) (k0:=k0) (x1:=x1) (x2:=CU l) (x4:=x4) p hp a_ hf acc K9 l hl cs bD hQ;have hP:bn p=.agg [fY p.bN,mw p.aV]:=rfl;rw[hP]at*
 unfold VL;refine aC l.length (λi (cs:List (Oc×IV))=>[iI i,iV jP cs]) (λi cs=>MpB p acc (l.take i) cs) [] ?_ ⟨_,lN.nil,by simp⟩ λi cs hi hI=>?_
 .simp[br,iV]
 by_cases ak:i<l.length
 .have hw:=aI ak aj;have⟨b,cB,dv,S1⟩:=S1 _ (awd ak);have⟨F,hF1,JR⟩:=hI;have⟨bG,bD,iu⟩:=hF1.ins ahI l[i].o (ui b);have iu:nA Tryz.prog 28 (iV jP cs) (.agg [iI l[i].o.r,iI l[i].o.h,iB l[i].o.k]) (.agg [iI b.o.r,iI b.o.h,iB b.o.k,cJ b.c])=aa (iV jP bG):=iu;have hN:cD l[i]=.agg [iI l[i].o.r,iI l[i].o.h,iB l[i].o.k,iL l[i].aJ,dr l[i].dQ,dr l[i].dt]:=rfl;have eM:=am9 ak;rw[hN]at S1 eM;simp[br,ak,hw,eM,ao];refine⟨_,S1,?_⟩;simp[br,ao,iu];refine .mk bG rfl aj ⟨_,bD,λx hx=>?_⟩;rw[awh ak]at hx;by_cases e:x.o=l[i].o
  .exact⟨b,cB,by rw[e,dv],by rw[if_pos e]⟩
  .rcases awm.1 hx with hx|hx
   .have⟨c,h1,h2,h3⟩:=JR x hx;exact⟨c,h1,h2,by rw[if_neg e];exact h3⟩
   .obtain rfl:=awo.1 hx;exact absurd rfl e
 .rw[awr aj]at hI;simp[br,ak];exact hy _ _ _ hI
end
def k15(p:Pg)(hp:oe p)(hz:∀r∈p.aV,H3 r)(a_:Em p):∃us acc,(us.map vh=p.bN/\Rc p acc us)/\CC 15 af [bn p] (.aF [mV us acc p.aV.length,iI 0]):=by
 have hf:∀r∈p.aV,lY r:=λr hr=>(a_.r r hr).form (hp.rn r hr)
 suffices hs:afI.sat Tryz.prog CC (λz=>∃us acc,z=.aF [mV us acc p.aV.length,iI 0]/\us.map vh=p.bN/\Rc p acc us) [] [bn p] by
  obtain⟨z,⟨us,acc,rfl,h1,h2⟩,hz⟩:=CC.HO (args:=[bn p]) aqC kr (by rintro _ ⟨us,acc,rfl,_⟩;exact kr) (mB (dN p)) (by rintro _ ⟨us,acc,rfl,_⟩;exact .aF _ (by simp;exact .agg _ ay)) (by rfl) hs;exact⟨us,acc,⟨h1,h2⟩,hz⟩
 have h31:=k31 p hp a_;have⟨l,⟨mM,gg⟩,h47⟩:=k47 p hp hf
 have QX:l.length<=24:=by
  have h1:=congrArg awN mM;have h2:=uN p.aV hp.rs;have h3:=hp.r;rw[aw0]at h1;omega
 have oJ:∀x∈l,PlA p DA x:=λx hx=>by
  have⟨_,h2,_⟩:=gg x hx;have hm:x.o∈occs p.aV:=by rw[<-mM];exact awB.2 ⟨x,hx,rfl⟩
  have⟨i,m,r,h⟩:=xx.1 hm;exact(⟨hp,a_,h,h2⟩:Pl p x i m r).plA
 have⟨acc,sQ,vR,h48⟩:=k48 p hp DA l aj oJ;have ha3:Bv DA 100 acc:=⟨by have:=sQ.l;omega,sQ.p⟩;have hy:=λx1=>ark (Q:=λz=>∃us acc,z=.aF [mV us acc p.aV.length,iI 0]/\us.map vh=p.bN/\Rc p acc us) (x1:=x1) p hp a_ hz hf acc ha3 l mM gg vR λus h1 h2=>⟨us,acc,rfl,h1,h2⟩;have hP:bn p=.agg [fY p.bN,mw p.aV]:=rfl;rw[hP]at*
 simp[afI,br,ao];refine⟨_,h31,?_⟩;simp[br];refine⟨_,h47,?_⟩;simp[br];refine⟨_,h48,?_⟩;simp[br];exact hy _
def ajL(op:Int)(y:In):gM op [y]=if y.op=op then 1 else 0:=by
 unfold gM;rw[List.countP_cons,List.countP_nil];simp
def V_(op:Int)(c:List In):gM op c<=c.length:=List.countP_le_length
def Lu{op:Int}{c:List In}{j:Nat}(h:j<c.length):gM op (c.take (j+1))=gM op (c.take j)+if c[j].op=op then 1 else 0:=by
 rw[awh h,gZ,ajL]
def Nl(c:List In)(j n:Nat):List IV:=[iI j,iI (gM 9 (c.take j):Nat),iI (gM 2 (c.take j):Nat),iI (gM 3 (c.take j):Nat),iI n]
section
variable{Q:IV->Prop}{k0 k1:List IV->Prop}{x0 x1 x2 x3 x4 x6 x7:IV}
def auZ(b:Bk)(r:Rl)(hc:b.c.length<=200)(qu:r.aw.length+r.az.length<=3)(M8:r.aG.length<=6)(Eu:r.bc.length<=6)(k:Nat)(hk:k<1000)
 (h9:gM 9 b.c=r.bc.length)(h2:gM 2 b.c=r.aG.length)(h3:gM 3 b.c+1=r.aw.length+r.az.length)(h6:kF r.aw.length 0 b.c r.az.length)(kj:k1 [iI (k+1:Nat)]):
 aaL.sat Tryz.prog CC Q [k0,k1] [x0,x1,x2,x3,x4,iI k,x6,x7,ui b,cU r]:=by
 have VP:=aI hk aj;have hB:ui b=.agg [iI b.o.r,iI b.o.h,iB b.o.k,cJ b.c]:=rfl;rw[hB,cu];unfold aaL;refine aC b.c.length (λj (n:Nat)=>Nl b.c j n) (λj n=>kF r.aw.length n (b.c.drop j) r.az.length/\n<=j) 0 ?_ ⟨h6,Nat.le_refl _⟩ λj n hj hI=>?_
 .simp[br,Nl,gM]
 have⟨hI,hn⟩:=hI;have b9:=V_ 9 (b.c.take j);have b2:=V_ 2 (b.c.take j);have b3:=V_ 3 (b.c.take j);rw[List.length_take]at b9 b2 b3;by_cases ak:j<b.c.length
 rotate_left
 .rw[List.drop_of_length_le aj]at hI;obtain rfl:n=r.az.length:=hI;unfold Nl;rw[awr aj,h9,h2,show(gM 3 b.c:Int)=(r.aw.length:Int)+r.az.length- 1 by omega];have hw1:awK.wrap ((r.aw.length:Int)+r.az.length)=(r.aw.length:Int)+r.az.length:=eT aj aj;have G7:awK.wrap ((r.aw.length:Int)+r.az.length- 1)=(r.aw.length:Int)+r.az.length- 1:=eT aj aj;simp[br,ak,hw1,G7,VP];exact kj
 have hw:=aI ak aj;have hw9:awK.wrap ((gM 9 (b.c.take j):Int)+1)=((gM 9 (b.c.take j)+1:Nat):Int):=aI (n:=1000) aj aj;have G7:awK.wrap ((gM 2 (b.c.take j):Int)+1)=((gM 2 (b.c.take j)+1:Nat):Int):=aI (n:=1000) aj aj;have hw3:awK.wrap ((gM 3 (b.c.take j):Int)+1)=((gM 3 (b.c.take j)+1:Nat):Int):=aI (n:=1000) aj aj;have hwn:awK.wrap ((n:Int)+1)=((n+1:Nat):Int):=aI (n:=1000) aj aj;have n_:awK.wrap ((r.aw.length:Int)+n)=(r.aw.length:Int)+n:=eT aj aj;have hd:=List.drop_eq_getElem_cons ak;rw[hd]at hI;unfold kF at hI;have t9:=Lu (op:=9) ak;have t2:=Lu (op:=2) ak;have t3:=Lu (op:=3) ak;have eM:=ixI ak
 have sW:∀n',kF r.aw.length n' (b.c.drop (j+1)) r.az.length->n'<=j+1->Be b.c.length (λj (n:Nat)=>Nl b.c j n) (λj n=>kF r.aw.length n (b.c.drop j) r.az.length/\n<=j) j [iI (j+1:Nat),iI (gM 9 (b.c.take (j+1)):Nat),iI (gM 2 (b.c.take (j+1)):Nat),iI (gM 3 (b.c.take (j+1)):Nat),iI n']:=
  λn' h1 h2=>.mk n' rfl aj ⟨h1,h2⟩
 rw[t9,t2,t3]at sW;unfold Nl at sW⊢;generalize b.c[j]=y at*
 by_cases e6:y.op=6
 .rw[if_pos e6]at hI;have sW:=sW _ hI.2 aj;rw[e6]at sW;simp at sW;simp[br,ak,hw,eM,ao,e6,n_,hI.1,hwn];exact sW
 rw[if_neg e6]at hI;have sW:=sW _ hI aj;by_cases e3:y.op=3
 .rw[e3]at sW;simp at sW;simp[br,ak,hw,eM,ao,e3,hw3];exact sW
 by_cases e2:y.op=2
 .rw[e2]at sW;simp at sW;simp[br,ak,hw,eM,ao,e2,G7];exact sW
 by_cases e9:y.op=9
 .rw[e9]at sW;simp at sW;simp[br,ak,hw,eM,ao,e9,hw9];exact sW
 simp[e3,e2,e9]at sW;simp[br,ak,hw,eM,ao,e6,e3,e2,e9];exact sW
def au0(p:Pg)(acc:List Ac)(us:List Un)(rl:Int)(hl:∀u∈us,u.bs.length<=100)(hu:Rc p acc us)(i:Nat)(hi:i<us.length)(GQ:us.length<=1000)(hk:k0 [iI (i+1:Nat)]):
 aaM.sat Tryz.prog CC Q [k0] [bn p,x1,x2,.aF [mV us acc rl,iI 0],iI i]:=by
 have kh:=aI hi aj;have hU:=aaX hi;have⟨ho,hb,_⟩:=hu _ (awd hi);have Eu:=hl _ (awd hi);have hy:=λk1 k x6 x7 b r=>auZ (Q:=Q) (k0:=k0) (k1:=k1) (x0:=bn p) (x1:=x1) (x2:=x2) (x3:=.aF [mV us acc rl,iI 0]) (x4:=iI i) (x6:=x6) (x7:=x7) b r (k:=k);have hM:mV us acc rl=.agg [vg us,eU acc,iI rl]:=rfl;have hP:bn p=.agg [fY p.bN,mw p.aV]:=rfl;rw[hM,hP];unfold aaM;refine aC us[i].bs.length (λk (_:Unit)=>[iI k]) (λ_ _=>True) () ?_ trivial λk _ eX _=>?_
 .simp[br]
 by_cases ak:k<us[i].bs.length
 .have⟨x,j,m,r,dZ,hc,hbe⟩:=hb _ (awd ak);have eM:=anr ak;rw[hbe]at eM;simp only at eM;have⟨hj,hjr⟩:=awa.1 dZ.oc.ru;have hR:=y9 hj;rw[hjr,<-dZ.oc.or]at hR;have⟨r0,_,r1⟩:=dZ.rule;have z1:¬x.o.r<0:=aj;have z2:¬(p.aV.length:Int)<=x.o.r:=aj;have qQ:=dZ.sm;have hyy:=hy (Be us[i].bs.length (λk (_:Unit)=>[iI k]) (λ_ _=>True) k) k (.agg [iS us[i].s,iI us[i].n,Bu us[i].bs,iB us[i].nv,iI us[i].la]) (.agg [iS us[i].s,iI us[i].n,Bu us[i].bs,iB us[i].nv,iI us[i].la]) ⟨x.o,ga r acc x⟩ r dZ.agf qQ.h qQ.g qQ.b aj dZ.anY dZ.an0 dZ.anZ dZ.arb (.mk () rfl aj trivial);have hB:ui ⟨x.o,ga r acc x⟩=.agg [iI x.o.r,iI x.o.h,iB x.o.k,cJ (ga r acc x)]:=rfl;rw[hB,cu,hM,hP]at hyy;generalize ga r acc x=c at*
  simp[br,hU,ak,ao,eM,z1,z2,hR];exact hyy
 .simp[br,hU,ak,ao,kh];exact hk
end
def k5(p:Pg)(hp:NmP p)(hz:∀r∈p.aV,H3 r):CC 5 af [bn p] (iB ab):=by
 refine CC.eF aue kr (λ_=>kr) (mB (dN p)) (by rfl) ?_;have⟨b7,f7,h7⟩:=e30 p hp;have hP:bn p=.agg [fY p.bN,mw p.aV]:=rfl;cases b7 with
 |false=>
  rw[hP]at*
  simp[cw5,br,ao];refine⟨_,h7,?_⟩;simp[br]
 |true=>
 have J0:=f7 rfl;have⟨a9,n9,f9,h9⟩:=v34 p J0 hz;by_cases e9:n9=0
 rotate_left
 .rw[hP]at*
  simp[cw5,br,ao];refine⟨_,h7,?_⟩;simp[br];refine⟨_,h9,?_⟩;simp[br,e9]
 have a_:=f9 e9;have⟨us,acc,⟨yj,wG⟩,h15⟩:=k15 p J0 hz a_;have h14:=k14;have GQ:us.length<=12:=by have:=congrArg awN yj;have:=J0.d;rw[aw0]at*;omega
 have Eu:∀u∈us,u.bs.length<=100:=λu hu=>by
  have h1:=congrArg awN (wG u hu).o;have h2:=xB u.s u.n p.aV J0.rs;have h3:=J0.r;rw[aw0]at h1;omega
 have hy:=λk0 x1 x2 i hi hk=>au0 (Q:=xo (·=ab)) (k0:=k0) (x1:=x1) (x2:=x2) p acc us p.aV.length Eu wG i hi aj hk;have hM:mV us acc p.aV.length=.agg [vg us,eU acc,iI p.aV.length]:=rfl;simp only[hM,hP]at hy;rw[hM]at h15;rw[hP]at*
 simp[cw5,br,ao];refine⟨_,h7,?_⟩;simp[br];refine⟨_,h9,?_⟩;simp[br,e9];refine⟨_,h15,?_⟩;simp[br,ao];unfold ahE;refine aC us.length (λi (_:Unit)=>[iI i]) (λ_ _=>True) () ?_ trivial λi _ hi _=>?_
 .simp[br]
 by_cases ak:i<us.length
 .have hy:=hy (Be us.length (λi (_:Unit)=>[iI i]) (λ_ _=>True) i) (iB ab) (.aF [iI a9,iI n9]) i ak (.mk () rfl aj trivial);rw[e9]at hy;simp[br,ak,ao];exact hy
 .simp[br,ak,ao];refine⟨_,h14,?_⟩;simp[br]
end
end Go.Proofs.YtabefplkfkfdfaaGreat
namespace Go.Ev
open Go
variable{H:Type}{enc:TypeId×Value->H}{P:Program}{w:World}{sp:Nat->Bool}{held:Bool}
def l5{a:Addr}{n:Nat}{us:List Value}(h:w.cells? 0 a n=aa us):us.length=n/\∀j,j<n->w.cell? (a.add j)=us[j]? :=by
 unfold World.cells? at h;rw[if_pos (aw5 _)]at h;exact⟨by simpa using mapM_some_length h,λj hj=>mapM_some_get h j j (by simp[hj])⟩
def Nn{b off:Nat}{v:Value}(h:w.cell? ⟨b,off,ah⟩=aa v):qq (allM w) b off=aa v:=by
 unfold World.cell? at h;simp only at h;split at h
 .rename_i c e f hb;rw[if_neg ay]at h;unfold qq allM;rw[hb];exact h
 .cases h
def Gk(b off n:Nat):(⟨b,off,ah⟩:Addr).add n=⟨b,off+n,ah⟩:=by
 unfold aBf;split
 .rename_i h;subst h;rfl
 .rfl
def aa3{α:Type}(f:α->IV){s:Nat}(hs:0<s)(bD:∀a,(cellsOf (f a)).length=s)(Ok:α->Prop){t e:TypeId}(ht:P.underlying t=aa (.slice e))(hP:P.cellsOf e=s){fuel:Nat}{u:Value}{x:DataW H×List MemPlace}
 (oF:∀n us x,n<fuel->axA enc P w 0 sp held n e us=aa x->us.length=s->∃a,Ok a/\aL (iY (allM w)) (cellsOf (f a)) us)
 (h:axA enc P w 0 sp held fuel t [u]=aa x):∃l:List α,l.length<=9223372036854775807/\(∀a∈l,Ok a)/\Rv (iY (allM w)) (.tree s (l.map f)) u:=by
 rcases aAP ht h with⟨h1,_⟩|⟨a,len,cap,elems,rest,n,hfu,h1,_,_,tx,hcm,hlen,aM,_,_⟩
 .obtain rfl:=(ayv h1).1;exact⟨[],by simp,by simp,.eB s ah 0 hs (λ_=>rfl)⟩
 .obtain rfl:=(ayv h1).1;by_cases iP:len=0
  .subst iP;exact⟨[],by simp,by simp,.eB s (aa a) cap hs ay⟩
  .have key:∀i:Fin len,∃p:List Value×α,w.cells? 0 (a.add (i.1*s)) s=aa p.1/\Ok p.2/\aL (iY (allM w)) (cellsOf (f p.2)) p.1:=λi=>by
    have hi:=aM i.1 i.2;rw[hP]at hi;have yu:elems[i.1]?=aa elems[i.1]:=av_ aj;rw[yu]at hi;have⟨us,yj,wG⟩:=awx.1 hi;have⟨b,cB,dv⟩:=oF n us _ aj wG (l5 yj).1;exact⟨(us,b),yj,cB,dv⟩
   have⟨g,hg⟩:=azS key
   have No:a.spot=ah:=by
    have⟨Gq,_,_⟩:=hg ⟨0,by omega⟩;have⟨mM,gg⟩:=l5 Gq;have h0:=gg 0 hs;rw[av_ aj]at h0;have:=aAQ h0;simpa[aBf]using this
   have⟨b,off,spot⟩:=a;simp only at No;subst No
   have iR:∀i (hi:i<len) j,j<s->w.cell? ⟨b,off+(i*s+j),ah⟩=(g ⟨i,hi⟩).1[j]? :=λi hi j hj=>by
    have:=(l5 (hg ⟨i,hi⟩).1).2 j hj;rw[Gk,Gk]at this;rw[<-ax2];exact this
   refine⟨ay3 λi=>(g i).2,by simp;have:maxLen=9223372036854775807:=rfl;omega,?_,?_⟩
   .intro c hc;obtain⟨i,rfl⟩:=(aBp (f:=λi=>(g i).2)).1 hc;exact(hg i).2.1
   .have oF:((ay3 λi=>(g i).2).map f).length=len:=by simp
    have hR:=Rv.tree (Z:=iY (allM w)) s ((ay3 λi=>(g i).2).map f) b off cap (λk=>(w.cell? ⟨b,off+k,ah⟩).getD Go.undef) hs (by rw[oF];exact tx) ?_ ?_ ?_
    .rw[oF]at hR;exact hR
    .intro e' fM;obtain⟨c,_,rfl⟩:=awB.1 fM;exact bD c
    .intro k hk;rw[oF]at hk;have hi:k/s<len:=aAu (by rw[azH];exact hk);have hj:k % s<s:=aBJ _ hs;have hc:=iR (k/s) hi (k % s) hj;have cH:k/s*s+k % s=k:=by rw[azH];exact aBg k s
     rw[cH]at hc;have mM:=(l5 (hg ⟨k/s,hi⟩).1).1;rw[av_ aj]at hc;rw[Nn hc,hc];rfl
    .intro i e' j c fM hc;rw[awu,aAA]at fM;split at fM
     .rename_i hi;simp only[awQ,awf]at fM;subst fM;have hj:j<s:=by have:=(awa.1 hc).1;rw[bD]at this;exact this
      have jy:=iR i hi j hj;have mM:=(l5 (hg ⟨i,hi⟩).1).1;rw[av_ aj]at jy;simp only[jy,aw8];exact(hg ⟨i,hi⟩).2.2.2 j c _ hc (av_ _)
     .simp at fM
def aa4{t:TypeId}{fs:Array Field}{cs:List Value}{fuel:Nat}{x:DataW H×List MemPlace}(ht:P.underlying t=aa (.struct fs))(h:axA enc P w 0 sp held fuel t cs=aa x):
 ∃n,fuel=n+1/\∀(i:Nat) (ty:TypeId) (off k:Nat),(fs[i]?).map (λf:Field=>(f.type,f.offset))=aa (ty,off)->P.cellsOf ty=k->∃y,axA enc P w 0 sp held n ty ((cs.drop off).take k)=aa y:=by
 have⟨xs,n,h1,_,_,h4,h5⟩:=aAB ht h;refine⟨n,h1,λi ty off k hi hk=>?_⟩;have⟨f,hf,Sw⟩:=awj.1 hi;simp only[awM]at Sw;obtain⟨rfl,rfl⟩:=Sw
 have zk:i<xs.length:=by
  rw[h4];exact(aw4.1 hf).1
 have:=h5 i f hf;rw[av_ zk,hk]at this;exact⟨_,this⟩
end Go.Ev
namespace Go.Proofs.YtabefplkfkfdfaaGreat
open Go Go.Ev
variable{H:Type}{enc:TypeId×Value->H}{w:World}{sp:Nat->Bool}{held:Bool}
noncomputable def fieldsOf(t:TypeId):Array Field:=match Tryz.prog.underlying t with
 |some (.struct fs)=>fs
 |_=> #[]
def au1:Tryz.prog.underlying 9=aa .string:=by kernel_rfl
def arl:Tryz.prog.underlying 106=aa (.struct (fieldsOf 106)):=by kernel_rfl
def arn:Tryz.prog.underlying 99=aa (.struct (fieldsOf 99)):=by kernel_rfl
def ahT:Tryz.prog.underlying 68=aa (.slice 106):=by kernel_rfl
def cl3:Tryz.prog.cellsOf 3=1:=by kernel_rfl
def cl9:Tryz.prog.cellsOf 9=1:=by kernel_rfl
def agk:Tryz.prog.cellsOf 68=1:=by kernel_rfl
def au2:Tryz.prog.cellsOf 99=2:=by kernel_rfl
def an2:Tryz.prog.cellsOf 106=4:=by kernel_rfl
def aO(t i ty off:Nat):Prop:=((fieldsOf t)[i]?).map (λf:Field=>(f.type,f.offset))=aa (ty,off)
def aro:aO 106 0 3 0:=by unfold aO;kernel_rfl
def arp:aO 106 1 3 1:=by unfold aO;kernel_rfl
def arq:aO 106 2 9 2:=by unfold aO;kernel_rfl
def ars:aO 106 3 68 3:=by unfold aO;kernel_rfl
def art:aO 99 0 9 0:=by unfold aO;kernel_rfl
def aru:aO 99 1 68 1:=by unfold aO;kernel_rfl
abbrev Rd(w:World)(c:IV)(u:Value):Prop:=Rv (iY (allM w)) c u
def It{n:Nat}{u:Value}{x:DataW H×List MemPlace}(h:axA enc Tryz.prog w 0 sp held n 3 [u]=aa x):∃a:Int,Rd w (iI a) u:=by
 have⟨a,h1,_⟩:=DataW.trod_int U7 h;obtain rfl:=(ayv h1).1;exact⟨a,.raw _⟩
def arv{α:Type}{l:List α}(h:l.length=4):∃a b c d,l=[a,b,c,d]:=by
 match l,h with
 |[a,b,c,d],_=>exact⟨a,b,c,d,rfl⟩
def arw{α:Type}{l:List α}(h:l.length=6):∃a b c d e f,l=[a,b,c,d,e,f]:=by
 match l,h with
 |[a,b,c,d,e,f],_=>exact⟨a,b,c,d,e,f,rfl⟩
def adI(t:Tm):(cellsOf (er t)).length=4:=by rw[bL];rfl
def ahU:Tryz.prog.underlying 25=aa (.struct (fieldsOf 25)):=by kernel_rfl
def arx:Tryz.prog.underlying 82=aa (.struct (fieldsOf 82)):=by kernel_rfl
def ary:Tryz.prog.underlying 67=aa (.struct (fieldsOf 67)):=by kernel_rfl
def arz:Tryz.prog.underlying 70=aa (.struct (fieldsOf 70)):=by kernel_rfl
def arA:Tryz.prog.underlying 22=aa (.slice 82):=by kernel_rfl
def arB:Tryz.prog.underlying 23=aa (.slice 67):=by kernel_rfl
def arC:Tryz.prog.underlying 64=aa (.slice 99):=by kernel_rfl
def arD:Tryz.prog.underlying 65=aa (.slice 70):=by kernel_rfl
def au3:Tryz.prog.cellsOf 22=1:=by kernel_rfl
def au4:Tryz.prog.cellsOf 23=1:=by kernel_rfl
def an3:Tryz.prog.cellsOf 64=1:=by kernel_rfl
def an4:Tryz.prog.cellsOf 65=1:=by kernel_rfl
def au5:Tryz.prog.cellsOf 82=2:=by kernel_rfl
def au6:Tryz.prog.cellsOf 67=6:=by kernel_rfl
def au7:Tryz.prog.cellsOf 70=3:=by kernel_rfl
def au8:Tryz.prog.cellsOf 25=2:=by kernel_rfl
def arE:aO 25 0 22 0:=by unfold aO;kernel_rfl
def arF:aO 25 1 23 1:=by unfold aO;kernel_rfl
def arG:aO 82 0 9 0:=by unfold aO;kernel_rfl
def arH:aO 82 1 3 1:=by unfold aO;kernel_rfl
def arI:aO 67 0 9 0:=by unfold aO;kernel_rfl
def arJ:aO 67 1 64 1:=by unfold aO;kernel_rfl
def arK:aO 67 2 64 2:=by unfold aO;kernel_rfl
def arL:aO 67 3 65 3:=by unfold aO;kernel_rfl
def arM:aO 67 4 65 4:=by unfold aO;kernel_rfl
def arN:aO 67 5 3 5:=by unfold aO;kernel_rfl
def arO:aO 70 0 3 0:=by unfold aO;kernel_rfl
def arP:aO 70 1 9 1:=by unfold aO;kernel_rfl
def arQ:aO 70 2 68 2:=by unfold aO;kernel_rfl
def aa5{α:Type}{l:List α}(h:l.length=2):∃a b,l=[a,b]:=by
 match l,h with
 |[a,b],_=>exact⟨a,b,rfl⟩
def arR{α:Type}{l:List α}(h:l.length=3):∃a b c,l=[a,b,c]:=by
 match l,h with
 |[a,b,c],_=>exact⟨a,b,c,rfl⟩
def Iu{n:Nat}{u:Value}{x:DataW H×List MemPlace}(h:axA enc Tryz.prog w 0 sp held n 9 [u]=aa x):∃a:List UInt8,Sm a/\Rd w (iS a) u:=by
 have⟨a,h1,h2⟩:=DataW.trod_string au1 h;obtain rfl:=(ayv h1).1;refine⟨a.data.toList,?_,?_⟩
 .have:=h2.2;simp only[maxLen]at this;show a.data.toList.length<=_;rw[azj];have he:a.size=a.data.size:=rfl;omega
 .unfold iS;rw[bytes_eta];exact .raw _
def RdR(r:Rl):Prop:=qP r/\Sm r.aw/\Sm r.az/\Sm r.aG/\Sm r.bc
def au9(fuel:Nat)(us:List Value)(x:DataW H×List MemPlace)(h:axA enc Tryz.prog w 0 sp held fuel 82 us=aa x)(hl:us.length=2):∃f:De,Sm f.s/\aL (iY (allM w)) (cellsOf (xp f)) us:=by
 obtain⟨a,b,rfl⟩:=aa5 hl;have⟨n,hn,hf⟩:=aa4 arx h;have⟨_,h0⟩:=hf 0 9 0 1 arG cl9;have⟨_,h1⟩:=hf 1 3 1 1 arH cl3;have⟨s,w0,r0⟩:=Iu h0;have⟨k,r1⟩:=It h1;exact⟨⟨s,k⟩,w0,aL.cons r0 (aL.cons r1 aL.nil)⟩
abbrev bk(d:DataW H):Nat:=Rows.uptoBulk d
theorem Np:∀{l:List (DataW H)} {d:DataW H},d∈l->bk d<=Rows.uptoBulkAll l
 |e::l,d,h=>by
  rcases aws.1 h with h|h
  .subst h;simp only[Rows.uptoBulkAll];show bk d<=bk d+_;omega
  .have:=Np h;simp only[Rows.uptoBulkAll];omega
theorem adJ:∀(l:List (DataW H)) (ns:List Nat),ns.length=l.length->(∀(i:Nat) (h:i<ns.length) (h':i<l.length),ns[i]<=bk l[i])->ns.sum<=Rows.uptoBulkAll l
 |[],[],_,_=>by simp
 |d::l,n::ns,h,hb=>by
  have h0:=hb 0 ay ay;have ih:=adJ l ns (by simpa using h) λi h1 h2=>by have:=hb (i+1) (by simpa using h1) (by simpa using h2);simpa using this
  simp only[List.sum_cons,Rows.uptoBulkAll];simp only[List.getElem_cons_zero]at h0;show n+ns.sum<=bk d+_;omega
theorem PC:∀{l:List Nat} {n:Nat},n∈l->n<=l.sum
 |m::l,n,h=>by
  rcases aws.1 h with h|h
  .subst h;simp
  .have:=PC h;simp;omega
theorem Lv:∀l:List Tm,cQ l=(l.map jC).sum
 |[]=>rfl
 |t::l=>by simp[cQ,Lv l]
def tL{P:Program}{α:Type}(f:α->IV){s:Nat}(hs:0<s)(bD:∀a,(cellsOf (f a)).length=s)(Ok:α->Prop)(I:α->Nat){t e:TypeId}(ht:P.underlying t=aa (.slice e))(hP:P.cellsOf e=s){fuel:Nat}{u:Value}{x:DataW H×List MemPlace}
 (oF:∀n us x',n<fuel->axA enc P w 0 sp held n e us=aa x'->us.length=s->bk x'.1<=bk x.1->∃a,Ok a/\I a<=bk x'.1/\aL (iY (allM w)) (cellsOf (f a)) us)
 (h:axA enc P w 0 sp held fuel t [u]=aa x):∃l:List α,l.length<=9223372036854775807/\(∀a∈l,Ok a)/\(l.map I).sum<bk x.1/\Rv (iY (allM w)) (.tree s (l.map f)) u:=by
 rcases aAP ht h with⟨h1,h2⟩|⟨a,len,cap,elems,rest,n,hfu,h1,hx,_,tx,hcm,hlen,aM,_,_⟩
 .obtain rfl:=(ayv h1).1;refine⟨[],by simp,by simp,?_,.eB s ah 0 hs (λ_=>rfl)⟩;rw[h2];show 0<1;omega
 .obtain rfl:=(ayv h1).1;have hbx:bk x.1=Rows.uptoBulkAll (elems.map (·.1))+Rows.uptoBulkAll (rest.map (·.1))+1:=by rw[hx];rfl
  by_cases iP:len=0
  .subst iP;exact⟨[],by simp,by simp,by rw[hbx];simp,.eB s (aa a) cap hs ay⟩
  .have key:∀i:Fin len,∃p:List Value×α,w.cells? 0 (a.add (i.1*s)) s=aa p.1/\Ok p.2/\I p.2<=bk (elems[i.1]'(by have:=i.2;omega)).1/\aL (iY (allM w)) (cellsOf (f p.2)) p.1:=λi=>by
    have hi:=aM i.1 i.2;rw[hP]at hi;have yu:elems[i.1]?=aa (elems[i.1]'(by have:=i.2;omega)):=av_ (by have:=i.2;omega)
    rw[yu]at hi;have⟨us,yj,wG⟩:=awx.1 hi
    have hle:bk (elems[i.1]'(by have:=i.2;omega)).1<=bk x.1:=by
     have:=Np (l:=elems.map (·.1)) (d:=(elems[i.1]'(by have:=i.2;omega)).1) (awB.2 ⟨_,awd (by have:=i.2;omega),rfl⟩)
     rw[hbx];omega
    have⟨b,cB,dL,dv⟩:=oF n us _ aj wG (l5 yj).1 hle;exact⟨(us,b),yj,cB,dL,dv⟩
   have⟨g,hg⟩:=azS key
   have No:a.spot=ah:=by
    have⟨Gq,_,_⟩:=hg ⟨0,by omega⟩;have⟨mM,gg⟩:=l5 Gq;have h0:=gg 0 hs;rw[av_ aj]at h0;have:=aAQ h0;simpa[aBf]using this
   obtain⟨b,off,spot⟩:=a;simp only at No;subst No
   have iR:∀i (hi:i<len) j,j<s->w.cell? ⟨b,off+(i*s+j),ah⟩=(g ⟨i,hi⟩).1[j]? :=λi hi j hj=>by
    have:=(l5 (hg ⟨i,hi⟩).1).2 j hj;rw[Gk,Gk]at this;rw[<-ax2];exact this
   refine⟨ay3 λi=>(g i).2,by simp;have:maxLen=9223372036854775807:=rfl;omega,?_,?_,?_⟩
   .intro c hc;obtain⟨i,rfl⟩:=(aBp (f:=λi=>(g i).2)).1 hc;exact(hg i).2.1
   .rw[hbx]
    have:=adJ (elems.map (·.1)) ((ay3 λi=>(g i).2).map I) (by simp[hlen]) λi h1 h2=>by
     have hi:i<len:=by simpa using h1
     have:=(hg ⟨i,hi⟩).2.2.1;simpa using this
    omega
   .have oF:((ay3 λi=>(g i).2).map f).length=len:=by simp
    have hR:=Rv.tree (Z:=iY (allM w)) s ((ay3 λi=>(g i).2).map f) b off cap (λk=>(w.cell? ⟨b,off+k,ah⟩).getD Go.undef) hs (by rw[oF];exact tx) ?_ ?_ ?_
    .rw[oF]at hR;exact hR
    .intro e' fM;obtain⟨c,_,rfl⟩:=awB.1 fM;exact bD c
    .intro k hk;rw[oF]at hk;have hi:k/s<len:=aAu (by rw[azH];exact hk);have hj:k % s<s:=aBJ _ hs;have hc:=iR (k/s) hi (k % s) hj;have cH:k/s*s+k % s=k:=by rw[azH];exact aBg k s
     rw[cH]at hc;have mM:=(l5 (hg ⟨k/s,hi⟩).1).1;rw[av_ aj]at hc;rw[Nn hc,hc];rfl
    .intro i e' j c fM hc;rw[awu,aAA]at fM;split at fM
     .rename_i hi;simp only[awQ,awf]at fM;subst fM;have hj:j<s:=by have:=(awa.1 hc).1;rw[bD]at this;exact this
      have jy:=iR i hi j hj;have mM:=(l5 (hg ⟨i,hi⟩).1).1;rw[av_ aj]at jy;simp only[jy,aw8];exact(hg ⟨i,hi⟩).2.2.2.2 j c _ hc (av_ _)
     .simp at fM
def tM{P:Program}{t:TypeId}{fs:Array Field}{cs:List Value}{fuel:Nat}{x:DataW H×List MemPlace}(ht:P.underlying t=aa (.struct fs))(h:axA enc P w 0 sp held fuel t cs=aa x):
 ∃n,fuel=n+1/\∀(i:Nat) (ty:TypeId) (off k:Nat),(fs[i]?).map (λf:Field=>(f.type,f.offset))=aa (ty,off)->P.cellsOf ty=k->∃y,bk y.1<bk x.1/\axA enc P w 0 sp held n ty ((cs.drop off).take k)=aa y:=by
 have⟨xs,n,h1,hx,_,h4,h5⟩:=aAB ht h;refine⟨n,h1,λi ty off k hi hk=>?_⟩;have⟨f,hf,Sw⟩:=awj.1 hi;simp only[awM]at Sw;obtain⟨rfl,rfl⟩:=Sw
 have zk:i<xs.length:=by
  rw[h4];exact(aw4.1 hf).1
 have:=h5 i f hf;rw[av_ zk,hk]at this;refine⟨_,?_,this⟩;have hb:bk x.1=Rows.uptoBulkAll (xs.map (·.1))+1:=by rw[hx];rfl
 have:=Np (l:=xs.map (·.1)) (d:=xs[i].1) (awB.2 ⟨_,awd zk,rfl⟩);rw[hb];omega
def ava:∀(fuel:Nat) (us:List Value) (x:DataW H×List MemPlace),axA enc Tryz.prog w 0 sp held fuel 106 us=aa x->us.length=4->∃t:Tm,lX t/\jC t<=bk x.1/\aL (iY (allM w)) (cellsOf (er t)) us:=by
 intro fuel;induction fuel using Nat.strongRecOn with
 |ind fuel ih=>
  intro us x h hl;obtain⟨a,b,c,d,rfl⟩:=arv hl;have⟨n,hn,hf⟩:=tM arl h;have⟨_,_,h0⟩:=hf 0 3 0 1 aro cl3;have⟨_,_,h1⟩:=hf 1 3 1 1 arp cl3;have⟨_,_,h2⟩:=hf 2 9 2 1 arq cl9;have⟨y,hy,h3⟩:=hf 3 68 3 1 ars agk;have⟨k,r0⟩:=It h0;have⟨m,r1⟩:=It h1;have⟨s,w2,r2⟩:=Iu h2;have⟨ts,hs,hw,hb,r3⟩:=tL (w:=w) er (s:=4) aj adI lX jC ahT an2 (λn' wA x' oX jQ cz _=>ih n' aj wA x' jQ cz) h3;refine⟨.mk k m s ts,?_,?_,?_⟩
  .rw[oP];exact⟨w2,hs,hw⟩
  .rw[<-Lv]at hb;simp only[jC];split<;>omega
  .rw[xn];exact aL.cons r0 (aL.cons r1 (aL.cons r2 (aL.cons r3 aL.nil)))
def ahV{n:Nat}{u:Value}{x:DataW H×List MemPlace}(h:axA enc Tryz.prog w 0 sp held n 68 [u]=aa x):∃l:List Tm,Sm l/\(∀f∈l,lX f)/\cQ l<=bk x.1/\Rd w (iT l) u:=by
 have⟨l,h1,h2,h3,h4⟩:=tL (w:=w) er (s:=4) aj adI lX jC ahT an2 (λn' wA x' _ jQ cz _=>ava n' wA x' jQ cz) h;exact⟨l,h1,h2,by rw[Lv];omega,h4⟩
abbrev ZA(a:At):Nat:=cQ a.ts
abbrev ZG(a:Gl):Nat:=cQ a.ts
def avb(fuel:Nat)(us:List Value)(x:DataW H×List MemPlace)(h:axA enc Tryz.prog w 0 sp held fuel 99 us=aa x)(hl:us.length=2):∃f:At,pZ f/\ZA f<=bk x.1/\aL (iY (allM w)) (cellsOf (dH f)) us:=by
 obtain⟨a,b,rfl⟩:=aa5 hl;have⟨n,hn,hf⟩:=tM arn h;have⟨_,_,h0⟩:=hf 0 9 0 1 art cl9;have⟨_,hy,h1⟩:=hf 1 68 1 1 aru agk;have⟨s,w0,r0⟩:=Iu h0;have⟨ts,w1,v1,z1,r1⟩:=ahV h1;exact⟨⟨s,ts⟩,⟨w0,w1,v1⟩,by show cQ ts<=_;omega,aL.cons r0 (aL.cons r1 aL.nil)⟩
def ahW{n:Nat}{u:Value}{x:DataW H×List MemPlace}(h:axA enc Tryz.prog w 0 sp held n 64 [u]=aa x):∃l:List At,Sm l/\(∀f∈l,pZ f/\ZA f<=bk x.1)/\Rd w (c_ l) u:=by
 have⟨l,h1,h2,h3,h4⟩:=tL (w:=w) dH (s:=2) aj (λ_=>rfl) pZ ZA arC au2 (λn' wA x' _ jQ cz _=>avb n' wA x' jQ cz) h;exact⟨l,h1,λf hf=>⟨h2 f hf,by have:=PC (awB.2 ⟨f,hf,rfl⟩:ZA f∈l.map ZA);omega⟩,h4⟩
def avc(fuel:Nat)(us:List Value)(x:DataW H×List MemPlace)(h:axA enc Tryz.prog w 0 sp held fuel 70 us=aa x)(hl:us.length=3):∃f:Gl,qO f/\ZG f<=bk x.1/\aL (iY (allM w)) (cellsOf (lH f)) us:=by
 obtain⟨a,b,c,rfl⟩:=arR hl;have⟨n,hn,hf⟩:=tM arz h;have⟨_,_,h0⟩:=hf 0 3 0 1 arO cl3;have⟨_,_,h1⟩:=hf 1 9 1 1 arP cl9;have⟨_,hy,h2⟩:=hf 2 68 2 1 arQ agk;have⟨op,r0⟩:=It h0;have⟨s,w1,r1⟩:=Iu h1;have⟨ts,w2,v2,z2,r2⟩:=ahV h2;exact⟨⟨op,s,ts⟩,⟨w1,w2,v2⟩,by show cQ ts<=_;omega,aL.cons r0 (aL.cons r1 (aL.cons r2 aL.nil))⟩
def ahX{n:Nat}{u:Value}{x:DataW H×List MemPlace}(h:axA enc Tryz.prog w 0 sp held n 65 [u]=aa x):∃l:List Gl,Sm l/\(∀f∈l,qO f/\ZG f<=bk x.1)/\Rd w (gK l) u:=by
 have⟨l,h1,h2,h3,h4⟩:=tL (w:=w) lH (s:=3) aj (λ_=>rfl) qO ZG arD au7 (λn' wA x' _ jQ cz _=>avc n' wA x' jQ cz) h;exact⟨l,h1,λf hf=>⟨h2 f hf,by have:=PC (awB.2 ⟨f,hf,rfl⟩:ZG f∈l.map ZG);omega⟩,h4⟩
def YE(B:Nat)(r:Rl):Prop:=(∀a∈r.aw++r.az,cQ a.ts<=B)/\∀a∈r.aG++r.bc,cQ a.ts<=B
def avd(fuel:Nat)(us:List Value)(x:DataW H×List MemPlace)(h:axA enc Tryz.prog w 0 sp held fuel 67 us=aa x)(hl:us.length=6):∃f:Rl,(RdR f/\YE (bk x.1) f)/\aL (iY (allM w)) (cellsOf (cU f)) us:=by
 obtain⟨a,b,c,d,e,f,rfl⟩:=arw hl;have⟨n,hn,hf⟩:=tM ary h;have⟨_,_,h0⟩:=hf 0 9 0 1 arI cl9;have⟨_,y1,h1⟩:=hf 1 64 1 1 arJ an3;have⟨_,y2,h2⟩:=hf 2 64 2 1 arK an3;have⟨_,y3,h3⟩:=hf 3 65 3 1 arL an4;have⟨_,y4,h4⟩:=hf 4 65 4 1 arM an4;have⟨_,_,h5⟩:=hf 5 3 5 1 arN cl3;have⟨s,w0,r0⟩:=Iu h0;have⟨vj,w1,v1,r1⟩:=ahW h1;have⟨rem,w2,v2,r2⟩:=ahW h2;have⟨guard,w3,v3,r3⟩:=ahX h3;have⟨body,w4,v4,r4⟩:=ahX h4;have⟨vars,r5⟩:=It h5;refine⟨⟨s,vj,rem,guard,body,vars⟩,⟨⟨⟨w0,λa ha=>?_,λa ha=>?_⟩,w1,w2,w3,w4⟩,λa ha=>?_,λa ha=>?_⟩,aL.cons r0 (aL.cons r1 (aL.cons r2 (aL.cons r3 (aL.cons r4 (aL.cons r5 aL.nil)))))⟩
 .rcases awm.1 ha with ha|ha
  .exact(v1 a ha).1
  .exact(v2 a ha).1
 .rcases awm.1 ha with ha|ha
  .exact(v3 a ha).1
  .exact(v4 a ha).1
 .rcases awm.1 ha with ha|ha
  .have:cQ a.ts<=_:=(v1 a ha).2;omega
  .have:cQ a.ts<=_:=(v2 a ha).2;omega
 .rcases awm.1 ha with ha|ha
  .have:cQ a.ts<=_:=(v3 a ha).2;omega
  .have:cQ a.ts<=_:=(v4 a ha).2;omega
def YE.mono{B B':Nat}{r:Rl}(h:YE B r)(hb:B<=B'):YE B' r:=⟨λa ha=>awy (h.1 a ha) hb,λa ha=>awy (h.2 a ha) hb⟩
def arS{fuel:Nat}{us:List Value}{x:DataW H×List MemPlace}(h:axA enc Tryz.prog w 0 sp held fuel 25 us=aa x)(hl:us.length=2):∃p:Pg,NmP p/\(∀r∈p.aV,YE (bk x.1) r)/\Rd w (bn p) (.agg us.toArray):=by
 obtain⟨a,b,rfl⟩:=aa5 hl;have⟨n,hn,hf⟩:=tM ahU h;have⟨_,_,h0⟩:=hf 0 22 0 1 arE au3;have⟨y,hy,h1⟩:=hf 1 23 1 1 arF au4;have⟨ds,w0,v0,r0⟩:=aa3 (w:=w) xp (s:=2) aj (λ_=>rfl) (λd=>Sm d.s) arA au5 (λn' wA x' _ jQ cz=>au9 n' wA x' jQ cz) h0
 have⟨rs,w1,v1,_,r1⟩:=tL (w:=w) cU (s:=6) aj (λ_=>rfl) (λr=>RdR r/\YE (bk y.1) r) (λ_=>0) arB au6 (λn' wA x' _ jQ cz hb=>by
  have⟨r,hr,hv⟩:=avd n' wA x' jQ cz;exact⟨r,⟨hr.1,hr.2.mono hb⟩,aw5 _,hv⟩) h1
 refine⟨⟨ds,rs⟩,⟨w0,w1,v0,λr hr=>(v1 r hr).1⟩,λr hr=>(v1 r hr).2.mono aj,?_⟩;have hR:aL (iY (allM w)) [fY ds,mw rs] [a,b]:=aL.cons r0 (aL.cons r1 aL.nil);exact Rv.agg _ _ hR.1 hR.2
end Go.Proofs.YtabefplkfkfdfaaGreat
namespace Go.Proofs.YtabefplkfkfdfaaGreat
open Go Go.ChangeShapes Go.WideShapes Go.ChangeAt Go.RowKit
def own:ownKnob Tryz.prog.godebug=ah:=by as_aux_lemma=>kernel_rfl
def laidOut:laidOutB Tryz.prog=ab:=by as_aux_lemma=>kernel_rfl
def ajM{f:FuncId}{xs:List Ev.IV}{us:List Value}{W:World}(hf:f<Tryz.prog.funcs.size)(h:CC f af xs (Ev.iB ab))(hr:Ev.aL (Ev.iY (Ev.allM W)) xs us):
 Calls Tryz.prog f us.toArray W λe W'=>e=.returned (.bool ab)/\Below W.heap.size W W':=by
 refine callsIn_wide.1 (((h.1 hf).1 (Ev.allM W) W us Ev.NI hr).mono λe W' hR=>?_);cases e with
 |returned u=>
  have⟨_,M',_,_,_,h4,h5,h6,h7,h8,h9⟩:=hR
  have hu:u=.bool ab:=by
   generalize hx:Ev.IV.raw (.bool ab)=x at h4;cases h4<;>first|(cases hx;rfl)|cases hx
  rw[hu];exact⟨rfl,h5,h6,h7,h8,h9⟩
 |panicked ch=>exact absurd hR.1 (by simp)
 |outgrown=>exact hR.elim
def aa6{H:Type}{enc:TypeId×Value->H}{P:Program}{f:Func}{s:ChangeSpec}{apart fresh handsOn:Bool}{W W':World}{args:Array Value}{v:Value}{ds gs:List (DataW H)}{before pa pv:List MemPlace}
 (hW:DataW.Whole enc P f.params.toList s.vars apart W args.toList ds gs before)
 (hZ:∀(b:Nat) (sp:Nat->Bool) (hd:Bool),az3 enc P W' b sp hd f.resultTypes.toList (v.resultList f.resultTypes.size) (s.fn H (ds++gs)).results [])
 (bJ:∀sp:Nat->Bool,(∀p∈before,sp p.block=ab)->az3 enc P W' 0 sp ab f.params.toList args.toList (s.fn H (ds++gs)).args pa)
 (arT:∀sp:Nat->Bool,(∀p∈before,sp p.block=ab)->DataW.TrodVars enc P W' sp s.vars (s.fn H (ds++gs)).vars pv)
 (nY:before=pa++pv)(hk:W.keptBut W' (·∈before)):s.post enc P f apart fresh handsOn af W args v W':=by
 have hold:∀p∈before,(λb=>decide (b<W.heap.size)) p.block=ab:=λp hp=>by simpa using hW.lt p hp
 refine⟨ds,gs,before,[],pa,pv,hW,hZ _ _ _,bJ _ hold,arT _ hold,World.keptBut_mono (λp hp=>⟨hp,?_⟩) hk,λh=>by cases h⟩;rw[nY,awm]at hp;exact Or.inr hp
def aa7:Tryz.prog.readableRec 25=ab:=by as_aux_lemma=>kernel_rfl
def ajN:25<Tryz.prog.types.size:=of_decide_eq_true (by as_aux_lemma=>kernel_rfl)
def an5:5<Tryz.prog.funcs.size:=of_decide_eq_true (by as_aux_lemma=>kernel_rfl)
set_option maxHeartbeats 8000000 in
set_option maxRecDepth 100000 in
def ajO(os:Os)(started:os.Started)(H:Type)(enc:TypeId×Value->H)(F:Stop.Interp):
 ReturnsInHanded {} Tryz.checked os 5 .any ((Rows.OpenSpec.upto Rows.compileWholeSpec).pre6 enc Tryz.prog Tryz.f5 [] af) (((Rows.OpenSpec.upto Rows.compileWholeSpec).at F).post enc Tryz.prog Tryz.f5 af ab af af):=by
 refine returnsInHanded_of_cond (C:=Tryz.checked) (s:=Rows.OpenSpec.upto Rows.compileWholeSpec) (k:=Rows.uptoSmall) rfl own started (by as_aux_lemma=>kernel_rfl) Tryz.func5
  (OpenSpec.witness (s:=Rows.OpenSpec.upto Rows.compileWholeSpec) (k:=Rows.uptoSmall) rfl (enc:=enc) (C:=Tryz.checked) af ⟨#[], #[.agg #[.slice ah 0 0,.slice ah 0 0]],[]⟩ 8 (by as_aux_lemma=>kernel_rfl) (by as_aux_lemma=>kernel_rfl) (by as_aux_lemma=>kernel_rfl)
   (x:=([.agg [.nil,.nil]],[],[])) (by as_aux_lemma=>kernel_rfl) (by as_aux_lemma=>kernel_rfl) (by as_aux_lemma=>kernel_rfl) (by as_aux_lemma=>kernel_rfl)) ?_
 intro W base args ds gs before ahY hW _ fO _;have agl:∀(j:Nat) t v,Tryz.f5.params[j]?=aa t->args[j]?=aa v->Value.okWide Tryz.prog W .any base t v:=ahY;have hW':=hW;obtain⟨p,q,hA0,hV,rfl,hfz,ku⟩:=hW;have hA:az3 enc Tryz.prog W 0 (λ_=>ab) ab Tryz.f5.params.toList args.toList ds p:=hA0;rw[Tryz.params5]at hA agl;obtain⟨v0,d0,rfl,rfl,h0⟩:=trodAll_one hA;obtain⟨rfl,rfl⟩:=trodVars_none hV
 have an6:Rows.uptoBulkAll [d0]<=1048576:=by
  have kj:decide (Rows.uptoBulkAll ([d0]++[])<=1048576)=ab:=fO;simpa using kj
 have hb0:bk d0<=1048576:=awy (Np (by simp)) an6;obtain⟨cs,rfl,bf⟩:=okWide_struct ahU (agl 0 25 v0 rfl rfl);have h0k:=h0;have⟨fu,h0⟩:=h0;have g_:cs.toList.length=2:=by rw[azj,bf,au8]
 have⟨pg,hpg,hpb,r0⟩:=arS h0 g_
 have rr:Ev.aL (Ev.iY (Ev.allM W)) [bn pg] [.agg cs]:=by
  have e0:(Value.agg cs.toList.toArray)=.agg cs:=by simp
  rw[<-e0];exact Ev.aL.cons r0 Ev.aL.nil
 have J0:∀r∈pg.aV,H3 r:=λr hr=>⟨λa ha=>by have:=(hpb r hr).1 a ha;simp only at this;omega,λa ha=>by have:=(hpb r hr).2 a ha;simp only at this;omega⟩;clear hA0 ahY agl hA;simp only[List.append_nil]at hW';refine(ajM an5 (k5 pg hpg J0) rr).mono λe W' ⟨he,hb⟩=>?_;subst he;have ak:∀x∈p,x.block<W.heap.size:=λx hx=>hW'.lt x (by simpa using hx)
 exact⟨_,rfl,aa6 (s:=(Rows.OpenSpec.upto Rows.compileWholeSpec).at F) (pa:=p) (pv:=[]) hW' (λ_ _ _=>trodAll_mk1 (shut_bool UC _))
  (λsp J0=>trodAll_mk1 (aBY laidOut aa7 ajN h0k (λx hx=>hb.same (ak x hx)) (λx hx=>J0 x (by simp[hx]))))
  (λ_ _=>rfl) (by simp) (hb.frame _)⟩
def an7:Tryz.pinned.checked.prog.funcNamed Rows.compileWholeUptoRow.func=aa 5:=by kernel_rfl
set_option maxHeartbeats 8000000 in
def ajP:joinedFacts Tryz.pinned.checked.prog 5 Tryz.f5 (Rows.OpenSpec.upto Rows.compileWholeSpec).bare Rows.compileWholeUptoRow=ab:=by
 simp only[joinedFacts,Bool.and_eq_true]
 repeat' apply And.intro
 all_goals (as_aux_lemma=>kernel_rfl)
def arU:Tryz.f5.isInstance Tryz.pinned.checked.prog Rows.compileWholeUptoRow.origin Rows.compileWholeUptoRow.targs:=of_decide_eq_true (by kernel_rfl)
def arV:Tryz.f5.isWrapper Tryz.pinned.checked.prog Rows.compileWholeUptoRow.wrapper Rows.compileWholeUptoRow.mainSum:=by
 unfold Func.isWrapper;rw[if_neg (by decide+kernel)];exact⟨rfl,rfl⟩
set_option maxHeartbeats 8000000 in
def compileWhole_holds:Rows.CompileWholeUptoSaid:=
 aBZ 5 Tryz.f5 rfl rfl rfl rfl rfl rfl rfl ⟨rfl,rfl,rfl,rfl,rfl⟩ rfl rfl rfl rfl rfl an7 Tryz.func5 ajP arU arV
  (λos started H enc _ F=>ajO os started H enc F)
end Go.Proofs.YtabefplkfkfdfaaGreat
