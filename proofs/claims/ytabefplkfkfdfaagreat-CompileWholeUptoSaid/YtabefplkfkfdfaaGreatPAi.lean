/- A part of the proof, no condition. -/
import Derived.Test.YtabefplkfkfdfaaGreatPAh
import Derived.Test.YtabefplkfkfdfaaGreatPAf
import Derived.Test.YtabefplkfkfdfaaGreatPAg
open Option renaming bind_some->awc,map_eq_some_iff->awj
open List renaming getD_eq_getElem?_getD->awS,length_cons->awJ,length_append->awi,length_take->axe,mem_cons->aws,mem_map->awB,getElem?_eq_some_iff->awa,getElem_mem->awd,getElem?_eq_getElem->av_,mem_singleton->awo,getElem?_append_left->awp,append_assoc->awv,drop_of_length_le->awY,append_nil->aww,take_length->ayJ,length_flatten->axO,getElem?_cons_zero->axB,replicate->awE,mem_cons_of_mem->awI,mem_of_mem_take->axv,take_of_length_le->awr,map_cons->awZ,nodup_cons->axi,mem_of_getElem?->awq,getElem?_map->awu,map_set->aAo,mem_iff_getElem->ax0,map_append->axw,nodup_append->ayD,mem_append->awm,map_map->azb,forIn_cons->azW,forIn_nil->az4,mem_flatMap->axq,drop_eq_getElem_cons->awH,getElem?_cons_succ->axI,length_eraseIdx->aAq,mem_of_mem_eraseIdx->az5,pairwise_iff_getElem->ayU,take_succ_eq_append_getElem->awh,map_nil->ayf,append_of_mem->azB,cons_append->axk,length->awN,mem_append_left->aw3,length_flatMap->aAt,length_filter_le->aAi,sum_cons->aBo,mem_filter->aw7,mem_zipIdx_iff_getElem?->ayP,filter_append->azu,filter_cons_of_neg->az9,flatMap_cons->axP,mem_reverse->ay1,mem_take_iff_getElem->az2,mem_append_right->axg,countP_eq_length->aAj,countP_cons->ay2,mem_flatten->ays
open Nat renaming le_trans->awy,zero_add->axo,le_refl->awe,add_zero->aze,add_assoc->ax2
open Bool renaming and_eq_true->awb,eq_iff_iff->axZ,and_eq_false_iff->aAh,false_eq_true->awA,not_true->axu,or_eq_true->awO
open Go.IntKind renaming i64->awK
open Go.Value renaming int->axQ
open And renaming intro->aw_
open Prod renaming fst->axs
open Go.Op renaming equal->ayF,equalIn->axa
open Go.Instr renaming checkKey->ayC,findKey->axr,findAsking->aw1,sameBits->ayi
open Go renaming undef->awT
open Std.Legacy.Range renaming forIn_eq_forIn_range'->aBd,size->aBe
open Classical renaming byContradiction->aw2
open Ne renaming symm->ayz
open Option.some renaming inj->ayh,injEq->awf
open Int renaming toNat_natCast->ayX
open Option renaming some->aa,none->ah
open Bool renaming true->ab,false->af
set_option linter.all false
namespace Go.Proofs.YtabefplkfkfdfaaGreat
open Go Go.Ev
def Nf(hs:List At)(x:Pn)(k:Nat):At:=((x.aJ[k]?).bind λv=>hs[v.toNat]?).getD ⟨[],[]⟩
def CS(hs:List At)(acc:List Ac)(x:Pn)(k:Nat):Int:=tn acc ⟨(Nf hs x k).s,(Nf hs x k).ts.length,x.dQ.getD k []⟩
def CT(hs:List At)(gs:List Gl)(acc:List Ac)(x:Pn)(k:Nat):List In:=l7 hs gs acc x k (x.aJ.getD k 0) (Nf hs x k) (x.dQ.getD k []) (x.dt.getD (k+2) [])
def eu(hs:List At)(gs:List Gl)(acc:List Ac)(x:Pn)(base:List In):Nat->List In
 |0=>base
 |k+1=>eu hs gs acc x base k++CT hs gs acc x k
def gT(r:Rl)(x:Pn):List In:=dI x.o.h [] (kE (r.aw++r.az) x.o.h) 0++dB r.aG (x.dt.getD 0 [])++dB r.aG (x.dt.getD 1 [])
def sV(x:Pn)(r:Rl)(code:List In):List In:=if r.az=[]then code++[mz x.o.r (r.aw++r.az).length]else code
def ga(r:Rl)(acc:List Ac)(x:Pn):List In:=lM x r (sV x r (eu (r.aw++r.az) r.aG acc x (gT r x) x.aJ.length))
structure Good(p:Pg)(x:Pn)(i m:Nat)(r:Rl):Prop where
 oc:H7 p x.o i m r
 part:∀k<x.aJ.length,∃n a ps te,Jh p x k i n r a ps te/\a.ts.length<=8/\te.length<=6
 t:∃t0 t1,x.dt[0]?=aa t0/\x.dt[1]?=aa t1/\t0.length<=6/\t1.length<=6/\wv r.aG.length t0/\wv r.aG.length t1
 ol:x.aJ.length<=3
def Pe{p:Pg}{x:Pn}{k i n:Nat}{r:Rl}{a:At}{ps te:List Int}(h:Jh p x k i n r a ps te):
 Nf (r.aw++r.az) x k=a/\x.aJ.getD k 0=n/\x.dQ.getD k []=ps/\x.dt.getD (k+2) []=te:=by
 have h1:=h.h.od;have h2:=h.h.hd;have h3:=h.h.kn;have h4:=h.t;refine⟨?_,?_,?_,?_⟩
 .unfold Nf;rw[h1,awc,show((n:Int)).toNat=n from rfl,h2];rfl
 .rw[awS,h1];rfl
 .rw[awS,h3];rfl
 .rw[awS,h4];rfl
def Ia{p:Pg}{x:Pn}{k i n:Nat}{r:Rl}{a:At}{ps te:List Int}(h:Jh p x k i n r a ps te)(acc:List Ac):
 CS (r.aw++r.az) acc x k=tn acc ⟨a.s,a.ts.length,ps⟩:=by
 obtain⟨h1,h2,h3,h4⟩:=Pe h;unfold CS;rw[h1,h3]
def ny{p:Pg}{x:Pn}{k i n:Nat}{r:Rl}{a:At}{ps te:List Int}(h:Jh p x k i n r a ps te)(acc:List Ac):
 CT (r.aw++r.az) r.aG acc x k=l7 (r.aw++r.az) r.aG acc x k n a ps te:=by
 obtain⟨h1,h2,h3,h4⟩:=Pe h;unfold CT;rw[h1,h2,h3,h4]
def WD{hs:List At}{gs:List Gl}{acc:List Ac}{x:Pn}{k:Nat}{n:Int}{a:At}{ps te:List Int}:(l7 hs gs acc x k n a ps te).length<=2+x.aJ.length+a.ts.length+te.length:=by
 unfold l7;have h1:=Af hs n a (x.o.h::x.aJ.take k);have h2:=wu n ps a.ts 0;rw[awJ,awi,awi];have h3:(dB gs te).length=te.length:=by simp[dB]
 rw[awJ,axe]at h1;omega
theorem Ib{p:Pg}{x:Pn}{i m:Nat}{r:Rl}(hg:Good p x i m r)(acc:List Ac)(base:List In):∀k,k<=x.aJ.length->(eu (r.aw++r.az) r.aG acc x base k).length<=base.length+30*k
 |0,_=>by simp[eu]
 |k+1,hk=>by
  have ih:=Ib hg acc base k aj;obtain⟨n,a,ps,te,h1,h2,h3⟩:=hg.part k aj;have hl:=hg.ol;rw[eu,awi,ny h1 acc];have:=WD (hs:=r.aw++r.az) (gs:=r.aG) (acc:=acc) (x:=x) (k:=k) (n:=n) (a:=a) (ps:=ps) (te:=te);omega
theorem Gg(vs:List Int):∀(ts:List Tm) (i:Nat),(rS vs ts i).length<=ts.length
 |[],_=>by simp[rS]
 |t::ts,i=>by
  have:=Gg vs ts (i+1);rw[rS,awi,awJ];unfold Yc;split<;>simp<;>omega
theorem Ic{hs:List At}(h:∀a∈hs,a.ts.length<=8):∀(vs done:List Int),∀l∈eI hs done vs,l.length<=8
 |[],_,l,hl=>by simp[eI]at hl
 |v::vs,done,l,hl=>by
  rw[eI]at hl;rcases aws.1 hl with rfl|hl
  .unfold p6;exact awy (Gg _ _ _) (afD h)
  .exact Ic h vs _ l hl
def Q6{hs:List At}{gs:List Gl}{done:List Int}:∀l∈eH hs gs done,l.length<=gs.length/\wv gs.length l:=by
 intro l hl
 have amW:∀p:Gl->Bool,(kX p gs 0).length<=gs.length/\wv gs.length (kX p gs 0):=λp=>⟨VC p gs 0,λv hv=>by
  have:=VD gs 0 hv;omega⟩
 unfold eH at hl;rcases aws.1 hl with rfl|hl
 .exact amW _
 .obtain⟨k,_,rfl⟩:=awB.1 hl;exact amW _
def Yn{p:Pg}(hp:oe p){x:Pn}{i m:Nat}{r:Rl}(h:H7 p x.o i m r)(hr:Er p x=ab):Good p x i m r:=by
 rw[CN h,awb,decide_eq_true_eq]at hr;obtain⟨h1,h2⟩:=hr;obtain⟨h3,h4⟩:=Jg h1;obtain⟨hi,sL⟩:=awa.1 h.ru;have dD:r∈p.aV:=sL▸awd hi;have hs:=hp.rs r dD;have G6:=hs.h;rw[<-awi]at G6;have hg6:=hs.g;have ya:x.dQ=eI (r.aw++r.az) [x.o.h] x.aJ:=by rw[h2];rfl
 have LF:x.dt=eH (r.aw++r.az) r.aG (x.o.h::x.aJ):=by rw[h2];rfl
 have eX:x.dQ.length=x.aJ.length:=by rw[ya,Gc]
 have HJ:x.dt.length=x.aJ.length+2:=by rw[LF,pB];simp
 have afO:∀l∈x.dt,l.length<=r.aG.length/\wv r.aG.length l:=by rw[LF];exact Q6
 have ov:pC (r.aw++r.az).length (x.o.h::x.aJ):=by
  intro v hv;rcases aws.1 hv with rfl|hv
  .have:=h.lt;rw[h.oh];omega
  .exact h3 v hv
 refine⟨h,λk hk=>?_,?_,by omega⟩
 .obtain⟨v0,v1⟩:=h3 _ (awd hk);have ak:x.aJ[k].toNat<(r.aw++r.az).length:=aj;have lR:k<x.dQ.length:=aj;have wQ:k+2<x.dt.length:=aj;have hto:=afO _ (awd wQ);have hko:x.dQ[k].length<=8:=Ic hs.hs _ _ _ (by rw[<-ya];exact awd lR);refine⟨x.aJ[k].toNat,_,_,_,⟨⟨h.or,h.ru,?_,av_ ak,av_ lR⟩,av_ wQ,by omega,by omega,hto.2,ov,by omega⟩,hs.hs _ (awd ak),by omega⟩;rw[av_ hk]
  congr 1;omega
 .have h0:0<x.dt.length:=aj;have h1:1<x.dt.length:=aj;have a0:=afO _ (awd h0);have a1:=afO _ (awd h1);exact⟨_,_,av_ h0,av_ h1,by omega,by omega,a0.2,a1.2⟩
def amX:List Nat:=[266,24,25,7,69,257,72,26,71,137,70,139,225,145,183,75,76,136,186,140,184,224,138,185,9,28,27,143,77,142,141,74,144,73,146,78,39,44,268,192,154,227,33,212,85,155,233,199,164,230,194,166,204,95,93,162,280]
def amY:List Nat:=[251,172,178,231,269,214,217,259]
def amZ:List Nat:=[201]
def am0:List Nat:=[185,247,209,500195,500196]
def aqP(l:List Hint):fe:=⟨amX,amY,amZ,l++[],am0⟩
def adA:aq:=
 (jo 6 0 I_ (.nr (RM 2)))
def aqQ:aQ Tryz.prog (aqP []) 400 af 212=adA:=by kernel_rfl
def auk(r:Rl):CC 212 af [cU r] (iB (decide (r.az=[]))):=by
 refine CC.of aqQ kr kr (by simpa using jn r) ay ?_;simp[adA,SE.den,cU,ao];rw[axZ];simp
def zy.form{ds:List De}{r:Rl}(h:zy ds r)(hn:qP r):lY r:=
 ⟨λa ha t ht=>⟨lX.wf t ((hn.hs a ha).2.2 t ht),Bm (h.hs a ha) t ht⟩,λg hg=>⟨(xr (h.gs g hg)).1,λt ht=>⟨lX.wf t ((hn.gs g hg).2.2 t ht),(xr (h.gs g hg)).2 t ht⟩⟩⟩
def afP(p:Pg)(acc:List Ac)(x:Pn):∀y∈[bn p,eU acc,cD x],Pure y:=by
 intro y hy;rcases aws.1 hy with rfl|hy
 .exact dN p
 rcases aws.1 hy with rfl|hy
 .simp
 obtain rfl:=awo.1 hy;exact yI x
def aqR:List Nat:=[203,160,216,175,240,266,11,31,24,25,7,69,8,13,14,257,72,26,71,137,70,139,210,225,145,183,75,76,111,65,112,136,186,140,184,248,224,211,170,138,249,185,9,28,27,143,77,142,141,74,144,73,146,78,18,39,16,82,44,150,188,189,29,79,80,149,187,147,10,148,30,38,104,83,84,81,168,103,62,108,42,169,107,106,45,64,63,135,110,46,66,21,12,20,23,105,40,43,41,113,171,215,174,161,48,98,97,116,115,268,192,154,227,87,33,51,212,94,47,114,32,85,155,233,199,101,50,49,164,230,194,166,204,202,99,86,95,93,156,162,280]
def aul:List Nat:=[34,35,36,37,89,100,109,151,190,234]
def aum:List Nat:=[235,236,237,238,239,241,242]
def aun:List Nat:=[185,247,209,173000151,500195,500196,500040,500041,500043,500082,500140]
def aqS(l:List Hint):fe:=⟨aqR,aul,aum,l++[⟨999997,0,0,[],[],[],[]⟩,⟨999999,0,0,[],[],[],[]⟩],aun⟩
def Pf:aq:=
 (tV 1 4 dE 1 bA 4 (gn dR (.rws dR) (Ba 1 8 5 dR (lG 4 7))) (.ret fa))
def ajc:aq:=
 (tV 1 3 dE 1 bA 3 (gn c9 (.rws c9) (Ba 1 8 4 c9 (lG 3 6))) MS)
def Yo:aq:=
 (mG MR 1 dE 1 bA 1 (ja dG 3 (Aa (Ck z7) (Ck z7) (.fail 146) (FD (fX (Ck z7))))) (.nt (zN .lss 2 0) (.fail 146) (Cp (Cg 2 0) .gtr (Cg 2 0) (.bind (.dec 8 (Cg 2 0) (.k .i64 0)) (gn (.idx 1 pj bu) dE Pf)) (.aE dE ajc))))
def aaT:aq:=
 (tS dE Yo)
def aqT:aQ Tryz.prog (aqS [⟨0,99,11,[(0,(6,0)),(0,(27,0))],[(0,0)],[(0,24)],[]⟩,⟨0,99,3,[(0,(3,0)),(0,(11,0))],[],[],[]⟩]) 400 ab 99=aaT:=by kernel_rfl
section
section
variable{Q:IV->Prop}{O:List IV}{ks:List (List IV->Prop)}{k':List IV->Prop}{n k:Nat}
def ahF{C A W H:SE}(h:Int)(a:At)(ey:a.ts.length<=8)(code:List In)(hl:code.length<=1000)(ps:List Int)(nY:Sm ps)(hn:O.length=n)(eX:ks.length=k+1)(fO:ks[k]?=aa k')(hC:C.den Tryz.prog O=aa (cJ code))(hA:∀I,A.den Tryz.prog (O++I)=aa (iT a.ts))(hW:∀I,W.den Tryz.prog (O++I)=aa (iL ps))(hH:∀I,H.den Tryz.prog (O++I)=aa (iI h))
 (hk:k' [cJ (code++dI h ps a.ts 0)]):(mF n k C A W H).sat Tryz.prog CC Q ks O:=by
 subst hn;unfold mF;refine aC a.ts.length (λi (q:List In)=>[iI i,cJ (code++q)]) (λi q=>q++dI h ps (a.ts.drop i) i=dI h ps a.ts 0/\q.length<=i) [] ?_ ay λi q hi hI=>?_
 .simp[-awc,jD,hC]
 have kj:∀x,(ks++[x])[k]?=aa k':=λx=>by rw[awp aj,fO]
 have lR:∀x,(ks++[x])[k+1]?=aa x:=λx=>by rw[<-eX];simp
 obtain⟨hI,hql⟩:=hI;by_cases ak:i<a.ts.length
 .have hw:=aI ak aj;have h95:=(R0 ps (i:Int) nY).aav (MV rfl);rw[adx ak]at hI;have hc:=nu (a:=code++q) (i:=⟨1,h,i,eV,[a.ts[i]]⟩) (by rw[awi];omega);have hT:=nP ak;rw[bL]at hT
  have jy:dg 7 96 (cJ (code++q)) (.tree 7 [.agg [iI 1,iI h,iI i,iI 0,iS [],iT [],.tree 4 [.agg [iI a.ts[i].k,iI a.ts[i].n,iS a.ts[i].s,iT a.ts[i].ts]]]])=aa (cJ (code++(q++[⟨1,h,i,eV,[a.ts[i]]⟩]))):=by
   rw[<-awv,<-hc,<-bL];rfl
  clear hc;generalize JZ:code++(q++[(⟨1,h,i,eV,[a.ts[i]]⟩:In)])=C1 at*
  generalize hC0:code++q=C0 at*
  simp[-awc,jD,nq,sU,hA,hW,hH,lR,ak,hw,hT,cellsOf,ao];refine⟨_,h95,?_⟩;by_cases e:(i:Int)∈ps
  .rw[if_pos e,List.nil_append]at hI;simp[-awc,jD,nq,e,ao];exact .mk q (by rw[hC0];rfl) aj ⟨hI,by omega⟩
  .rw[if_neg e]at hI;simp[-awc,jD,nq,hH,e,cellsOf,ao];exact⟨_,jy,by simpa[jD,nq]using .mk (q++[⟨1,h,i,eV,[a.ts[i]]⟩]) (by rw[JZ];rfl) aj ⟨by rw[<-hI];simp,by simp;omega⟩⟩
 .rw[awY aj,dI,aww]at hI;subst hI;generalize code++dI h ps a.ts 0=C at*
  simp[-awc,jD,nq,sU,hA,kj,ak,cellsOf,ao];exact hk
def aaU(r:Rl)(l:List Int)(QX:l.length<=1000)(hv:wv r.aG.length l)(code:List In)(hl:code.length<=1000)(hn:O.length=n)(h5:O[5]?=aa (cU r))(eX:ks.length=k+1)(fO:ks[k]?=aa k')(hk:k' [cJ (code++dB r.aG l)]):
 (tF n k).sat Tryz.prog CC Q ks (O++[cJ code,iL l]):=by
 subst hn;rw[cu]at h5;have a5:=λI=>wS (I:=I) h5;have g5:=λI (h:5<(O++I).length)=>Eo h (a5 I);have kj:∀x,(ks++[x])[k]?=aa k':=λx=>by rw[awp aj,fO]
 have lR:∀x,(ks++[x])[k+1]?=aa x:=λx=>by rw[<-eX];simp
 unfold tF;refine aC l.length (λi (_:Unit)=>[iI i,cJ (code++dB r.aG (l.take i))]) (λ_ _=>True) () ?_ trivial λi _ hi _=>?_
 .simp[-awc,jD,nq,sU,dB]
 have hql:(dB r.aG (l.take i)).length<=1000:=by simp[dB];omega
 by_cases ak:i<l.length
 .have hw:=aI ak aj;obtain⟨v0,v1⟩:=hv _ (awd ak);have xu:l[i]=((l[i].toNat:Nat):Int):=aj;have dY:l[i].toNat<r.aG.length:=aj;have hG:=xq dY;rw[<-xu]at hG;have cy:=aaO (gs:=r.aG) ak;rw[av_ dY,Option.getD_some]at cy;have hc:=nu (a:=code++dB r.aG (l.take i)) (i:=⟨2,0,0,r.aG[l[i].toNat],[]⟩) (by rw[awi];omega);rw[awv,<-cy]at hc;generalize JZ:code++dB r.aG (l.take (i+1))=C1 at*
  generalize code++dB r.aG (l.take i)=C0 at*
  have hL:=lI ak;generalize l[i]=v at*
  simp[-awc,jD,nq,sU,a5,g5,lR,ak,hw,hL,hG,cellsOf,ao];exact⟨_,hc,by simpa[jD,nq]using .mk () (by rw[JZ];rfl) aj trivial⟩
 .have zk:i=l.length:=aj;rw[zk,ayJ];generalize code++dB r.aG l=C at*
  simp[-awc,jD,nq,sU,kj,cellsOf,ao];exact hk
end
def aqU{k0:List IV->Prop}(ls:List (List Int))(hl:ls.length<=1000)(hf:ls.flatten.length<=100000){x1 x2 x3:IV}:
 Pf.sat Tryz.prog CC (y8 (·=ls.flatten)) [k0] [dr ls,x1,x2,x3]:=by
 unfold Pf;refine aC ls.length (λi (a:List Int)=>[iI i,iL a]) (λi a=>a=(ls.take i).flatten) [] ?_ ay λi a hi hI=>?_
 .simp[SE.den]
 by_cases ak:i<ls.length
 .have hw:=aI ak aj;have NT:=OK ls (i+1);have ht:=QE ak;rw[ht,<-hI,awi]at NT;rw[<-hI]at ht;have hc:=Ef (a:=a) (b:=ls[i]) aj;simp[SE.den,ak,hw,acS ak,hc, -axO];exact⟨λ_ _ x hx=>by simp[cellsOf]at hx;subst hx;rfl,.mk _ rfl aj ht.symm⟩
 .have he:i=ls.length:=aj;subst he;rw[ayJ]at hI;subst hI;generalize ls.flatten=q at*
  simp[SE.den]
def am1(ls:List (List Int))(hl:ls.length<=1000)(hf:ls.flatten.length<=100000)(hp:ls.flatten≠[]):aaT.sat Tryz.prog CC (y8 (·=ls.flatten)) [] [dr ls]:=by
 simp only[aaT,uK,SE.den,axB,awc,Bb];refine⟨⟨_,rfl⟩,⟨_,rfl⟩,?_⟩;unfold Yo;refine aC ls.length (λi (a:Int)=>[iI i,iI a]) (λi a=>a=((ls.take i).flatten.length:Int)) 0 ?_ ay λi a hi hI=>?_
 .simp[SE.den]
 have hle:=OK ls i;by_cases ak:i<ls.length
 .have hw:=aI ak aj;have NT:=OK ls (i+1)
  have ht:((ls.take (i+1)).flatten.length:Int)=a+(ls[i].length:Int):=by
   rw[QE ak,awi,hI];omega
  have G7:awK.wrap (a+(ls[i].length:Int))=a+(ls[i].length:Int):=eT aj aj;have Xs:¬a+(ls[i].length:Int)<0:=aj;simp[SE.den,ak,hw,acS ak,G7,Xs, -axO];exact .mk _ rfl aj ht.symm
 .have he:i=ls.length:=aj;subst he;rw[ayJ]at hI;have wW:0<ls.flatten.length:=List.length_pos_iff.2 hp;have Xs:¬a<0:=aj;have hw:awK.wrap a=a:=eT aj aj;have Sn:0<a:=aj
  have auo:(awE a.toNat (IV.raw (axQ awK 0)))[0]?=aa (iI 0):=by
   rw[List.getElem?_replicate,if_pos aj]
  have eM:cq 1 (.tree 1 (awE a.toNat (iI 0))) (iI 0)=aa (iI 0):=cP (i:=0) auo rfl;simp[SE.den,ak,hw,Xs,Sn,jK, -axO];exact⟨_,⟨⟨by omega,by omega,rfl⟩,rfl⟩,⟨_,eM⟩,aqU ls hl hf⟩
def k99(ls:List (List Int))(hl:ls.length<=1000)(hf:ls.flatten.length<=100000)(hp:ls.flatten≠[]):CC 99 ab [dr ls] (iL ls.flatten):=
 CC.CI aqT kr (λ_=>kr) (by simpa using F3 ls) (by rfl) (am1 ls hl hf hp)
section
variable{Q:IV->Prop}{k0 k1 k2 k3:List IV->Prop}{hs:List At}{x0 x1 x2 x3 x4 x5 x6 x7 x8 x9 dT fD lq je ll wR og rO Bj rP zx GI JY JX:IV}
def aqV(n j:Nat)(hj:j<1000)(a:At)(ha:hs[n]?=aa a)(e:Int)(he:0<=e/\e<hs.length)(C:List In)(Ym:C.length<=1000)(hk:k2 [iI (j+1:Nat),cJ (C++nw hs n a e)]):
 VS.sat Tryz.prog CC Q [k0,k1,k2] [x0,x1,x2,x3,x4,x5,c_ hs,x7,x8,x9,dT,fD,lq,je,ll,iI n,og,rO,Bj,rP,zx,iI j,cJ C,iI e]:=by
 obtain⟨hn,Vz⟩:=awa.1 ha;have hA:=py hn;rw[Vz]at hA;have xu:e=((e.toNat:Nat):Int):=aj;have dY:e.toNat<hs.length:=aj;have hB:=py dY;rw[<-xu]at hB;have hw:=aI hj aj
 have hap:nw hs n a e=if hs[e.toNat].s=a.s/\hs[e.toNat].ts.length=a.ts.length then[⟨4,n,e,eV,[]⟩]else[]:=by
  unfold nw;rw[av_ dY]
 have hc:=nu (a:=C) (i:=⟨4,n,e,eV,[]⟩) aj;rw[hap]at hk;generalize hs[e.toNat]=b at*
 unfold VS;refine kW (λvs=>vs=[iB (decide (a.s=b.s)&&decide (a.ts.length=b.ts.length))]) ?_ λvs dP=>?_
 .simp[-awc,jD,hA,hB,ao];by_cases e1:a.s=b.s
  .left;refine⟨e1,?_⟩;show _=_;simp[e1];rw[axZ];simp;omega
  .right;refine⟨e1,?_⟩;show _=_;simp[e1]
 .subst dP;refine⟨rfl,?_⟩;by_cases e1:a.s=b.s/\a.ts.length=b.ts.length
  .rw[if_pos ⟨e1.1.symm,e1.2.symm⟩]at hk;rw[decide_eq_true e1.1,decide_eq_true e1.2];simp[-awc,jD,hw,aN,cellsOf,ao];exact⟨_,hc,hk⟩
  .rw[if_neg (λh=>e1 ⟨h.1.symm,h.2.symm⟩),aww]at hk
   have:(decide (a.s=b.s)&&decide (a.ts.length=b.ts.length))=af:=by
    rw[aAh,decide_eq_false_iff_not,decide_eq_false_iff_not];by_cases q:a.s=b.s
    .exact .inr λw=>e1 ⟨q,w⟩
    .exact .inl q
   rw[this];simp[-awc,jD,hw,ao];exact hk
def am2(x:Pn)(r:Rl)(k n:Nat)(lR:k<=1000)(a:At)(ha:hs[n]?=aa a)(ey:a.ts.length<=8)(ps te:List Int)(nY:Sm ps)(ht:x.dt[k+2]?=aa te)(HJ:te.length<=100)(hv:wv r.aG.length te)(C:List In)(Ym:C.length<=500)
 (hk:k1 [je,cJ (C++dI n ps a.ts 0++dB r.aG te)]):
 (cE7 (.var 13)).sat Tryz.prog CC Q [k0,k1,k2] [x0,x1,cD x,x3,x4,cU r,c_ hs,x7,x8,x9,dT,fD,iI k,je,ll,iI n,og,rO,Bj,rP,zx,GI,cJ C,iL ps]:=by
 obtain⟨hn,Vz⟩:=awa.1 ha;have hA:=py hn;rw[Vz]at hA;obtain⟨kN,hpt⟩:=awa.1 ht;have hT:cq 1 (dr x.dt) (iI ((k:Int)+2))=aa (iL x.dt[k+2]):=F6 kN;rw[hpt]at hT;have aup:awK.wrap ((k:Int)+2)=(k:Int)+2:=eT aj aj;have DM:=wu n ps a.ts 0;have hN:cD x=.agg [iI x.o.r,iI x.o.h,iB x.o.k,iL x.aJ,dr x.dQ,dr x.dt]:=rfl;have hy4:=λk3'=>ahF (Q:=Q) (ks:=[k0,k1,k2,k3']) (n:=25) (k:=3) (O:=[x0,x1,cD x,x3,x4,cU r,c_ hs,x7,x8,x9,dT,fD,iI k,je,ll,iI n,og,rO,Bj,rP,zx,GI,cJ C,iL ps,.agg [iS a.s,iT a.ts]]) (C:=.var 22) (A:=.aO (.var 24) 1) (W:=.ok (.var 23)) (H:=.ok (.var 15)) n a ey C aj ps nY rfl rfl rfl rfl (λ_=>rfl) (λ_=>rfl) λ_=>rfl;unfold cE7;refine kW (λvs=>vs=[cJ (C++dI n ps a.ts 0)]) ?_ λvs dP=>?_
 .simp[-awc,jD,hA,ao];exact hy4 _ rfl
 .subst dP;refine⟨rfl,?_⟩;have am3:(C++dI n ps a.ts 0).length<=600:=by rw[awi];omega
  generalize C++dI n ps a.ts 0=C1 at*
  have hy5:=λk3'=>aaU (Q:=Q) (n:=24) (k:=3) (ks:=[k0,k1,k2,k3']) (O:=[x0,x1,cD x,x3,x4,cU r,c_ hs,x7,x8,x9,dT,fD,iI k,je,ll,iI n,og,rO,Bj,rP,zx,GI,cJ C,iL ps]) r te aj hv C1 aj rfl rfl rfl rfl;rw[hN]at*
  simp[-awc,jD,aup,hT,ao];unfold cE6;refine kW (λvs=>vs=[cJ (C1++dB r.aG te)]) ?_ λvs dP=>?_
  .simp[-awc,fB,jh,qT,rU];exact hy5 _ rfl
  .subst dP;refine⟨rfl,?_⟩;generalize C1++dB r.aG te=C2 at*
   simp[-awc,fB,jh,Gf,qT,rU];exact hk
def am4(x:Pn)(r:Rl)(k n:Nat)(lR:k<=1000)(a:At)(ha:hs[n]?=aa a)(ey:a.ts.length<=8)(ps te:List Int)(nY:Sm ps)(ya:x.dQ[k]?=aa ps)(ht:x.dt[k+2]?=aa te)(HJ:te.length<=100)(hv:wv r.aG.length te)(es:List Int)(jR:es.length<=50)(iG:pC hs.length es)(C:List In)(Ym:C.length<=300)
 (hk:k1 [je,cJ (C++gL hs n a es++dI n ps a.ts 0++dB r.aG te)]):
 (cE8 (.var 13)).sat Tryz.prog CC Q [k0,k1] [x0,x1,cD x,x3,x4,cU r,c_ hs,x7,x8,x9,dT,fD,iI k,je,ll,iI n,og,rO,cJ C,rP,iL es]:=by
 obtain⟨yd,GG⟩:=awa.1 ya;have hK:=F6 yd;rw[GG]at hK;have hN:cD x=.agg [iI x.o.r,iI x.o.h,iB x.o.k,iL x.aJ,dr x.dQ,dr x.dt]:=rfl;unfold cE8;refine aC es.length (λj (_:Unit)=>[iI j,cJ (C++gL hs n a (es.take j))]) (λ_ _=>True) () ?_ trivial λj _ hj _=>?_
 .simp[Gf,aaR,aaQ,jh,gL]
 have hql:=Af hs n a (es.take j);rw[axe]at hql;by_cases ak:j<es.length
 .have cy:=WC (hs:=hs) (h:=n) (a:=a) ak;have hy:=λkk=>aqV (Q:=Q) (k0:=k0) (k1:=k1) (k2:=kk) (x0:=x0) (x1:=x1) (x2:=cD x) (x3:=x3) (x4:=x4) (x5:=cU r) (x7:=x7) (x8:=x8) (x9:=x9) (dT:=dT) (fD:=fD) (lq:=iI k) (je:=je) (ll:=ll) (og:=og) (rO:=rO) (Bj:=cJ C) (rP:=rP) (zx:=iL es) n j aj a ha es[j] (iG _ (awd ak)) (C++gL hs n a (es.take j)) (by rw[awi];omega);rw[awv,<-cy]at hy;generalize JZ:C++gL hs n a (es.take (j+1))=C1 at*
  generalize C++gL hs n a (es.take j)=C0 at*
  simp[-awc,fB,jh,qT,rU,Es,Et,ak,lI ak];exact hy _ (.mk () (by rw[JZ]) aj trivial)
 .have hjn:j=es.length:=aj;rw[hjn,ayJ]
  have hCA:(C++gL hs n a es).length<=400:=by
   have:=Af hs n a es;rw[awi];omega
  generalize C++gL hs n a es=C1 at*
  have hy:=λkk=>am2 (Q:=Q) (k0:=k0) (k1:=k1) (k2:=kk) (x0:=x0) (x1:=x1) (x3:=x3) (x4:=x4) (x7:=x7) (x8:=x8) (x9:=x9) (dT:=dT) (fD:=fD) (je:=je) (ll:=ll) (og:=og) (rO:=rO) (Bj:=cJ C) (rP:=rP) (zx:=iL es) (GI:=iI es.length) x r k n lR a ha ey ps te nY ht HJ hv C1 aj hk;rw[hN]at*
  simp[-awc,fB,jh,qT,rU,Es,Et,yL,pE,hK];exact hy _
end
def k31(p:Pg)(hp:oe p)(o:Em p):CC 31 af [bn p] (iB ab):=by
 obtain⟨a,h2⟩:=v32 p hp o;refine CC.eF as_ kr (λ_=>kr) (by simpa using dN p) (by rfl) ?_;have hP:bn p=.agg [fY p.bN,mw p.aV]:=rfl;rw[hP]at*
 simp[ak3,SE.den,ao];exact⟨_,h2,by simp[ao]⟩
section
variable{Q:IV->Prop}{k0 k1 k2 k3:List IV->Prop}{hs:List At}{x0 x1 x2 x3 x4 x5 x6 x7 x8 x9 dT fD lq je ll wR og rO Bj rP zx GI JY JX:IV}
def am5{p:Pg}(hp:oe p){x:Pn}{i:Nat}{r:Rl}{k n:Nat}{a:At}{ps te:List Int}(oJ:Jh p x k i n r a ps te)(ey:a.ts.length<=8)(HJ:te.length<=6)(acc:List Ac)(hc:Yb acc)(DX:0<=CS (r.aw++r.az) acc x k)(C:List In)(Ym:C.length<=250)
 (hk:k0 [iI (k+1:Nat),je,cJ (C++CT (r.aw++r.az) r.aG acc x k)]):
 O7.sat Tryz.prog CC Q [k0] [bn p,eU acc,cD x,x3,x4,cU r,c_ (r.aw++r.az),x7,x8,x9,dT,fD,iI k,je,cJ C]:=by
 obtain⟨eX,a_⟩:=awa.1 oJ.h.od;have DK:=oJ.ol;have hO:=lI eX;rw[a_]at hO;have h97:=k97 hp oJ.h acc hc;have h98:=k98 hp oJ.h oJ.pl;rw[ny oJ acc]at hk;rw[Ia oJ acc]at DX;have iG:=aqu (L:=x.aJ) (l:=k) aj;have h99:=k99 [[x.o.h],x.aJ.take k] ay (by simp;omega) ay;have hfl:([[x.o.h],x.aJ.take k]:List (List Int)).flatten=x.o.h::x.aJ.take k:=by simp
 rw[hfl]at h99
 have aqW:pC (r.aw++r.az).length (x.o.h::x.aJ.take k):=λv hv=>oJ.ov v (by
  rcases aws.1 hv with rfl|hv
  .simp
  .exact awI _ (axv hv))
 have oF:(x.o.h::x.aJ.take k).length<=51:=by simp;omega
 have auq:(x.o.h::x.aJ.take k).length<=50:=by simp;omega
 have nY:Sm ps:=by have:=oJ.pl;unfold Sm;omega
 have VP:=aI (show k<1000 by omega) aj;generalize GG:tn acc ⟨a.s,a.ts.length,ps⟩=pk at*
 have aqX:dg 7 96 (cJ C) (.tree 7 [.agg [iI 3,iI n,iI pk,iI 0,iS [],iT [],iT (nU a.ts ps)]])=aa (cJ (C++[⟨3,n,pk,eV,nU a.ts ps⟩])):=nu (a:=C) (i:=⟨3,n,pk,eV,nU a.ts ps⟩) aj
 have hsE:C++l7 (r.aw++r.az) r.aG acc x k n a ps te=(C++[⟨3,n,pk,eV,nU a.ts ps⟩])++gL (r.aw++r.az) n a (x.o.h::x.aJ.take k)++dI n ps a.ts 0++dB r.aG te:=by
  unfold l7;rw[GG];simp
 rw[hsE]at hk;have hN:cD x=.agg [iI x.o.r,iI x.o.h,iB x.o.k,iL x.aJ,dr x.dQ,dr x.dt]:=rfl;have hP:bn p=.agg [fY p.bN,mw p.aV]:=rfl;have am3:(C++[(⟨3,n,pk,eV,nU a.ts ps⟩:In)]).length<=300:=by simp;omega
 generalize nU a.ts ps=kt at*
 generalize JZ:C++[(⟨3,n,pk,eV,kt⟩:In)]=C1 at*
 have hLL:dr [[x.o.h],x.aJ.take k]=.tree 1 [.tree 1 [iI x.o.h],iL (x.aJ.take k)]:=rfl;rw[hLL]at h99;unfold O7;refine kW (λvs=>vs=[je,cJ (C1++gL (r.aw++r.az) n a (x.o.h::x.aJ.take k)++dI n ps a.ts 0++dB r.aG te)]) ?_ λvs dP=>?_
 .have hy:=λCa rP rO og=>am4 (Q:=Q) (k0:=k0) (k1:=Ca) (x0:=bn p) (x1:=eU acc) (x3:=x3) (x4:=x4) (x7:=x7) (x8:=x8) (x9:=x9) (dT:=dT) (fD:=fD) (je:=je) (ll:=cJ C) (og:=og) (rO:=rO) (rP:=rP) x r k n aj a oJ.h.hd ey ps te nY oJ.h.kn oJ.t aj oJ.tv (x.o.h::x.aJ.take k) auq aqW C1 am3;generalize C1++gL (r.aw++r.az) n a (x.o.h::x.aJ.take k)++dI n ps a.ts 0++dB r.aG te=CF at*
  generalize x.o.h::x.aJ.take k=es at*
  generalize x.aJ.take k=tk at*
  rw[hN,hP]at*
  simp[-awc,jD,VQ,hO,ao];refine⟨_,h97,?_⟩;simp[-awc,fB,show¬pk<0 by omega];unfold cE9;simp[-awc,jD,VQ,ao];refine⟨_,h98,?_⟩;simp[-awc,fB,Ji,O6,cellsOf,ao];refine⟨_,aqX,?_⟩;simp[-awc,fB,Ji,O6,cellsOf,aN,iG];refine⟨_,h99,?_⟩;simp[-awc,fB];exact hy _ _ _ _ rfl
 .subst dP;refine⟨rfl,?_⟩;generalize C1++gL (r.aw++r.az) n a (x.o.h::x.aJ.take k)++dI n ps a.ts 0++dB r.aG te=CF at*
  simp[-awc,fB,jh,Gf,qT,Et,VP];exact hk
def am6(x:Pn)(r:Rl)(h:oa r)(hn:qP r)(hf:lY r)(hz:H3 r)(C:List In)(Ym:C.length<=300)(hT:(lM x r (sV x r C)).length<=200)(hQ:Q (.aF [nV x.o (lM x r (sV x r C)),iI 0])):
 O_.sat Tryz.prog CC Q [k0] [x0,x1,cD x,x3,x4,cU r,c_ (r.aw++r.az),x7,x8,x9,dT,fD,lq,iI 0,cJ C]:=by
 have hN:cD x=.agg [iI x.o.r,iI x.o.h,iB x.o.k,iL x.aJ,dr x.dQ,dr x.dt]:=rfl;unfold O_;refine kW (λvs=>vs=[cJ (lM x r (sV x r C))]) ?_ λvs dP=>?_
 .by_cases e:r.az=[]
  .have qW:sV x r C=C++[mz x.o.r (r.aw++r.az).length]:=by unfold sV;rw[if_pos e]
   have hy:=λCa=>amU (Q:=Q) (k0:=k0) (k1:=Ca) (x0:=x0) (x1:=x1) (x3:=x3) (x4:=x4) (x7:=x7) (x8:=x8) (x9:=x9) (dT:=dT) (fD:=fD) (lq:=lq) (je:=iI 0) (ll:=cJ C) x r h hn hf hz e (sV x r C) (by rw[qW];simp;omega);generalize lM x r (sV x r C)=T at*
   rw[qW]at hy;have hc:=nu (a:=C) (i:=mz x.o.r (r.aw++r.az).length) aj;generalize JZ:C++[mz x.o.r (r.aw++r.az).length]=C1 at*
   rw[cu]at*
   rw[hN]at*
   generalize r.aw++r.az=hs at*
   simp[-awc,jD,e,aN,cellsOf,ao]at hy⊢;exact⟨_,hc,hy _ rfl⟩
  .have qW:sV x r C=C:=by unfold sV;rw[if_neg e]
   rw[qW];have hy:=λCa=>amV (Q:=Q) (k0:=k0) (k1:=Ca) (x0:=x0) (x1:=x1) (x3:=x3) (x4:=x4) (x7:=x7) (x8:=x8) (x9:=x9) (dT:=dT) (fD:=fD) (lq:=lq) (je:=iI 0) x r h hn hf hz e C aj;generalize lM x r C=T at*
   rw[cu]at*
   rw[hN]at*
   generalize r.aw++r.az=hs at*
   simp[-awc,jD,e,aN,cellsOf,ao];exact hy _ rfl
 .subst dP;refine⟨rfl,?_⟩;generalize lM x r (sV x r C)=T at*
  rw[hN];simp[-awc,jD,show¬(200:Int)<T.length by omega,cellsOf,ao];exact hQ
def am7{p:Pg}(hp:oe p){x:Pn}{i m:Nat}{r:Rl}(hg:Good p x i m r)(h:oa r)(hn:qP r)(hf:lY r)(hz:H3 r)(acc:List Ac)(hc:Yb acc)(DX:∀k<x.aJ.length,0<=CS (r.aw++r.az) acc x k)(base:List In)(Eu:base.length<=100)
 (hT:(lM x r (sV x r (eu (r.aw++r.az) r.aG acc x base x.aJ.length))).length<=200)(hQ:Q (.aF [nV x.o (lM x r (sV x r (eu (r.aw++r.az) r.aG acc x base x.aJ.length))),iI 0])):
 Pa.sat Tryz.prog CC Q [] [bn p,eU acc,cD x,x3,x4,cU r,c_ (r.aw++r.az),x7,x8,x9,dT,cJ base]:=by
 have DK:=hg.ol;have hN:cD x=.agg [iI x.o.r,iI x.o.h,iB x.o.k,iL x.aJ,dr x.dQ,dr x.dt]:=rfl;unfold Pa;refine aC x.aJ.length (λk (_:Unit)=>[iI k,iI 0,cJ (eu (r.aw++r.az) r.aG acc x base k)]) (λk _=>True) () ?_ trivial λk _ hk _=>?_
 .simp[Gf,aaR,aaQ,jh,eu]
 have wC:=Ib hg acc base k aj;by_cases ak:k<x.aJ.length
 .obtain⟨n,a,ps,te,oJ,ey,HJ⟩:=hg.part k ak;have wL:eu (r.aw++r.az) r.aG acc x base (k+1)=eu (r.aw++r.az) r.aG acc x base k++CT (r.aw++r.az) r.aG acc x k:=rfl;have hy:=λkk=>am5 (Q:=Q) (k0:=kk) (x3:=x3) (x4:=x4) (x7:=x7) (x8:=x8) (x9:=x9) (dT:=dT) (fD:=cJ base) (je:=iI 0) hp oJ ey HJ acc hc (DX k ak) (eu (r.aw++r.az) r.aG acc x base k) aj;rw[<-wL]at hy;have vB:=hy (Be x.aJ.length (λk (_:Unit)=>[iI k,iI 0,cJ (eu (r.aw++r.az) r.aG acc x base k)]) (λk _=>True) k) (.mk () rfl aj trivial);generalize hC0:eu (r.aw++r.az) r.aG acc x base k=C0 at vB⊢;rw[hN]at vB⊢;simp[-awc,fB,jh,Gf,qT,yL,rU,Et,pE,ak];exact vB
 .have ya:k=x.aJ.length:=aj;subst ya;have hy:=λkk=>am6 (Q:=Q) (k0:=kk) (x0:=bn p) (x1:=eU acc) (x3:=x3) (x4:=x4) (x7:=x7) (x8:=x8) (x9:=x9) (dT:=dT) (fD:=cJ base) (lq:=iI x.aJ.length) x r h hn hf hz (eu (r.aw++r.az) r.aG acc x base x.aJ.length) aj hT hQ;have vB:=hy (Be x.aJ.length (λk (_:Unit)=>[iI k,iI 0,cJ (eu (r.aw++r.az) r.aG acc x base k)]) (λk _=>True) x.aJ.length);generalize hC0:eu (r.aw++r.az) r.aG acc x base x.aJ.length=C0 at vB⊢;rw[hN]at vB⊢;simp[-awc,fB,jh,Gf,qT,yL,rU,Et,pE];exact vB
end
def M3(p:Pg)(hp:oe p)(hz:∀r∈p.aV,H3 r)(a_:Em p)(acc:List Ac)(hc:Yb acc)(x:Pn)(hx:QT x)(h6:x.aJ.length<=6){i m:Nat}{r:Rl}(h:H7 p x.o i m r)(hr:Er p x=ab)(DX:∀k<x.aJ.length,0<=CS (r.aw++r.az) acc x k)(hT:(ga r acc x).length<=200):CC 11 af [bn p,eU acc,cD x] (.aF [nV x.o (ga r acc x),iI 0]):=by
 refine CC.of auj kr kr (afP p acc x) (.aF _ (by simp[nV];exact .agg _ ay)) ?_;have h2:=k31 p hp a_;have hfo:∀r∈p.aV,lY r:=λr hr=>(a_.r r hr).form (hp.rn r hr);have qt:=hr;rw[CN h,awb,decide_eq_true_eq]at qt;have h32:=k32 p hp hfo x hx h6 h qt.1 qt.2;have hN:cD x=.agg [iI x.o.r,iI x.o.h,iB x.o.k,iL x.aJ,dr x.dQ,dr x.dt]:=rfl;have hP:bn p=.agg [fY p.bN,mw p.aV]:=rfl;have hg:=Yn hp h hr;have sL:=h.ru;obtain⟨hi,sL⟩:=awa.1 sL;have dD:r∈p.aV:=sL▸awd hi;have qQ:=hp.rs r dD;have hR:=y9 hi;rw[sL]at hR;have DT:cq 6 (mw p.aV) (iI x.o.r)=aa (.agg [iS r.name,c_ r.aw,c_ r.az,gK r.aG,gK r.bc,iI r.vars]):=by rw[h.or];exact hR
 have zw:=JT r (by have:=qQ.h;omega);have Gs:m<(r.aw++r.az).length:=h.lt;have hA:=py Gs;rw[<-h.oh]at hA;obtain⟨t0,t1,g0,g1,g2,g3,g4,g5⟩:=hg.t;obtain⟨l0,e0⟩:=awa.1 g0;obtain⟨l1,e1⟩:=awa.1 g1
 have hT0:cq 1 (dr x.dt) (iI 0)=aa (iL t0):=by
  have:=F6 l0;rw[e0]at this;exact this
 have hT1:cq 1 (dr x.dt) (iI 1)=aa (iL t1):=by
  have:=F6 l1;rw[e1]at this;exact this
 have ey:=qQ.hs _ (awd Gs);have DM:=wu x.o.h [] (r.aw++r.az)[m].ts 0;have HJ:∀l,(dB r.aG l).length=l.length:=λl=>by simp[dB]
 have Jq:=HJ t0;have htb:=HJ t1
 have IC:gT r x=dI x.o.h [] (r.aw++r.az)[m].ts 0++dB r.aG t0++dB r.aG t1:=by
  unfold gT;rw[awS,awS,g0,g1]
  have:kE (r.aw++r.az) x.o.h=(r.aw++r.az)[m].ts:=by
   unfold kE;rw[if_pos (by rw[h.oh];omega),h.oh,show((m:Int)).toNat=m from rfl,av_ Gs]
  rw[this];rfl
 have Eu:(gT r x).length<=100:=by rw[IC,awi,awi];omega
 have hyE:=λx7 x8 x9 dT=>am7 (Q:=(·=.aF [nV x.o (ga r acc x),iI 0])) (x3:=iB ab) (x4:=iB ab) (x7:=x7) (x8:=x8) (x9:=x9) (dT:=dT) hp hg qQ (hp.rn r dD) (hfo r dD) (hz r dD) acc hc DX (gT r x) Eu hT rfl;rw[IC]at hyE;generalize IV.aF [nV x.o (ga r acc x),iI 0]=res at*
 have vB:=λk0' x8 x7=>aaU (Q:=(·=res)) (n:=9) (k:=0) (ks:=[k0']) (O:=[bn p,eU acc,cD x,iB ab,iB ab,cU r,c_ (r.aw++r.az),x7,x8]) r t1 aj g5 (dI x.o.h [] (r.aw++r.az)[m].ts 0++dB r.aG t0) (by rw[awi];omega) rfl rfl rfl rfl;have yp:=λk0'=>aaU (Q:=(·=res)) (n:=7) (k:=0) (ks:=[k0']) (O:=[bn p,eU acc,cD x,iB ab,iB ab,cU r,c_ (r.aw++r.az)]) r t0 aj g4 (dI x.o.h [] (r.aw++r.az)[m].ts 0) aj rfl rfl rfl rfl;have Uc:=λk0'=>ahF (Q:=(·=res)) (n:=8) (k:=0) (ks:=[k0']) (C:=.tr 7 .an) (A:=.aO (.var 7) 1) (W:=.tr 1 .an) (H:=.aO (.var 2) 1) (O:=[bn p,eU acc,cD x,iB ab,iB ab,cU r,c_ (r.aw++r.az),.agg [iS (r.aw++r.az)[m].s,iT (r.aw++r.az)[m].ts]]) x.o.h (r.aw++r.az)[m] aj [] ay [] ay rfl rfl rfl rfl (λ_=>rfl) (λ_=>rfl) λ_=>rfl;generalize dI x.o.h [] (r.aw++r.az)[m].ts 0++dB r.aG t0++dB r.aG t1=B2 at*
 generalize dI x.o.h [] (r.aw++r.az)[m].ts 0++dB r.aG t0=B1 at*
 generalize dI x.o.h [] (r.aw++r.az)[m].ts 0=B0 at*
 generalize(r.aw++r.az)[m]=am at*
 have h34:Pd.sat Tryz.prog CC (·=res) [] [bn p,eU acc,cD x,iB ab,iB ab,cU r,c_ (r.aw++r.az)]:=by
  generalize r.aw++r.az=hs at*
  unfold Pd;refine kW (λvs=>vs=[cJ B0]) ?_ λvs dP=>?_
  .have hy:=Uc (HN λvs=>vs=[cJ B0]) rfl;rw[hN]at*
   simp[-awc,fB,jh,qT,yL,Es,rU,ady,pE,Li,hA,ao];exact hy
  .subst dP;refine⟨rfl,?_⟩
   have VT:Pc.sat Tryz.prog CC (·=res) [] [bn p,eU acc,cD x,iB ab,iB ab,cU r,c_ hs,cJ B0,iL t0]:=by
    unfold Pc;refine kW (λvs=>vs=[cJ B1]) ?_ λvs dP=>?_
    .have hy:=yp (HN λvs=>vs=[cJ B1]) rfl;simp[-awc,fB,jh,qT,rU];exact hy
    .subst dP;refine⟨rfl,?_⟩
     have aur:Pb.sat Tryz.prog CC (·=res) [] [bn p,eU acc,cD x,iB ab,iB ab,cU r,c_ hs,cJ B0,iL t0,cJ B1,iL t1]:=by
      unfold Pb;refine kW (λvs=>vs=[cJ B2]) ?_ λvs dP=>?_
      .have hy:=vB (HN λvs=>vs=[cJ B2]) (iL t0) (cJ B0) rfl;simp[-awc,fB,jh,qT,rU];exact hy
      .subst dP;refine⟨rfl,?_⟩;have hy:=hyE (cJ B0) (iL t0) (cJ B1) (iL t1);rw[hN]at*
       simp[-awc,fB,jh,qT,rU,yL,pE];exact hy
     rw[hN]at*
     simp[-awc,fB,jh,qT,Es,yL,Gf,pE,hT1];exact aur
   rw[hN]at*
   simp[-awc,fB,jh,qT,Es,yL,Gf,pE,hT0];exact VT
 generalize r.aw++r.az=hs at*
 rw[cu]at*
 rw[hN,hP]at*
 simp[amT, -awc,jD,ao];refine⟨_,h2,?_⟩;simp[-awc,fB,ao];refine⟨_,h32,?_⟩;simp[-awc,fB,DT,pE,Li,Ji,ao];exact⟨_,zw,by simpa[-awc,fB]using h34⟩
def mB{x:IV}(h:Pure x):∀y∈[x],Pure y:=by
 intro y hy;obtain rfl:=awo.1 hy;exact h
def ahG{a:List Ac}{k:Ac}(h:a.length<=1000):dg 3 48 (eU a) (.tree 3 [.agg [iS k.s,iI k.n,iL k.ps]])=aa (eU (a++[k])):=by
 have h2:fV 3 [.agg [iS k.s,iI k.n,iL k.ps]]=ab:=rfl;simp[dg,h2,tj];omega
def Ie(z:IV):Prop:=∃(k:Ac) (b:Bool),z=.aF [tj k,iB b]/\k.ps.length<=100
def Yp(s:List UInt8)(n:Int)(ps:List Int)(b:Bool)(h:ps.length<=100):Ie (.aF [.agg [iS s,iI n,iL ps],iB b]):=⟨⟨s,n,ps⟩,b,rfl,h⟩
def nz:Ie (.aF [.agg [iS [],iI 0,.tree 1 []],iB af]):=Yp [] 0 [] af ay
def aus(z:IV):Prop:=∃ks:List Ac,z=eU ks/\ks.length<=8/\∀k∈ks,k.ps.length<=100
end
def aaV(hs:List At)(done:List Int)(ts:List Tm):(p6 hs done ts).length<=ts.length:=Gg _ _ _
section
def am8{L:List Int}{a:Nat}(h1:a<=L.length):pU 1 (iL L) (iI (a:Nat)) (iI (L.length:Nat))=aa (iL (L.drop a)):=by
 simp[pU,ie,h1,List.map_drop];rw[awr ay]
abbrev CU(l:List Pn):IV:=.tree 6 (l.map cD)
@[simp] theorem aut(l:List Pn):Pure (CU l):=jm 6 cD (λa=>⟨_,rfl,by simp[F3]⟩) l
def am9{l:List Pn}{i:Nat}(h:i<l.length):cq 6 (CU l) (iI (i:Nat))=aa (cD l[i]):=cP (by simp[h]) rfl
def aqY{a:List Pn}{x:Pn}(h:a.length<=1000):dg 6 96 (CU a) (.tree 6 [cD x])=aa (CU (a++[x])):=by
 have h2:fV 6 [cD x]=ab:=rfl;simp[dg,h2];omega
end
section
def Bs{α:Type}(e:α->IV)(q:α×IV):IV:=.aF [e q.1,q.2]
def iV{α:Type}(e:α->IV)(cs:List (α×IV)):IV:=.aF (cs.map (Bs e))
def nA(P:Program)(t:TypeId)(a1 k1 y1:IV):Option IV:=match a1 with
    |.aF ds=>match eZ P t ds k1 with
     |some (aa j)=>aa (.aF (ds.set j (.aF [k1,y1])))
     |some ah=>aa (.aF (ds++[.aF [k1,y1]]))
     |none=>ah
    |_=>ah
def nB(P:Program)(t:TypeId)(a1 k1 d1:IV):Option IV:=match a1 with
    |.aF ds=>match eZ P t ds k1 with
     |some (aa j)=>match ds[j]? with
      |some (.aF [_,y1])=>aa y1
      |_=>ah
     |some ah=>aa d1
     |none=>ah
    |_=>ah
def Ng(P:Program)(t:TypeId)(a1 k1:IV):Option IV:=match a1 with
    |.aF ds=>(eZ P t ds k1).map λr=>.bool r.isSome
    |_=>ah
def prF(j:Nat):IV->Option IV
 |.aF cs=>cs[j]?
 |_=>ah
def ajd{j:Nat}{cs:List IV}:prF j (.aF cs)=cs[j]? :=by rw[prF]
section
variable{P:Program}{O:List IV}
def auu{q:IntKind}{n:Int}:(SE.k q n).den P O=aa (.raw (.int q n)):=by rw[SE.den]
def aje{e:SE}{j:Nat}:(SE.proj e j).den P O=(e.den P O).bind (prF j):=by rw[SE.den];rfl
def am_{q:Nat}{e x:SE}{j:Nat}:(SE.oY q e x j).den P O=(e.den P O).bind λa1=>(x.den P O).bind λb1=>(cq q a1 b1).bind λy=>((cellsOf y)[j]?).bind vJ:=by rw[SE.den]
def ana{w:Nat}{a p:SE}:(SE.dec w a p).den P O=(a.den P O).bind λa1=>(p.den P O).bind λb1=>jK w a1 b1:=by rw[SE.den]
def ajf{q:Nat}{e x y:SE}:(SE.yV q e x y).den P O=(e.den P O).bind λa1=>(x.den P O).bind λb1=>(y.den P O).bind λc1=>yz q a1 b1 c1:=by rw[SE.den]
def adB{t:TypeId}{m k x:SE}:(SE.ins t m k x).den P O=(m.den P O).bind λa1=>(k.den P O).bind λk1=>(x.den P O).bind λy1=>nA P t a1 k1 y1:=by rw[SE.den];rfl
def adC{t:TypeId}{m k z:SE}:(SE.get t m k z).den P O=(m.den P O).bind λa1=>(k.den P O).bind λk1=>(z.den P O).bind λd1=>nB P t a1 k1 d1:=by rw[SE.den];rfl
def anb{t:TypeId}{m k:SE}:(SE.has t m k).den P O=(m.den P O).bind λa1=>(k.den P O).bind λk1=>Ng P t a1 k1:=by rw[SE.den];rfl
end
def br:=aw_ jD<|aw_ @auu<|aw_ @aje<|aw_ @ajd<|aw_ @am_<|aw_ @ana<|aw_ @ajf<|aw_ @adB<|aw_ @adC<|aw_ @anb<| @VQ
def xz{α:Type}(t:TypeId)(e:α->IV):Prop:=∀(cs:List (α×IV)) (k:α),
 ((∃y,(k,y)∈cs)->∃i y,eZ Tryz.prog t (cs.map (Bs e)) (e k)=aa (aa i)/\cs[i]?=aa (k,y))/\
 ((¬∃y,(k,y)∈cs)->eZ Tryz.prog t (cs.map (Bs e)) (e k)=aa ah)
section
variable{α:Type}{t:TypeId}{e:α->IV}
def ahH{cs:List (α×IV)}(hn:(cs.map axs).Nodup){k:α}{x y:IV}(h1:(k,x)∈cs)(h2:(k,y)∈cs):x=y:=by
 induction cs with
 |nil=>cases h1
 |cons q cs ih=>
  rw[awZ,axi]at hn;rcases aws.1 h1 with e1|g1
  .rcases aws.1 h2 with e2|g2
   .exact congrArg Prod.snd (e1.trans e2.symm)
   .exact(hn.1 (awB.2 ⟨(k,y),g2,by rw[<-e1]⟩)).elim
  .rcases aws.1 h2 with e2|g2
   .exact(hn.1 (awB.2 ⟨(k,x),g1,by rw[<-e2]⟩)).elim
   .exact ih hn.2 g1 g2
def xz.get(h:xz t e){cs:List (α×IV)}(hn:(cs.map axs).Nodup)(k:α)(d:IV):
 (∀y,(k,y)∈cs->nB Tryz.prog t (iV e cs) (e k) d=aa y)/\((¬∃y,(k,y)∈cs)->nB Tryz.prog t (iV e cs) (e k) d=aa d):=by
 obtain⟨h1,h2⟩:=h cs k;refine⟨λy hy=>?_,λhy=>?_⟩
 .obtain⟨i,y',g1,g2⟩:=h1 ⟨y,hy⟩;have:=ahH hn (awq g2) hy;subst this;unfold nB iV;simp only[g1,awu,g2];rfl
 .unfold nB iV;simp only[h2 hy]
def xz.has(h:xz t e)(cs:List (α×IV))(k:α):∃b:Bool,(b=ab↔∃y,(k,y)∈cs)/\Ng Tryz.prog t (iV e cs) (e k)=aa (iB b):=by
 obtain⟨h1,h2⟩:=h cs k;by_cases hy:∃y,(k,y)∈cs
 .obtain⟨i,y',g1,g2⟩:=h1 hy;exact⟨ab,by simp[hy],by unfold Ng iV;simp only[g1];rfl⟩
 .exact⟨af,by simp[hy],by unfold Ng iV;simp only[h2 hy];rfl⟩
def xz.ins(h:xz t e){cs:List (α×IV)}(hn:(cs.map axs).Nodup)(k:α)(y:IV):
 ∃bG:List (α×IV),(bG.map axs).Nodup/\(∀q,q∈bG↔q=(k,y)\/q.1≠k/\q∈cs)/\nA Tryz.prog t (iV e cs) (e k) y=aa (iV e bG):=by
 obtain⟨h1,h2⟩:=h cs k;by_cases hy:∃y,(k,y)∈cs
 .obtain⟨i,y',g1,g2⟩:=h1 hy;obtain⟨hi,P0⟩:=awa.1 g2
  have auv:(cs.set i (k,y)).map axs=cs.map axs:=by
   rw[aAo];refine Lc ?_;rw[awu,g2];rfl
  have ku:((cs.set i (k,y)).map axs).Nodup:=by rw[auv];exact hn
  refine⟨cs.set i (k,y),ku,λq=>⟨λhq=>?_,λhq=>?_⟩,?_⟩
  .by_cases Nh:q.1=k
   .left;obtain⟨a,b⟩:=q;simp only at Nh;subst Nh;have e:=ahH ku (x:=b) (y:=y) hq (ax0.2 ⟨i,by simpa using hi,by simp⟩);rw[e]
   .rcases List.mem_or_eq_of_mem_set hq with hq|hq
    .exact .inr ⟨Nh,hq⟩
    .exact .inl hq
  .rcases hq with rfl|⟨Nh,hq⟩
   .exact ax0.2 ⟨i,by simpa using hi,by simp⟩
   .obtain⟨j,hj,rfl⟩:=ax0.1 hq;refine ax0.2 ⟨j,by simpa using hj,?_⟩;rw[List.getElem_set];split
    .rename_i oW;subst oW;rw[P0]at Nh;exact absurd rfl Nh
    .rfl
  .unfold nA iV;simp only[g1];rw[aAo];rfl
 .refine⟨cs++[(k,y)],?_,λq=>?_,?_⟩
  .rw[axw];refine ayD.2 ⟨hn,by simp,λa ha b hb=>?_⟩;obtain rfl:=awo.1 hb;obtain⟨q,hq,rfl⟩:=awB.1 ha;intro he;exact hy ⟨q.2,by rw[<-he];exact hq⟩
  .rw[awm,awo];constructor
   .rintro(hq|rfl)
    .by_cases Nh:q.1=k
     .exact absurd ⟨q.2,by rw[<-Nh];exact hq⟩ hy
     .exact .inr ⟨Nh,hq⟩
    .exact .inl rfl
   .rintro(rfl|⟨_,hq⟩)
    .exact .inr rfl
    .exact .inl hq
  .unfold nA iV;simp only[h2 hy];rw[axw];rfl
end
theorem VU:∀cs:List (Int×IV),mf (cs.map (Bs iI))=aa ((cs.map axs).map (axQ .i64))
 |[]=>rfl
 |k::ks=>by simp[mf,Bs,Ev.keyOf,VU ks]
def xA:xz 3 iI:=λcs k=>by
 have h:eZ Tryz.prog 3 (cs.map (Bs iI)) (iI k)=nowAt (.int .i64) (.int .i64 k) ((cs.map axs).map (axQ .i64)) 0:=by
  unfold eZ;rw[VU];simp[xf,U7,Ev.keyOf]
 rw[h];obtain⟨h1,h2⟩:=Gb k (cs.map axs) 0;refine⟨λ⟨y,hy⟩=>?_,λhy=>h2 λhm=>?_⟩
 .obtain⟨i,g1,g2⟩:=h1 (awB.2 ⟨_,hy,rfl⟩);rw[awu]at g2;obtain⟨q,hq,rfl⟩:=awj.1 g2;exact⟨i,q.2,by rw[g1,axo],hq⟩
 .obtain⟨q,hq,rfl⟩:=awB.1 hm;exact hy ⟨q.2,hq⟩
structure Bt{α:Type}[DecidableEq α](t:TypeId)(e:α->IV)(v:α->Value):Prop where
 sim:xf Tryz.prog t=ah
 key:∀k,Ev.keyOf (e k)=aa (v k)
 eq:∀a b,aH Tryz.prog (ayF t (v a) (v b))=aa (decide (a=b))
 chk:∀(b:Bool) k,aH Tryz.prog (ayC b 10000 t (v k))=aa ()
 fnd:∀k (ks:List α),aH Tryz.prog (axr t (v k) (ks.map λe=>⟨v e,awT,0⟩))=aH Tryz.prog (aw1 t (v k) (ks.map λe=>⟨v e,awT,0⟩) 0)
 same:∀k,ayi 10000 (v k) (v k)=ab
section
variable{α:Type}[DecidableEq α]{t:TypeId}{e:α->IV}{v:α->Value}
theorem Bt.ask(h:Bt t e v)(k:α):∀(ks:List α) (i:Nat),(k∈ks->∃j,aH Tryz.prog (aw1 t (v k) (ks.map λe=>⟨v e,awT,0⟩) i)=aa (aa (i+j,awT))/\ks[j]?=aa k)/\
 (k∉ks->aH Tryz.prog (aw1 t (v k) (ks.map λe=>⟨v e,awT,0⟩) i)=aa ah)
 |[],i=>by simp[aw1,wq]
 |e::ks,i=>by
  obtain⟨h1,h2⟩:=h.ask k ks (i+1)
  have hu:aH Tryz.prog (aw1 t (v k) ((e::ks).map λe=>⟨v e,awT,0⟩) i)=aH Tryz.prog (if decide (k=e)=ab then pure (aa (i,awT))else aw1 t (v k) (ks.map λe=>⟨v e,awT,0⟩) (i+1)):=by
   rw[awZ,aw1,aP,h.eq,awc]
  rw[hu];by_cases h:k=e
  .subst h;exact⟨λ_=>⟨0,by rw[if_pos ay];simp[wq],rfl⟩,λhn=>absurd ay hn⟩
  .rw[if_neg (by simpa using h)];refine⟨λhm=>?_,λhn=>h2 λhm=>hn (by simp[hm])⟩;obtain⟨j,g1,g2⟩:=h1 (by simpa[h]using hm);exact⟨j+1,by rw[g1,show i+1+j=i+(j+1) by omega],by simpa using g2⟩
theorem Bt.fy(h:Bt t e v)(b:Bool)(k:α)(ks:List α):(k∈ks->∃j,fy Tryz.prog b t (v k) ((ks.map v).map λe=>(e,.undef,0))=aa (aa j)/\ks[j]?=aa k)/\(k∉ks->Ev.fy Tryz.prog b t (v k) ((ks.map v).map λe=>(e,.undef,0))=aa ah):=by
 have hm:(((ks.map v).map λe=>(e,(.undef:IV),0)).map λe=>({key:=e.1,val:=awT,born:=e.2.2}:MapEntry))=ks.map λe=>⟨v e,awT,0⟩:=by
  rw[azb,azb];rfl
 obtain⟨h1,h2⟩:=h.ask k ks 0;refine⟨λhk=>?_,λhk=>?_⟩
 .obtain⟨j,g1,g2⟩:=h1 hk;refine⟨j,?_,g2⟩;unfold Ev.fy;rw[aP,h.chk,awc,hm,h.fnd,g1];simp
 .unfold Ev.fy;rw[aP,h.chk,awc,hm,h.fnd,h2 hk]
theorem Bt.keys(h:Bt t e v):∀cs:List (α×IV),mf (cs.map (Bs e))=aa ((cs.map axs).map v)
 |[]=>rfl
 |k::ks=>by simp[mf,Bs,h.key,h.keys ks]
theorem Bt.law(h:Bt t e v):xz t e:=λcs k=>by
 have hd:eZ Tryz.prog t (cs.map (Bs e)) (e k)=D5 Tryz.prog t ((cs.map axs).map v) (v k):=by
  unfold eZ;rw[h.keys,h.sim,h.key]
 rw[hd];obtain⟨a1,a2⟩:=h.fy ab k (cs.map axs)
 have hb:Ev.fy Tryz.prog af t (v k) (((cs.map axs).map v).map λe=>(e,.undef,0))=Ev.fy Tryz.prog ab t (v k) (((cs.map axs).map v).map λe=>(e,.undef,0)):=by
  unfold Ev.fy;rw[aP,aP,h.chk,h.chk]
 unfold D5;rw[hb];refine⟨λ⟨y,hy⟩=>?_,λhy=>?_⟩
 .obtain⟨j,g1,g2⟩:=a1 (awB.2 ⟨_,hy,rfl⟩);rw[awu]at g2;obtain⟨q,hq,rfl⟩:=awj.1 g2;refine⟨j,q.2,?_,hq⟩;rw[g1];simp only[if_true];rw[awu,awu,hq];simp only[Option.map_some,h.same,if_true]
 .rw[a2 λhm=>hy (by
   obtain⟨q,hq,rfl⟩:=awB.1 hm;exact⟨q.2,hq⟩)]
  simp
end
def eD(d:De):IV:=.agg [iS d.s,iI d.n]
def aaW:xz 82 eD:=Bt.law (v:=gB) ⟨by kernel_rfl,λk=>rfl,eqK,λb k=>Eg b k,λk ks=>U_ k ks,acQ⟩
def auw(d:Nat)(a b:Bool):aH Tryz.prog (axa (d+1) 4 (.bool a) (.bool b))=aa (a==b):=by
 rw[axa,aP,Go.Ev.run_underlying UC,awc];rfl
def vO(o:Oc):Value:=.agg #[.int .i64 o.r,.int .i64 o.h,.bool o.k]
def eqO(a b:Oc):aH Tryz.prog (ayF 28 (vO a) (vO b))=aa (decide (a=b)):=by
 obtain⟨x,y,z⟩:=a;obtain⟨x',y',z'⟩:=b
 have h:aH Tryz.prog (ayF 28 (vO ⟨x,y,z⟩) (vO ⟨x',y',z'⟩))=aa (x==x'&&(y==y'&&z==z')):=by
  have h1:=QD 9998 x x';have h2:=QD 9998 y y';have h3:=auw 9998 z z';show aH Tryz.prog (axa (9998+2) 28 _ _)=_;unfold vO;rw[axa,aP,Go.Ev.run_underlying Tryz.underlying28,awc];have cy:Tryz.prog.stoodInHeld 28=af:=by kernel_rfl
  have p1:∀(a b c:Value),aH Tryz.prog (part 3 #[a,b,c] 0)=aa a:=λa b c=>by kernel_rfl
  have p2:∀(a b c:Value),aH Tryz.prog (part 3 #[a,b,c] 1)=aa b:=λa b c=>by kernel_rfl
  have p3:∀(a b c:Value),aH Tryz.prog (part 4 #[a,b,c] 2)=aa c:=λa b c=>by kernel_rfl
  have hp:aH Tryz.prog program=aa Tryz.prog:=rfl;rw[aP,hp,awc,cy];have q:∀{α:Type} (a:α),aH Tryz.prog (pure a)=aa a:=λ_=>rfl;simp only[awA,if_false,<-Array.forIn_toList,azW,az4,aP,ne_eq,String.reduceEq,not_false_eq_true,if_true,p1,awc,h1];cases(x==x')
  .rfl
  simp only[axu,awA,if_false,q,awc,aP,p2,h2];cases(y==y')
  .rfl
  simp only[axu,awA,if_false,q,awc,aP,p3,h3];cases(z==z')<;>rfl
 rw[h];simp;rw[axZ];simp
def anc(b:Bool)(k:Oc):aH Tryz.prog (ayC b 10000 28 (vO k))=aa ():=by
 obtain⟨s,n,z⟩:=k;cases b<;>kernel_rfl
def aqZ(k:Oc)(ks:List Oc):aH Tryz.prog (axr 28 (vO k) (ks.map λe=>⟨vO e,awT,0⟩))=aH Tryz.prog (aw1 28 (vO k) (ks.map λe=>⟨vO e,awT,0⟩) 0):=by
 unfold axr;rw[aP,Go.Ev.run_underlying Tryz.underlying28,awc];cases ks with
 |nil=>rfl
 |cons e ks=>rfl
def ahI:xz 28 jP:=Bt.law (v:=vO) ⟨by kernel_rfl,λk=>rfl,eqO,anc,aqZ,λ⟨x,y,z⟩=>by
 show((#[_,_,_]:Array Value).size==3&&_)=ab;simp[ayi]⟩
def Ni(p:Int×Int):IV:=.agg [iI p.1,iI p.2]
def Ig(p:Int×Int):Value:=.agg #[.int .i64 p.1,.int .i64 p.2]
def auy(a b:Int×Int):aH Tryz.prog (ayF 214 (Ig a) (Ig b))=aa (decide (a=b)):=by
 obtain⟨x,y⟩:=a;obtain⟨x',y'⟩:=b
 have h:aH Tryz.prog (ayF 214 (Ig ⟨x,y⟩) (Ig ⟨x',y'⟩))=aa (x==x'&&y==y'):=by
  have h1:=QD 9998 x x';have h2:=QD 9998 y y';show aH Tryz.prog (axa (9998+2) 214 _ _)=_;unfold Ig;rw[axa,aP,Go.Ev.run_underlying Tryz.underlying214,awc];have hs:aH Tryz.prog (sizeOf 3)=aa 1:=by kernel_rfl
  have p1:∀(a b:Value),aH Tryz.prog (part 3 #[a,b] 0)=aa a:=λa b=>by kernel_rfl
  have p2:∀(a b:Value),aH Tryz.prog (part 3 #[a,b] 1)=aa b:=λa b=>by kernel_rfl
  have q:∀{α:Type} (a:α),aH Tryz.prog (pure a)=aa a:=λ_=>rfl;rw[aP,hs,awc];simp only[aBd,aBe,Nat.sub_zero,Nat.add_sub_cancel,Nat.div_one,List.range',azW,az4,aP,Nat.zero_mul,axo,Nat.one_mul,p1,awc,h1];cases(x==x')
  .rfl
  simp only[axu,awA,if_false,q,awc,aP,Nat.mul_one,p2,h2];cases(y==y')<;>rfl
 rw[h];simp;rw[axZ];simp
def ajg(b:Bool)(k:Int×Int):aH Tryz.prog (ayC b 10000 214 (Ig k))=aa ():=by
 obtain⟨s,n⟩:=k;cases b<;>kernel_rfl
def ane(k:Int×Int)(ks:List (Int×Int)):aH Tryz.prog (axr 214 (Ig k) (ks.map λe=>⟨Ig e,awT,0⟩))=aH Tryz.prog (aw1 214 (Ig k) (ks.map λe=>⟨Ig e,awT,0⟩) 0):=by
 unfold axr;rw[aP,Go.Ev.run_underlying Tryz.underlying214,awc];cases ks with
 |nil=>rfl
 |cons e ks=>rfl
def VV:xz 214 Ni:=Bt.law (v:=Ig) ⟨by kernel_rfl,λk=>rfl,auy,ajg,ane,λ⟨x,y⟩=>by
 show((#[_,_]:Array Value).size==2&&_)=ab;simp[ayi]⟩
end
def pH{x y:IV}(hx:Pure x)(hy:Pure y):∀z∈[x,y],Pure z:=by
 intro z hz;rcases aws.1 hz with rfl|hz
 .exact hx
 .exact mB hy _ hz
def auz(r:Rl)(hs:List At)(v:Int):CC 216 af [uP r hs,iI v] (iB (decide ((r.aw.length:Int)<=v))):=by
 refine CC.eF amI kr (λ_=>kr) (pH (CO r hs) ay) (by rfl) ?_;simp[ahD,uP,SE.den,ao]
def k95(l:List Int)(n:Int)(hl:Sm l):CC 95 af [iL l,iI n] (iB (l.contains n)):=(R0 l n hl).aav (MV rfl)
def auA(ks:List Ac)(hk:ks.length<=1000)(hp:∀k∈ks,k.ps.length<=100)(s:List UInt8)(ps:List Int)(nY:Sm ps):∃b,CC 215 af [eU ks,iS s,iL ps] (iB b):=by
 refine(CC.FY (args:=[eU ks,iS s,iL ps]) (λ_=>True) amH kr (λ_=>kr) ay (by rfl) ?_).imp λ_ h=>h.2;simp[ahC,SE.den,ao];unfold Yk;refine aC ks.length (λi (_:Unit)=>[iI i]) (λ_ _=>True) () ?_ trivial λi _ hi _=>?_
 .simp[SE.den]
 by_cases ak:i<ks.length
 rotate_left
 .simp[SE.den,ak]
 have hw:=aI ak aj;have J0:=hp _ (awd ak);simp[SE.den,ak,hw,Vw ak,ao];by_cases e1:ks[i].s=s
 rotate_left
 .right;exact⟨e1,.mk () rfl aj trivial⟩
 left;refine⟨e1,?_⟩;unfold Yj;refine aC ks[i].ps.length (λj (_:Unit)=>[iI j]) (λ_ _=>True) () ?_ trivial λj _ hj _=>?_
 .simp[SE.den]
 by_cases pS:j<ks[i].ps.length
 .have SV:=aI pS aj;simp[SE.den,pS,lI pS,ao,SV,hw];refine⟨_,k95 ps ks[i].ps[j] nY,?_⟩;cases ps.contains ks[i].ps[j]with
  |true=>simp;exact .mk () rfl aj trivial
  |false=>simp;exact .mk () rfl aj trivial
 .simp[SE.den,pS]
def auB(a b:Ac)(ha:Sm a.ps):∃q,CC 174 ab [tj a,tj b] (iB q):=by
 refine(CC.FY (args:=[tj a,tj b]) (λ_=>True) ai7 kr (λ_=>kr) (pH (CL a) (CL b)) (by rfl) ?_).imp λ_ h=>h.2;simp only[tj];simp[adt,SE.den,ao];by_cases e1:a.s=b.s
 rotate_left
 .simp[e1,aN]
 by_cases e2:a.n=b.n
 rotate_left
 .simp[e1,e2,aN]
 simp[e1,e2];exact⟨_,k93 a.ps b.ps ha,by simp[aN]⟩
def auC(r:Rl)(hs:List At)(hl:hs.length<=3)(ey:∀a∈hs,a.ts.length<=8)(eN:∀a∈hs,pZ a)(hf:∀a∈hs,∀t∈a.ts,WF t)(ks:List Ac)(hk:ks.length<=1000)(gR:∀k∈ks,k.ps.length<=100)(done:List Int)(hd:done.length<=100)(n:Nat)(hn:n<hs.length):
 ∃m:Int,0<=m/\CC 175 ab [uP r hs,eU ks,iL done,iI n] (iI m):=by
 refine CC.HX (args:=[uP r hs,eU ks,iL done,iI n]) (λm=>0<=m) ai8 kr (λ_=>kr) (by
  intro y hy;rcases aws.1 hy with rfl|hy
  .exact CO r hs
  .simp at hy;rcases hy with rfl|rfl|rfl<;>simp) (by rfl) ?_
 have uL:=afF af r hs hl ey eN hf done hd n _ (av_ hn);have eX:=awy (aaV hs done hs[n].ts) (ey _ (awd hn));generalize p6 hs done hs[n].ts=kn at*
 have hA:=py hn;obtain⟨b,auD⟩:=auA ks hk gR hs[n].s kn (by unfold Sm;omega);have anf:=auz r hs n;have hw:awK.wrap (10*(kn.length:Int))=10*(kn.length:Int):=eT aj aj;have G7:awK.wrap (10*(kn.length:Int)+1)=10*(kn.length:Int)+1:=eT aj aj;generalize decide ((r.aw.length:Int)<=(n:Int))=q at*
 simp only[uP]at*
 simp[adu,SE.den,ao];refine⟨_,uL,?_⟩;simp[hw,hA,ao];refine⟨_,auD,?_⟩;cases b with
 |true=>
  simp;refine⟨_,anf,?_⟩;cases q<;>simp[aN]
 |false=>
  simp;refine⟨_,anf,?_⟩;cases q<;>simp[G7,aN]<;>omega
def Pj:aq:=
 (.loop (fX (.tp (ta 12 12))) (.pick xL (.var 17) (zU 6 16) (.same xL (.var 19) (.aE (I6 19 0) (gz (.lV 2 (FM 19 1)) .lss (I6 16 0) (I6 19 0) (KM 82 (ij (.aO (FM 16 1) 0) (.aO (FM 16 1) 1)) (ij (.aO (FM 19 1) 0) (.aO (FM 19 1) 1)) (zW 214 13 (ij (I6 16 0) (I6 19 0)) e_ (tQ 20 (vY 18) (zU 7 19))) (zU 7 19)) (zU 7 19))))))
def Pk:aq:=
 (.loop (fX (.tp (ta 12 12))) (.pick xL (.var 14) (mU 4 7) (.same xL (.var 16) (FU (I6 16 0) (.lV 2 (FM 16 1)) (.dec 9 xL gP) (.uniq Pj)))))
def Pm:aq:=
 (mG (iH bu (.var 10) xJ) 11 (mP 8 3) 7 (FR 8) 11 (ss 7 14 .eql 14 0 3 (gz fP .geq (jY 14) fP Ja (lE 3 fS (jY 14) (jo 3 15 (mP 14 6) (gz (ni 15) .neq (mP 14 6) (ni 15) (vY 9) (qG 3 12 (fc 14) (mJ 15 15) (Cf 5 11 16 13)))))) (qC 14 0 1 (.bind (.lV 2 (IY 3 12 (fc 14) (ij rF bu))) (IZ .geq (jY 14) (fc 15) (vY 9) (Cf 5 11 12 13))) 14 0 4 (qG 214 13 (Oy 14 1 14 2) gP (qG 214 15 (agM 14 2 14) gP (Cf 5 11 12 16))) (rG 14 0 9 (rG 14 3 0 (xl 14 5 (zW 82 4 (ij (vT 14 4) (mP 14 5)) e_ (tQ 15 (vY 7) (Cf 5 11 12 13)))) (Cf 5 11 12 13)) (Cf 5 11 12 13)))) (.aE (.dec 9 xL gP) (.uniq Pk)))
def Po:aq:=
 (nf 7 (ni 6) 4 (jY 6) 7 (qJ 4 8 182 8 8 8 8 (y7 sw .neq 38 sw 0 (.nt (Qz .neq 38 sw 0) (tc sw) (mU 4 7)) (IZ .geq (mI 8) qD Ja (MI 3 xJ (fc 8) (mJ 6 6) (xl 8 3 Pm))))) (mU 3 5))
def Pp:aq:=
 (nf 5 FK 5 oz 5 (jo 5 6 (ni 6) Po) (tc bu))
def Pq:aq:=
 (mG zQ 3 FK 5 oz 3 (fR 5 5 (uG 181 (mJ 5 5) (y7 dR .neq 38 dR 0 (.nt (Qz .neq 38 dR 0) (tc dR) (vU 2 3 4)) (zW 82 4 (mJ 5 5) e_ (zO 7 (vY 8) (oN .lss 5 4 0 Ja (gz (ni 5) .gtr (vT 5 4) (ni 5) Ja (qG 82 4 (mJ 5 5) gP (vU 2 3 8))))))))) (jZ 0 Pp))
def Pr:aq:=
 (nf 2 fP 3 fS 2 (il 3 3 123 (pw 3 3 3) (y7 c8 .neq 38 c8 0 (tc c8) (mU 1 2))) (jZ 0 Pq))
def Yq:aq:=
 (nf 1 FK 5 oz 1 (fR 5 2 (oO 2 2 .gtr 2 2 160 (vY 6) sh)) (jZ 1 Pr))
def ahJ:aq:=
 (Fy 3 0 (sa .lss 2 0) Ja (oN .gtr 0 2 40 Ja (oO 0 0 .gtr 0 0 30 (vY 6) (oO 0 1 .gtr 0 1 480 (vY 6) (jZ 0 Yq)))))
def ang:aQ Tryz.prog (jv [⟨0,52,27,[(0,(83,0))],[],[],[]⟩,⟨1,52098,32,[],[(12,0)],[],[]⟩,⟨1,52098,29,[],[(10,0)],[],[]⟩,⟨1,52098,9,[(1,(43,0))],[(9,0),(8,0)],[],[]⟩,⟨0,52,30,[(0,(90,0))],[],[],[]⟩,⟨0,52,20,[(0,(68,0))],[(1,0)],[],[]⟩,⟨0,52,13,[(0,(54,0))],[],[],[]⟩,⟨0,52,6,[(0,(38,0))],[],[],[]⟩]) 400 ab 52=ahJ:=by kernel_rfl
def Yr:aq:=
 (nf 1 vZ 7 Cm 1 (il 7 2 222 (y6 2 0 2 1 2 2 2 3 (tR 2 4 2 5 (vT 2 6))) (ik dG dG (.nt (oB 1) t_ (v_ 223 (nb 0 0 0 0) c8 c8 (qp 18) zT)) sh)) (v_ 223 (nb 0 0 0 0) bZ bZ (qp 18) zT))
def ahK:aq:=
 (fR 4 0 (oO 0 3 .gtr 0 3 200 (qp 6) (oN .geq 0 0 0 (ik (sa .lss 0 40) (sa .lss 0 40) t_ (oN .geq 0 1 0 (ik (sa .lss 1 4) (sa .lss 1 4) t_ (jZ 3 Yr)) t_)) t_)))
def anh:aQ Tryz.prog (jv [⟨2,182024008,2,[(2,(8,0))],[],[],[]⟩]) 400 af 182=ahK:=by kernel_rfl
def Ys:aq:=
 (Ox s_ .lss 3 5 c8 (tf 3 fa bu ow 3 fa j9 (tQ 0 (Fw e_ (v7 0 1 2 3)) (Ce 5)) (tf 3 fa wk (tQ 1 (Fw e_ (v7 0 1 2 3)) (Ce 5)) 3 fa wj (tQ 2 (Fw e_ (v7 0 1 2 3)) (Ce 5)) (Dq 3 fa ue (tQ 3 (Fw e_ (v7 0 1 2 3)) (Ce 5)) ow))) (Fw gP (v7 0 1 2 3)))
def ahL:aq:=
 (dV 4 Ys)
def ani:xk Tryz.prog (jv [⟨1,256,2,[(1,(7,0))],[],[],[]⟩]) 400 [4] 256=ahL:=by kernel_rfl
def Yt:aq:=
 (mG (MJ qE) 2 I_ 1 qD 2 (gz c8 .leq c8 pj t_ (IZ .geq c8 fS t_ (zR 2 (fX c8)))) zT)
def ahM:aq:=
 (fR 3 0 (uG 181 gS (y7 cb .neq 38 cb 0 (.ret cb) (jZ 2 Yt))))
def anj:aQ Tryz.prog (jv [⟨0,123,6,[(0,(4,0)),(0,(18,0))],[],[],[]⟩]) 400 af 123=ahM:=by kernel_rfl
def ahN:aq:=
 (sf (v_ 154 bA bZ bZ (qp 7) (v8 .lss cb 0 (qp 9) (v8 .gtr cb 6 (qp 9) zT))))
def ank:aQ Tryz.prog (jv []) 400 af 181=ahN:=by kernel_rfl
def fG:aq:=
 (nf 1 (FC 6) 4 tT 1 (fR 4 2 (jN 859 (iH zS (nb 2 2 2 2) (.i 20)) (ik (ng 3) (ng 3) (.aE (oB 1) (.nr (Dm (oB 1)))) sh))) kV)
def rV:aq:=
 (nf 2 (FC 6) 4 tT 2 (fR 4 3 (jN 859 (iH zS (nb 3 3 3 3) (.i 20)) (ik (ng 4) (ng 4) (.aE (oB 2) (.nr (Dm (oB 2)))) xM))) kV)
def ajh:aq:=
 fG
def aji:aq:=
 fG
def ajj:aq:=
 rV
def ajk:aq:=
 rV
def ajl:aq:=
 rV
def ajm:aq:=
 rV
def ajn:aq:=
 fG
def ajo:aq:=
 fG
def ajp:aq:=
 fG
def ajq:aq:=
 fG
def afQ:aq:=
 fG
def afR:aq:=
 fG
def afS:aq:=
 fG
def afT:aq:=
 fG
def afU:aq:=
 fG
def afV:aq:=
 fG
def afW:aq:=
 fG
def afX:aq:=
 fG
def afY:aq:=
 rV
def afZ:aq:=
 rV
def af0:aq:=
 fG
def af1:aq:=
 fG
def wx:aq:=
 (Fy 7 0 (sa .eql 0 1) (tY 1 0 .lss 1 4 .lss 1 4 (tY 2 0 .lss 2 6 .lss 2 6 (rG 0 3 0 (Ct 9 5 (we 0 6 0 6 1 (wb 0 6 0 6 1 0 0 4 ajh aji))) bF))) (qC 0 0 2 (vW .eql 1 0 .eql 1 0 (vW .eql 2 0 .eql 2 0 (mv 166 (tR 0 3 0 4 (MN 5)) (.nt cb (rG 0 3 1 (we 0 6 0 6 0 (wb 0 6 0 6 0 0 0 4 ajj ajk)) (vW .geq 3 5 .geq 3 5 (we 0 6 0 6 0 (wb 0 6 0 6 0 0 0 4 ajl ajm)))) bF)))) 0 0 3 (tY 1 0 .lss 1 4 .lss 1 4 (vW .geq 2 0 .geq 2 0 (rG 0 3 0 (Ct 9 5 (we 0 6 0 6 0 (wb 0 6 0 6 6 0 0 4 ajn ajo))) bF))) (qC 0 0 4 (tY 1 0 .lss 1 4 .lss 1 4 (tY 2 0 .lss 2 4 .lss 2 4 (rG 0 3 0 (Ct 9 5 (we 0 6 0 6 0 (wb 0 6 0 6 0 0 0 4 ajp ajq))) bF))) 0 0 5 (tY 1 0 .lss 1 40 .lss 1 40 (tY 2 1 .leq 2 4 .leq 2 4 (rG 0 3 0 (Ct 9 5 (we 0 6 0 6 0 (wb 0 6 0 6 0 0 0 4 afQ afR))) bF))) (qC 0 0 8 (tY 1 0 .lss 1 40 .lss 1 40 (tY 2 1 .leq 2 4 .leq 2 4 (rG 0 3 0 (Ct 9 5 (we 0 6 0 6 0 (wb 0 6 0 6 0 0 0 4 afS afT))) bF))) 0 0 6 (tY 1 0 .lss 1 4 .lss 1 4 (vW .eql 2 0 .eql 2 0 (rG 0 3 0 (Ct 9 5 (we 0 6 0 6 0 (wb 0 6 0 6 0 0 0 4 afU afV))) bF))) (qC 0 0 7 (vW .eql 1 0 .eql 1 0 (vW .eql 2 0 .eql 2 0 (rG 0 3 0 (Ct 9 5 (we 0 6 0 6 0 (wb 0 6 0 6 0 0 0 4 afW afX))) bF))) 0 0 9 (vW .eql 1 0 .eql 1 0 (vW .eql 2 0 .eql 2 0 (mv 166 (tR 0 3 0 4 (MN 5)) (.nt cb (vW .leq 3 4 .leq 3 4 (we 0 6 0 6 0 (wb 0 6 0 6 0 0 0 4 afY afZ))) bF)))) (rG 0 0 10 (tY 1 0 .lss 1 40 .lss 1 40 (tY 2 0 .leq 2 1048576 .leq 2 1048576 (rG 0 3 0 (Ct 9 5 (we 0 6 0 6 0 (wb 0 6 0 6 0 0 0 4 af0 af1))) bF))) bF))))))
def anl:aQ Tryz.prog (jv [⟨2,222067008,2,[(2,(8,0))],[],[],[]⟩]) 400 af 222=wx:=by kernel_rfl
def Lk:aq:=
 (FD (o0 fw j9 (RN 4 gP 6 7 (nO 8 9 sg))))
def Ll:aq:=
 (FD (o0 fw j9 (RN 4 (pY .eql 3 fw fS) 6 7 (nO 8 9 sg))))
def uR:aq:=
 (IZ .leq fw mH bF (.test fa (wa j9 3 j9 Lk Lk) (gz (pY .eql 3 fw fS) .lss j9 pj bF (KM 3 j9 pj Ll Ll))))
def Ih:aq:=
 (zV 2 ue 4 5 (nO 6 7 (nO 8 9 sg)))
def Ii:aq:=
 (zV 2 bu 4 5 (nO 6 7 (nO 8 9 sg)))
def mC:aq:=
 (wa bu 3 bu Ii Ii)
def pI:aq:=
 (tf 3 FG bu ow 3 FG j9 (na 6 mC) (tf 3 FG wk (na 7 mC) 3 FG wj (na 8 mC) (Dq 3 FG ue (na 9 mC) ow)))
def Ij:aq:=
 (zV 2 bu 4 5 (o0 gP po (nO 8 9 sg)))
def Ik:aq:=
 (zV 2 bu 4 5 (RN 6 gP 8 9 sg))
def Lm:aq:=
 (zV 2 bu 4 5 (nO 6 7 (o0 gP qK sg)))
def Ln:aq:=
 (zV 2 bu 4 5 (nO 6 7 (Uv 8 gP sg)))
def pJ:aq:=
 (tf 3 fw bu ow 3 fw j9 (wa bu 3 bu Ij Ij) (tf 3 fw wk (wa bu 3 bu Ik Ik) 3 fw wj (wa bu 3 bu Lm Lm) (Dq 3 fw ue (wa bu 3 bu Ln Ln) ow)))
def Lo:aq:=
 (zV 2 bu 4 5 (jt (xm 12 1 0) (xm 12 1 1) (xm 12 1 2) (xm 12 1 3) (nN 13)))
def fI:aq:=
 (agP (.var 1) vZ (ph 7 Cm 1 (ss 7 11 .eql 11 0 6 (tf 3 fw bu ow 3 fw j9 (na 6 uR) (tf 3 fw wk (na 7 uR) 3 fw wj (na 8 uR) (Dq 3 fw ue (na 9 uR) ow))) (qC 11 0 7 (wa wk 3 wk bF (FD (Uv 2 wk (o0 gP fa (nO 6 7 (nO 8 9 sg)))))) 11 0 8 (uc 868 (fX (v7 6 7 8 9)) 11 2 .an (uJ (ng 12) (ng 12) (zW 3 10 FG e_ (na 13 (MM fw oz bF (wa wj 3 wj bF (zV 2 wj 4 5 (jt (xm 12 1 0) (xm 12 1 1) (xm 12 1 2) (xm 12 1 3) sg)))))))) (qC 11 0 9 (wa ue 3 ue Ih Ih) 11 0 10 (MM fw oz bF (wa (.i 5) 3 (.i 5) bF (zV 2 (.i 5) 4 5 (nO 6 7 (nO 8 9 sg))))) (qC 11 0 1 (tf 3 fw bu ow 3 fw j9 (na 6 mC) (tf 3 fw wk (na 7 mC) 3 fw wj (na 8 mC) (Dq 3 fw ue (na 9 mC) ow))) 11 0 4 (tf 3 fw bu ow 3 fw j9 (na 6 pI) (tf 3 fw wk (na 7 pI) 3 fw wj (na 8 pI) (Dq 3 fw ue (na 9 pI) ow))) (qC 11 0 3 (tf 3 fw bu ow 3 fw j9 (zO 6 bF pJ) (tf 3 fw wk (zO 7 bF pJ) 3 fw wj (zO 8 bF pJ) (Dq 3 fw ue (zO 9 bF pJ) ow))) 11 0 5 (uc 868 (fX (v7 6 7 8 9)) 11 2 .an (uJ (ng 12) (ng 12) (MM fw oz bF (qG 3 10 FG gP (wa bu 3 bu Lo Lo))))) mC)))))) (.nt (zN .eql 3 5) (KI .neq 4 fa qD (tQ 4 kV (.ret qD)) bF) bF))
def Yu:aq:=
 (.loop (jt bu qE bu e_ (jt e_ gP e_ e_ (ij e_ xJ))) fI)
def Yv:aq:=
 (.loop (jt bu qE bu e_ (jt e_ e_ gP e_ (ij e_ xJ))) fI)
def Yw:aq:=
 (.loop (jt bu qE bu e_ (jt e_ e_ e_ gP (ij e_ xJ))) fI)
def Yx:aq:=
 (.loop (jt bu qE bu e_ (jt e_ e_ e_ e_ (ij gP xJ))) fI)
def Nj:aq:=
 (fR 4 0 (tf 3 fS bu ow 3 fS j9 (jZ 3 Yu) (tf 3 fS wk (jZ 3 Yv) 3 fS wj (jZ 3 Yw) (Dq 3 fS ue (jZ 3 Yx) ow))))
def anm:aQ Tryz.prog (jv [⟨0,223,7,[(0,(6,0)),(0,(5,0)),(0,(7,0)),(0,(8,0)),(0,(20,0))],[(2,0),(1,3),(1,2),(1,1),(1,0)],[],[]⟩]) 400 af 223=Nj:=by kernel_rfl
set_option maxRecDepth 100000 in
def ajr:comes ((VH Tryz.prog (λ_=>[]) 3000).call 0 14 [] ⟨0,.lf⟩) (iB ab)=ab:=by as_aux_lemma=>kernel_rfl
def k14:CC 14 af [] (iB ab):=CC.plain (MV rfl) (eC.run mixed (λ_ _ _ h=>by cases h) ajr) ay kr
def af2{ts:List Tm}{ps:List Int}{t:Tm}(h:t∈nU ts ps):t∈ts:=by
 obtain⟨v,_,h⟩:=axq.1 h;unfold Dy at h;split at h
 .split at h
  .rename_i u hu;obtain rfl:=awo.1 h;exact awq hu
  .cases h
 .cases h
section
def ann(s:List UInt8)(n:Int)(h:iE s=ab)(h0:0<=n)(h6:n<=6):CC 181 af [iS s,iI n] (iI 0):=by
 refine CC.OU ank kr (λ_=>kr) (pH ay ay) (by rfl) ?_;have Ga:=XT s;rw[h]at Ga;have z1:¬n<0:=aj;have z2:¬6<n:=aj;simp[ahN,SE.den,ao];refine⟨_,Ga,?_⟩;simp[z1,z2];omega
structure DA(a:Ac):Prop where
 s:iE a.s=ab
 n:0<=a.n/\a.n<=6
 asc:a.ps.Pairwise (·<·)
 v:∀v∈a.ps,0<=v/\v<a.n
def auE(a:Ac)(h:DA a)(hl:a.ps.length<=8):CC 123 af [tj a] (iI 0):=by
 refine CC.OU anj kr (λ_=>kr) (mB (CL a)) (by rfl) ?_;have af3:=ann a.s a.n h.s h.n.1 h.n.2;have hC:tj a=.agg [iS a.s,iI a.n,iL a.ps]:=rfl;have afb:=h.asc;have hv:=h.v;rw[hC];simp[ahM,SE.den,ao];refine⟨_,af3,?_⟩;simp;unfold Yt;refine aC a.ps.length (λi (q:Int)=>[iI i,iI q]) (λi q=>∀v∈a.ps.drop i,q<v) (-1) ?_ (by intro v hm;have:=(hv v (by simpa using hm)).1;omega) λi q hi hI=>?_
 .simp[SE.den]
 by_cases ak:i<a.ps.length
 .have hw:=aI ak aj;have hd:=awH ak;have hq:¬a.ps[i]<=q:=by have:=hI a.ps[i] (by rw[hd];exact List.mem_cons_self);omega
  have hn:=(hv _ (awd ak)).2;have hn:¬a.n<=a.ps[i]:=aj;simp[SE.den,ak,hw,lI ak,ao,hq,hn];refine .mk a.ps[i] rfl aj λv hm=>?_;have hp:(a.ps.drop i).Pairwise (·<·):=afb.sublist (List.drop_sublist _ _);rw[hd,List.pairwise_cons]at hp;exact hp.1 v hm
 .simp[SE.den,ak]
def ano(b0 b1 b2 b3:Bool)(n:Int)(h1:1<=n)(h4:n<=4)(e0:b0=ab)(e1:1<n->b1=ab)(e2:2<n->b2=ab)(e3:3<n->b3=ab):
 CC 868 ab [.agg [.agg [iB b0,iB b1,iB b2,iB b3]],iI n] (.aF [iB ab,.agg [iB b0,iB b1,iB b2,iB b3]]):=by
 have h:=CC.agT (new:=ab) (ins:=[[iB b0,iB b1,iB b2,iB b3]]) (outs:=[[iB b0,iB b1,iB b2,iB b3]]) (xs:=[iI n]) (z:=iB ab) (n:=400) (f:=256) ani kr rfl (by simp[ao]) (by
  simp[ahL,SE.den,ao];unfold Ys;obtain⟨m,rfl⟩:∃m:Nat,n=m:=⟨n.toNat,by omega⟩;refine aC m (λi (_:Unit)=>[iI i]) (λ_ _=>True) () ?_ trivial λi _ hi _=>?_
  .simp[SE.den]
  by_cases ak:i<m
  .have hw:=aI ak aj;have hc:i=0\/i=1\/i=2\/i=3:=aj;rcases hc with rfl|rfl|rfl|rfl
   .simp[SE.den,ak,e0,ao];exact .mk () rfl aj trivial
   .have:=e1 aj;have hz:(1:Int)<m:=aj;simp[SE.den,hz,this,ao];exact .mk () rfl aj trivial
   .have:=e2 aj;have hz:(2:Int)<m:=aj;simp[SE.den,hz,this,ao];exact .mk () rfl aj trivial
   .have:=e3 aj;have hz:(3:Int)<m:=aj;simp[SE.den,hz,this,ao];exact .mk () rfl aj trivial
  .have hz:¬(i:Int)<m:=aj;simp[SE.den,hz,ao,aN])
 rw[jO]at h;exact h
inductive oS:In->Prop
 |mt (a b:Int) (t:Tm):0<=a->a<4->0<=b->b<6->lX t->my t=ab->oS ⟨1,a,b,eV,[t]⟩
 |ts (g:Gl):qO g->fx g=ab->g.op=1\/5<=g.op->oS ⟨2,0,0,g,[]⟩
 |fd (a b:Int) (ts:List Tm):0<=a->a<4->0<=b->ts.length<=6->(∀t∈ts,lX t/\my t=ab)->oS ⟨3,a,b,eV,ts⟩
 |ap (a b:Int):0<=a->a<4->0<=b->b<4->a≠b->oS ⟨4,a,b,eV,[]⟩
 |fr (a b:Int):0<=a->a<40->1<=b->b<=4->oS ⟨5,a,b,eV,[]⟩
 |rm (a:Int):0<=a->a<4->oS ⟨6,a,0,eV,[]⟩
 |kp:oS ⟨7,0,0,eV,[]⟩
 |nt (a b:Int):0<=a->a<40->1<=b->b<=4->oS ⟨8,a,b,eV,[]⟩
 |pu (g:Gl):qO g->fx g=ab->g.op<=4->oS ⟨9,0,0,g,[]⟩
 |cm (a b:Int):0<=a->a<40->0<=b->b<=1048576->oS ⟨10,a,b,eV,[]⟩
def Q7{t:Tm}(h:my t=ab):sR t 200 20=ab:=by
 have e1:∀a b:Nat,decide ((a:Int)<=b)=decide (a<=b):=λa b=>by simp
 rw[sR,show(200:Int)=((200:Nat):Int)from rfl,show(20:Int)=((20:Nat):Int)from rfl,e1,e1];rw[my]at h;exact h
section
variable{Q:IV->Prop}{x1:IV}
def ajs(i:In)(hl:i.ts.length<=6)(h:∀t∈i.ts,lX t/\my t=ab)(hQ:Q (iB ab)):fG.sat Tryz.prog CC Q [] [eW i]:=by
 have hE:eW i=.agg [iI i.op,iI i.a,iI i.b,iI i.g.op,iS i.g.s,iT i.g.ts,iT i.ts]:=rfl;rw[hE];unfold fG;refine aC i.ts.length (λj (_:Unit)=>[iI j]) (λ_ _=>True) () ?_ trivial λj _ hj _=>?_
 .simp[SE.den]
 by_cases ak:j<i.ts.length
 .have hw:=aI ak aj;obtain⟨h1,h2⟩:=h _ (awd ak);obtain⟨k,_,hc⟩:=v159 i.ts[j] h1 200 20 aj aj aj aj;rw[Q7 h2,bL]at hc;simp[SE.den,ak,hw,nP ak,bL,ao];refine⟨_,hc,?_⟩;simp[ao];exact .mk () rfl aj trivial
 .simp[SE.den,ak,hQ]
def ajt(i:In)(hl:i.ts.length<=6)(h:∀t∈i.ts,lX t/\my t=ab)(hQ:Q (iB ab)):rV.sat Tryz.prog CC Q [] [eW i,x1]:=by
 have hE:eW i=.agg [iI i.op,iI i.a,iI i.b,iI i.g.op,iS i.g.s,iT i.g.ts,iT i.ts]:=rfl;rw[hE];unfold rV;refine aC i.ts.length (λj (_:Unit)=>[iI j]) (λ_ _=>True) () ?_ trivial λj _ hj _=>?_
 .simp[SE.den]
 by_cases ak:j<i.ts.length
 .have hw:=aI ak aj;obtain⟨h1,h2⟩:=h _ (awd ak);obtain⟨k,_,hc⟩:=v159 i.ts[j] h1 200 20 aj aj aj aj;rw[Q7 h2,bL]at hc;simp[SE.den,ak,hw,nP ak,bL,ao];refine⟨_,hc,?_⟩;simp[ao];exact .mk () rfl aj trivial
 .simp[SE.den,ak,hQ]
end
def auF(i:In)(h:oS i):CC 222 af [eW i] (iB ab):=by
 refine CC.eF anl kr (λ_=>kr) (mB (adw i)) (by rfl) ?_;have h0:=λhl h=>ajs (Q:=xo (·=ab)) i hl h ay;have h1:=λx1 hl h=>ajt (Q:=xo (·=ab)) (x1:=x1) i hl h ay;cases h with
 |mt a b t a0 a4 b0 b6 hn hr=>
  have h0:=h0 ay (by intro u hu;obtain rfl:=awo.1 hu;exact⟨hn,hr⟩);simp[eW,eV]at h0;simp[wx,eW,eV,SE.den,ao,a0,a4,b0,b6];exact h0
 |ts g hn hr ho=>
  have h1:=h1 (iB ab) ay (by intro u hu;cases hu);have VW:=v138 g hn;rw[hr]at VW;simp[eW]at h1;simp[wx,eW,SE.den,ao];refine⟨_,VW,?_⟩;by_cases e:g.op=1
  .simp[e]at h1⊢;exact h1
  .have h5:5<=g.op:=aj;simp[e,h5];exact h1
 |fd a b ts a0 a4 b0 hl ht=>
  have h0:=h0 hl ht;simp[eW,eV]at h0;have hz:¬(6:Int)<ts.length:=aj;have Hv:¬(ts.length:Int)<0:=aj;simp[wx,eW,eV,SE.den,ao,a0,a4,b0,hz,Hv]
  first|exact h0|exact⟨by omega,h0⟩
 |ap a b a0 a4 b0 b4 bg=>
  have h0:=h0 ay (by intro u hu;cases hu);simp[eW,eV]at h0;simp[wx,eW,eV,SE.den,ao,a0,a4,b0,b4,bg];exact h0
 |fr a b a0 a4 b0 b4=>
  have h0:=h0 ay (by intro u hu;cases hu);simp[eW,eV]at h0;simp[wx,eW,eV,SE.den,ao,a0,a4,b0,b4];exact h0
 |rm a a0 a4=>
  have h0:=h0 ay (by intro u hu;cases hu);simp[eW,eV]at h0;simp[wx,eW,eV,SE.den,ao,a0,a4];exact h0
 |kp=>
  have h0:=h0 ay (by intro u hu;cases hu);simp[eW,eV]at h0;simp[wx,eW,eV,SE.den,ao];exact h0
 |nt a b a0 a4 b0 b4=>
  have h0:=h0 ay (by intro u hu;cases hu);simp[eW,eV]at h0;simp[wx,eW,eV,SE.den,ao,a0,a4,b0,b4];exact h0
 |pu g hn hr ho=>
  have h1:=h1 (iB ab) ay (by intro u hu;cases hu);have VW:=v138 g hn;rw[hr]at VW;simp[eW]at h1;simp[wx,eW,SE.den,ao];refine⟨_,VW,?_⟩;simp[ho];exact h1
 |cm a b a0 a4 b0 b4=>
  have h0:=h0 ay (by intro u hu;cases hu);simp[eW,eV]at h0;simp[wx,eW,eV,SE.den,ao,a0,a4,b0,b4];exact h0
structure Sf where
 last:Int
 dO:Int
 kept:Bool
 rem:Bool
 b:Int->Bool
 fr:List Int
inductive zz(o:Oc):Sf->In->Sf->Prop
 |rm (s:Sf) (i:In):i.op=6->0<=i.a->i.a<4->s.b i.a=ab->s.last<i.a->s.dO<=1->zz o s i {s with last:=i.a,dO:=1,rem:=s.rem||i.a==o.h}
 |kp (s:Sf) (i:In):i.op=7->s.dO<2->zz o s i {s with dO:=2,kept:=ab}
 |nt (s:Sf) (i:In):i.op=8->1<=i.b->i.b<=4->(∀v,0<=v->v<i.b->s.b v=ab)->i.b∈s.fr->i.a=o.r->s.dO<3->zz o s i {s with dO:=3}
 |pu (s:Sf) (i:In):i.op=9->s.dO<=4->zz o s i {s with dO:=4}
 |cm (s:Sf) (i:In):i.op=10->i.a=o.r->s.dO<5->zz o s i {s with dO:=5}
 |mt (s:Sf) (i:In):i.op=1->0<=i.a->i.a<4->s.b i.a=ab->s.dO=0->zz o s i s
 |ap (s:Sf) (i:In):i.op=4->0<=i.a->i.a<4->s.b i.a=ab->0<=i.b->i.b<4->s.b i.b=ab->s.dO=0->zz o s i s
 |fd (s:Sf) (i:In):i.op=3->0<=i.a->i.a<4->s.b i.a=af->s.dO=0->zz o s i {s with b:=λv=>v==i.a||s.b v}
 |fr (s:Sf) (i:In):i.op=5->1<=i.b->i.b<=4->(∀v,0<=v->v<i.b->s.b v=ab)->i.a=o.r->s.dO=0->zz o s i {s with fr:=Dz s.fr i.b}
 |ts (s:Sf) (i:In):i.op=2->s.dO=0->zz o s i s
def mQ(o:Oc):Sf->List In->Sf->Prop
 |s,[],t=>s=t
 |s,i::c,t=>∃u,zz o s i u/\mQ o u c t
theorem mQ.app{o:Oc}:∀{c d:List In} {s t u:Sf},mQ o s c t->mQ o t d u->mQ o s (c++d) u
 |[],_,_,_,_,h1,h2=>by cases h1;exact h2
 |_::_,_,_,_,_,⟨v,h,h1⟩,h2=>⟨v,h,h1.app h2⟩
def mQ.one{o:Oc}{s t:Sf}{i:In}(h:zz o s i t):mQ o s [i] t:=⟨t,h,rfl⟩
def Gh(s:Sf):List IV:=[iI s.last,iI s.dO,iB s.kept,iB s.rem,iB (s.b 0),iB (s.b 1),iB (s.b 2),iB (s.b 3),qS s.fr]
def aq0(ks:List Int)(k:Int):nA Tryz.prog 3 (qS ks) (iI k) (iB ab)=aa (qS (Dz ks k)):=by
 have h:=VE (O:=[qS ks,iI k]) (m:=.var 0) (key:=.var 1) (ks:=ks) (k:=k) rfl rfl;simp only[adB,jh,afN,axB,axI,awc]at h;exact h
def aq1(ks:List Int)(k:Int):nB Tryz.prog 3 (qS ks) (iI k) (iB af)=aa (iB (decide (k∈ks))):=by
 have h:=VF (O:=[qS ks,iI k]) (m:=.var 0) (key:=.var 1) (ks:=ks) (k:=k) rfl rfl;simp only[adC,jh,afN,axB,axI,awc]at h;exact h
def orE{p A:Prop}(h:A):p/\A\/¬p/\A:=by
 by_cases e:p
 .exact .inl ⟨e,h⟩
 .exact .inr ⟨e,h⟩
def c4{a:Int}(h0:0<=a)(h4:a<4):a=0\/a=1\/a=2\/a=3:=aj
section
variable{Q:IV->Prop}{k0:List IV->Prop}{o:Oc}{c:List In}{n:Nat}{la st:Int}{kp rm b0 b1 b2 b3:Bool}{m:IV}{i:In}
def Ps(hn:n<1000)(hk:k0 [iI (n+1:Nat),iI la,iI 0,iB kp,iB rm,iB b0,iB b1,iB b2,iB b3,m]):
 mC.sat Tryz.prog CC Q [k0] [nV o c,iI n,iI la,iI 0,iB kp,iB rm,iB b0,iB b1,iB b2,iB b3,m,eW i]:=by
 have hw:=aI hn aj;simp[mC,Ii,br,hw];exact hk
def aju(hn:n<1000)(hl:la<i.a)(hs:st<=1)(hk:k0 [iI (n+1:Nat),iI i.a,iI 1,iB kp,iB (rm||i.a==o.h),iB b0,iB b1,iB b2,iB b3,m]):
 uR.sat Tryz.prog CC Q [k0] [nV o c,iI n,iI la,iI st,iB kp,iB rm,iB b0,iB b1,iB b2,iB b3,m,eW i]:=by
 have hw:=aI hn aj;have z1:¬i.a<=la:=aj;have z2:¬1<st:=aj;have z3:(st=1)\/¬(st=1):=aj;have hE:eW i=.agg [iI i.op,iI i.a,iI i.b,iI i.g.op,iS i.g.s,iT i.g.ts,iT i.ts]:=rfl;have hB:nV o c=.agg [iI o.r,iI o.h,iB o.k,cJ c]:=rfl;rw[hE,hB];cases rm with
 |true=>
  simp[uR,Lk,br,hw,z1,z2];simp at hk;exact orE hk
 |false=>
  simp[uR,Ll,br,hw,z1,z2];simp at hk;exact orE hk
def ajv(hn:n<1000)(h0:0<=i.b)(h4:i.b<4)(hb:(i.b=0->b0=ab)/\(i.b=1->b1=ab)/\(i.b=2->b2=ab)/\(i.b=3->b3=ab))(hk:k0 [iI (n+1:Nat),iI la,iI 0,iB kp,iB rm,iB b0,iB b1,iB b2,iB b3,m]):
 pI.sat Tryz.prog CC Q [k0] [nV o c,iI n,iI la,iI 0,iB kp,iB rm,iB b0,iB b1,iB b2,iB b3,m,eW i]:=by
 have hy:=Ps (Q:=Q) (o:=o) (c:=c) (i:=i) hn hk;have hE:eW i=.agg [iI i.op,iI i.a,iI i.b,iI i.g.op,iS i.g.s,iT i.g.ts,iT i.ts]:=rfl;rw[hE]at*
 rcases c4 h0 h4 with e|e|e|e
 .have:=hb.1 e;subst this;simp[pI,br,e]at hy⊢;exact hy
 .have:=hb.2.1 e;subst this;simp[pI,br,e]at hy⊢;exact hy
 .have:=hb.2.2.1 e;subst this;simp[pI,br,e]at hy⊢;exact hy
 .have:=hb.2.2.2 e;subst this;simp[pI,br,e]at hy⊢;exact hy
def ajw(hn:n<1000)(h0:0<=i.a)(h4:i.a<4)(hk:k0 [iI (n+1:Nat),iI la,iI 0,iB kp,iB rm,iB (0==i.a||b0),iB (1==i.a||b1),iB (2==i.a||b2),iB (3==i.a||b3),m]):
 pJ.sat Tryz.prog CC Q [k0] [nV o c,iI n,iI la,iI 0,iB kp,iB rm,iB b0,iB b1,iB b2,iB b3,m,eW i]:=by
 have hw:=aI hn aj;have hE:eW i=.agg [iI i.op,iI i.a,iI i.b,iI i.g.op,iS i.g.s,iT i.g.ts,iT i.ts]:=rfl;rw[hE]at*
 rcases c4 h0 h4 with e|e|e|e
 .simp[pJ,Ij,br,e,hw]at hk⊢;exact hk
 .simp[pJ,Ik,br,e,hw]at hk⊢;exact hk
 .simp[pJ,Lm,br,e,hw]at hk⊢;exact hk
 .simp[pJ,Ln,br,e,hw]at hk⊢;exact hk
end
set_option maxHeartbeats 8000000 in
def ajx{Q:IV->Prop}{k0:List IV->Prop}{o:Oc}{c:List In}{n:Nat}{i:In}(hn:n<1000)(hi:c[n]?=aa i)(s t:Sf)(h:zz o s i t)(hk:k0 (iI (n+1:Nat)::Gh t)):
 fI.sat Tryz.prog CC Q [k0] ([nV o c,iI n]++Gh s):=by
 obtain⟨ak,Mf⟩:=awa.1 hi;have hw:=aI hn aj;have eM:cq 7 (cJ c) (iI n)=aa (.agg [iI i.op,iI i.a,iI i.b,iI i.g.op,iS i.g.s,iT i.g.ts,iT i.ts]):=cP (by simp[hi,eW]) rfl;have hE:eW i=.agg [iI i.op,iI i.a,iI i.b,iI i.g.op,iS i.g.s,iT i.g.ts,iT i.ts]:=rfl;have hB:nV o c=.agg [iI o.r,iI o.h,iB o.k,cJ c]:=rfl;unfold Gh at*
 cases h with
 |rm e a0 a4 hb hl hs=>
  have hy:=aju (Q:=Q) (k0:=k0) (o:=o) (c:=c) (i:=i) (kp:=s.kept) (rm:=s.rem) (b0:=s.b 0) (b1:=s.b 1) (b2:=s.b 2) (b3:=s.b 3) (m:=qS s.fr) hn hl hs hk;rw[hE,hB]at*
  rcases c4 a0 a4 with e2|e2|e2|e2<;>
  .rw[e2]at hb;simp[fI,br,ak,eM,ao,e,e2,hb]at hy⊢;exact hy
 |kp e hs=>
  rw[hB];have z1:¬2<s.dO:=aj;have z2:¬2=s.dO:=aj;have z3:¬s.dO=2:=aj;simp[fI,br,ak,eM,ao,e,z1,z2,z3,hw];exact hk
 |nt e b1 b4 hb hf ha hs=>
  rw[hB];have af4:=ano (s.b 0) (s.b 1) (s.b 2) (s.b 3) i.b b1 b4 (hb 0 aj aj) (λh=>hb 1 aj h) (λh=>hb 2 aj h) (λh=>hb 3 aj h);have hg:=aq1 s.fr i.b;rw[decide_eq_true hf]at hg;have z1:¬3<s.dO:=aj;have z2:¬3=s.dO:=aj;have z3:¬s.dO=3:=aj;simp[fI,br,ak,eM,ao,e,z1,z2,z3,hw];refine⟨_,af4,?_⟩;simp[br,hg,ha,aN,ao];exact hk
 |pu e hs=>
  rw[hB];have z1:¬4<s.dO:=aj;simp[fI,Ih,br,ak,eM,ao,e,z1,hw];exact orE hk
 |cm e ha hs=>
  rw[hB];have z1:¬5<s.dO:=aj;have z2:¬5=s.dO:=aj;have z3:¬s.dO=5:=aj;simp[fI,br,ak,eM,ao,e,ha,z1,z2,z3,hw];exact hk
 |mt e a0 a4 hb hs=>
  have hy:=Ps (Q:=Q) (k0:=k0) (o:=o) (c:=c) (i:=i) (la:=s.last) (kp:=s.kept) (rm:=s.rem) (b0:=s.b 0) (b1:=s.b 1) (b2:=s.b 2) (b3:=s.b 3) (m:=qS s.fr) hn (by rw[hs]at hk;exact hk);rw[hE,hB]at*
  rcases c4 a0 a4 with e2|e2|e2|e2<;>
  .rw[e2]at hb;simp[fI,br,ak,eM,ao,e,e2,hb,hs]at hy⊢;exact hy
 |ap e a0 a4 hb c0 c4' dv hs=>
  have hy:=ajv (Q:=Q) (k0:=k0) (o:=o) (c:=c) (i:=i) (la:=s.last) (kp:=s.kept) (rm:=s.rem) (b0:=s.b 0) (b1:=s.b 1) (b2:=s.b 2) (b3:=s.b 3) (m:=qS s.fr) hn c0 c4' ⟨λh=>by rw[h]at dv;exact dv,λh=>by rw[h]at dv;exact dv,λh=>by rw[h]at dv;exact dv,λh=>by rw[h]at dv;exact dv⟩ (by rw[hs]at hk;exact hk);rw[hE,hB]at*
  rcases c4 a0 a4 with e2|e2|e2|e2<;>
  .rw[e2]at hb;simp[fI,br,ak,eM,ao,e,e2,hb,hs]at hy⊢;exact hy
 |fd e a0 a4 hb hs=>
  have hy:=ajw (Q:=Q) (k0:=k0) (o:=o) (c:=c) (i:=i) (la:=s.last) (kp:=s.kept) (rm:=s.rem) (b0:=s.b 0) (b1:=s.b 1) (b2:=s.b 2) (b3:=s.b 3) (m:=qS s.fr) hn a0 a4 (by rw[hs]at hk;exact hk);rw[hE,hB]at*
  rcases c4 a0 a4 with e2|e2|e2|e2<;>
  .rw[e2]at hb;simp[fI,br,ak,eM,ao,e,e2,hb,hs]at hy⊢;exact hy
 |fr e b1 b4 hb ha hs=>
  rw[hB];have af4:=ano (s.b 0) (s.b 1) (s.b 2) (s.b 3) i.b b1 b4 (hb 0 aj aj) (λh=>hb 1 aj h) (λh=>hb 2 aj h) (λh=>hb 3 aj h);have hg:=aq0 s.fr i.b;simp[fI,Lo,br,ak,eM,ao,e,hs,hw];refine⟨_,af4,?_⟩;simp[br,hg,ha,aN,ao];rw[hs]at hk;exact hk
 |ts e hs=>
  have hy:=Ps (Q:=Q) (k0:=k0) (o:=o) (c:=c) (i:=i) (la:=s.last) (kp:=s.kept) (rm:=s.rem) (b0:=s.b 0) (b1:=s.b 1) (b2:=s.b 2) (b3:=s.b 3) (m:=qS s.fr) hn (by rw[hs]at hk;exact hk);rw[hE,hB]at*
  simp[fI,br,ak,eM,ao,e,hs]at hy⊢;exact hy
def VX(h:Int):Sf:=⟨-1,0,af,af,λv=>v==h,[]⟩
section
variable{Q:IV->Prop}
def anp{init:SE}(o:Oc)(c:List In)(hc:c.length<=200)(s0 t:Sf)(af5:jL Tryz.prog [nV o c] init=aa (iI (0:Nat)::Gh s0))(hr:mQ o s0 c t)(hs:t.dO=5)(GA:t.rem= !o.k)(hk:t.kept=ab->o.k=ab)(hQ:Q (iB ab)):
 (aq.loop init fI).sat Tryz.prog CC Q [] [nV o c]:=by
 refine aC c.length (λi (s:Sf)=>iI (i:Nat)::Gh s) (λi s=>mQ o s (c.drop i) t) s0 af5 hr λi s hi hI=>?_;by_cases ak:i<c.length
 .have hd:=awH ak;rw[hd]at hI;obtain⟨u,h1,h2⟩:=hI;exact ajx (n:=i) aj (av_ ak) s u h1 (.mk u rfl aj h2)
 .rw[awY aj]at hI;obtain rfl:s=t:=hI;have hB:nV o c=.agg [iI o.r,iI o.h,iB o.k,cJ c]:=rfl;unfold Gh;rw[hB];cases a_:o.k with
  |true=>
   rw[a_]at GA;simp[fI,br,ak,hs,GA,ao];cases s.kept<;>simp[hQ]
  |false=>
   rw[a_]at GA hk
   have lR:s.kept=af:=by
    cases h:s.kept with
    |false=>rfl
    |true=>exact absurd (hk h) ay
   simp[fI,br,ak,hs,GA,lR,ao,hQ]
end
def auG(o:Oc)(c:List In)(hc:c.length<=200)(h0:0<=o.h)(h4:o.h<4)(t:Sf)(hr:mQ o (VX o.h) c t)(hs:t.dO=5)(GA:t.rem= !o.k)(hk:t.kept=ab->o.k=ab):CC 223 af [nV o c] (iB ab):=by
 refine CC.eF anm kr (λ_=>kr) (mB (.agg _ ay)) (by rfl) ?_;obtain⟨o1,o2,o3⟩:=o;simp only at h0 h4;have hB:nV ⟨o1,o2,o3⟩ c=.agg [iI o1,iI o2,iB o3,cJ c]:=rfl;have hy:=λinit af5=>anp (Q:=xo (·=ab)) (init:=init) ⟨o1,o2,o3⟩ c hc (VX o2) t af5 hr hs GA hk ay;unfold Gh VX at hy;simp only at hy;rw[hB]at*
 rcases c4 h0 h4 with rfl|rfl|rfl|rfl
 .simp[Nj,br,ao];unfold Yu;exact hy _ (by simp[br])
 .simp[Nj,br,ao];unfold Yv;exact hy _ (by simp[br])
 .simp[Nj,br,ao];unfold Yw;exact hy _ (by simp[br])
 .simp[Nj,br,ao];unfold Yx;exact hy _ (by simp[br])
structure af6(o:Oc)(c:List In):Prop where
 len:c.length<=200
 r:0<=o.r/\o.r<40
 h:0<=o.h/\o.h<4
 i:∀i∈c,oS i
 f:∃t,mQ o (VX o.h) c t/\t.dO=5/\t.rem=(!o.k)/\(t.kept=ab->o.k=ab)
def ixI{l:List In}{i:Nat}(h:i<l.length):cq 7 (cJ l) (iI (i:Nat))=aa (.agg [iI l[i].op,iI l[i].a,iI l[i].b,iI l[i].g.op,iS l[i].g.s,iT l[i].g.ts,iT l[i].ts]):=cP (by simp[h,eW]) rfl
def auH(o:Oc)(c:List In)(h:af6 o c):CC 182 af [nV o c] (iI 0):=by
 refine CC.OU anh kr (λ_=>kr) (mB (.agg _ ay)) (by rfl) ?_;obtain⟨hl,⟨r0,r1⟩,⟨h0,h4⟩,hi,t,hf,hs,GA,hk⟩:=h;have auI:=auG o c hl h0 h4 t hf hs GA hk;have anq:=λi cw=>auF i (hi i cw);have hE:∀i,eW i=.agg [iI i.op,iI i.a,iI i.b,iI i.g.op,iS i.g.s,iT i.g.ts,iT i.ts]:=λ_=>rfl;have hB:nV o c=.agg [iI o.r,iI o.h,iB o.k,cJ c]:=rfl;have z1:¬(200:Int)<c.length:=aj;simp only[hE]at anq;rw[hB]at*
 simp[ahK,br,ao,z1,r0,r1,h0,h4];unfold Yr;refine aC c.length (λi (_:Unit)=>[iI i]) (λ_ _=>True) () ?_ trivial λi _ hi _=>?_
 .simp[br]
 by_cases ak:i<c.length
 .have hw:=aI ak aj;simp[br,ak,hw,ixI ak,ao];refine⟨_,anq _ (awd ak),?_⟩;simp[br];exact .mk () rfl aj trivial
 .simp[br,ak,ao];refine⟨_,auI,?_⟩;simp[br]
end
section
section
variable{P:Program}{C:Cr}{Q:IV->Prop}{K:List (List IV->Prop)}{O:List IV}
def VY{es x:SE}{a b:aq}:(aq.pick es x a b).sat P C Q K O↔∃ds rem,es.den P O=aa (.aF ds)/\(∃r,x.den P O=aa (.aF (.aF ds::.aF rem::r)))/\(rem=[]->a.sat P C Q K O)/\∀i y,rem[i]?=aa y->b.sat P C Q K (O++[y,.aF [.aF ds,.aF (rem.eraseIdx i),y]]):=Iff.rfl
def VZ{k:aq}:(aq.uniq k).sat P C Q K O↔k.sat P C Q K O:=Iff.rfl
end
structure lN{α:Type}(cs:List (α×IV))(F:α->Option IV):Prop where
 n:(cs.map axs).Nodup
 m:∀k y,(k,y)∈cs↔F k=aa y
section
variable{α:Type}[DecidableEq α]{t:TypeId}{e:α->IV}{cs:List (α×IV)}{F:α->Option IV}
theorem lN.nil:lN ([]:List (α×IV)) λ_=>ah:=⟨by simp,by simp⟩
theorem lN.get(h:lN cs F)(hk:xz t e)(k:α)(d:IV):nB Tryz.prog t (iV e cs) (e k) d=aa ((F k).getD d):=by
 obtain⟨h1,h2⟩:=hk.get h.n k d;cases hF:F k with
 |none=>
  exact h2 λ⟨y,hy⟩=>by rw[h.m,hF]at hy;cases hy
 |some y=>exact h1 y ((h.m k y).2 hF)
theorem lN.ins(h:lN cs F)(hk:xz t e)(k:α)(y:IV):∃bG,lN bG (λq=>if q=k then aa y else F q)/\nA Tryz.prog t (iV e cs) (e k) y=aa (iV e bG):=by
 obtain⟨bG,h1,h2,h3⟩:=hk.ins h.n k y;refine⟨bG,⟨h1,λq z=>?_⟩,h3⟩;rw[h2];by_cases hq:q=k
 .subst hq;simp;exact eq_comm
 .simp[hq,h.m]
end
structure Bk where
 o:Oc
 c:List In
structure Un where
 s:List UInt8
 n:Int
 bs:List Bk
 nv:Bool
 la:Int
def ui(b:Bk):IV:=.agg [iI b.o.r,iI b.o.h,iB b.o.k,cJ b.c]
abbrev Bu(l:List Bk):IV:=.tree 4 (l.map ui)
@[simp] theorem auJ(l:List Bk):Pure (Bu l):=jm 4 ui (λa=>⟨_,rfl,by simp⟩) l
def CV(u:Un):IV:=.agg [iS u.s,iI u.n,Bu u.bs,iB u.nv,iI u.la]
abbrev vg(l:List Un):IV:=.tree 5 (l.map CV)
@[simp] theorem auK(l:List Un):Pure (vg l):=jm 5 CV (λa=>⟨_,rfl,by simp⟩) l
def mV(us:List Un)(acc:List Ac)(rl:Int):IV:=.agg [vg us,eU acc,iI rl]
def anr{l:List Bk}{i:Nat}(h:i<l.length):cq 4 (Bu l) (iI (i:Nat))=aa (.agg [iI l[i].o.r,iI l[i].o.h,iB l[i].o.k,cJ l[i].c]):=cP (by simp[h,ui]) rfl
def aaX{l:List Un}{i:Nat}(h:i<l.length):cq 5 (vg l) (iI (i:Nat))=aa (.agg [iS l[i].s,iI l[i].n,Bu l[i].bs,iB l[i].nv,iI l[i].la]):=cP (by simp[h,CV]) rfl
structure Sb where
 H:Int->Option De
 A:Int×Int->Bool
inductive Il(acc:List Ac)(U:List De):Sb->In->Sb->Prop
 |fd (s:Sb) (i:In) (j:Nat) (a:Ac):i.op=3->i.b=j->acc[j]?=aa a->i.ts.length=a.ps.length->Il acc U s i ⟨λv=>if v=i.a then aa ⟨a.s,a.n⟩else s.H v,s.A⟩
 |mt (s:Sb) (i:In) (d:De):i.op=1->s.H i.a=aa d->i.b<d.n->Il acc U s i s
 |ap (s:Sb) (i:In):i.op=4->Il acc U s i ⟨s.H,λp=>decide (p=(i.b,i.a))||(decide (p=(i.a,i.b))||s.A p)⟩
 |pu (s:Sb) (i:In):i.op=9->(i.g.op=0->⟨i.g.s,i.g.ts.length⟩∈U)->Il acc U s i s
 |no (s:Sb) (i:In):i.op≠3->i.op≠1->i.op≠4->i.op≠9->Il acc U s i s
def mR(acc:List Ac)(U:List De):Sb->List In->Sb->Prop
 |s,[],t=>s=t
 |s,i::c,t=>∃u,Il acc U s i u/\mR acc U u c t
theorem mR.app{acc:List Ac}{U:List De}:∀{c d:List In} {s t u:Sb},mR acc U s c t->mR acc U t d u->mR acc U s (c++d) u
 |[],_,_,_,_,h1,h2=>by cases h1;exact h2
 |_::_,_,_,_,_,⟨v,h,h1⟩,h2=>⟨v,h,h1.app h2⟩
def mR.one{acc:List Ac}{U:List De}{s t:Sb}{i:In}(h:Il acc U s i t):mR acc U s [i] t:=⟨t,h,rfl⟩
def V3(t:Sb):Prop:=∀x y d,x<y->t.H x=aa d->t.H y=aa d->t.A (x,y)=ab
def fH(H:Int->Option De)(k:Int):Option IV:=(H k).map eD
def fA{α:Type}(A:α->Bool)(p:α):Option IV:=if A p=ab then aa (iB ab)else ah
def aaY(H:Int->Option De)(ds:List IV):Prop:=∀y∈ds,∃k d,H k=aa d/\y=.aF [iI k,.agg [iS d.s,iI d.n]]
def af7{cs:List (Int×IV)}{H:Int->Option De}(h:lN cs (fH H)):aaY H (cs.map (Bs iI)):=λy hy=>by
 obtain⟨⟨k,v⟩,hq,rfl⟩:=awB.1 hy;have:=(h.m k v).1 hq;unfold fH at this;obtain⟨d,h1,rfl⟩:=awj.1 this;exact⟨k,d,h1,rfl⟩
section
variable{Q:IV->Prop}{k0 k1 k2 k3 k4 k5 k6:List IV->Prop}{x0 x1 x2 x3 x4 x5 x6 x7 x8 x9 dT fD ll:IV}
def aq2(t:Sb)(hf:V3 t)(ds:List IV)(zn:aaY t.H ds)(yM:List ((Int×Int)×IV))(hA:lN yM (fA t.A))(kx:Int)(dx:De)(hx:t.H kx=aa dx)(wR:IV)(rem:List IV)
 (hk:k6 [.aF [.aF ds,.aF rem,.aF [iI kx,.agg [iS dx.s,iI dx.n]]]]):
 Pj.sat Tryz.prog CC Q [k0,k1,k2,k3,k4,k5,k6] [x0,x1,x2,x3,x4,x5,x6,x7,x8,x9,dT,fD,.aF ds,iV Ni yM,ll,wR,.aF [.aF ds,.aF rem,.aF [iI kx,.agg [iS dx.s,iI dx.n]]]]:=by
 unfold Pj;refine jc (λ(a:List IV×List IV)=>[.aF (.aF ds::.aF a.1::a.2)]) (λa=>∀y∈a.1,y∈ds) (λa=>a.1.length) (ds,[]) ?_ (λy hy=>hy) λa ha=>?_
 .simp[br]
 obtain⟨re,r⟩:=a;refine VY.2 ⟨ds,re,by simp[br],⟨r,by simp[br]⟩,λhe=>?_,λi y hy=>?_⟩
 .simp[br];exact hk
 obtain⟨ky,dy,h1,rfl⟩:=zn y (ha y (awq hy))
 have hlen:(re.eraseIdx i).length<re.length:=by
  have:=(awa.1 hy).1;rw[aAq];split<;>omega
 have hn:FX (λ(a:List IV×List IV)=>[.aF (.aF ds::.aF a.1::a.2)]) (λa=>∀y∈a.1,y∈ds) (λa=>a.1.length) (re,r) [.aF [.aF ds,.aF (re.eraseIdx i),.aF [iI ky,.agg [iS dy.s,iI dy.n]]]]:=
  .mk (re.eraseIdx i,[.aF [iI ky,.agg [iS dy.s,iI dy.n]]]) rfl (λz hz=>ha z (az5 hz)) hlen
 simp[br,ao,aN];by_cases e:kx<ky
 rotate_left
 .right;exact⟨by omega,hn⟩
 left;refine⟨e,?_⟩;have hb:=acP dx.s dy.s dx.n dy.n;simp[hb];by_cases e2:dx.s=dy.s/\dx.n=dy.n
 rotate_left
 .right;exact⟨λh1 h2=>e2 ⟨h1,h2⟩,hn⟩
 left;refine⟨e2,?_⟩
 have TR:dx=dy:=by
  obtain⟨a,b⟩:=dx;obtain⟨c,d⟩:=dy;simp only at e2;rw[e2.1,e2.2]
 have hAt:=hf kx ky dx e hx (TR▸h1);have hg:=hA.get VV (kx,ky) (iB af);unfold fA at hg;rw[if_pos hAt]at hg;have hg:nB Tryz.prog 214 (iV Ni yM) (.agg [iI kx,iI ky]) (iB af)=aa (iB ab):=hg;simp[hg,aN];exact hn
def aq3(t:Sb)(hf:V3 t)(ds:List IV)(zn:aaY t.H ds)(yM:List ((Int×Int)×IV))(hA:lN yM (fA t.A))(j:Nat)(hj:j<1000)(hk:k4 [iI (j+1:Nat)]):
 Pk.sat Tryz.prog CC Q [k0,k1,k2,k3,k4,k5] [x0,x1,x2,x3,x4,x5,x6,iI j,x8,x9,dT,fD,.aF ds,iV Ni yM]:=by
 have hw:=aI hj aj;unfold Pk;refine jc (λ(a:List IV×List IV)=>[.aF (.aF ds::.aF a.1::a.2)]) (λa=>∀y∈a.1,y∈ds) (λa=>a.1.length) (ds,[]) ?_ (λy hy=>hy) λa ha=>?_
 .simp[br]
 obtain⟨re,r⟩:=a;refine VY.2 ⟨ds,re,by simp[br],⟨r,by simp[br]⟩,λhe=>?_,λi y hy=>?_⟩
 .simp[br,hw];exact hk
 obtain⟨kx,dx,h1,rfl⟩:=zn y (ha y (awq hy))
 have hlen:(re.eraseIdx i).length<re.length:=by
  have:=(awa.1 hy).1;rw[aAq];split<;>omega
 have hn:FX (λ(a:List IV×List IV)=>[.aF (.aF ds::.aF a.1::a.2)]) (λa=>∀y∈a.1,y∈ds) (λa=>a.1.length) (re,r) [.aF [.aF ds,.aF (re.eraseIdx i),.aF [iI kx,.agg [iS dx.s,iI dx.n]]]]:=
  .mk (re.eraseIdx i,[.aF [iI kx,.agg [iS dx.s,iI dx.n]]]) rfl (λz hz=>ha z (az5 hz)) hlen
 have Ds:jK 9 (.aF ds) (iB ab)=aa (.int ds.length):=rfl;simp[br,ao,aN,Ds,VZ];exact aq2 t hf ds zn yM hA kx dx h1 _ _ hn
end
def vh(u:Un):De:=⟨u.s,u.n⟩
structure auL(acc:List Ac)(U:List De)(u:Un)(rl:Int)(b:Bk):Prop where
 k:af6 b.o b.c
 r:b.o.r<rl
 f:∃t,mR acc U ⟨λv=>if v=b.o.h then aa ⟨u.s,u.n⟩else ah,λ_=>af⟩ b.c t/\V3 t
structure ans(acc:List Ac)(U:List De)(rl:Int)(u:Un):Prop where
 l:u.bs.length<=160
 s:iE u.s=ab
 n:0<=u.n/\u.n<=6
 la:0<=u.la/\u.la<=u.bs.length
 b:∀b∈u.bs,auL acc U u rl b
structure V4(us:List Un)(acc:List Ac)(rl:Int):Prop where
 rr:0<=rl/\rl<=40
 ul:us.length<=30
 al:acc.length<=480
 a:∀a∈acc,DA a/\a.ps.length<=8
 u:∀u∈us,ans acc (us.map vh) rl u
 nd:(us.map vh).Nodup
def aaZ(Im:List (Int×IV))(yM:List ((Int×Int)×IV))(j:Nat):List IV:=[iI j,iV iI Im,iV Ni yM]
structure auM(acc:List Ac)(U:List De)(c:List In)(t:Sb)(j:Nat)(a:Sb×List (Int×IV)×List ((Int×Int)×IV)):Prop where
 r:mR acc U a.1 (c.drop j) t
 h:lN a.2.1 (fH a.1.H)
 p:lN a.2.2 (fA a.1.A)
def adD(H:Int->Option De)(k:Int)(d:De):(λq=>if q=k then aa (eD d)else fH H q)=fH (λv=>if v=k then aa d else H v):=by
 funext q;by_cases h:q=k
 .simp[fH,h]
 .simp[fH,h]
def V5{α:Type}[DecidableEq α](A:α->Bool)(k:α):(λq=>if q=k then aa (iB ab)else fA A q)=fA (λp=>decide (p=k)||A p):=by
 funext q;unfold fA;by_cases h:q=k
 .simp[h]
 .simp[h]
section
variable{Q:IV->Prop}{k0 k1 k2 k3 k4:List IV->Prop}{x0 x1 x2 x3 x5 x6 x7 x9:IV}
set_option maxHeartbeats 4000000 in
def aq4(us:List Un)(acc:List Ac)(ey:acc.length<=480)(rl:Int)(U:List De)(CY:List (De×IV))(hU:lN CY (fA λd=>decide (d∈U)))(b:Bk)(hc:b.c.length<=200)(s0 t:Sb)(aa0:List (Int×IV))(hH0:lN aa0 (fH s0.H))(hA0:s0.A=λ_=>af)(hr:mR acc U s0 b.c t)(hf:V3 t)(j:Nat)(hj:j<1000)(hk:k4 [iI (j+1:Nat)]):
 Pm.sat Tryz.prog CC Q [k0,k1,k2,k3,k4] [mV us acc rl,x1,x2,x3,iV eD CY,x5,x6,iI j,ui b,x9,iV iI aa0]:=by
 have hM:mV us acc rl=.agg [vg us,eU acc,iI rl]:=rfl;have hB:ui b=.agg [iI b.o.r,iI b.o.h,iB b.o.k,cJ b.c]:=rfl;rw[hM,hB];unfold Pm
 refine aC b.c.length (λj (a:Sb×List (Int×IV)×List ((Int×Int)×IV))=>aaZ a.2.1 a.2.2 j) (λj a=>auM acc U b.c t j a) (s0,aa0,[]) ?_ ⟨hr,hH0,by
  simp only[hA0];exact lN.nil⟩ λq a hq hI=>?_
 .simp[br,aaZ,iV]
 obtain⟨s,Im,yM⟩:=a;obtain⟨fQ,jd,sS⟩:=hI;simp only at fQ jd sS;unfold aaZ;by_cases ak:q<b.c.length
 rotate_left
 .rw[awY aj]at fQ;obtain rfl:s=t:=fQ;have hy:=λk5 fD=>aq3 (Q:=Q) (k0:=k0) (k1:=k1) (k2:=k2) (k3:=k3) (k4:=k4) (k5:=k5) (x0:=.agg [vg us,eU acc,iI rl]) (x1:=x1) (x2:=x2) (x3:=x3) (x4:=iV eD CY) (x5:=x5) (x6:=x6) (x8:=.agg [iI b.o.r,iI b.o.h,iB b.o.k,cJ b.c]) (x9:=x9) (dT:=iV iI aa0) (fD:=fD) s hf _ (af7 jd) yM sS j hj hk;have Ds:jK 9 (iV iI Im) (iB ab)=aa (.int (Im.map (Bs iI)).length):=rfl;simp[br,ak,Ds,VZ];exact hy _ _
 have hw:=aI ak aj;have hd:=awH ak;rw[hd]at fQ;obtain⟨u,cy,fQ⟩:=fQ;have eM:=ixI ak;generalize b.c[q]=i at*
 cases cy with
 |fd n a e eb ea el=>
  obtain⟨hn,hna⟩:=awa.1 ea;have hC:=Vw hn;rw[hna]at hC;obtain⟨bG,bD,iu⟩:=jd.ins xA i.a (eD ⟨a.s,a.n⟩);rw[adD]at bD;have iu:nA Tryz.prog 3 (iV iI Im) (iI i.a) (.agg [iS a.s,iI a.n])=aa (iV iI bG):=iu;have z1:¬acc.length<=n:=aj;simp[br,ak,eM,hw,ao,e,eb,hC,el,z1,iu];exact .mk (_,bG,yM) rfl aj ⟨fQ,bD,sS⟩
 |mt d e wF gj=>
  have hg:=jd.get xA i.a (.agg [iS [],iI 0]);have hf':fH s.H i.a=aa (eD d):=by unfold fH;rw[wF];rfl
  rw[hf']at hg;have hg:nB Tryz.prog 3 (iV iI Im) (iI i.a) (.agg [iS [],iI 0])=aa (.agg [iS d.s,iI d.n]):=hg;have z1:¬d.n<=i.b:=aj;simp[br,ak,eM,hw,ao,e,hg,z1];exact .mk (_,Im,yM) rfl aj ⟨fQ,jd,sS⟩
 |ap e=>
  obtain⟨rz,bU,W0⟩:=sS.ins VV (i.a,i.b) (iB ab);rw[V5]at bU;obtain⟨TA,mN,P0⟩:=bU.ins VV (i.b,i.a) (iB ab);rw[V5]at mN;have W0:nA Tryz.prog 214 (iV Ni yM) (.agg [iI i.a,iI i.b]) (iB ab)=aa (iV Ni rz):=W0;have P0:nA Tryz.prog 214 (iV Ni rz) (.agg [iI i.b,iI i.a]) (iB ab)=aa (iV Ni TA):=P0;simp[br,ak,eM,hw,ao,e,W0,P0];exact .mk (_,Im,TA) rfl aj ⟨fQ,jd,mN⟩
 |pu e hu=>
  by_cases e2:i.g.op=0
  .have hg:=hU.get aaW ⟨i.g.s,i.g.ts.length⟩ (iB af);unfold fA at hg;rw[if_pos (decide_eq_true (hu e2))]at hg;have hg:nB Tryz.prog 82 (iV eD CY) (.agg [iS i.g.s,iI i.g.ts.length]) (iB af)=aa (iB ab):=hg;simp[br,ak,eM,hw,ao,e,e2,hg,aN];exact .mk (_,Im,yM) rfl aj ⟨fQ,jd,sS⟩
  .simp[br,ak,eM,hw,ao,e,e2];exact .mk (_,Im,yM) rfl aj ⟨fQ,jd,sS⟩
 |no e3 e1 e4 e9=>
  simp[br,ak,eM,hw,ao,e3,e1,e4,e9];exact .mk (_,Im,yM) rfl aj ⟨fQ,jd,sS⟩
def aq5(us:List Un)(acc:List Ac)(ey:acc.length<=480)(rl:Int)(U:List De)(CY:List (De×IV))(hU:lN CY (fA λd=>decide (d∈U)))(u:Un)(hu:ans acc U rl u)(j:Nat)(hj:j<1000)(hk:k3 [iI (j+1:Nat)]):
 Po.sat Tryz.prog CC Q [k0,k1,k2,k3] [mV us acc rl,x1,x2,x3,iV eD CY,iI j,CV u]:=by
 have SV:=aI hj aj;have hM:mV us acc rl=.agg [vg us,eU acc,iI rl]:=rfl;have hE:CV u=.agg [iS u.s,iI u.n,Bu u.bs,iB u.nv,iI u.la]:=rfl;have GQ:=hu.l;unfold Po;refine aC u.bs.length (λk (_:Unit)=>[iI k]) (λ_ _=>True) () ?_ trivial λk _ eX _=>?_
 .simp[br]
 by_cases ak:k<u.bs.length
 rotate_left
 .rw[hM,hE];simp[br,ak,SV];exact hk
 have hb:=hu.b _ (awd ak);have eM:=anr ak;have ant:=auH _ _ hb.k;have hc:=hb.k.len;obtain⟨t,Qi,ht2⟩:=hb.f;have z1:¬rl<=u.bs[k].o.r:=by have:=hb.r;omega
 obtain⟨cs,bD,iu⟩:=(lN.nil:lN ([]:List (Int×IV)) _).ins xA u.bs[k].o.h (eD ⟨u.s,u.n⟩);have iu:nA Tryz.prog 3 (.aF []) (iI u.bs[k].o.h) (.agg [iS u.s,iI u.n])=aa (iV iI cs):=iu
 have bD:lN cs (fH λv=>if v=u.bs[k].o.h then aa ⟨u.s,u.n⟩else ah):=by
  have:=adD (λ_=>ah) u.bs[k].o.h ⟨u.s,u.n⟩;rw[<-this];exact bD
 have hy:=λk4 hk4=>aq4 (Q:=Q) (k0:=k0) (k1:=k1) (k2:=k2) (k3:=k3) (k4:=k4) (x1:=x1) (x2:=x2) (x3:=x3) (x5:=iI j) (x6:=CV u) (x9:=iI 0) us acc ey rl U CY hU u.bs[k] hc _ t cs bD rfl Qi ht2 k aj hk4;have hB:∀b,ui b=.agg [iI b.o.r,iI b.o.h,iB b.o.k,cJ b.c]:=λ_=>rfl;have hBB:∀o c,nV o c=.agg [iI o.r,iI o.h,iB o.k,cJ c]:=λ_ _=>rfl;rw[hBB]at ant;rw[hM,hE]at*
 simp only[hB]at hy;generalize u.bs[k]=b at*
 simp[br,ak,eM,ao];refine⟨_,ant,?_⟩;simp[br,z1,iu];refine⟨by omega,hy _ ?_⟩;exact .mk () rfl aj trivial
def aq6(us:List Un)(acc:List Ac)(rl:Int)(h:V4 us acc rl)(CY:List (De×IV))(hU:lN CY (fA λd=>decide (d∈us.map vh)))(hQ:Q (iI 0)):
 Pp.sat Tryz.prog CC Q [k0,k1,k2] [mV us acc rl,x1,x2,x3,iV eD CY]:=by
 have GQ:=h.ul;have hM:mV us acc rl=.agg [vg us,eU acc,iI rl]:=rfl;unfold Pp;refine aC us.length (λk (_:Unit)=>[iI k]) (λ_ _=>True) () ?_ trivial λk _ eX _=>?_
 .simp[br]
 by_cases ak:k<us.length
 .have hy:=λk3 wQ=>aq5 (Q:=Q) (k0:=k0) (k1:=k1) (k2:=k2) (k3:=k3) (x1:=x1) (x2:=x2) (x3:=x3) us acc h.al rl _ CY hU us[k] (h.u _ (awd ak)) k aj wQ;have hE:∀u,CV u=.agg [iS u.s,iI u.n,Bu u.bs,iB u.nv,iI u.la]:=λ_=>rfl;rw[hM]at*
  simp only[hE]at hy;simp[br,ak,aaX ak,ao];refine hy _ ?_;exact .mk () rfl aj trivial
 .rw[hM];simp[br,ak,aN,hQ]
def WE{us:List Un}{i:Nat}(ku:(us.map vh).Nodup)(h:i<us.length):vh us[i]∉(us.take i).map vh:=by
 intro hm;obtain⟨u,hu,he⟩:=awB.1 hm;obtain⟨j,hj,rfl⟩:=ax0.1 hu;simp at hj;have:=ayU.1 ku j i (by simp;omega) (by simp;omega) aj;simp at this he;exact this he
def Nk(us:List Un)(k:Nat)(d:De):Bool:=decide (d∈(us.take k).map vh)
def aq7(us:List Un)(acc:List Ac)(rl:Int)(h:V4 us acc rl)(hQ:Q (iI 0)):
 Pq.sat Tryz.prog CC Q [k0,k1] [mV us acc rl,x1,x2]:=by
 have GQ:=h.ul;have hM:mV us acc rl=.agg [vg us,eU acc,iI rl]:=rfl;have hy:=λk2 x3 CY hU=>aq6 (Q:=Q) (k0:=k0) (k1:=k1) (k2:=k2) (x1:=x1) (x2:=x2) (x3:=x3) us acc rl h CY hU hQ;rw[hM]at*
 unfold Pq
 refine aC us.length (λk (cs:List (De×IV))=>[iI k,iV eD cs]) (λk cs=>lN cs (fA (Nk us k))) [] ?_ (by
  have:fA (Nk us 0)=λ_=>ah:=by funext d;simp[fA,Nk]
  rw[this];exact lN.nil) λk cs eX hI=>?_
 .simp[br,iV]
 by_cases ak:k<us.length
 .have hw:=aI ak aj;have hu:=h.u _ (awd ak);have eN:=WE h.nd ak;have af3:=ann us[k].s us[k].n hu.s hu.n.1 hu.n.2;have hg:=hI.get aaW (vh us[k]) (iB af);unfold fA at hg;rw[if_neg (by unfold Nk;rw[decide_eq_true_eq];exact eN)]at hg;have hg:nB Tryz.prog 82 (iV eD cs) (.agg [iS us[k].s,iI us[k].n]) (iB af)=aa (iB af):=hg;obtain⟨bG,bD,iu⟩:=hI.ins aaW (vh us[k]) (iB ab);have iu:nA Tryz.prog 82 (iV eD cs) (.agg [iS us[k].s,iI us[k].n]) (iB ab)=aa (iV eD bG):=iu;rw[V5]at bD;have z1:¬us[k].la<0:=by have:=hu.la.1;omega
  have z2:¬(us[k].bs.length:Int)<us[k].la:=by have:=hu.la.2;omega
  have cy:(λd=>decide (d=vh us[k])||Nk us k d)=Nk us (k+1):=by
   funext d;unfold Nk;rw[awh ak,axZ];simp only[awO,decide_eq_true_eq,axw,awm,awZ,ayf,awo];exact or_comm
  rw[cy]at bD;simp[br,ak,hw,aaX ak,ao];refine⟨_,af3,?_⟩;simp[br,hg,aN,z1,z2,iu];exact⟨by omega,by omega,.mk bG rfl aj bD⟩
 .have hun:Nk us k=λd=>decide (d∈us.map vh):=by
   funext d;unfold Nk;rw[awr aj]
  rw[hun]at hI;simp[br,ak];exact hy _ _ cs hI
def aq8(us:List Un)(acc:List Ac)(rl:Int)(h:V4 us acc rl)(hQ:Q (iI 0)):
 Pr.sat Tryz.prog CC Q [k0] [mV us acc rl,x1]:=by
 have ey:=h.al;have hM:mV us acc rl=.agg [vg us,eU acc,iI rl]:=rfl;have hy:=λk1 x2=>aq7 (Q:=Q) (k0:=k0) (k1:=k1) (x1:=x1) (x2:=x2) us acc rl h hQ;rw[hM]at*
 unfold Pr;refine aC acc.length (λk (_:Unit)=>[iI k]) (λ_ _=>True) () ?_ trivial λk _ eX _=>?_
 .simp[br]
 by_cases ak:k<acc.length
 .have hw:=aI ak aj;have ha:=h.a _ (awd ak);have anu:=auE _ ha.1 ha.2;have hC:∀a,tj a=.agg [iS a.s,iI a.n,iL a.ps]:=λ_=>rfl;rw[hC]at anu;simp[br,ak,hw,Vw ak,ao];refine⟨_,anu,?_⟩;simp[br];exact .mk () rfl aj trivial
 .simp[br,ak];exact hy _ _
end
def k52(us:List Un)(acc:List Ac)(rl:Int)(h:V4 us acc rl):CC 52 ab [mV us acc rl] (iI 0):=by
 refine CC.of ang kr kr (mB (.agg _ ay)) ay ?_;have GQ:=h.ul;have ey:=h.al;have hM:mV us acc rl=.agg [vg us,eU acc,iI rl]:=rfl;have hy:=λk0 x1=>aq8 (Q:=(·=iI 0)) (k0:=k0) (x1:=x1) us acc rl h rfl;have z1:¬rl<0:=by have:=h.rr.1;omega
 have z2:¬40<rl:=by have:=h.rr.2;omega
 have z3:¬(30:Int)<us.length:=aj;have z4:¬(480:Int)<acc.length:=aj;rw[hM]at*
 simp[ahJ,br,ao,z1,z2,z3,z4];unfold Yq;refine aC us.length (λk (_:Unit)=>[iI k]) (λ_ _=>True) () ?_ trivial λk _ eX _=>?_
 .simp[br]
 by_cases ak:k<us.length
 .have hw:=aI ak aj;have hu:=(h.u _ (awd ak)).l;have z5:¬(160:Int)<us[k].bs.length:=aj;simp[br,ak,hw,aaX ak,ao,z5];exact .mk () rfl aj trivial
 .simp[br,ak];exact hy _ _
structure zb(cs:List (Int×IV)):Prop where
 n:(cs.map axs).Nodup
 v:∀q∈cs,∃n:Int,q.2=iI n
def zb.nil:zb []:=⟨by simp,by intro q hq;cases hq⟩
theorem zb.get{cs:List (Int×IV)}(h:zb cs)(k:Int):∃n:Int,nB Tryz.prog 3 (iV iI cs) (iI k) (iI 0)=aa (iI n):=by
 obtain⟨h1,h2⟩:=xA.get h.n k (iI 0);by_cases hy:∃y,(k,y)∈cs
 .obtain⟨y,hy⟩:=hy;obtain⟨n,hn⟩:=h.v _ hy;simp only at hn;subst hn;exact⟨n,h1 _ hy⟩
 .exact⟨0,h2 hy⟩
theorem zb.ins{cs:List (Int×IV)}(h:zb cs)(k v:Int):∃bG,zb bG/\nA Tryz.prog 3 (iV iI cs) (iI k) (iI v)=aa (iV iI bG):=by
 obtain⟨bG,h1,h2,h3⟩:=xA.ins h.n k (iI v);refine⟨bG,⟨h1,λq hq=>?_⟩,h3⟩;rcases(h2 q).1 hq with rfl|⟨_,hq⟩
 .exact⟨v,rfl⟩
 .exact h.v q hq
section
variable{k0 k1:List IV->Prop}{x0 x1 x2 x3 x4 x5 x6 x7 x8 x9:IV}
def anv(a:At)(ey:a.ts.length<=8)(cs:List (Int×IV))(hc:zb cs):O3.sat Tryz.prog CC Ie [k0,k1] [x0,x1,x2,dH a,x4,x5,x6,x7,iV iI cs]:=by
 have hA:dH a=.agg [iS a.s,iT a.ts]:=rfl;rw[hA];unfold O3;refine aC a.ts.length (λi (q:List Int)=>[iI i,iL q]) (λi q=>q.length<=i) [] ?_ ay λi q hi hI=>?_
 .simp[br]
 by_cases ak:i<a.ts.length
 rotate_left
 .simp[br,ak,ao];exact Yp _ _ _ _ aj
 have hw:=aI ak aj;obtain⟨g,hg⟩:=hc.get a.ts[i].n;obtain⟨b,_,hb⟩:=xA.has cs a.ts[i].n;have hq:=Bo (a:=q) (v:=(i:Int)) aj;simp[br,ak,hw,nP ak,bL,ao,hg,hb,aN];cases b with
 |false=>simp[hw];exact .mk q rfl aj aj
 |true=>
  simp[hw,cellsOf];by_cases e:g=i
  .right;exact⟨e,_,hq,.mk (q++[(i:Int)]) rfl aj (by simp;omega)⟩
  .left;exact⟨e,nz⟩
def anw(a:At)(ey:a.ts.length<=8):O1.sat Tryz.prog CC Ie [k0] [x0,x1,x2,x3,dH a,x5,x6,x7]:=by
 have hA:dH a=.agg [iS a.s,iT a.ts]:=rfl;rw[hA];unfold O1;refine aC a.ts.length (λi (cs:List (Int×IV))=>[iI i,iS a.s,iV iI cs]) (λ_ cs=>zb cs) [] ?_ .nil λi cs hi hc=>?_
 .simp[br,iV]
 by_cases ak:i<a.ts.length
 rotate_left
 .simp[br,ak];exact nz
 have hw:=aI ak aj;obtain⟨g,hg⟩:=hc.get a.ts[i].n;obtain⟨b,_,hb⟩:=xA.has cs a.ts[i].n;obtain⟨bG,pM,cw⟩:=hc.ins a.ts[i].n i;simp[br,ak,hw,nP ak,bL,ao,hg,hb,cw,aN];by_cases e:a.ts[i].k=1
 rotate_left
 .left;exact⟨e,nz⟩
 right;refine⟨e,?_⟩;cases b with
 |true=>simp;exact nz
 |false=>simp;exact .mk bG rfl aj pM
def anx(a:At)(ey:a.ts.length<=8):O2.sat Tryz.prog CC Ie [k0] [x0,x1,x2,x3,dH a,x5,x6,x7,x8,x9]:=by
 have hA:dH a=.agg [iS a.s,iT a.ts]:=rfl;rw[hA];unfold O2;refine aC a.ts.length (λi (cs:List (Int×IV))=>[iI i,iS a.s,iV iI cs]) (λ_ cs=>zb cs) [] ?_ .nil λi cs hi hc=>?_
 .simp[br,iV]
 by_cases ak:i<a.ts.length
 rotate_left
 .simp[br,ak];exact nz
 have hw:=aI ak aj;obtain⟨g,hg⟩:=hc.get a.ts[i].n;obtain⟨b,_,hb⟩:=xA.has cs a.ts[i].n;obtain⟨bG,pM,cw⟩:=hc.ins a.ts[i].n i;simp[br,ak,hw,nP ak,bL,ao,hg,hb,cw,aN];by_cases e:a.ts[i].k=1
 rotate_left
 .left;exact⟨e,nz⟩
 right;refine⟨e,?_⟩;cases b with
 |true=>simp;exact nz
 |false=>simp;exact .mk bG rfl aj pM
def anz(b a:At)(Eu:b.ts.length<=8)(ey:a.ts.length<=8):O4.sat Tryz.prog CC Ie [k0] [x0,x1,x2,dH b,dH a,x5,x6]:=by
 have hy:=λk1 x7 cs hc=>anv (k0:=k0) (k1:=k1) (x0:=x0) (x1:=x1) (x2:=x2) (x4:=dH a) (x5:=x5) (x6:=x6) (x7:=x7) b Eu cs hc;have hA:∀a,dH a=.agg [iS a.s,iT a.ts]:=λ_=>rfl;rw[hA,hA]at*
 unfold O4;refine aC a.ts.length (λi (cs:List (Int×IV))=>[iI i,iV iI cs]) (λ_ cs=>zb cs) [] ?_ .nil λi cs hi hc=>?_
 .simp[br,iV]
 by_cases ak:i<a.ts.length
 rotate_left
 .simp[br,ak];exact hy _ _ _ hc
 have hw:=aI ak aj;obtain⟨g,hg⟩:=hc.get a.ts[i].n;obtain⟨b,_,hb⟩:=xA.has cs a.ts[i].n;obtain⟨bG,pM,cw⟩:=hc.ins a.ts[i].n i;simp[br,ak,hw,nP ak,bL,ao,hg,hb,cw,aN];by_cases e:a.ts[i].k=1
 rotate_left
 .left;exact⟨e,nz⟩
 right;refine⟨e,?_⟩;cases b with
 |true=>simp;exact nz
 |false=>simp;exact .mk bG rfl aj pM
def anA(b a:At)(Eu:b.ts.length<=8)(ey:a.ts.length<=8):O5.sat Tryz.prog CC Ie [] [x0,x1,x2,dH b,dH a]:=by
 have JE:=λk0 x5 x6=>anz (k0:=k0) (x0:=x0) (x1:=x1) (x2:=x2) (x5:=x5) (x6:=x6) b a Eu ey;have Uc:=λk0 x5 x6 x7=>anw (k0:=k0) (x0:=x0) (x1:=x1) (x2:=x2) (x3:=dH b) (x5:=x5) (x6:=x6) (x7:=x7) a ey;have yp:=λk0 x5 x6 x7 x8 x9=>anx (k0:=k0) (x0:=x0) (x1:=x1) (x2:=x2) (x3:=dH b) (x5:=x5) (x6:=x6) (x7:=x7) (x8:=x8) (x9:=x9) a ey;have hA:∀a,dH a=.agg [iS a.s,iT a.ts]:=λ_=>rfl;rw[hA,hA]at*
 unfold O5;refine aC b.ts.length (λi (cs:List (Int×IV))=>[iI i,iV iI cs]) (λ_ cs=>zb cs) [] ?_ .nil λi cs hi hc=>?_
 .simp[br,iV]
 by_cases ak:i<b.ts.length
 rotate_left
 .simp[br,ak];exact JE _ _ _
 have hw:=aI ak aj;obtain⟨g,hg⟩:=hc.get b.ts[i].n;obtain⟨h,_,hb⟩:=xA.has cs b.ts[i].n;obtain⟨bG,pM,cw⟩:=hc.ins b.ts[i].n i;simp[br,ak,hw,nP ak,bL,ao,hg,hb,cw,aN];by_cases e:b.ts[i].k=1
 rotate_left
 .left;exact⟨e,Uc _ _ _ _⟩
 right;refine⟨e,?_⟩;cases h with
 |true=>simp;exact yp _ _ _ _ _ _
 |false=>simp;exact .mk bG rfl aj pM
end
def auN(r:Rl)(h:oa r):∃(k:Ac) (b:Bool),k.ps.length<=100/\CC 171 af [cU r] (.aF [tj k,iB b]):=by
 suffices hs:aaK.sat Tryz.prog CC Ie [] [cU r] by
  obtain⟨z,⟨k,b,rfl,hk⟩,hz⟩:=CC.HO (args:=[cU r]) amG kr (by rintro _ ⟨k,b,rfl,_⟩;exact kr) (mB (jn r)) (by rintro _ ⟨k,b,rfl,_⟩;exact .aF _ (by simp[CL])) (by rfl) hs;exact⟨k,b,hk,hz⟩
 have hh:=h.h;have VT:=JT r aj;have Dt:=auk r;have ey:=h.hs;have hy:=λx0 x1 x2 b a h1 h2=>anA (x0:=x0) (x1:=x1) (x2:=x2) b a h1 h2;rw[cu]at*
 generalize r.aw++r.az=hs at*
 simp[aaK,SE.den,ao];refine⟨_,VT,?_⟩;simp;by_cases e1:hs.length=2
 rotate_left
 .left;exact⟨by omega,nz⟩
 right;refine⟨by omega,_,Dt,?_⟩;by_cases e2:r.az=[]
 .simp[e2];exact nz
 simp[e2];by_cases e3:0<r.aG.length
 .left;exact⟨e3,nz⟩
 right;refine⟨by simpa using e3,?_⟩;obtain⟨a0,e0⟩:∃a,hs[0]?=aa a:=⟨_,av_ aj⟩;obtain⟨a1,cM⟩:∃a,hs[1]?=aa a:=⟨_,av_ aj⟩;have i0:cq 2 (c_ hs) (iI 0)=aa (.agg [iS a0.s,iT a0.ts]):=cP (i:=0) (x:=dH a0) (by simp[e0]) rfl;have i1:cq 2 (c_ hs) (iI 1)=aa (.agg [iS a1.s,iT a1.ts]):=cP (i:=1) (x:=dH a1) (by simp[cM]) rfl;have hA:∀a,dH a=.agg [iS a.s,iT a.ts]:=λ_=>rfl;have hy:=λx0 x1 x2=>hy x0 x1 x2 a0 a1 (ey _ (awq e0)) (ey _ (awq cM));rw[hA,hA]at hy;simp[i0,i1,ao];by_cases e4:a0.s=a1.s
 rotate_left
 .left;exact⟨e4,nz⟩
 right;refine⟨e4,?_⟩;by_cases e5:a0.ts.length=a1.ts.length
 rotate_left
 .left;exact⟨by omega,nz⟩
 right;refine⟨by omega,?_⟩;exact hy _ _ _
def auO(p:Pg)(hp:oe p):∃ks:List Ac,ks.length<=8/\(∀k∈ks,k.ps.length<=100)/\CC 113 af [bn p] (eU ks):=by
 suffices hs:aaJ.sat Tryz.prog CC aus [] [bn p] by
  obtain⟨z,⟨ks,rfl,h1,h2⟩,hz⟩:=CC.HO (args:=[bn p]) amF kr (λ_ _=>kr) (mB (dN p)) (by rintro _ ⟨ks,rfl,_⟩;simp) (by rfl) hs;exact⟨ks,h1,h2,hz⟩
 have hP:bn p=.agg [fY p.bN,mw p.aV]:=rfl;have hr:=hp.r;rw[hP];simp[aaJ,SE.den,ao];unfold Yi;refine aC p.aV.length (λi (ks:List Ac)=>[iI i,eU ks]) (λi ks=>ks.length<=i/\∀k∈ks,k.ps.length<=100) [] ?_ ay λi ks hi hI=>?_
 .simp[SE.den]
 obtain⟨eX,gR⟩:=hI;by_cases ak:i<p.aV.length
 rotate_left
 .simp[SE.den,ak];exact⟨ks,rfl,by omega,gR⟩
 have hw:=aI ak aj;obtain⟨k,b,yd,anB⟩:=auN p.aV[i] (hp.rs _ (awd ak));have anC:=λj (hj:j<ks.length)=>auB ks[j] k (by have:=gR _ (awd hj);unfold Sm;omega);have hC:∀a,tj a=.agg [iS a.s,iI a.n,iL a.ps]:=λ_=>rfl;rw[cu,hC]at anB;simp only[hC]at anC;simp[SE.den,ak,y9 ak,ao];refine⟨_,anB,?_⟩
 have afh:∀x∈ks++[k],x.ps.length<=100:=λx hx=>by
  rcases awm.1 hx with hx|hx
  .exact gR x hx
  .obtain rfl:=awo.1 hx;exact yd
 cases b with
 |false=>
  simp[ao,hw];exact .mk ks rfl aj ⟨by omega,gR⟩
 |true=>
 simp[ao];unfold Yh;refine aC ks.length (λj (_:Unit)=>[iI j]) (λ_ _=>True) () ?_ trivial λj _ hj _=>?_
 .simp[SE.den]
 by_cases pS:j<ks.length
 .have SV:=aI pS aj;obtain⟨q,hq⟩:=anC j pS;simp[SE.den,pS,Vw pS,SV,ao,cellsOf];refine⟨_,hq,?_⟩;cases q with
  |true=>
   simp[hw];exact .mk ks rfl aj ⟨by omega,gR⟩
  |false=>
   simp;exact .mk () rfl aj trivial
 .simp[SE.den,pS,hw,cellsOf,ao,ahG (show ks.length<=1000 by omega)];exact .mk (ks++[k]) rfl aj ⟨by simp;omega,afh⟩
end
def ajy:aq:=
 (.loop (iH bu qE qE) (.nt (zN .lss 6 0) (jN 95 (ta 5 6) (.nt sw (qN 6 7 8) (jN 175 (o0 (jt rF qL qL oA (Fu oA bu 2)) cb (ta 5 6)) (gz sq .gtr sq po (uH 1 6 (uI sq 6)) (qN 6 7 8))))) (pn so (Dp 1 8 5 1 (nN 8) (zU 0 9)))))
def ajz:aq:=
 (mG (Fu bu (.tr 1 FE) 1) 7 (tb 6) 1 tZ 7 (dV 10 (jN 160 (iH (jt rF qL qL oA (Fu oA bu 2)) so sq) (dV 11 (m9 1 24 9 1 nc (m9 1 8 8 1 sq (qN 7 13 12)))))) (jN 161 (uI (jt rF qL qL oA (ij oA bu)) 8) (dV 10 (.ret (Ft 2 0 2 1 (o0 FJ tZ (ij qK sq)))))))
def ajA:aq:=
 (.loop (fX (.tr 1 FE)) (Aa Cq Cq ajy (.bind (.sub 1 fa j9 Cq) (IX xK (tb 6) ajz))))
def ajB:aq:=
 (.loop (iH bu qE qE) (.nt (zN .lss 6 0) (jN 95 (ta 5 6) (.nt sw (qN 6 7 8) (jN 175 (o0 (jt rF qL qL oA (Fu oA bu 2)) cb (ta 5 6)) (gz sq .gtr sq po (uH 1 6 (uI sq 6)) (qN 6 7 8))))) (pn so (Dp 1 8 5 1 (nN 8) (zU 0 9)))))
def ajC:aq:=
 (mG (Fu bu (.tr 1 FE) 1) 7 (tb 6) 1 tZ 7 (dV 10 (jN 160 (iH (jt rF qL qL oA (Fu oA bu 2)) so sq) (dV 11 (m9 1 24 9 1 nc (m9 1 8 8 1 sq (qN 7 13 12)))))) (jN 161 (uI (jt rF qL qL oA (ij oA bu)) 8) (dV 10 (.ret (Ft 2 0 2 1 (o0 FJ tZ (ij qK sq)))))))
def ajD:aq:=
 (.loop (fX (.tr 1 FE)) (Aa Cq Cq ajB (.bind (.sub 1 fa j9 Cq) (IX xK (tb 6) ajC))))
def Pt:aq:=
 (Ox (iH bu qE qE) .lss 3 9 (qo 7) (jN 95 (ta 8 9) (.nt zZ (qN 9 10 11) (jN 175 (o0 (y6 5 0 5 1 5 2 5 3 (tR 5 4 5 5 kQ)) cb (ta 8 9)) (gz FT .gtr FT (.var 10) (uH 1 9 (uI FT 9)) (qN 9 10 11))))) (pn (.var 11) (Dp 1 8 8 1 (nN 11) (zU 0 12))))
def Pu:aq:=
 (mG (Fu bu (.tr 1 FE) 1) 10 (tb 9) 1 qK 10 (dV 13 (jN 160 (iH (y6 5 0 5 1 5 2 5 3 (tR 5 4 5 5 kQ)) (.var 11) FT) (dV 14 (m9 1 24 12 1 (jA 14) (m9 1 8 11 1 FT (qN 10 16 15)))))) (jN 161 (uI (jb 5 5 5 5 5 5) 11) (dV 13 (.ret (Ft 2 0 2 1 (o0 FJ qK (ij xL FT)))))))
def Pv:aq:=
 (.loop (fX (.tr 1 FE)) (FF 8 (gz (qo 7) .lss (tb 8) (qo 7) (.aE (qo 7) Pt) (.bind (.sub 1 so j9 (tb 8)) (IX xK (tb 9) Pu)))))
def aa1:aq:=
 (sy 2 (il 3 2 87 gS (dV 3 (j2 86 dG (pw 2 2 2) (ik c8 c8 (.ret (jt bu bu e_ MP (vV MP 1))) (oN .lss 2 0 0 (pn xK ajA) (gz fP .geq I1 fP (pn xK ajD) (xQ 6 fS I1 6 5 (lE 6 fS I1 (wi 6 6 33 6 6 6 6 6 6 (gn kQ (.rw xK) Pv)))))))))))
def anD:aQ Tryz.prog (aht [⟨1,114065,4,[(1,(19,0))],[(12,3),(12,0),(11,1),(11,0),(10,4)],[(1,16)],[]⟩,⟨0,114,5,[],[(6,1),(6,0)],[(0,29)],[]⟩,⟨0,114,8,[(0,(10,0)),(0,(11,0)),(0,(39,0))],[(6,1)],[],[]⟩]) 400 af 114=aa1:=by kernel_rfl
section
theorem Ew:∀(a b:List Int),a.Nodup->(∀v∈a,v∈b)->a.length<=b.length
 |[],_,_,_=>by simp
 |x::a,b,hn,hs=>by
  obtain⟨b1,b2,rfl⟩:=azB (hs x ay);have oX:=axi.1 hn
  have ih:=Ew a (b1++b2) oX.2 λu hu=>by
   have:=hs u (awI _ hu);rw[awm,aws]at this;rw[awm];rcases this with h|rfl|h
   .exact .inl h
   .exact absurd hu oX.1
   .exact .inr h
  simp at ih⊢;omega
def ajE{n:Nat}{done:List Int}(h:done.length<n):∃j:Nat,j<n/\(j:Int)∉done:=by
 apply aw2;intro fC
 have:=Ew (jx n) done (CM n) λv hv=>by
  obtain⟨h1,h2⟩:=qe.1 hv;apply aw2;intro hv;exact fC ⟨v.toNat,by omega,by rwa[show((v.toNat:Nat):Int)=v by omega]⟩
 rw[oQ]at this;omega
def ajF{n:Nat}{m:Int}{rest:List Int}(hn:(m::rest).Nodup)(hv:pC n (m::rest))(hl:rest.length+1=n):qR n m rest=ab:=by
 have bS:=Ep (m::rest) (jx n) hn (λv h=>qe.2 (hv v h)) (by rw[oQ];simp;omega)
 have hs:∀v∈parts n m,v∈rest:=λv Jo=>by
  obtain⟨h1,h2⟩:=rT.1 Jo;rcases aws.1 (bS v (qe.2 h1))with h|h
  .exact absurd h h2
  .exact h
 have gJ:∀v∈rest,v∈parts n m:=λv Jo=>rT.2 ⟨hv v (awI _ Jo),λh=>by
  subst h;exact(axi.1 hn).1 Jo⟩
 have h1:=Ew _ _ (qf n m) hs;have h2:=Ew _ _ (axi.1 hn).2 gJ;unfold qR;rw[awb,decide_eq_true_eq,decide_eq_true_eq];exact⟨by omega,hs⟩
section
variable{Q:IV->Prop}{k0:List IV->Prop}{x0 x1 x2 x3 x4 x5 x6 x8:IV}
def anE(r:Rl)(hs:List At)(hl:hs.length<=3)(ey:∀a∈hs,a.ts.length<=8)(eN:∀a∈hs,pZ a)(hf:∀a∈hs,∀t∈a.ts,WF t)(ks:List Ac)(hk:ks.length<=1000)(gR:∀k∈ks,k.ps.length<=100)(done:List Int)(hd:done.length<=50)
 (hex:∃j:Nat,j<hs.length/\(j:Int)∉done)(fO:∀b:Nat,b<hs.length->(b:Int)∉done->k0 [iL (done++[(b:Int)])]):
 Pt.sat Tryz.prog CC Q [k0] [x0,eU ks,x2,x3,x4,cU r,x6,c_ hs,iL done]:=by
 have anF:=λj hj=>auC r hs hl ey eN hf ks hk gR done aj j hj;simp only[uP]at anF;rw[cu];unfold Pt;refine aC hs.length (λh (q:Int×Int)=>[iI h,iI q.1,iI q.2]) (λh q=>(q=(-1, -1)/\∀j:Nat,j<h->(j:Int)∈done)\/(0<=q.1/\∃b:Nat,q.2=b/\b<hs.length/\(b:Int)∉done)) (-1, -1) ?_ (.inl ⟨rfl,by intro j hj;omega⟩) λh q hh hI=>?_
 .simp[br]
 obtain⟨af8,anG⟩:=q;by_cases ak:h<hs.length
 .have hw:=aI ak aj;have h95:=R0 done h (by unfold Sm;omega);obtain⟨m,ye,hm⟩:=anF h ak;simp[br,ak,hw,ao];refine⟨_,h95,?_⟩;by_cases e:(h:Int)∈done
  .simp[e];refine .mk (af8,anG) rfl aj ?_;rcases hI with⟨h1,h2⟩|h1
   .exact .inl ⟨h1,λj hj=>by
     by_cases he:j=h
     .subst he;exact e
     .exact h2 j aj⟩
   .exact .inr h1
  .simp[e];refine⟨_,hm,?_⟩;simp;by_cases e2:af8<m
   .left;exact⟨e2,.mk (m,h) rfl aj (.inr ⟨ye,h,rfl,ak,e⟩)⟩
   .right;refine⟨by omega,.mk (af8,anG) rfl aj ?_⟩;rcases hI with⟨h1,h2⟩|h1
    .cases h1;omega
    .exact .inr h1
 .have hc:=λb:Nat=>Bo (a:=done) (v:=(b:Int)) aj;rcases hI with⟨_,h2⟩|⟨_,b,h1,h2,h3⟩
  .obtain⟨j,hj1,BE⟩:=hex;exact absurd (h2 j aj) BE
  .simp only at h1;subst h1;simp[br,ak,aN,cellsOf,hc];exact fO b h2 h3
def anH(r:Rl)(h:oa r)(eN:qP r)(hf:lY r)(o:Oc)(order:List Int)(ho:order.length<=50)(hv:pC (r.aw++r.az).length order)(hQ:Q (cD (oR r o order))):
 Pu.sat Tryz.prog CC Q [k0] [x0,x1,jP o,x3,x4,cU r,x6,c_ (r.aw++r.az),x8,iL order]:=by
 have AG:=h.h;rw[<-awi]at AG;have uL:=λdone (hd:done.length<=100) n a ha=>afF ab r (r.aw++r.az) AG h.hs eN.hs hf.hs done hd n a ha;have y_:=amN r h eN hf (o.h::order) (by simp;omega);have hO:jP o=.agg [iI o.r,iI o.h,iB o.k]:=rfl;simp only[uP]at uL;rw[hO,cu]at*
 unfold oR cD at hQ;simp only at hQ;generalize hS:r.aw++r.az=hs at*
 unfold Pu;refine aC order.length (λi (q:List (List Int))=>[iI i,iL (o.h::order.take i),dr q]) (λi q=>q++eI hs (o.h::order.take i) (order.drop i)=eI hs [o.h] order/\q.length<=i) [] ?_ ay λi q hi hI=>?_
 .simp[SE.den,ao,cellsOf]
 obtain⟨hI,hql⟩:=hI;by_cases ak:i<order.length
 .have n_:=aI ak aj;obtain⟨hv0,Qs⟩:=hv _ (awd ak);have xu:order[i]=((order[i].toNat:Nat):Int):=aj;have dY:order[i].toNat<hs.length:=aj;have ya:=uL (o.h::order.take i) (by simp;omega) order[i].toNat _ (av_ dY);rw[<-xu]at ya
  have sQ:kE hs order[i]=hs[order[i].toNat].ts:=by
   simp only[kE,if_pos hv0];rw[av_ dY]
  rw[awH ak,eI,sQ]at hI;have cy:o.h::order.take (i+1)=(o.h::order.take i)++[order[i]]:=by rw[awh ak];rfl
  have bU:=Bo (a:=o.h::order.take i) (v:=order[i]) (by simp;omega);have mN:=OZ (a:=q) (v:=p6 hs (o.h::order.take i) hs[order[i].toNat].ts) aj;generalize hD:o.h::order.take i=D at*
  simp[SE.den,ak,n_,lI ak,ao];refine⟨_,ya,?_⟩;simp[ao,aN,cellsOf,bU,mN];refine .mk (q++[p6 hs D hs[order[i].toNat].ts]) ?_ aj ⟨by rw[cy,<-hI];simp,by simp;omega⟩;rw[cy];rfl
 .rw[awY aj,eI,aww]at hI;subst hI;rw[awr aj]at*
  generalize eI hs [o.h] order=K at*
  generalize eH hs r.aG (o.h::order)=T at*
  generalize o.h::order=D at*
  simp[SE.den,ak,ao];refine⟨_,y_,?_⟩;simpa[ao]using hQ
def anI(r:Rl)(h:oa r)(eN:qP r)(hf:lY r)(ks:List Ac)(hk:ks.length<=1000)(gR:∀k∈ks,k.ps.length<=100)(o:Oc)(m:Nat)(hm:o.h=m)(Gs:m<(r.aw++r.az).length)
 (hQ:∀order,qR (r.aw++r.az).length m order=ab->Q (cD (oR r o order))):
 Pv.sat Tryz.prog CC Q [] [x0,eU ks,jP o,x3,x4,cU r,x6,c_ (r.aw++r.az)]:=by
 have AG:=h.h;rw[<-awi]at AG;have hy6:=λk0 done=>anE (Q:=Q) (k0:=k0) (x0:=x0) (x2:=jP o) (x3:=x3) (x4:=x4) (x6:=x6) r (r.aw++r.az) AG h.hs eN.hs hf.hs ks hk gR done;have hy7:=λk0 x8 order=>anH (Q:=Q) (k0:=k0) (x0:=x0) (x1:=eU ks) (x3:=x3) (x4:=x4) (x6:=x6) (x8:=x8) r h eN hf o order;have hO:jP o=.agg [iI o.r,iI o.h,iB o.k]:=rfl;simp only[hO]at hy6 hy7;rw[hO];generalize hS:r.aw++r.az=hs at*
 unfold Pv;refine jc (λ(rest:List Int)=>[iL (o.h::rest)]) (λrest=>(o.h::rest).Nodup/\pC hs.length (o.h::rest)/\rest.length+1<=hs.length) (λrest=>hs.length- rest.length) [] ?_ ⟨by simp,by intro v hv;obtain rfl:=awo.1 hv;omega,by simp;omega⟩ λrest hI=>?_
 .simp[SE.den,ao,cellsOf]
 obtain⟨h1,h2,h3⟩:=hI;by_cases ak:rest.length+1<hs.length
 .have hy:=hy6 (FX (λ(rest:List Int)=>[iL (o.h::rest)]) (λrest=>(o.h::rest).Nodup/\pC hs.length (o.h::rest)/\rest.length+1<=hs.length) (λrest=>hs.length- rest.length) rest) (o.h::rest) (by simp;omega) (ajE (by simp;omega)) λb hb zj=>.mk (rest++[(b:Int)]) rfl ⟨by
   rw[<-axk];refine ayD.2 ⟨h1,by simp,λx hx y hy he=>?_⟩;obtain rfl:=awo.1 hy;subst he;exact zj hx,by
   intro v hv;rw[<-axk]at hv;rcases awm.1 hv with hv|hv
   .exact h2 v hv
   .obtain rfl:=awo.1 hv;omega,by simp;omega⟩ (by simp;omega)
  have hz:((rest.length:Int)+1<(hs.length:Int)):=aj;simp[SE.den,hz,ao];simpa using hy
 .have hz:¬((rest.length:Int)+1<(hs.length:Int)):=aj;have s2:=am8 (L:=o.h::rest) (a:=1) ay;have hy:=hy7 (FX (λ(rest:List Int)=>[iL (o.h::rest)]) (λrest=>(o.h::rest).Nodup/\pC hs.length (o.h::rest)/\rest.length+1<=hs.length) (λrest=>hs.length- rest.length) rest) (iL (o.h::rest)) rest aj (λv hv=>h2 v (awI _ hv)) (hQ rest (ajF (by rw[<-hm];exact h1) (by rw[<-hm];exact h2) aj));simp at s2;simp[SE.den,hz,ao,aN];exact⟨_,s2,⟨_,rfl⟩,hy⟩
end
def Yy(p:Pg)(o:Oc)(x:Pn):Prop:=x.o=o/\Er p x=ab/\QT x/\x.aJ.length<=3
def ahO(p:Pg)(o:Oc)(z:IV):Prop:=∃x,z=cD x/\Yy p o x
def aa2(r:Rl)(h:oa r)(o:Oc)(order:List Int)(ho:order.length<=3):QT (oR r o order):=by
 have hk:=Gc (r.aw++r.az) order [o.h];have ht:=pB (r.aw++r.az) r.aG (o.h::order);have hg:=h.g;refine⟨?_,?_,?_,λl hl=>?_,λl hl=>?_⟩
 .show order.length<=_;omega
 .show(eI _ _ _).length<=_;omega
 .show(eH _ _ _).length<=_;rw[ht];simp;omega
 .have:=Ic h.hs _ _ l hl;unfold Sm;omega
 .have:=(Q6 l hl).1;unfold Sm;omega
def auP(p:Pg)(hp:oe p)(hf:∀r∈p.aV,lY r)(ks:List Ac)(hk:ks.length<=1000)(gR:∀k∈ks,k.ps.length<=100)(o:Oc)(hm:o∈occs p.aV):
 ∃x,Yy p o x/\CC 114 af [bn p,eU ks,jP o] (cD x):=by
 suffices hs:aa1.sat Tryz.prog CC (ahO p o) [] [bn p,eU ks,jP o] by
  obtain⟨z,⟨x,rfl,hx⟩,hz⟩:=CC.HO (args:=[bn p,eU ks,jP o]) anD kr (by rintro _ ⟨x,rfl,_⟩;exact kr) (by
   intro y hy;rcases aws.1 hy with rfl|hy
   .exact dN p
   .exact pH ay (H2 o) _ hy) (by rintro _ ⟨x,rfl,_⟩;exact yI x) (by rfl) hs
  exact⟨x,hx,hz⟩
 have GH:=k87 p hp;have DK:=uN p.aV hp.rs;have h86:=k86 (occs p.aV) o (by have:=hp.r;omega);rw[decide_eq_true hm]at h86;obtain⟨i,m,r,h⟩:=xx.1 hm;obtain⟨ak,sL⟩:=awa.1 h.ru;have dD:r∈p.aV:=sL▸awd ak;have qQ:=hp.rs r dD;have hR:=y9 ak;rw[sL]at hR;have Qa:=h.or;have hR0:cq 6 (mw p.aV) (iI o.r)=aa (.agg [iS r.name,c_ r.aw,c_ r.az,gK r.aG,gK r.bc,iI r.vars]):=by rw[Qa];exact hR
 have VT:=JT r (by have:=qQ.h;omega)
 have hy:=λx0 x3 x4 x6=>anI (Q:=ahO p o) (x0:=x0) (x3:=x3) (x4:=x4) (x6:=x6) r qQ (hp.rn r dD) (hf r dD) ks hk gR o m h.oh h.lt λorder BN=>by
  have hle:=Jg BN;have AG:=qQ.h;have BI:=h.lt
  have yf:order.length<=3:=by
   have:=hle.2;rw[awi]at this;omega
  refine⟨_,rfl,rfl,?_,aa2 r qQ o order yf,yf⟩;rw[CN (x:=oR r o order) h];show(qR _ _ order&&decide (oR r o order=oR r o order))=ab;rw[BN,decide_eq_true rfl];rfl
 have hP:bn p=.agg [fY p.bN,mw p.aV]:=rfl;have hO:jP o=.agg [iI o.r,iI o.h,iB o.k]:=rfl;rw[cu]at*
 rw[hP,hO]at*
 generalize occs p.aV=l at*
 generalize r.aw++r.az=hs at*
 have z1:¬(o.r<0):=aj;have z2:¬((p.aV.length:Int)<=o.r):=aj;simp[aa1,SE.den,ao];refine⟨_,GH,?_⟩;simp;refine⟨_,h86,?_⟩;simp[z1,z2,hR0,ao];refine⟨by omega,by omega,_,VT,?_⟩;simp[aN];exact hy _ _ _ _
def k47(p:Pg)(hp:oe p)(hf:∀r∈p.aV,lY r):∃l:List Pn,(l.map Pn.o=occs p.aV/\∀x∈l,Yy p x.o x)/\CC 47 af [bn p] (CU l):=by
 suffices hs:afJ.sat Tryz.prog CC (λz=>∃l:List Pn,z=CU l/\l.map Pn.o=occs p.aV/\∀x∈l,Yy p x.o x) [] [bn p] by
  obtain⟨z,⟨l,rfl,hl⟩,hz⟩:=CC.HO (args:=[bn p]) aqD kr (λ_ _=>kr) (mB (dN p)) (by rintro _ ⟨l,rfl,_⟩;simp) (by rfl) hs;exact⟨l,hl,hz⟩
 obtain⟨ks,h1,h2,auQ⟩:=auO p hp;have GH:=k87 p hp;have anJ:=λo ho=>auP p hp hf ks aj h2 o ho;have DK:=uN p.aV hp.rs;have hr:=hp.r;generalize occs p.aV=os at*
 have hP:bn p=.agg [fY p.bN,mw p.aV]:=rfl;have hO:∀o,jP o=.agg [iI o.r,iI o.h,iB o.k]:=λ_=>rfl;rw[hP]at*
 simp only[hO]at anJ;simp[afJ,SE.den,ao];refine⟨_,auQ,?_⟩;simp;refine⟨_,GH,?_⟩;simp;unfold ado;refine aC os.length (λi (l:List Pn)=>[iI i,CU l]) (λi l=>l.map Pn.o=os.take i/\∀x∈l,Yy p x.o x) [] ?_ ay λi l hi hI=>?_
 .simp[SE.den]
 obtain⟨QX,Gy⟩:=hI
 have hlen:l.length=i:=by
  have:=congrArg awN QX;simp at this;omega
 by_cases ak:i<os.length
 .have hw:=aI ak aj;obtain⟨x,hx,hc⟩:=anJ os[i] (awd ak);have pc:=aqY (a:=l) (x:=x) aj;have hN:cD x=.agg [iI x.o.r,iI x.o.h,iB x.o.k,iL x.aJ,dr x.dQ,dr x.dt]:=rfl;rw[hN]at hc pc;generalize hz:CU (l++[x])=z at pc;simp[SE.den,ak,hw,aam ak,ao];refine⟨_,hc,?_⟩;simp[ao,cellsOf,pc]
  exact .mk (l++[x]) (by rw[hz];rfl) aj ⟨by rw[axw,QX,awh ak];simp[hx.1],λy hy=>by
   rcases awm.1 hy with hy|hy
   .exact Gy y hy
   .obtain rfl:=awo.1 hy;rw[hx.1];exact hx⟩
 .simp[SE.den,ak];exact⟨l,rfl,by rw[QX,awr aj],Gy⟩
theorem Pw(a:Ac):∀(l:List Ac) (i:Nat),Dx a l i= -1/\a∉l\/∃j:Nat,Dx a l i=((i+j:Nat):Int)/\l[j]?=aa a
 |[],i=>.inl ⟨rfl,by simp⟩
 |x::l,i=>by
  rw[Dx];by_cases h:x=a
  .subst h;rw[if_pos rfl];exact .inr ⟨0,rfl,rfl⟩
  .rw[if_neg h];rcases Pw a l (i+1)with⟨h1,h2⟩|⟨j,h1,h2⟩
   .exact .inl ⟨h1,by simp[h2,ayz h]⟩
   .exact .inr ⟨j+1,by rw[h1];congr 1;omega,by simpa using h2⟩
def ajG{l:List Ac}{a:Ac}(h:a∈l):∃j:Nat,tn l a=(j:Int)/\l[j]?=aa a:=by
 rcases Pw a l 0 with⟨_,h2⟩|⟨j,h1,h2⟩
 .exact absurd h h2
 .exact⟨j,by unfold tn;rw[h1,axo],h2⟩
def ajH{l:List Ac}{a:Ac}(h:¬tn l a<0):a∈l:=by
 rcases Pw a l 0 with⟨h1,_⟩|⟨j,_,h2⟩
 .unfold tn at h;omega
 .exact awq h2
def V6(hs:List At)(x:Pn)(k:Nat):Ac:=⟨(Nf hs x k).s,(Nf hs x k).ts.length,x.dQ.getD k []⟩
def af9(hs:List At)(acc:List Ac)(x:Pn)(k:Nat):CS hs acc x k=tn acc (V6 hs x k):=rfl
def wy(p:Pg)(x:Pn)(n:Nat)(acc:List Ac):Prop:=∀(i:Nat) (r:Rl),p.aV[i]?=aa r->x.o.r=i->∀k<n,V6 (r.aw++r.az) x k∈acc
def wy.mono{p:Pg}{x:Pn}{n:Nat}{acc b:List Ac}(h:wy p x n acc):wy p x n (acc++b):=λi r h1 h2 k hk=>aw3 _ (h i r h1 h2 k hk)
def PlA(p:Pg)(P:Ac->Prop)(x:Pn):Prop:=x.aJ.length<=3/\∀k<x.aJ.length,∃i n r a ps,Part p x k i n r a ps/\ps.length<=8/\P ⟨a.s,a.ts.length,ps⟩
structure Bv(P:Ac->Prop)(n:Nat)(acc:List Ac):Prop where
 l:acc.length<=n
 p:∀a∈acc,a.ps.length<=8/\P a
section
variable{Q:IV->Prop}{k0:List IV->Prop}{x1 x3:IV}
def aq9(p:Pg)(hp:oe p)(P:Ac->Prop)(x:Pn)(hx:PlA p P x)(i:Nat)(hi:i<300)(acc:List Ac)(hn:Bv P (3*i) acc)
 (hk:∀b:List Ac,Bv P (3*(i+1)) (acc++b)->wy p x x.aJ.length (acc++b)->k0 [iI (i+1:Nat),eU (acc++b)]):
 VM.sat Tryz.prog CC Q [k0] [bn p,x1,iI i,eU acc,cD x]:=by
 obtain⟨ho,hpt⟩:=hx;have kh:=aI hi aj;have hP:bn p=.agg [fY p.bN,mw p.aV]:=rfl;have hN:cD x=.agg [iI x.o.r,iI x.o.h,iB x.o.k,iL x.aJ,dr x.dQ,dr x.dt]:=rfl;rw[hP,hN];unfold VM;refine aC x.aJ.length (λk (b:List Ac)=>[iI k,eU (acc++b),iI x.o.r,iI x.o.h,iL x.aJ]) (λk b=>Bv P (3*i+k) (acc++b)/\wy p x k (acc++b)) [] ?_ ⟨⟨by have:=hn.l;simp;omega,by simpa using hn.p⟩,λ_ _ _ _ k hk=>by omega⟩ λk b eX hI=>?_
 .simp[SE.den,ao]
 obtain⟨fQ,jd⟩:=hI;by_cases ak:k<x.aJ.length
 rotate_left
 .have Cc:k=x.aJ.length:=aj;subst Cc;simp[SE.den,ak,kh];exact hk b ⟨by have:=fQ.l;omega,fQ.p⟩ jd
 have hw:=aI ak aj;obtain⟨ri,n,r,a,ps,h,nY,hPa⟩:=hpt k ak;have OV:=afw hp h;have BI:=fQ.l;have aaw:=(amj (acc++b) a ps ⟨by omega,λa ha=>(fQ.p a ha).1⟩).ahr (MV rfl)
 have hac:∀(i:Nat) (r:Rl),p.aV[i]?=aa r->x.o.r=i->V6 (r.aw++r.az) x k=⟨a.s,a.ts.length,ps⟩:=λi' r' h1 h2=>by
  have he:i'=ri:=by have:=h.oc;omega
  subst he;obtain rfl:r'=r:=ayh (h1.symm.trans h.ru);have h1:=h.od;have h2:=h.hd;have h3:=h.kn
  have e1:Nf (r'.aw++r'.az) x k=a:=by
   unfold Nf;rw[h1,awc,show((n:Int)).toNat=n from rfl,h2];rfl
  have e2:x.dQ.getD k []=ps:=by rw[awS,h3];rfl
  unfold V6;rw[e1,e2]
 have hA:dH a=.agg [iS a.s,iT a.ts]:=rfl;have pc:=ahG (a:=acc++b) (k:=⟨a.s,a.ts.length,ps⟩) aj;simp only at pc;rw[hP,hN,hA]at OV;rw[hA]at aaw;generalize hz:eU (acc++b)=z at*
 simp[SE.den,ak,ao];refine⟨_,OV,?_⟩;simp[ao];refine⟨_,aaw,?_⟩;simp;by_cases e:tn (acc++b) ⟨a.s,a.ts.length,ps⟩<0
 .left;refine⟨e,_,pc,?_⟩;simp[hw];refine .mk (b++[⟨a.s,a.ts.length,ps⟩]) (by simp[SE.den]) aj ⟨⟨by simp at BI⊢;omega,λc hc=>?_⟩,λi' r' h1 h2 k' cH=>?_⟩
  .rw[<-awv]at hc;rcases awm.1 hc with hc|hc
   .exact fQ.p c hc
   .obtain rfl:=awo.1 hc;exact⟨nY,hPa⟩
  .rw[<-awv];by_cases e2:k'=k
   .subst e2;rw[hac i' r' h1 h2];simp
   .exact aw3 _ (jd i' r' h1 h2 k' aj)
 .right;refine⟨by omega,?_⟩;simp[hw];refine .mk b (by rw[hz];rfl) aj ⟨⟨by omega,fQ.p⟩,λi' r' h1 h2 k' cH=>?_⟩;by_cases e2:k'=k
  .subst e2;rw[hac i' r' h1 h2];exact ajH e
  .exact jd i' r' h1 h2 k' aj
end
def ahP(p:Pg)(P:Ac->Prop)(l:List Pn)(z:IV):Prop:=∃acc,z=eU acc/\Bv P (3*l.length) acc/\∀x∈l,wy p x x.aJ.length acc
def k48(p:Pg)(hp:oe p)(P:Ac->Prop)(l:List Pn)(hl:l.length<=100)(hx:∀x∈l,PlA p P x):
 ∃acc,Bv P (3*l.length) acc/\(∀x∈l,wy p x x.aJ.length acc)/\CC 48 af [bn p,CU l] (eU acc):=by
 suffices hs:afK.sat Tryz.prog CC (ahP p P l) [] [bn p,CU l] by
  obtain⟨z,⟨acc,rfl,h1,h2⟩,hz⟩:=CC.HO (args:=[bn p,CU l]) aqE kr (λ_ _=>kr) (pH (dN p) ay) (by rintro _ ⟨ks,rfl,_⟩;simp) (by rfl) hs;exact⟨acc,h1,h2,hz⟩
 have hy:=λQ k0 x hx i hi acc hn hk=>aq9 (Q:=Q) (k0:=k0) (x1:=CU l) p hp P x hx i hi acc hn hk;have hP:bn p=.agg [fY p.bN,mw p.aV]:=rfl;rw[hP]at*
 simp[afK,SE.den,ao];unfold adp;refine aC l.length (λi (acc:List Ac)=>[iI i,eU acc]) (λi acc=>Bv P (3*i) acc/\∀x∈l.take i,wy p x x.aJ.length acc) [] ?_ ⟨⟨by simp,by intro a ha;cases ha⟩,by simp⟩ λi acc hi hI=>?_
 .simp[SE.den]
 obtain⟨fQ,jd⟩:=hI;by_cases ak:i<l.length
 .have jQ:=hx _ (awd ak)
  have hy:=hy (ahP p P l) (Be l.length (λi (acc:List Ac)=>[iI i,eU acc]) (λi acc=>Bv P (3*i) acc/\∀x∈l.take i,wy p x x.aJ.length acc) i) l[i] jQ i aj acc fQ λb cB dv=>.mk (acc++b) rfl aj ⟨cB,λx hx=>by
   rw[awh ak]at hx;rcases awm.1 hx with hx|hx
   .exact(jd x hx).mono
   .obtain rfl:=awo.1 hx;exact dv⟩
  have hN:∀x,cD x=.agg [iI x.o.r,iI x.o.h,iB x.o.k,iL x.aJ,dr x.dQ,dr x.dt]:=λ_=>rfl;rw[hN]at hy;simp[SE.den,ak,am9 ak,hN,ao];exact hy
 .rw[awr aj]at jd;have zk:i=l.length:=aj;subst zk;simp[SE.den,ak];exact⟨acc,rfl,fQ,jd⟩
def wz(hs:List At)(s:List UInt8)(n:Int)(o:Oc):Bool:=match hs[o.h.toNat]? with
 |some a=>a.s==s&&(a.ts.length:Int)==n
 |none=>af
def Q8(s:List UInt8)(n:Int)(i:Nat)(r:Rl):List Oc:=(Bi i r).filter (wz (r.aw++r.az) s n)
def oT(s:List UInt8)(n:Int)(l:List Rl):List Oc:=l.zipIdx.flatMap λq=>Q8 s n q.2 q.1
def af_(s:List UInt8)(n:Int)(l:List Rl)(r:Rl):oT s n (l++[r])=oT s n l++Q8 s n l.length r:=by simp[oT,List.zipIdx_append]
def aga{s:List UInt8}{n:Int}{l:List Rl}{i:Nat}(h:i<l.length):oT s n (l.take (i+1))=oT s n (l.take i)++Q8 s n i l[i]:=by
 rw[awh h,af_,axe,Nat.min_eq_left aj]
def xB(s:List UInt8)(n:Int)(l:List Rl)(h:∀r∈l,oa r):(oT s n l).length<=3*l.length:=by
 refine awy ?_ (uN l h);unfold oT occs;rw[aAt,aAt];generalize l.zipIdx=z;induction z with
 |nil=>simp
 |cons q z ih=>
  have:=aAi (wz (q.1.aw++q.1.az) s n) (Bi q.2 q.1);simp only[awZ,aBo];unfold Q8;unfold Q8 at ih;omega
def Px{p:Pg}{s:List UInt8}{n:Int}{o:Oc}:o∈oT s n p.aV↔∃i m r a,H7 p o i m r/\(r.aw++r.az)[m]?=aa a/\a.s=s/\(a.ts.length:Int)=n:=by
 unfold oT Q8;rw[axq];constructor
 .rintro⟨⟨r,i⟩,h1,h2⟩;rw[aw7]at h2;rw[ayP]at h1;obtain⟨m,hm,rfl⟩:=Gd.1 h2.1;have hk:=h2.2;simp only[wz]at hk;split at hk
  .rename_i a ha;simp at hk;exact⟨i,m,r,a,⟨h1,rfl,rfl,by simpa using hm,rfl⟩,by simpa using ha,hk⟩
  .cases hk
 .rintro⟨i,m,r,a,h,ha,h1,h2⟩;refine⟨(r,i),by rw[ayP];exact h.ru,aw7.2 ⟨Gd.2 ⟨m,by simpa using h.lt,?_⟩,?_⟩⟩
  .obtain⟨a,b,c⟩:=o;have:=h.or;have:=h.oh;have:=h.ok
   simp_all
  .simp only[wz,h.oh,ayX,ha];simp[h1,h2]
def agb{p:Pg}{s:List UInt8}{n:Int}{o:Oc}(h:o∈oT s n p.aV):o∈occs p.aV:=by
 obtain⟨i,m,r,a,h,_⟩:=Px.1 h;exact xx.2 ⟨i,m,r,h⟩
section
variable{Q:IV->Prop}{k0:List IV->Prop}{x0:IV}
def aq_(s:List UInt8)(n:Int)(i:Nat)(r:Rl)(acc:List Oc)(hi:i<1000)(K9:acc.length<=500)(hr:r.aw.length+r.az.length<=3)(ey:∀a∈r.aw++r.az,a.ts.length<=8)(hk:k0 [iI (i+1:Nat),p5 (acc++Q8 s n i r)]):
 VO.sat Tryz.prog CC Q [k0] [x0,iS s,iI n,iI i,p5 acc,cU r,c_ (r.aw++r.az)]:=by
 obtain⟨rn,rk,rr,rg,rb,rv⟩:=r;unfold Q8 Bi at hk;simp only[cU]at*
 rw[<-awi]at hr hk;generalize Vj:rk++rr=hs at hr hk ey⊢;generalize hn:hs.length=q at hr hk;unfold VO;refine jc (λ(m:Nat)=>[iI ((m:Int) - 1),p5 (acc++((rM i rk.length q).take (q- m)).filter (wz hs s n)),iS rn]) (λm=>m<=q) (λm=>m) q ?_ (awe _) λm hm=>?_
 .simp[SE.den,hn,M7 (show q<=1000 by omega),ao]
 cases m with
 |zero=>
  have hw:=aI hi aj;simp[SE.den,hw,ao];rw[awr ay];exact hk
 |succ m=>
  have hw:awK.wrap ((m:Int) - 1)=(m:Int) - 1:=M7 aj;have ak:m<hs.length:=aj;have hfl:(((rM i rk.length q).take (q-(m+1))).filter (wz hs s n)).length<=3:=awy (aAi ..) (by simp;omega);have hc:dg 3 24 (p5 (acc++((rM i rk.length q).take (q-(m+1))).filter (wz hs s n))) (.tree 3 [.agg [iI i,iI m,iB (decide (m<rk.length))]])=aa (p5 (acc++((rM i rk.length q).take (q-(m+1))).filter (wz hs s n)++[⟨i,(m:Int),decide (m<rk.length)⟩])):=ahi (b:=[⟨i,(m:Int),decide (m<rk.length)⟩]) (by simp;omega);have cy:=QS (i:=i) (kl:=rk.length) (n:=q) (m:=m) aj;rw[show q-(m+1)+1=q- m by omega]at cy
  have Jn:wz hs s n ⟨i,(m:Int),decide (m<rk.length)⟩=(hs[m].s==s&&(hs[m].ts.length:Int)==n):=by
   simp only[wz,ayX,av_ ak]
  have wD:((m+1:Nat):Int) - 1=(m:Int):=aj;simp only[wD];generalize hF:((rM i rk.length q).take (q-(m+1))).filter (wz hs s n)=F at*
  simp[SE.den,ao,aN,cellsOf,hc,hw,py ak];by_cases e1:hs[m].s=s
  rotate_left
  .right;refine⟨e1,.mk m ?_ aj aj⟩;rw[cy,azu,hF,az9 (by rw[Jn];simp[e1])];simp
  left;refine⟨e1,?_⟩;by_cases e2:(hs[m].ts.length:Int)=n
  rotate_left
  .right;refine⟨e2,.mk m ?_ aj aj⟩;rw[cy,azu,hF,az9 (by rw[Jn];simp[e2])];simp
  left;refine⟨e2,.mk m ?_ aj aj⟩;rw[cy,azu,hF,List.filter_cons_of_pos (by rw[Jn];simp[e1,e2])];simp
end
def k51(p:Pg)(h:oe p)(s:List UInt8)(n:Int):CC 51 af [bn p,iS s,iI n] (p5 (oT s n p.aV)):=by
 refine CC.of aqH kr kr (by
  intro y hy;rcases aws.1 hy with rfl|hy
  .exact dN p
  .exact pH ay ay _ hy) ay ?_
 obtain⟨ds,rs⟩:=p;have hr:=h.r;have hs:=h.rs;simp only at hr hs⊢;simp[amE,bn,SE.den,ao];unfold ads;refine aC rs.length (λi (acc:List Oc)=>[iI i,p5 acc]) (λi acc=>acc=oT s n (rs.take i)) [] ?_ (by simp[oT]) λi acc hi hI=>?_
 .simp[SE.den]
 by_cases ak:i<rs.length
 .have X9:=hs _ (awd ak);have hl:=xB s n (rs.take i) λr hr=>hs r (axv hr);rw[<-hI]at hl;simp only[axe]at hl;have zw:=JT rs[i] (by have:=X9.h;omega);rw[cu]at zw;have hh:=X9.h;have hwd:awK.wrap ((rs[i].aw.length:Int)+rs[i].az.length- 1)=(rs[i].aw.length:Int)+rs[i].az.length- 1:=eT aj aj;simp[SE.den,ak,y9 ak,ao];refine⟨_,zw,?_⟩;simp[hwd];refine aq_ s n i rs[i] acc aj aj X9.h X9.hs ?_;exact .mk _ rfl aj (by rw[aga ak,<-hI])
 .simp[SE.den,ak];rw[hI,awr aj]
def Lp(q:Oc×Rl):IV:=.agg [iI q.1.r,iI q.1.h,iB q.1.k,iS q.2.name,c_ q.2.aw,c_ q.2.az,gK q.2.aG,gK q.2.bc,iI q.2.vars]
abbrev V7(l:List (Oc×Rl)):IV:=.tree 9 (l.map Lp)
@[simp] theorem auR(l:List (Oc×Rl)):Pure (V7 l):=jm 9 Lp (λa=>⟨_,rfl,by simp⟩) l
def anK{l:List (Oc×Rl)}{i:Nat}(h:i<l.length):cq 9 (V7 l) (iI (i:Nat))=aa (.agg [iI l[i].1.r,iI l[i].1.h,iB l[i].1.k,iS l[i].2.name,c_ l[i].2.aw,c_ l[i].2.az,gK l[i].2.aG,gK l[i].2.bc,iI l[i].2.vars]):=cP (by simp[h,Lp]) rfl
def ara{a:List (Oc×Rl)}{q:Oc×Rl}(h:a.length<=1000):dg 9 144 (V7 a) (.tree 9 [.agg [iI q.1.r,iI q.1.h,iB q.1.k,iS q.2.name,c_ q.2.aw,c_ q.2.az,gK q.2.aG,gK q.2.bc,iI q.2.vars]])=aa (V7 (a++[q])):=by
 have h2:fV 9 [.agg [iI q.1.r,iI q.1.h,iB q.1.k,iS q.2.name,c_ q.2.aw,c_ q.2.az,gK q.2.aG,gK q.2.bc,iI q.2.vars]]=ab:=rfl;simp[dg,h2,Lp];omega
def agc(p:Pg)(L:List (Oc×Rl)):Prop:=∀q∈L,q.2∈p.aV
def anL(p:Pg)(s:List UInt8)(n:Int)(z:IV):Prop:=∃L:List (Oc×Rl),z=V7 L/\L.map axs=oT s n p.aV/\agc p L
def anM(p:Pg)(h:oe p)(s:List UInt8)(n:Int):∃L:List (Oc×Rl),L.map axs=oT s n p.aV/\agc p L/\CC 117 af [bn p,iS s,iI n] (V7 L):=by
 suffices hs:aaI.sat Tryz.prog CC (anL p s n) [] [bn p,iS s,iI n] by
  obtain⟨z,⟨L,rfl,h1,h2⟩,hz⟩:=CC.HO (args:=[bn p,iS s,iI n]) amD kr (λ_ _=>kr) (by
   intro y hy;rcases aws.1 hy with rfl|hy
   .exact dN p
   .exact pH ay ay _ hy) (by rintro _ ⟨ks,rfl,_⟩;simp) (by rfl) hs
  exact⟨L,h1,h2,hz⟩
 have h51:=k51 p h s n;have hl:=xB s n p.aV h.rs;have hr:=h.r
 have hm:∀o∈oT s n p.aV,∃(i:Nat) (hi:i<p.aV.length),o.r=(i:Int):=λo ho=>by
  obtain⟨i,m,r,a,h,_⟩:=Px.1 ho;exact⟨i,(awa.1 h.ru).1,h.or⟩
 unfold anL;have hP:bn p=.agg [fY p.bN,mw p.aV]:=rfl;rw[hP]at*
 generalize oT s n p.aV=os at*
 simp[aaI,SE.den,ao];refine⟨_,h51,?_⟩;simp;unfold Yg;refine aC os.length (λi (L:List (Oc×Rl))=>[iI i,V7 L]) (λi L=>L.map axs=os.take i/\agc p L) [] ?_ ⟨by simp,by intro q hq;cases hq⟩ λi L hi hI=>?_
 .simp[SE.den]
 obtain⟨fQ,jd⟩:=hI
 have hLl:L.length=i:=by
  have:=congrArg awN fQ;simp at this;omega
 by_cases ak:i<os.length
 .have hw:=aI ak aj;obtain⟨j,hj,Qa⟩:=hm _ (awd ak);have hR:=y9 hj;rw[<-Qa]at hR;have hc:=ara (a:=L) (q:=(os[i],p.aV[j])) aj;simp only at hc;simp[SE.den,ak,hw,aam ak,hR,ao,cellsOf];refine⟨_,hc,.mk (L++[(os[i],p.aV[j])]) rfl aj ⟨by simp[fQ],λq hq=>?_⟩⟩;rcases awm.1 hq with hq|hq
  .exact jd q hq
  .obtain rfl:=awo.1 hq;exact awd hj
 .rw[awr aj]at fQ;simp[SE.den,ak];exact⟨L,rfl,fQ,jd⟩
end
theorem adE:∀(a b:List Int),a.Nodup->(∀v∈a,v∈b)->b.length=a.length->b.Nodup
 |[],b,_,_,hl=>by rw[List.eq_nil_of_length_eq_zero hl];simp
 |x::a,b,hn,hs,hl=>by
  obtain⟨b1,b2,rfl⟩:=azB (hs x ay);have oX:=axi.1 hn
  have bp:∀u∈a,u∈b1++b2:=λu hu=>by
   have:=hs u (awI _ hu);rw[awm,aws]at this;rw[awm];rcases this with h|rfl|h
   .exact .inl h
   .exact absurd hu oX.1
   .exact .inr h
  have cz:(b1++b2).length=a.length:=by simp at hl⊢;omega
  have ih:=adE a (b1++b2) oX.2 bp cz;have hx:x∉b1++b2:=λhx=>oX.1 (Ep a (b1++b2) oX.2 bp cz x hx);rw[ayD]at ih⊢;rw[awm]at hx;refine⟨ih.1,axi.2 ⟨λh=>hx (.inr h),ih.2.1⟩,λu hu v hv he=>?_⟩;rcases aws.1 hv with rfl|hv
  .exact hx (.inl (he▸hu))
  .exact ih.2.2 u hu v hv he
def agd{n m:Nat}{order:List Int}(hm:m<n)(h:qR n m order=ab):((m:Int)::order).Nodup/\order.length+1=n/\pC n ((m:Int)::order)/\∀v:Int,0<=v->v<n->v=m\/v∈order:=by
 have a_:=(Jg h).1;unfold qR at h;rw[awb,decide_eq_true_eq,decide_eq_true_eq]at h;obtain⟨h1,h2⟩:=h;have ku:=adE _ _ (qf n m) h2 h1.symm
 have dD:∀v,v∈order↔(0<=v/\v<n)/\v≠m:=λv=>by
  rw[<-rT];exact⟨λhv=>Ep _ _ (qf n m) h2 h1.symm v hv,h2 v⟩
 have anN:((m:Int)::order).Nodup:=axi.2 ⟨λhx=>((dD _).1 hx).2 rfl,ku⟩
 have bS:∀v:Int,0<=v->v<n->v=m\/v∈order:=λv h0 hl=>by
  by_cases e:v=m
  .exact .inl e
  .exact .inr ((dD v).2 ⟨⟨h0,hl⟩,e⟩)
 have anO:pC n ((m:Int)::order):=λv hv=>by
  rcases aws.1 hv with rfl|hv
  .omega
  .exact a_ v hv
 have l1:=Ew _ (jx n) anN λv hv=>by
  rw[qe];exact anO v hv
 have l2:=Ew (jx n) ((m:Int)::order) (CM n) λv hv=>by
  rw[qe]at hv;rcases bS v hv.1 hv.2 with h|h
  .simp[h]
  .simp[h]
 rw[oQ]at l1 l2;simp at l1 l2;exact⟨anN,by omega,anO,bS⟩
theorem Yz(vs:List Int):∀(ts:List Tm) (i:Nat),(rS vs ts i).Pairwise (·<·)/\∀v∈rS vs ts i,(i:Int)<=v/\v<i+ts.length
 |[],_=>by simp[rS]
 |t::ts,i=>by
  obtain⟨h1,h2⟩:=Yz vs ts (i+1)
  have wH:∀v∈rS vs ts (i+1),(i:Int)<v/\v<i+(t::ts).length:=λv hv=>by
   have:=h2 v hv;simp;omega
  rw[rS];unfold Yc;split
  .refine⟨List.pairwise_append.2 ⟨by simp,h1,λa ha b hb=>?_⟩,λv hv=>?_⟩
   .obtain rfl:=awo.1 ha;exact(wH b hb).1
   .rcases awm.1 hv with hv|hv
    .obtain rfl:=awo.1 hv;simp;omega
    .have:=wH v hv;omega
  .exact⟨by simpa using h1,λv hv=>by have:=wH v (by simpa using hv);omega⟩
theorem Q9(hs:List At):∀(vs done:List Int) (k:Nat) (ps:List Int),(eI hs done vs)[k]?=aa ps->∃v d,vs[k]?=aa v/\ps=p6 hs d (kE hs v)
 |[],_,k,_,h=>by simp[eI]at h
 |v::vs,done,0,ps,h=>by
  rw[eI]at h;simp at h;exact⟨v,done,rfl,h.symm⟩
 |v::vs,done,k+1,ps,h=>by
  rw[eI]at h;exact Q9 hs vs _ k ps (by simpa using h)
theorem Ip{ts:List Tm}:∀{ps:List Int},(∀v∈ps,0<=v/\v<ts.length)->(nU ts ps).length=ps.length
 |[],_=>rfl
 |v::ps,h=>by
  have ih:=Ip (ps:=ps) λu hu=>h u (awI _ hu);obtain⟨h0,h1⟩:=h v ay
  have e:Dy ts v=[ts[v.toNat]]:=by
   unfold Dy;rw[if_pos h0,av_ aj]
  unfold nU at*
  rw[axP,e,awi,ih];simp;omega
def Py{hs:List At}{n:Nat}{a:At}(h:hs[n]?=aa a):kE hs n=a.ts:=by
 unfold kE;rw[if_pos aj,show((n:Int)).toNat=n from rfl,h]
theorem nC{h:Int}{kn:List Int}:∀{ts:List Tm} {i:Nat} {x:In},x∈dI h kn ts i->∃(j:Nat) (t:Tm),t∈ts/\i<=j/\j<i+ts.length/\x=⟨1,h,(j:Int),eV,[t]⟩
 |[],_,_,hx=>by simp[dI]at hx
 |t::ts,i,x,hx=>by
  rw[dI]at hx;rcases awm.1 hx with hx|hx
  .split at hx
   .cases hx
   .obtain rfl:=awo.1 hx;exact⟨i,t,by simp,by omega,by simp,rfl⟩
  .obtain⟨j,u,h1,h2,h3,rfl⟩:=nC hx;exact⟨j,u,by simp[h1],by omega,by simp;omega,rfl⟩
def adF{gs:List Gl}{l:List Int}(hl:wv gs.length l){x:In}(hx:x∈dB gs l):∃g∈gs,x=⟨2,0,0,g,[]⟩:=by
 obtain⟨v,hv,rfl⟩:=awB.1 hx;obtain⟨h0,h1⟩:=hl v hv;have ak:v.toNat<gs.length:=aj;exact⟨gs[v.toNat],awd ak,by rw[av_ ak];rfl⟩
def Gi{hs:List At}{n:Int}{a:At}{es:List Int}{x:In}(hx:x∈gL hs n a es):∃e∈es,x=⟨4,n,e,eV,[]⟩:=by
 obtain⟨e,he,hx⟩:=axq.1 hx;unfold nw at hx;split at hx
 .split at hx
  .obtain rfl:=awo.1 hx;exact⟨e,he,rfl⟩
  .cases hx
 .cases hx
def ajI(l:List Int):(Bg l).length<=l.length:=by
 unfold Bg
 have key:∀(l acc:List Int),(l.foldl (λacc x=>if x∈acc then acc else acc++[x]) acc).length<=acc.length+l.length:=by
  intro l;induction l with
  |nil=>intro acc;simp
  |cons x l ih=>
   intro acc;rw[List.foldl_cons];refine awy (ih _) ?_;split<;>simp<;>omega
 have:=key l [];simpa using this
def YA(l:List Tm)(h:∀t∈l,(gC t).length<=jC t):(eA l).length<=cQ l:=by
 induction l with
 |nil=>simp[eA]
 |cons t l ih=>
  have h1:=h t ay;have h2:=ih λu hu=>h u (by simp[hu]);unfold eA at*
  simp[cQ]at*;omega
theorem YB:∀t:Tm,(gC t).length<=jC t
 |.mk k n s ts=>by
  have h:=YA (bX (.mk k n s ts)) λu hu=>YB u;by_cases e:k=1
  .subst e;have:=XW (.mk 1 n s ts);simp[gC];omega
  .rw[QQ (by simpa[Tm.k]using e),tJ];omega
 decreasing_by have:=rJ hu;simp[Tm.ts]at this;have:=List.sizeOf_lt_of_mem this;simp;omega
theorem Iq{α:Type}(f:α->List Tm)(b:Nat):∀(l:List α),(∀a∈l,cQ (f a)<=b)->cQ (l.map f).flatten<=b*l.length
 |[],_=>by simp[cQ]
 |a::l,h=>by
  have h1:=h a ay;have h2:=Iq f b l λu hu=>h u (by simp[hu]);rw[awZ,List.flatten_cons,xV,awJ,Nat.mul_add];omega
section
structure Pl(p:Pg)(x:Pn)(i m:Nat)(r:Rl):Prop where
 sp:oe p
 ok:Em p
 oc:H7 p x.o i m r
 rt:Er p x=ab
section
variable{p:Pg}{x:Pn}{i m:Nat}{r:Rl}
def Pl.mem(h:Pl p x i m r):r∈p.aV:=awq h.oc.ru
def Pl.Ey(h:Pl p x i m r):zy p.bN r:=h.ok.r r h.mem
def Pl.sm(h:Pl p x i m r):oa r:=h.sp.rs r h.mem
def Pl.nm(h:Pl p x i m r):qP r:=h.sp.rn r h.mem
def Pl.len(h:Pl p x i m r):(r.aw++r.az).length<=3:=by rw[awi];exact h.sm.h
def Pl.right(h:Pl p x i m r):qR (r.aw++r.az).length m x.aJ=ab/\x=oR r x.o x.aJ:=by
 have:=h.rt;rw[CN h.oc,awb,decide_eq_true_eq]at this;exact this
def Pl.all(h:Pl p x i m r):(x.o.h::x.aJ).Nodup/\x.aJ.length+1=(r.aw++r.az).length/\pC (r.aw++r.az).length (x.o.h::x.aJ)/\∀v:Int,0<=v->v<(r.aw++r.az).length->v=x.o.h\/v∈x.aJ:=by
 rw[h.oc.oh];exact agd h.oc.lt h.right.1
theorem Pl.dQ(h:Pl p x i m r):x.dQ=eI (r.aw++r.az) [x.o.h] x.aJ:=congrArg Pn.dQ h.right.2
theorem Pl.dt(h:Pl p x i m r):x.dt=eH (r.aw++r.az) r.aG (x.o.h::x.aJ):=congrArg Pn.dt h.right.2
def Pl.V8(h:Pl p x i m r):Good p x i m r:=Yn h.sp h.oc h.rt
def Pl.head(h:Pl p x i m r):∃a,(r.aw++r.az)[m]?=aa a/\kE (r.aw++r.az) x.o.h=a.ts:=by
 have he:=av_ h.oc.lt;exact⟨_,he,by rw[h.oc.oh];exact Py he⟩
def Pl.at_(h:Pl p x i m r){k:Nat}(hk:k<x.aJ.length):∃n a ps te,Jh p x k i n r a ps te/\n<(r.aw++r.az).length/\ps.Pairwise (·<·)/\(∀v∈ps,0<=v/\v<a.ts.length)/\ps.length<=a.ts.length/\a.ts.length<=8/\te.length<=6:=by
 obtain⟨n,a,ps,te,hp,ha,ht⟩:=h.V8.part k hk;have ya:=hp.h.kn;rw[h.dQ]at ya;obtain⟨v,d,hv,rfl⟩:=Q9 _ _ _ _ _ ya;obtain rfl:v=(n:Int):=ayh (hv.symm.trans hp.h.od);rw[Py hp.h.hd]at hp;obtain⟨h1,h2⟩:=Yz (varsOf (lK (r.aw++r.az) d)) a.ts 0;refine⟨n,a,_,te,hp,(awa.1 hp.h.hd).1,h1,λv hv=>?_,Gg _ _ _,ha,ht⟩;have:=h2 v hv;omega
def Pl.auS(h:Pl p x i m r){a:At}(ha:a∈r.aw++r.az){ps:List Int}(h1:ps.Pairwise (·<·))(h2:∀v∈ps,0<=v/\v<a.ts.length):DA ⟨a.s,a.ts.length,ps⟩:=by
 have hr:=h.Ey.hs a ha;simp only[lk,awb,decide_eq_true_eq]at hr;exact⟨hr.1.1,⟨by simp only;omega,by simp only;omega⟩,h1,h2⟩
def Pl.plA(h:Pl p x i m r):PlA p DA x:=by
 refine⟨by have:=h.all.2.1;have:=h.len;omega,λk hk=>?_⟩;obtain⟨n,a,ps,te,hp,_,h1,h2,h3,h4,_⟩:=h.at_ hk;exact⟨i,n,r,a,ps,hp.h,by omega,h.auS (awq hp.h.hd) h1 h2⟩
variable{acc:List Ac}
def Pl.pick(h:Pl p x i m r)(hc:wy p x x.aJ.length acc){k:Nat}(hk:k<x.aJ.length):∃j:Nat,CS (r.aw++r.az) acc x k=j/\acc[j]?=aa (V6 (r.aw++r.az) x k):=by
 rw[af9];exact ajG (hc i r h.oc.ru h.oc.or k hk)
def Pl.auT(h:Pl p x i m r)(hc:wy p x x.aJ.length acc):∀k<x.aJ.length,0<=CS (r.aw++r.az) acc x k:=λk hk=>by
 obtain⟨j,hj,_⟩:=h.pick hc hk;omega
theorem Q_{hs:List At}{gs:List Gl}{base:List In}{a:In}:∀{k:Nat},a∈eu hs gs acc x base k->a∈base\/∃j,j<k/\a∈CT hs gs acc x j
 |0,h=>.inl h
 |k+1,h=>by
  rw[eu]at h;rcases awm.1 h with h|h
  .rcases Q_ h with h|⟨j,h1,h2⟩
   .exact .inl h
   .exact .inr ⟨j,by omega,h2⟩
  .exact .inr ⟨k,by omega,h⟩
def Pl.code(h:Pl p x i m r)(hc:wy p x x.aJ.length acc){P:In->Prop}
 (hmt:∀(n:Nat) (a:At) (j:Nat) (t:Tm),(r.aw++r.az)[n]?=aa a->t∈a.ts->j<a.ts.length->P ⟨1,n,j,eV,[t]⟩)
 (wO:∀g∈r.aG,P ⟨2,0,0,g,[]⟩)
 (hfd:∀(n:Nat) (a:At) (j:Nat) (ts:List Tm),(r.aw++r.az)[n]?=aa a->(∀t∈ts,t∈a.ts)->ts.length<=a.ts.length->P ⟨3,n,j,eV,ts⟩)
 (hap:∀(n e:Int),0<=n->n<(r.aw++r.az).length->0<=e->e<(r.aw++r.az).length->n≠e->P ⟨4,n,e,eV,[]⟩)
 (qW:P (mz x.o.r (r.aw++r.az).length))(GA:∀n:Nat,n<(r.aw++r.az).length->P (uQ n))(gR:P xW)(bR:P (ug x.o.r (r.aw++r.az).length))(hpu:∀g∈r.bc,P (Nc g))(hcm:P (za x.o.r r.vars)):
 ∀a∈ga r acc x,P a:=by
 intro y hy;obtain⟨ku,hl,anP,bS⟩:=h.all;obtain⟨a0,ha0,Mb⟩:=h.head;obtain⟨t0,t1,e0,e1,_,_,to0,to1⟩:=h.V8.t
 have age:∀l,wv r.aG.length l->∀y∈dB r.aG l,P y:=λl hl y hy=>by
  obtain⟨g,hg,rfl⟩:=adF hl hy;exact wO g hg
 unfold ga lM at hy;rcases awm.1 hy with hy|hy
 rotate_left
 .obtain rfl:=awo.1 hy;exact hcm
 rcases awm.1 hy with hy|hy
 rotate_left
 .unfold lL at hy;rw[ay1,awB]at hy;obtain⟨g,hg,rfl⟩:=hy;exact hpu g hg
 rcases awm.1 hy with hy|hy
 rotate_left
 .unfold pG at hy;split at hy
  .obtain rfl:=awo.1 hy;exact bR
  .cases hy
 rcases awm.1 hy with hy|hy
 rotate_left
 .unfold pF at hy;split at hy
  .obtain rfl:=awo.1 hy;exact gR
  .cases hy
 rcases awm.1 hy with hy|hy
 rotate_left
 .unfold mA at hy;obtain⟨j,hj,rfl⟩:=awB.1 hy;rw[List.mem_range]at hj;exact GA _ aj
 have hy:y∈eu (r.aw++r.az) r.aG acc x (gT r x) x.aJ.length\/y=mz x.o.r (r.aw++r.az).length:=by
  unfold sV at hy;split at hy
  .rcases awm.1 hy with hy|hy
   .exact .inl hy
   .exact .inr (awo.1 hy)
  .exact .inl hy
 rcases hy with hy|rfl
 rotate_left
 .exact qW
 rcases Q_ hy with hy|⟨k,hk,hy⟩
 .unfold gT at hy;rw[awS,awS,e0,e1]at hy;rcases awm.1 hy with hy|hy
  .rcases awm.1 hy with hy|hy
   .obtain⟨j,t,h1,_,h3,rfl⟩:=nC hy;rw[Mb]at h1 h3;rw[h.oc.oh];exact hmt m a0 j t ha0 h1 aj
   .exact age _ to0 y hy
  .exact age _ to1 y hy
 .obtain⟨n,a,ps,te,hp,hn,h1,h2,h3,h4,h5⟩:=h.at_ hk;rw[ny hp acc]at hy;unfold l7 at hy;have hod:=hp.h.od;obtain⟨eX,a_⟩:=awa.1 hod;rcases aws.1 hy with rfl|hy
  .obtain⟨j,hj,_⟩:=h.pick hc hk;rw[Ia hp acc]at hj;rw[hj];exact hfd n a j _ hp.h.hd (λt ht=>af2 ht) (by rw[Ip h2];exact h3)
  rcases awm.1 hy with hy|hy
  .rcases awm.1 hy with hy|hy
   .obtain⟨e,he,rfl⟩:=Gi hy
    have Xe:e∈x.o.h::x.aJ:=by
     rcases aws.1 he with rfl|he
     .simp
     .exact awI _ (axv he)
    obtain⟨e1,e2⟩:=anP e Xe;refine hap n e aj aj e1 e2 λbg=>?_;subst bg;rw[axi]at ku;rcases aws.1 he with he|he
    .exact ku.1 (he▸a_▸awd eX)
    .obtain⟨q,hq,hqe⟩:=az2.1 he;have S2:=ayU.1 ku.2 q k aj eX aj;exact S2 (hqe.trans a_.symm)
   .obtain⟨j,t,g1,_,g3,rfl⟩:=nC hy;exact hmt n a j t hp.h.hd g1 aj
  .exact age _ hp.tv y hy
def adG{l:List Tm}(h:lj l=ab):∀t∈l,my t=ab:=λt ht=>by
 simp only[lj,my,awb,decide_eq_true_eq,List.all_eq_true]at*
 have h1:=F1 ht;have h2:=KZ ht;exact⟨⟨h.1.1 t ht,by omega⟩,by omega⟩
def CZ{a:At}(h:lk a=ab):a.ts.length<=6/\cQ a.ts<=200/\∀t∈a.ts,my t=ab:=by
 have h':=h;simp only[lk,awb,decide_eq_true_eq]at h';have h2:=h'.2;simp only[lj,awb,decide_eq_true_eq]at h2;exact⟨h'.1.2,h2.1.2,adG h'.2⟩
def Ra{g:Gl}(h:fx g=ab):cQ g.ts<=200/\(g.op≠0->jB g.op=g.ts.length):=by
 unfold fx at h;split at h
 .rename_i h0;exact⟨(CZ h).2.1,λh1=>absurd h0 h1⟩
 .simp only[awb,decide_eq_true_eq,lj]at h;exact⟨h.2.1.2,λ_=>h.1.2⟩
def ajJ{g:Gl}(h:fx g=ab)(hb:uM g.op=af):g.op<=4:=by
 by_cases h0:g.op=0
 .omega
 have h1:=(Ra h).2 h0;unfold jB at h1;simp only[uM,aAh,decide_eq_false_iff_not]at hb;apply aw2;intro h5;have h13:12<g.op:=aj;rw[if_neg aj,if_neg aj,if_neg aj]at h1;omega
theorem Pl.vars(h:Pl p x i m r):0<=r.vars/\r.vars<=1048576:=by
 have hv:=h.Ey.v.2;have h1:(varsOf (pA r)).length<=(eA (pA r)).length:=ajI _;have h2:=YA (pA r) λt _=>YB t
 have h3:cQ (pA r)<=200*(r.aw++r.az).length+200*(r.aG++r.bc).length:=by
  unfold pA fz nj;rw[xV];have a1:=Iq At.ts 200 (r.aw++r.az) λa ha=>(CZ (h.Ey.hs a ha)).2.1;have a2:=Iq Gl.ts 200 (r.aG++r.bc) λg hg=>(Ra (h.Ey.gs g hg)).1;omega
 have h4:=h.len;have h5:=h.sm.g;have h6:=h.sm.b;have h7:(r.aG++r.bc).length=r.aG.length+r.bc.length:=awi;omega
def Pl.rule(h:Pl p x i m r):0<=x.o.r/\x.o.r<40/\x.o.r<p.aV.length:=by
 have h1:=(awa.1 h.oc.ru).1;have h2:=h.sp.r;rw[h.oc.or];omega
def Pl.ins(h:Pl p x i m r)(hc:wy p x x.aJ.length acc):∀a∈ga r acc x,oS a:=by
 have hl:=h.len;obtain⟨v0,v1⟩:=h.vars;obtain⟨r0,r1,_⟩:=h.rule;have hN:1<=(r.aw++r.az).length:=by have:=h.all.2.1;omega
 have eN:=h.nm.hs;refine h.code hc (λn a j t hn ht hj=>?_) (λg hg=>?_) (λn a j ts hn ht cz=>?_) (λn e n0 n1 e0 e1 bg=>?_) ?_ (λn hn=>?_) .kp ?_ (λg hg=>?_) ?_
 .have hm:=awq hn;have ak:=(awa.1 hn).1;have hra:=CZ (h.Ey.hs a hm);exact .mt n j t aj aj aj aj ((eN a hm).2.2 t ht) (hra.2.2 t ht)
 .have wN:=aw3 r.bc hg;refine .ts g (h.nm.gs g wN) (h.Ey.gs g wN) ?_;rcases h.Ey.m.g g hg with h1|h1
  .simp only[uM,awb,decide_eq_true_eq]at h1;exact .inr h1.1
  .exact .inl h1
 .have hm:=awq hn;have ak:=(awa.1 hn).1;have hra:=CZ (h.Ey.hs a hm);exact .fd n j ts aj aj aj aj λt wO=>⟨(eN a hm).2.2 t (ht t wO),hra.2.2 t (ht t wO)⟩
 .exact .ap n e n0 aj e0 aj bg
 .exact .fr _ _ r0 r1 aj aj
 .exact .rm n aj aj
 .exact .nt _ _ r0 r1 aj aj
 .have wN:=axg r.aG hg;exact .pu g (h.nm.gs g wN) (h.Ey.gs g wN) (ajJ (h.Ey.gs g wN) (h.Ey.m.b g hg))
 .exact .cm _ _ r0 r1 v0 v1
end
theorem mQ.stay{o:Oc}{s:Sf}:∀{c:List In},(∀i∈c,zz o s i s)->mQ o s c s
 |[],_=>rfl
 |i::_,h=>⟨s,h i ay,mQ.stay λj hj=>h j (awI _ hj)⟩
def gE(x:Pn)(k:Nat)(v:Int):Bool:=decide (v=x.o.h\/v∈x.aJ.take k)
def Bw(x:Pn)(k:Nat):Sf:=⟨-1,0,af,af,gE x k,[]⟩
def Jj{x:Pn}{k:Nat}{v:Int}(h:v=x.o.h\/v∈x.aJ.take k):gE x k v=ab:=decide_eq_true h
def anQ(x:Pn):VX x.o.h=Bw x 0:=by
 unfold VX Bw
 congr 1
 funext v;unfold gE;simp[Bool.beq_eq_decide_eq]
def anR(x:Pn){k:Nat}(hk:k<x.aJ.length):({Bw x k with b:=λv=>v==x.aJ[k]||(Bw x k).b v}:Sf)=Bw x (k+1):=by
 unfold Bw;simp only
 congr 1
 funext v;unfold gE;rw[awh hk,axZ];simp only[awO,beq_iff_eq,decide_eq_true_eq,awm,awo];constructor
 .rintro(h|h|h)
  .exact .inr (.inr h)
  .exact .inl h
  .exact .inr (.inl h)
 .rintro(h|h|h)
  .exact .inr (.inl h)
  .exact .inr (.inr h)
  .exact .inl h
section
variable{p:Pg}{x:Pn}{i m:Nat}{r:Rl}{acc:List Ac}
def Pl.Ek(h:Pl p x i m r){v:Int}(hv:v∈x.o.h::x.aJ):0<=v/\v<4:=by
 have h1:=h.all.2.2.1 v hv;have h2:=h.len;omega
def Lq{o:Oc}{s:Sf}{gs:List Gl}{l:List Int}(hs:s.dO=0):∀y∈dB gs l,zz o s y s:=λy hy=>by
 obtain⟨v,_,rfl⟩:=awB.1 hy;exact .ts s _ rfl hs
def Pl.anS(h:Pl p x i m r):mQ x.o (Bw x 0) (gT r x) (Bw x 0):=by
 refine mQ.stay λy hy=>?_;unfold gT at hy;rcases awm.1 hy with hy|hy
 .rcases awm.1 hy with hy|hy
  .obtain⟨j,t,_,_,_,rfl⟩:=nC hy;have:=h.Ek (v:=x.o.h) ay;exact .mt _ _ rfl this.1 this.2 (Jj (.inl rfl)) rfl
  .exact Lq rfl y hy
 .exact Lq rfl y hy
def Pl.anT(h:Pl p x i m r){k:Nat}(hk:k<x.aJ.length):mQ x.o (Bw x k) (CT (r.aw++r.az) r.aG acc x k) (Bw x (k+1)):=by
 obtain⟨ku,hl,anP,bS⟩:=h.all;obtain⟨n,a,ps,te,hp,hn,_⟩:=h.at_ hk;rw[ny hp acc];unfold l7;obtain⟨eX,a_⟩:=awa.1 hp.h.od;have dD:(n:Int)∈x.aJ:=a_▸awd eX;have Pz:=h.Ek (awI _ dD)
 have lz:gE x k n=af:=by
  unfold gE;rw[decide_eq_false_iff_not];rw[axi]at ku;rintro(he|he)
  .exact ku.1 (he▸dD)
  .obtain⟨q,hq,hqe⟩:=az2.1 he;have S2:=ayU.1 ku.2 q k aj eX aj;exact S2 (hqe.trans a_.symm)
 have zj:gE x (k+1) n=ab:=Jj (.inr (by rw[awh eX,a_];simp));refine⟨Bw x (k+1),?_,mQ.stay λy hy=>?_⟩
 .have:=zz.fd (o:=x.o) (Bw x k) ⟨3,n,tn acc ⟨a.s,a.ts.length,ps⟩,eV,nU a.ts ps⟩ rfl Pz.1 Pz.2 lz rfl;have he:=anR x eX;rw[a_]at he;simp only at this;rw[he]at this;exact this
 .rcases awm.1 hy with hy|hy
  .rcases awm.1 hy with hy|hy
   .obtain⟨e,he,rfl⟩:=Gi hy
    have Xe:e∈x.o.h::x.aJ/\gE x (k+1) e=ab:=by
     rcases aws.1 he with rfl|he
     .exact⟨by simp,Jj (.inl rfl)⟩
     .exact⟨awI _ (axv he),Jj (.inr (by rw[awh eX];exact aw3 _ he))⟩
    have hre:=h.Ek Xe.1;exact .ap _ _ rfl Pz.1 Pz.2 zj hre.1 hre.2 Xe.2 rfl
   .obtain⟨j,t,_,_,_,rfl⟩:=nC hy;exact .mt _ _ rfl Pz.1 Pz.2 zj rfl
  .exact Lq rfl y hy
theorem Pl.ahQ(h:Pl p x i m r):∀k,k<=x.aJ.length->mQ x.o (Bw x 0) (eu (r.aw++r.az) r.aG acc x (gT r x) k) (Bw x k)
 |0,_=>h.anS
 |k+1,hk=>by
  rw[eu];exact(h.ahQ k aj).app (h.anT hk)
def Pl.bound(h:Pl p x i m r){v:Int}(h0:0<=v)(h1:v<(r.aw++r.az).length):gE x x.aJ.length v=ab:=by
 rcases h.all.2.2.2 v h0 h1 with e|e
 .exact Jj (.inl e)
 .exact Jj (.inr (by rw[awr (awe _)];exact e))
structure Tl(x:Pn)(r:Rl)(rm:Bool)(s:Sf):Prop where
 b:s.b=gE x x.aJ.length
 fr:r.az=[]->((r.aw++r.az).length:Int)∈s.fr
 rm:s.rem=rm
def Pl.ajK(h:Pl p x i m r):∃s,mQ x.o (Bw x 0) (sV x r (eu (r.aw++r.az) r.aG acc x (gT r x) x.aJ.length)) s/\Tl x r af s/\s.last= -1/\s.dO=0/\s.kept=af:=by
 have h1:=h.ahQ (acc:=acc) _ (awe _);have hN:=h.all.2.1;have hl:=h.len;unfold sV;split
 .rename_i he;refine⟨_,h1.app (mQ.one (.fr _ _ rfl (by simp only[mz];omega) (by simp only[mz];omega) (λv h0 hv=>h.bound h0 hv) rfl rfl)),⟨rfl,λ_=>?_,rfl⟩,rfl,rfl,rfl⟩;simp only[mz];exact yJ.2 (.inr rfl)
 .rename_i he;exact⟨_,h1,⟨rfl,λh=>absurd h he,rfl⟩,rfl,rfl,rfl⟩
theorem Pl.ahR(h:Pl p x i m r){s:Sf}(hs:Tl x r af s)(hl:s.last= -1)(hg:s.dO=0)(hk:s.kept=af):∀d,r.aw.length+d<=(r.aw++r.az).length->
 ∃t,mQ x.o s (mA r.aw.length (r.aw.length+d)) t/\Tl x r (decide (r.aw.length<=m/\m<r.aw.length+d)) t/\t.last<(r.aw.length+d:Nat)/\t.dO<=1/\t.kept=af
 |0,_=>⟨s,by rw[aze,Nd];rfl,⟨hs.b,hs.fr,by rw[hs.rm,decide_eq_false aj]⟩,by omega,by omega,hk⟩
 |d+1,hd=>by
  obtain⟨t,h1,h2,h3,h4,h5⟩:=h.ahR hs hl hg hk d aj;have hlen:=h.len;have hb:t.b ((r.aw.length+d:Nat):Int)=ab:=by rw[h2.b];exact h.bound aj aj
  rw[<-ax2,CQ aj];refine⟨_,h1.app (mQ.one (.rm t (uQ (r.aw.length+d:Nat)) rfl (by simp only[uQ];omega) (by simp only[uQ];omega) hb h3 h4)),⟨h2.b,h2.fr,?_⟩,by simp only[uQ];omega,by simp only;omega,h5⟩;simp only[uQ];rw[h2.rm,h.oc.oh,axZ];simp only[awO,decide_eq_true_eq,beq_iff_eq];omega
theorem adH{o:Oc}:∀(gs:List In) (s:Sf),(∀y∈gs,y.op=9)->s.dO<=4->∃t,mQ o s gs t/\t.dO<=4/\t.rem=s.rem/\t.kept=s.kept
 |[],s,_,hs=>⟨s,rfl,hs,rfl,rfl⟩
 |y::gs,s,hy,hs=>by
  obtain⟨t,h1,h2,h3,h4⟩:=adH (o:=o) gs {s with dO:=4} (λz hz=>hy z (awI _ hz)) ay;exact⟨t,⟨_,.pu s y (hy y ay) hs,h1⟩,h2,h3,h4⟩
def Pl.formed(h:Pl p x i m r):∃t,mQ x.o (VX x.o.h) (ga r acc x) t/\t.dO=5/\t.rem=(!x.o.k)/\(t.kept=ab->x.o.k=ab):=by
 rw[anQ];obtain⟨s,h1,h2,h3,h4,h5⟩:=h.ajK (acc:=acc);have hle:r.aw.length+r.az.length=(r.aw++r.az).length:=awi.symm;obtain⟨t,g1,g2,g3,g4,g5⟩:=h.ahR h2 h3 h4 h5 r.az.length aj;rw[hle]at g1 g2 g3
 have anU:t.rem= !x.o.k:=by
  rw[g2.rm,h.oc.ok,axZ];have:=h.oc.lt;simp only[Bool.not_eq_true',decide_eq_false_iff_not,decide_eq_true_eq];omega
 have hN:=h.all.2.1;have hlen:=h.len
 obtain⟨u,k1,k2,k3,k4⟩:∃u,mQ x.o t (pF (x.o.k&& !jg (rR r) r.bc)) u/\Tl x r (!x.o.k) u/\u.dO<=2/\(u.kept=ab->x.o.k=ab):=by
  unfold pF;split
  .rename_i hk;rw[awb]at hk;exact⟨_,mQ.one (.kp t xW rfl aj),⟨g2.b,g2.fr,anU⟩,by simp,λ_=>hk.1⟩
  .exact⟨t,rfl,⟨g2.b,g2.fr,anU⟩,by omega,λhk=>by rw[g5]at hk;cases hk⟩
 obtain⟨w,n1,n2,n3,n4⟩:∃w,mQ x.o u (pG (decide (r.az=[])) x.o.r (r.aw++r.az).length) w/\w.dO<=3/\w.rem=(!x.o.k)/\(w.kept=ab->x.o.k=ab):=by
  unfold pG;split
  .rename_i hk;rw[decide_eq_true_eq]at hk;exact⟨_,mQ.one (.nt u (ug x.o.r (r.aw++r.az).length) rfl (by simp only[ug];omega) (by simp only[ug];omega) (λv h0 hv=>by rw[k2.b];exact h.bound h0 hv) (k2.fr hk) rfl aj),by simp,k2.rm,k4⟩
  .exact⟨u,rfl,by omega,k2.rm,k4⟩
 obtain⟨z,p1,p2,p3,p4⟩:=adH (o:=x.o) (lL r.bc) w (λy hy=>by
  unfold lL at hy;rw[ay1,awB]at hy;obtain⟨g,_,rfl⟩:=hy;rfl) aj
 refine⟨_,((((h1.app g1).app k1).app n1).app p1).app (mQ.one (.cm z (za x.o.r r.vars) rfl rfl aj)),rfl,?_,?_⟩
 .rw[<-n3,<-p3]
 .rw[p4];exact n4
def Pl.auU(h:Pl p x i m r)(hc:wy p x x.aJ.length acc)(hl:(ga r acc x).length<=200):af6 x.o (ga r acc x):=by
 obtain⟨r0,r1,_⟩:=h.rule;exact⟨hl,⟨r0,r1⟩,h.Ek ay,h.ins hc,h.formed⟩
end
theorem mR.stay{acc:List Ac}{U:List De}{s:Sb}:∀{c:List In},(∀i∈c,Il acc U s i s)->mR acc U s c s
 |[],_=>rfl
 |i::_,h=>⟨s,h i ay,mR.stay λj hj=>h j (awI _ hj)⟩
def dA(a:At):De:=⟨a.s,a.ts.length⟩
structure PB(hs:List At)(x:Pn)(k:Nat)(s:Sb):Prop where
 H:∀v d,s.H v=aa d↔(v=x.o.h\/v∈x.aJ.take k)/\∃a,hs[v.toNat]?=aa a/\d=dA a
 A:∀v w d,s.H v=aa d->s.H w=aa d->v≠w->s.A (v,w)=ab
def Ir{acc:List Ac}{U:List De}{s:Sb}{gs:List Gl}{l:List Int}:∀y∈dB gs l,Il acc U s y s:=λy hy=>by
 obtain⟨v,_,rfl⟩:=awB.1 hy;exact .no s _ ay ay ay ay
theorem PA{acc:List Ac}{U:List De}{hs:List At}{n:Int}{a:At}:∀(es:List Int) (s:Sb),∃t,mR acc U s (gL hs n a es) t/\t.H=s.H/\(∀p,s.A p=ab->t.A p=ab)/\
 ∀e∈es,∀b,hs[e.toNat]?=aa b->dA b=dA a->t.A (n,e)=ab/\t.A (e,n)=ab
 |[],s=>⟨s,rfl,rfl,λ_ h=>h,by intro e he;cases he⟩
 |e::es,s=>by
  by_cases ey:∃b,hs[e.toNat]?=aa b/\dA b=dA a
  .obtain⟨b,hb,hd⟩:=ey
   have h1:nw hs n a e=[⟨4,n,e,eV,[]⟩]:=by
    unfold nw;rw[hb];simp only;unfold dA at hd;have e1:=congrArg De.s hd;have e2:=congrArg De.n hd;simp only at e1 e2;rw[if_pos ⟨e1,by omega⟩]
   obtain⟨t,g1,g2,g3,g4⟩:=PA es ⟨s.H,λp=>decide (p=(e,n))||(decide (p=(n,e))||s.A p)⟩;refine⟨t,?_,g2,λp hp=>g3 p (by simp[hp]),λe' fM b' sH wF=>?_⟩
   .show mR acc U s ((e::es).flatMap (nw hs n a)) t;rw[axP,h1];exact⟨_,.ap s ⟨4,n,e,eV,[]⟩ rfl,g1⟩
   .rcases aws.1 fM with rfl|fM
    .exact⟨g3 _ ay,g3 _ ay⟩
    .exact g4 e' fM b' sH wF
  .have h1:nw hs n a e=[]:=by
    unfold nw;split
    .rename_i b hb;rw[if_neg];rintro⟨e1,e2⟩;exact ey ⟨b,hb,by unfold dA;rw[e1,e2]⟩
    .rfl
   obtain⟨t,g1,g2,g3,g4⟩:=PA es s;refine⟨t,?_,g2,g3,λe' fM b' sH wF=>?_⟩
   .show mR acc U s ((e::es).flatMap (nw hs n a)) t;rw[axP,h1];exact g1
   .rcases aws.1 fM with rfl|fM
    .exact absurd ⟨b',sH,wF⟩ ey
    .exact g4 e' fM b' sH wF
section
variable{p:Pg}{x:Pn}{i m:Nat}{r:Rl}{acc:List Ac}{U:List De}
def Pl.anV(h:Pl p x i m r){s:Sb}(hs:PB (r.aw++r.az) x 0 s):mR acc U s (gT r x) s:=by
 obtain⟨a0,ha0,Mb⟩:=h.head;refine mR.stay λy hy=>?_;unfold gT at hy;rcases awm.1 hy with hy|hy
 .rcases awm.1 hy with hy|hy
  .obtain⟨j,t,_,_,h3,rfl⟩:=nC hy;rw[Mb]at h3;refine .mt s _ (dA a0) rfl ((hs.H _ _).2 ⟨.inl rfl,a0,by simp only;rw[h.oc.oh];exact ha0,rfl⟩) ?_;simp only[dA];omega
  .exact Ir y hy
 .exact Ir y hy
def Pl.anW(h:Pl p x i m r)(hc:wy p x x.aJ.length acc){k:Nat}(hk:k<x.aJ.length){s:Sb}(hs:PB (r.aw++r.az) x k s):
 ∃t,mR acc U s (CT (r.aw++r.az) r.aG acc x k) t/\PB (r.aw++r.az) x (k+1) t:=by
 obtain⟨n,a,ps,te,hp,hn,mL,hp2,_⟩:=h.at_ hk;obtain⟨eX,a_⟩:=awa.1 hp.h.od;obtain⟨j,hj,hja⟩:=h.pick hc hk;have GG:=Ia hp acc
 have auV:V6 (r.aw++r.az) x k=⟨a.s,a.ts.length,ps⟩:=by
  obtain⟨e1,_,e3,_⟩:=Pe hp;unfold V6;rw[e1,e3]
 rw[GG]at hj;rw[auV]at hja
 have dD:∀v,v∈x.aJ.take (k+1)↔v∈x.aJ.take k\/v=n:=λv=>by
  rw[awh eX,a_,awm,awo]
 have auW:∀v d,(if v=(n:Int)then aa (dA a)else s.H v)=aa d↔(v=x.o.h\/v∈x.aJ.take (k+1))/\∃a,(r.aw++r.az)[v.toNat]?=aa a/\d=dA a:=λv d=>by
  by_cases e:v=(n:Int)
  .subst e;simp only[if_true,awf,ayX];constructor
   .rintro rfl;exact⟨.inr ((dD _).2 (.inr rfl)),a,hp.h.hd,rfl⟩
   .rintro⟨_,b,hb,rfl⟩;rw[hp.h.hd]at hb;cases hb;rfl
  .rw[if_neg e,hs.H,dD];constructor
   .rintro⟨h1,h2⟩;exact⟨h1.imp id .inl,h2⟩
   .rintro⟨h1,h2⟩;refine⟨?_,h2⟩;rcases h1 with h1|h1|h1
    .exact .inl h1
    .exact .inr h1
    .exact absurd h1 e
 obtain⟨t,g1,g2,g3,g4⟩:=PA (acc:=acc) (U:=U) (hs:=r.aw++r.az) (n:=n) (a:=a) (x.o.h::x.aJ.take k) ⟨λv=>if v=(n:Int)then aa (dA a)else s.H v,s.A⟩;have htH:∀v,t.H v=if v=(n:Int)then aa (dA a)else s.H v:=λv=>by rw[g2]
 refine⟨t,?_,λv d=>by rw[htH];exact auW v d,λv w d hv hw bg=>?_⟩
 .rw[ny hp acc];unfold l7;refine⟨_,Il.fd s ⟨3,n,tn acc ⟨a.s,a.ts.length,ps⟩,eV,nU a.ts ps⟩ j ⟨a.s,a.ts.length,ps⟩ rfl hj hja (Ip hp2),(g1.app (mR.stay λy hy=>?_)).app (mR.stay Ir)⟩;obtain⟨q,u,_,_,h3,rfl⟩:=nC hy;refine .mt t _ (dA a) rfl ?_ ?_
  .rw[htH];simp
  .simp only[dA];omega
 .rw[htH]at hv hw;by_cases e1:v=(n:Int)
  .subst e1;rw[if_pos rfl]at hv;rw[if_neg (ayz bg)]at hw;obtain⟨cB,b,dv,dL⟩:=(hs.H w d).1 hw;cases hv;exact(g4 w (by simpa using cB) b dv dL.symm).1
  .rw[if_neg e1]at hv;by_cases e2:w=(n:Int)
   .subst e2;rw[if_pos rfl]at hw;obtain⟨cB,b,dv,dL⟩:=(hs.H v d).1 hv;cases hw;exact(g4 v (by simpa using cB) b dv dL.symm).2
   .rw[if_neg e2]at hw;exact g3 _ (hs.A v w d hv hw bg)
theorem Pl.ahS(h:Pl p x i m r)(hc:wy p x x.aJ.length acc){s:Sb}(hs:PB (r.aw++r.az) x 0 s):∀k,k<=x.aJ.length->∃t,mR acc U s (eu (r.aw++r.az) r.aG acc x (gT r x) k) t/\PB (r.aw++r.az) x k t
 |0,_=>⟨s,h.anV hs,hs⟩
 |k+1,hk=>by
  obtain⟨t,h1,h2⟩:=h.ahS hc hs k aj;obtain⟨u,h3,h4⟩:=h.anW (U:=U) hc aj h2;exact⟨u,h1.app h3,h4⟩
def Pl.auX(h:Pl p x i m r)(hc:wy p x x.aJ.length acc){a0:At}(ha:(r.aw++r.az)[m]?=aa a0):
 ∃t,mR acc p.bN ⟨λv=>if v=x.o.h then aa (dA a0)else ah,λ_=>af⟩ (ga r acc x) t/\V3 t:=by
 have h0:PB (r.aw++r.az) x 0 ⟨λv=>if v=x.o.h then aa (dA a0)else ah,λ_=>af⟩:=by
  refine⟨λv d=>?_,λv w d hv hw bg=>?_⟩
  .simp only[List.take_zero,List.not_mem_nil,or_false];by_cases e:v=x.o.h
   .subst e;rw[if_pos rfl,h.oc.oh,ayX,ha];constructor
    .intro hd;cases hd;exact⟨rfl,a0,rfl,rfl⟩
    .rintro⟨_,b,hb,rfl⟩;cases hb;rfl
   .rw[if_neg e];constructor
    .intro hd;cases hd
    .rintro⟨hd,_⟩;exact absurd hd e
  .simp only at hv hw;by_cases e1:v=x.o.h
   .by_cases e2:w=x.o.h
    .exact absurd (e1.trans e2.symm) bg
    .rw[if_neg e2]at hw;cases hw
   .rw[if_neg e1]at hv;cases hv
 obtain⟨t,h1,h2⟩:=h.ahS (U:=p.bN) hc h0 _ (awe _);refine⟨t,?_,λv w d hvw hv hw=>h2.A v w d hv hw aj⟩;have Ol:∀y:In,y.op≠3->y.op≠1->y.op≠4->y.op≠9->Il acc p.bN t y t:=λy a b c d=>.no t y a b c d;unfold ga lM;refine(((((?_:mR acc p.bN _ _ t).app (mR.stay λy hy=>?_)).app (mR.stay λy hy=>?_)).app (mR.stay λy hy=>?_)).app (mR.stay λy hy=>?_)).app (mR.stay λy hy=>?_)
 .unfold sV;split
  .exact h1.app (mR.one (Ol _ (by simp[mz]) (by simp[mz]) (by simp[mz]) (by simp[mz])))
  .exact h1
 .unfold mA at hy;obtain⟨j,_,rfl⟩:=awB.1 hy;exact Ol _ (by simp[uQ]) (by simp[uQ]) (by simp[uQ]) (by simp[uQ])
 .unfold pF at hy;split at hy
  .obtain rfl:=awo.1 hy;exact Ol _ (by simp[xW]) (by simp[xW]) (by simp[xW]) (by simp[xW])
  .cases hy
 .unfold pG at hy;split at hy
  .obtain rfl:=awo.1 hy;exact Ol _ (by simp[ug]) (by simp[ug]) (by simp[ug]) (by simp[ug])
  .cases hy
 .unfold lL at hy;rw[ay1,awB]at hy;obtain⟨g,hg,rfl⟩:=hy;refine .pu t _ rfl λew=>?_;have:=h.Ey.m.c g (axg _ hg) ew;rw[yH]at this;obtain⟨d,hd,e1,e2⟩:=this;simp only[Nc];obtain⟨ds,dn⟩:=d;simp only at e1 e2;rw[<-e1,<-e2];exact hd
 .obtain rfl:=awo.1 hy;exact Ol _ (by simp[za]) (by simp[za]) (by simp[za]) (by simp[za])
def Pl.agf(h:Pl p x i m r):(ga r acc x).length<=200:=by
 obtain⟨a0,ha0,Mb⟩:=h.head;obtain⟨t0,t1,e0,e1,l0,l1,_⟩:=h.V8.t;have ey:=h.sm.hs a0 (awq ha0)
 have hb:(gT r x).length<=20:=by
  unfold gT;rw[awS,awS,e0,e1,Mb];have:=wu x.o.h [] a0.ts 0;simp[dB];omega
 have h1:=Ib h.V8 acc (gT r x) x.aJ.length (awe _);have h2:=h.all.2.1;have h3:=h.len;have h4:=h.sm.b
 have h5:(sV x r (eu (r.aw++r.az) r.aG acc x (gT r x) x.aJ.length)).length<=111:=by
  unfold sV;split
  .simp;omega
  .omega
 have hk:∀b,(pF b).length<=1:=λb=>by unfold pF;split<;>simp
 have hn:∀b q w,(pG b q w).length<=1:=λb q w=>by unfold pG;split<;>simp
 have cH:=hk (x.o.k&& !jg (rR r) r.bc);have oX:=hn (decide (r.az=[])) x.o.r (r.aw++r.az).length;have hr:=Lj r.aw.length (r.aw++r.az).length;have hpu:(lL r.bc).length=r.bc.length:=by simp[lL]
 unfold ga lM;rw[awi,awi,awi,awi,awi];simp only[awJ,List.length_nil];omega
end
def gM(op:Int)(c:List In):Nat:=c.countP λi=>decide (i.op=op)
def gZ(op:Int)(a b:List In):gM op (a++b)=gM op a+gM op b:=List.countP_append
def nD{op:Int}{c:List In}(h:∀i∈c,i.op≠op):gM op c=0:=by
 unfold gM;rw[List.countP_eq_zero];intro i hi;simpa using h i hi
def Jk{op:Int}{c:List In}(h:∀i∈c,i.op=op):gM op c=c.length:=by
 unfold gM;rw[aAj];intro i hi;simpa using h i hi
def kF(kl:Nat):Nat->List In->Nat->Prop
 |n,[],t=>n=t
 |n,i::c,t=>if i.op=6 then i.a=(kl+n:Nat)/\kF kl (n+1) c t else kF kl n c t
theorem kF.app{kl:Nat}:∀{a b:List In} {s t u:Nat},kF kl s a t->kF kl t b u->kF kl s (a++b) u
 |[],_,_,_,_,h1,h2=>by cases h1;exact h2
 |i::a,b,s,t,u,h1,h2=>by
  unfold kF at h1;show kF kl s (i::(a++b)) u;unfold kF;split
  .rename_i e;rw[if_pos e]at h1;exact⟨h1.1,h1.2.app h2⟩
  .rename_i e;rw[if_neg e]at h1;exact h1.app h2
theorem kF.no{kl s:Nat}:∀{c:List In},(∀i∈c,i.op≠6)->kF kl s c s
 |[],_=>rfl
 |i::c,h=>by
  unfold kF;rw[if_neg (h i ay)];exact kF.no λj hj=>h j (awI _ hj)
theorem kF.rem(kl:Nat):∀d,kF kl 0 (mA kl (kl+d)) d
 |0=>by rw[aze,Nd];rfl
 |d+1=>by
  rw[<-ax2,CQ aj];refine(kF.rem kl d).app ?_;unfold kF;rw[if_pos (show(uQ ((kl+d:Nat):Int)).op=6 from rfl)];exact⟨rfl,rfl⟩
section
variable{p:Pg}{x:Pn}{i m:Nat}{r:Rl}{acc:List Ac}
def uS{h:Int}{kn:List Int}{ts:List Tm}:∀y∈dI h kn ts 0,y.op=1:=λy hy=>by
 obtain⟨j,t,_,_,_,rfl⟩:=nC hy;rfl
def qg{gs:List Gl}{l:List Int}:∀y∈dB gs l,y.op=2:=λy hy=>by
 obtain⟨v,_,rfl⟩:=awB.1 hy;rfl
def Gj{hs:List At}{n:Int}{a:At}{es:List Int}:∀y∈gL hs n a es,y.op=4:=λy hy=>by
 obtain⟨e,_,rfl⟩:=Gi hy;rfl
def anX{kl n:Nat}:∀y∈mA kl n,y.op=6:=λy hy=>by
 obtain⟨j,_,rfl⟩:=awB.1 hy;rfl
def YC{b:Bool}:∀y∈pF b,y.op=7:=λy hy=>by
 unfold pF at hy;split at hy
 .obtain rfl:=awo.1 hy;rfl
 .cases hy
def YD{b:Bool}{n w:Int}:∀y∈pG b n w,y.op=8:=λy hy=>by
 unfold pG at hy;split at hy
 .obtain rfl:=awo.1 hy;rfl
 .cases hy
def Jl{gs:List Gl}:∀y∈lL gs,y.op=9:=λy hy=>by
 unfold lL at hy;rw[ay1,awB]at hy;obtain⟨g,_,rfl⟩:=hy;rfl
def gU{c:List In}{a b:Int}(h:∀y∈c,y.op=a)(bg:a≠b):∀y∈c,y.op≠b:=λy hy he=>bg ((h y hy).symm.trans he)
def Lr{op:Int}(h5:op≠5)(h6:op≠6)(h7:op≠7)(h8:op≠8)(S0:op≠10)(c:List In):gM op (lM x r (sV x r c))=gM op c+gM op (lL r.bc):=by
 unfold lM;rw[gZ,gZ,gZ,gZ,gZ,nD (gU anX (ayz h6)),nD (gU YC (ayz h7)),nD (gU YD (ayz h8)),nD (c:=[za x.o.r r.vars]) (by intro y hy;obtain rfl:=awo.1 hy;exact ayz S0)];unfold sV;split
 .rw[gZ,nD (c:=[mz _ _]) (by intro y hy;obtain rfl:=awo.1 hy;exact ayz h5)];omega
 .omega
def V9{op:Int}(h1:op≠1)(h2:op≠2):gM op (gT r x)=0:=by
 unfold gT;rw[gZ,gZ,nD (gU uS (ayz h1)),nD (gU qg (ayz h2)),nD (gU qg (ayz h2))]
def Pl.anY(h:Pl p x i m r):gM 9 (ga r acc x)=r.bc.length:=by
 unfold ga;rw[Lr aj aj aj aj aj,Jk Jl]
 have h0:∀k,k<=x.aJ.length->gM 9 (eu (r.aw++r.az) r.aG acc x (gT r x) k)=0:=by
  intro k;induction k with
  |zero=>intro _;exact V9 aj aj
  |succ k ih=>
   intro hk;obtain⟨n,a,ps,te,hp,_⟩:=h.at_ (show k<x.aJ.length by omega);rw[eu,gZ,ih aj,ny hp acc,axo];unfold l7;refine nD λy hy=>?_;rcases aws.1 hy with rfl|hy
   .simp
   rcases awm.1 hy with hy|hy
   .rcases awm.1 hy with hy|hy
    .exact gU Gj aj y hy
    .exact gU uS aj y hy
   .exact gU qg aj y hy
 rw[h0 _ (awe _)];simp[lL]
def Pl.anZ(h:Pl p x i m r):gM 3 (ga r acc x)+1=r.aw.length+r.az.length:=by
 unfold ga;rw[Lr aj aj aj aj aj,nD (gU Jl aj)]
 have h0:∀k,k<=x.aJ.length->gM 3 (eu (r.aw++r.az) r.aG acc x (gT r x) k)=k:=by
  intro k;induction k with
  |zero=>intro _;exact V9 aj aj
  |succ k ih=>
   intro hk;obtain⟨n,a,ps,te,hp,_⟩:=h.at_ (show k<x.aJ.length by omega);rw[eu,gZ,ih aj,ny hp acc];unfold l7
   have:∀(y:In) (c:List In),y.op=3->gM 3 (y::c)=gM 3 c+1:=λy c hy=>by
    unfold gM;rw[List.countP_cons_of_pos (by simpa using hy)]
   rw[this _ _ rfl,gZ,gZ,nD (gU Gj aj),nD (gU uS aj),nD (gU qg aj)]
 rw[h0 _ (awe _)];have:=h.all.2.1;rw[awi]at this;omega
theorem Ls(q:Gl->Bool):∀(gs:List Gl) (i:Nat),(kX q gs i).length=gs.countP q
 |[],_=>rfl
 |g::gs,i=>by
  rw[kX,awi,Ls q gs (i+1),ay2];unfold H6;cases q g<;>simp;omega
theorem J1{A B:Gl->Bool}:∀{gs:List Gl},(∀g∈gs,A g=ab->B g=ab)->gs.countP A+gs.countP (λg=>B g&& !A g)=gs.countP B
 |[],_=>rfl
 |g::gs,h=>by
  have ih:=J1 (A:=A) (B:=B) (gs:=gs) λq hq=>h q (awI _ hq);have hg:=h g ay;rw[ay2,ay2,ay2];cases ha:A g with
  |true=>rw[hg ha];simp;omega
  |false=>cases B g<;>simp<;>omega
theorem Rb(hs:List At)(gs:List Gl)(done:List Int):∀n,n<=done.length->(((eH hs gs done).take (n+1)).map awN).sum=gs.countP (pD hs done n)
 |0,_=>by
  unfold eH;simp[Ls]
  congr 1
 |n+1,hn=>by
  have ih:=Rb hs gs done n aj;have hl:n+1<(eH hs gs done).length:=by rw[pB];omega
  rw[awh hl,axw,List.sum_append,ih,Q3 hl];simp only[awZ,ayf,aBo,List.sum_nil,Ls,aze];rw[<-J1 (A:=pD hs done n) (B:=pD hs done (n+1)) λg _ hg=>Yd (k:=n+1) (by unfold tq;rw[if_neg aj];exact hg)]
  congr 1
def Pl.ready(h:Pl p x i m r):∀g∈r.aG,pD (r.aw++r.az) (x.o.h::x.aJ) (x.o.h::x.aJ).length g=ab:=λg hg=>by
 unfold pD yK;rw[awr (awe _),decide_eq_true_eq];intro v hv;have:=h.Ey.m.v g hg v hv;rw[jf]at this⊢;unfold eA at this⊢;obtain⟨l,hl,zg⟩:=ays.1 this;obtain⟨t,ht,rfl⟩:=awB.1 hl;obtain⟨a,ha,Jq⟩:=CK.1 ht;obtain⟨n,hn,rfl⟩:=ax0.1 ha;refine ays.2 ⟨_,awB.2 ⟨t,?_,rfl⟩,zg⟩;unfold lK;refine axq.2 ⟨(n:Int),?_,by rw[Py (av_ hn)];exact Jq⟩;rcases h.all.2.2.2 n aj aj with e|e
 .rw[e];simp
 .exact awI _ e
def Pl.an0(h:Pl p x i m r):gM 2 (ga r acc x)=r.aG.length:=by
 have LF:=h.dt;have hlen:x.dt.length=x.aJ.length+2:=by rw[LF,pB];simp
 obtain⟨t0,t1,e0,e1,_⟩:=h.V8.t
 have h0:∀k,k<=x.aJ.length->gM 2 (eu (r.aw++r.az) r.aG acc x (gT r x) k)=((x.dt.take (k+2)).map awN).sum:=by
  intro k;induction k with
  |zero=>
   intro _;obtain⟨l0,q0⟩:=awa.1 e0;obtain⟨l1,q1⟩:=awa.1 e1;rw[awh l1,awh l0,q0,q1];unfold eu gT;rw[awS,awS,e0,e1,gZ,gZ,nD (gU uS aj),Jk qg,Jk qg];simp[dB]
  |succ k ih=>
   intro hk;obtain⟨n,a,ps,te,hp,_⟩:=h.at_ (show k<x.aJ.length by omega);obtain⟨l2,q2⟩:=awa.1 hp.t;rw[eu,gZ,ih aj,ny hp acc,show k+1+2=(k+2)+1 from rfl,awh l2,q2];unfold l7
   have:∀(y:In) (c:List In),y.op≠2->gM 2 (y::c)=gM 2 c:=λy c hy=>by
    unfold gM;rw[List.countP_cons_of_neg (by simpa using hy)]
   rw[this _ _ ay,gZ,gZ,nD (gU Gj aj),nD (gU uS aj),Jk qg];simp[dB]
 have ZZ:=Rb (r.aw++r.az) r.aG (x.o.h::x.aJ) (x.o.h::x.aJ).length (awe _);unfold ga;rw[Lr aj aj aj aj aj,nD (gU Jl aj),h0 _ (awe _),LF];simp only[awJ]at ZZ;rw[ZZ,aze,aAj];exact h.ready
def Pl.arb(h:Pl p x i m r):kF r.aw.length 0 (ga r acc x) r.az.length:=by
 have hle:(r.aw++r.az).length=r.aw.length+r.az.length:=awi
 have h0:∀k,k<=x.aJ.length->kF r.aw.length 0 (eu (r.aw++r.az) r.aG acc x (gT r x) k) 0:=by
  intro k;induction k with
  |zero=>
   intro _;unfold eu gT;exact((kF.no (gU uS aj)).app (kF.no (gU qg aj))).app (kF.no (gU qg aj))
  |succ k ih=>
   intro hk;obtain⟨n,a,ps,te,hp,_⟩:=h.at_ (show k<x.aJ.length by omega);rw[eu,ny hp acc];refine(ih aj).app (kF.no λy hy=>?_);unfold l7 at hy;rcases aws.1 hy with rfl|hy
   .simp
   rcases awm.1 hy with hy|hy
   .rcases awm.1 hy with hy|hy
    .exact gU Gj aj y hy
    .exact gU uS aj y hy
   .exact gU qg aj y hy
 unfold ga lM;refine(((((?_:kF _ 0 _ 0).app ?_).app (kF.no (gU YC aj))).app (kF.no (gU YD aj))).app (kF.no (gU Jl aj))).app (kF.no ?_)
 .unfold sV;split
  .exact(h0 _ (awe _)).app (kF.no (by intro y hy;obtain rfl:=awo.1 hy;simp[mz]))
  .exact h0 _ (awe _)
 .rw[hle];exact kF.rem _ _
 .intro y hy;obtain rfl:=awo.1 hy;simp[za]
end
structure Is(cs:List (Int×IV)):Prop where
 n:(cs.map axs).Nodup
 v:∀q∈cs,q.2=.agg []
def Is.nil:Is []:=⟨by simp,by intro q hq;cases hq⟩
theorem Is.get{cs:List (Int×IV)}(h:Is cs)(k:Int):nB Tryz.prog 3 (iV iI cs) (iI k) (.agg [])=aa (.agg []):=by
 obtain⟨h1,h2⟩:=xA.get h.n k (.agg []);by_cases hy:∃y,(k,y)∈cs
 .obtain⟨y,hy⟩:=hy;have hn:=h.v _ hy;simp only at hn;subst hn;exact h1 _ hy
 .exact h2 hy
theorem Is.ins{cs:List (Int×IV)}(h:Is cs)(k:Int):∃bG,Is bG/\nA Tryz.prog 3 (iV iI cs) (iI k) (.agg [])=aa (iV iI bG):=by
 obtain⟨bG,h1,h2,h3⟩:=xA.ins h.n k (.agg []);refine⟨bG,⟨h1,λq hq=>?_⟩,h3⟩;rcases(h2 q).1 hq with rfl|⟨_,hq⟩
 .rfl
 .exact h.v q hq
section
variable{Q:IV->Prop}{k0:List IV->Prop}{x0 x1 x2 x3 x6:IV}
def arc(i:Nat)(hi:i<1000)(o:Oc)(r:Rl)(h:oa r)(hn:qP r)(hf:lY r)(a:At)(ha:a.ts.length<=8)(hQ:∀b,Q (iB b))(hk:k0 [iI (i+1:Nat)]):
 VN.sat Tryz.prog CC Q [k0] [x0,x1,x2,x3,iI i,Lp (o,r),x6,dH a]:=by
 have kh:=aI hi aj;have Lt:=VB r h hn hf;have hA:dH a=.agg [iS a.s,iT a.ts]:=rfl;have hE:Lp (o,r)=.agg [iI o.r,iI o.h,iB o.k,iS r.name,c_ r.aw,c_ r.az,gK r.aG,gK r.bc,iI r.vars]:=rfl;rw[cu]at Lt;rw[hA,hE];generalize jg (rR r) r.bc=b at*
 unfold VN;refine aC a.ts.length (λj (cs:List (Int×IV))=>[iI j,iV iI cs]) (λ_ cs=>Is cs) [] ?_ .nil λj cs hj hc=>?_
 .simp[br,iV]
 by_cases ak:j<a.ts.length
 rotate_left
 .simp[br,ak];exact hQ _
 have hw:=aI ak aj;have hg:=hc.get a.ts[j].n;obtain⟨d,_,hb⟩:=xA.has cs a.ts[j].n;obtain⟨bG,pM,cw⟩:=hc.ins a.ts[j].n;simp[br,ak,hw,kh,nP ak,bL,ao,hg,hb,cw,aN];by_cases e:a.ts[j].k=1
 .right;refine⟨e,?_⟩;cases d with
  |false=>simp;exact .mk bG rfl aj pM
  |true=>
   cases hk:o.k with
   |false=>simp;assumption
   |true=>
    simp;refine⟨_,Lt,?_⟩;cases b with
    |false=>simp;exact hQ _
    |true=>simp;assumption
 .left;refine⟨e,?_⟩;cases hk:o.k with
  |false=>simp;assumption
  |true=>
   simp;refine⟨_,Lt,?_⟩;cases b with
   |false=>simp;exact hQ _
   |true=>simp;assumption
end
def k49(p:Pg)(hp:oe p)(hf:∀r∈p.aV,lY r)(s:List UInt8)(n:Int):∃b,CC 49 af [bn p,iS s,iI n] (iB b):=by
 refine(CC.FY (args:=[bn p,iS s,iI n]) (λ_=>True) aqF kr (λ_=>kr) (by
  intro y hy;rcases aws.1 hy with rfl|hy
  .exact dN p
  .exact pH ay ay _ hy) (by rfl) ?_).imp λ_ h=>h.2
 obtain⟨L,hL1,hL2,agh⟩:=anM p hp s n;have hl:=xB s n p.aV hp.rs;have hr:=hp.r
 have hLl:L.length<=24:=by
  have:=congrArg awN hL1;simp at this;omega
 have hP:bn p=.agg [fY p.bN,mw p.aV]:=rfl;rw[hP]at*
 simp[amB,SE.den,ao];refine⟨_,agh,?_⟩;simp;unfold adq;refine aC L.length (λi (_:Unit)=>[iI i]) (λ_ _=>True) () ?_ trivial λi _ hi _=>?_
 .simp[SE.den]
 by_cases ak:i<L.length
 rotate_left
 .simp[SE.den,ak]
 have hw:=aI ak aj;have hm:=hL2 _ (awd ak);have qQ:=hp.rs _ hm;have hh:=qQ.h;have Lt:=VB _ qQ (hp.rn _ hm) (hf _ hm);have VT:=JT L[i].2 aj;have ey:=qQ.hs;have hy:=λQ k0 x0 x1 x2 x3 x6 a ha hQ hk=>arc (Q:=Q) (k0:=k0) (x0:=x0) (x1:=x1) (x2:=x2) (x3:=x3) (x6:=x6) i aj L[i].1 L[i].2 qQ (hp.rn _ hm) (hf _ hm) a ha hQ hk;have hE:Lp (L[i].1,L[i].2)=.agg [iI L[i].1.r,iI L[i].1.h,iB L[i].1.k,iS L[i].2.name,c_ L[i].2.aw,c_ L[i].2.az,gK L[i].2.aG,gK L[i].2.bc,iI L[i].2.vars]:=rfl;have eM:=anK ak;rw[cu]at*
 simp only[hE]at hy;generalize jg (rR L[i].2) L[i].2.bc=b at*
 generalize L[i].2.aw++L[i].2.az=hs at*
 generalize L[i].1.r=o1 at*
 generalize L[i].1.h=o2 at*
 generalize L[i].1.k=o3 at*
 cases o3 with
 |true=>
  simp[SE.den,ak,hw,eM,ao];refine⟨_,Lt,?_⟩;cases b with
  |false=>simp
  |true=>simp;exact .mk () rfl aj trivial
 |false=>
  simp[SE.den,ak,hw,eM,ao];by_cases e1:0<L[i].2.aG.length
  .left;exact⟨e1,.mk () rfl aj trivial⟩
  right;refine⟨by simpa using e1,_,VT,?_⟩;simp;by_cases e2:hs.length=1
  rotate_left
  .left;exact⟨by omega,.mk () rfl aj trivial⟩
  right;refine⟨by omega,?_⟩;obtain⟨a0,e0⟩:∃a,hs[0]?=aa a:=⟨_,av_ aj⟩;have i0:cq 2 (c_ hs) (iI 0)=aa (.agg [iS a0.s,iT a0.ts]):=cP (i:=0) (x:=dH a0) (by simp[e0]) rfl;simp[i0,ao];have hA:dH a0=.agg [iS a0.s,iT a0.ts]:=rfl;simp only[<-hA];exact hy _ _ _ _ _ _ _ a0 (ey _ (awq e0)) (λb=>by simp) (.mk () rfl aj trivial)
def k50(p:Pg)(hp:oe p)(hf:∀r∈p.aV,lY r)(s:List UInt8)(n:Int):∃m:Int,(0<=m/\m<=(oT s n p.aV).length)/\CC 50 af [bn p,iS s,iI n] (iI m):=by
 refine CC.HX (args:=[bn p,iS s,iI n]) (λm=>0<=m/\m<=(oT s n p.aV).length) aqG kr (λ_=>kr) (by
  intro y hy;rcases aws.1 hy with rfl|hy
  .exact dN p
  .exact pH ay ay _ hy) (by rfl) ?_
 obtain⟨L,hL1,hL2,agh⟩:=anM p hp s n;have hl:=xB s n p.aV hp.rs;have hr:=hp.r
 have hLl:L.length=(oT s n p.aV).length:=by
  have:=congrArg awN hL1;simp at this;omega
 rw[<-hLl]at hl⊢;have hP:bn p=.agg [fY p.bN,mw p.aV]:=rfl;rw[hP]at*
 simp[amC,SE.den,ao];refine⟨_,agh,?_⟩;simp;unfold adr;refine aC L.length (λi (_:Unit)=>[iI i]) (λ_ _=>True) () ?_ trivial λi _ hi _=>?_
 .simp[SE.den]
 by_cases ak:i<L.length
 rotate_left
 .simp[SE.den,ak]
 have hw:=aI ak aj;have hm:=hL2 _ (awd ak);have Lt:=VB _ (hp.rs _ hm) (hp.rn _ hm) (hf _ hm);have eM:=anK ak;rw[cu]at*
 generalize jg (rR L[i].2) L[i].2.bc=b at*
 generalize L[i].1.k=o3 at*
 cases o3 with
 |false=>
  simp[SE.den,ak,hw,eM,ao];exact .mk () rfl aj trivial
 |true=>
  simp[SE.den,ak,hw,eM,ao];refine⟨_,Lt,?_⟩;cases b with
  |false=>
   simp;omega
  |true=>simp;exact .mk () rfl aj trivial
end
end Go.Proofs.YtabefplkfkfdfaaGreat
